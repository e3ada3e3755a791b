import Derived.Test.YtgbodhibflpgmaaLaw36
import Derived.Test.YtgbodhibflpgmaaLaw15b
import Derived.Test.YtgbodhibflpgmaaRef36c
namespace Go.Proofs.Ytgbodhibflpgmaa
open Go.Mw Go.Maps Go.MapKept
set_option linter.unusedVariables false
set_option linter.unusedSimpArgs false
set_option maxRecDepth 100000
attribute [local irreducible] M.val M.unit M.next M.pick M.new M.nilCheck M.load1 M.loadA M.store M.fieldAddr M.indexSl M.indexArr M.slice M.makeSlice M.buildSlice M.len M.lenS M.cap M.append M.extract M.conv M.not M.neg M.bin M.shift M.eqB M.eqNil M.call M.callv M.gd M.share M.cond M.loop M.draw pureW readW Ret
/-! breakwater/breakwaterlaw36.SymOf: function 4 -/
def sh4 (x0 x1 x2 : Value) (R : Kt) (w : World) : Prop :=
  M.new 35 (Value.cells x1) (fun t4 w =>
  M.len x0 (fun t20 w =>
  M.bin .gtr t20 (Value.int IntKind.i64 60) (fun t21 w =>
  M.gd t21 false (fun k w => M.loadA 19 t4 k w) (fun t23 w =>
  M.gd t21 false (fun k w => M.call Try.prog 20 #[t23] k w) (fun t24 w =>
  M.gd t21 false (fun k w => M.not t24 k w) (fun t25 w =>
  M.pick t21 (Value.bool true) t25 (fun t26 w =>
  M.gd t26 false (fun k w => k x2 w) (fun t28 w =>
  M.gd t26 false (fun k w => M.len t28 k w) (fun t29 w =>
  M.gd t26 false (fun k w => M.bin .gtr t29 (Value.int IntKind.i64 300) k w) (fun t30 w =>
  M.pick t26 (Value.bool true) t30 (fun t31 w =>
  M.cond t31
  (M.call Try.prog 11 #[] (fun t32 w =>
  R t32 w) w)
  (M.call Try.prog 21 #[(Value.int IntKind.i64 1000), x0] (fun t35 w =>
  M.extract 0 t35 (fun t36 w =>
  M.extract 1 t35 (fun t37 w =>
  M.new 56 #[.slice none 0 0, .int .i64 0] (fun t8 w =>
  M.store 2 t8 t37 (fun _ w =>
  M.eqNil 0 false t36 (fun t39 w =>
  M.cond t39
  (R (Value.bool false) w)
  (M.loadA 19 t4 (fun t42 w =>
  M.call Try.prog 15 #[t36, t42, x2] (fun t44 w =>
  M.extract 0 t44 (fun t45 w =>
  M.extract 1 t44 (fun t46 w =>
  M.extract 2 t44 (fun t47 w =>
  M.new 44 #[.int .u64 0, .int .u64 0, .int .u64 0, .int .u64 0, .int .u64 0, .int .u64 0, .int .u64 0, .int .u64 0, .slice none 0 0, .int .i64 0, .int .i64 0, .int .i64 0, .int .i64 0, .int .i64 0, .int .u64 0, .slice none 0 0, .slice none 0 0, .int .i64 0] (fun t9 w =>
  M.store 18 t9 t45 (fun _ w =>
  M.loadA 2 t8 (fun t49 w =>
  M.loadA 19 t4 (fun t50 w =>
  M.call Try.prog 22 #[t49, t50, x2] (fun t52 w =>
  M.extract 0 t52 (fun t53 w =>
  M.extract 1 t52 (fun t54 w =>
  M.extract 2 t52 (fun t55 w =>
  M.new 44 #[.int .u64 0, .int .u64 0, .int .u64 0, .int .u64 0, .int .u64 0, .int .u64 0, .int .u64 0, .int .u64 0, .slice none 0 0, .int .i64 0, .int .i64 0, .int .i64 0, .int .i64 0, .int .i64 0, .int .u64 0, .slice none 0 0, .slice none 0 0, .int .i64 0] (fun t12 w =>
  M.store 18 t12 t53 (fun _ w =>
  M.fieldAddr 15 t4 (fun t58 w =>
  M.loadA 3 t58 (fun t59 w =>
  M.call Try.prog 23 #[t36, t59, x2] (fun t61 w =>
  M.extract 0 t61 (fun t62 w =>
  M.extract 1 t61 (fun t63 w =>
  M.new 42 #[.slice none 0 0, .slice none 0 0, .int .i64 0] (fun t15 w =>
  M.store 3 t15 t62 (fun _ w =>
  M.loadA 2 t8 (fun t65 w =>
  M.fieldAddr 15 t4 (fun t66 w =>
  M.loadA 3 t66 (fun t67 w =>
  M.call Try.prog 24 #[t65, t67, x2] (fun t69 w =>
  M.extract 0 t69 (fun t70 w =>
  M.extract 1 t69 (fun t71 w =>
  M.new 42 #[.slice none 0 0, .slice none 0 0, .int .i64 0] (fun t17 w =>
  M.store 3 t17 t70 (fun _ w =>
  M.loadA 18 t9 (fun t72 w =>
  M.loadA 18 t12 (fun t73 w =>
  M.call Try.prog 18 #[t72, t73] (fun t74 w =>
  M.gd t74 true (fun k w => k t46 w) (fun t76 w =>
  M.gd t74 true (fun k w => k t54 w) (fun t77 w =>
  M.gd t74 true (fun k w => M.eqB false t76 t77 k w) (fun t78 w =>
  M.pick t74 t78 (Value.bool false) (fun t79 w =>
  M.gd t79 true (fun k w => k t47 w) (fun t81 w =>
  M.gd t79 true (fun k w => k t55 w) (fun t82 w =>
  M.gd t79 true (fun k w => M.bin .eql t81 t82 k w) (fun t83 w =>
  M.pick t79 t83 (Value.bool false) (fun t84 w =>
  M.gd t84 true (fun k w => M.loadA 3 t15 k w) (fun t86 w =>
  M.gd t84 true (fun k w => M.loadA 3 t17 k w) (fun t87 w =>
  M.gd t84 true (fun k w => M.call Try.prog 25 #[t86, t87] k w) (fun t88 w =>
  M.pick t84 t88 (Value.bool false) (fun t89 w =>
  M.gd t89 true (fun k w => k t63 w) (fun t91 w =>
  M.gd t89 true (fun k w => k t71 w) (fun t92 w =>
  M.gd t89 true (fun k w => M.bin .eql t91 t92 k w) (fun t93 w =>
  M.pick t89 t93 (Value.bool false) (fun t94 w =>
  M.gd t94 true (fun k w => M.call Try.prog 11 #[] k w) (fun t96 w =>
  M.pick t94 t96 (Value.bool false) (fun t97 w =>
  R t97 w) w) w) w) w) w) w) w) w) w) w) w) w) w) w) w) w) w) w) w) w) w) w) w) w) w) w) w) w) w) w) w) w) w) w) w) w) w) w) w) w) w) w) w) w) w) w) w) w) w) w) w)) w) w) w) w) w) w)) w) w) w) w) w) w) w) w) w) w) w
theorem ok4 (x0 x1 x2 : Value) (R : Kt) (w : World) (h : sh4 x0 x1 x2 R w) : Ret Try.prog 4 #[x0, x1, x2] w R :=
  ret_mk <| calls_of_comp mixed (c := Try.f4.body.getD .skip) (args := [x0, x1, x2]) (rs := [(ResultVar.tmp 6)]) (Ann.seq Ann.text (Ann.seq (Ann.seq Ann.text (Ann.cond (Ann.seq Ann.text Ann.leaf) Ann.leaf)) (Ann.seq Ann.text (Ann.seq (Ann.seq Ann.text (Ann.cond (Ann.seq Ann.text Ann.leaf) Ann.leaf)) (Ann.seq Ann.text (Ann.seq Ann.text (Ann.seq Ann.text (Ann.seq Ann.text (Ann.seq Ann.text Ann.leaf)))))))))
    Try.func4 (by kernel_rfl) (by kernel_rfl)
    (Eq.mp (by kernel_rfl) h)
/-! breakwater/breakwaterlaw36.few: function 20 -/
def sh20 (x0 : Value) (R : Kt) (w : World) : Prop :=
  M.new 35 (Value.cells x0) (fun t1 w =>
  M.fieldAddr 8 t1 (fun t3 w =>
  M.load1 t3 (fun t4 w =>
  M.len t4 (fun t5 w =>
  M.bin .leq t5 (Value.int IntKind.i64 60) (fun t6 w =>
  M.gd t6 true (fun k w => M.fieldAddr 15 t1 k w) (fun t8 w =>
  M.gd t6 true (fun k w => M.fieldAddr 0 t8 k w) (fun t9 w =>
  M.gd t6 true (fun k w => M.load1 t9 k w) (fun t10 w =>
  M.gd t6 true (fun k w => M.len t10 k w) (fun t11 w =>
  M.gd t6 true (fun k w => M.bin .leq t11 (Value.int IntKind.i64 60) k w) (fun t12 w =>
  M.pick t6 t12 (Value.bool false) (fun t13 w =>
  M.gd t13 true (fun k w => M.fieldAddr 15 t1 k w) (fun t15 w =>
  M.gd t13 true (fun k w => M.fieldAddr 1 t15 k w) (fun t16 w =>
  M.gd t13 true (fun k w => M.load1 t16 k w) (fun t17 w =>
  M.gd t13 true (fun k w => M.len t17 k w) (fun t18 w =>
  M.gd t13 true (fun k w => M.bin .leq t18 (Value.int IntKind.i64 60) k w) (fun t19 w =>
  M.pick t13 t19 (Value.bool false) (fun t20 w =>
  M.gd t20 true (fun k w => M.fieldAddr 18 t1 k w) (fun t22 w =>
  M.gd t20 true (fun k w => M.load1 t22 k w) (fun t23 w =>
  M.gd t20 true (fun k w => M.len t23 k w) (fun t24 w =>
  M.gd t20 true (fun k w => M.bin .leq t24 (Value.int IntKind.i64 60) k w) (fun t25 w =>
  M.pick t20 t25 (Value.bool false) (fun t26 w =>
  R t26 w) w) w) w) w) w) w) w) w) w) w) w) w) w) w) w) w) w) w) w) w) w) w
theorem ok20 (x0 : Value) (R : Kt) (w : World) (h : sh20 x0 R w) : Ret Try.prog 20 #[x0] w R :=
  ret_mk <| calls_of_comp mixed (c := Try.f20.body.getD .skip) (args := [x0]) (rs := [(ResultVar.tmp 2)]) (Ann.seq Ann.text (Ann.seq Ann.text Ann.leaf))
    Try.func20 (by kernel_rfl) (by kernel_rfl)
    (Eq.mp (by kernel_rfl) h)

def dvT (N : List Nd) (env : List W64) (d : SDv) : Dv := if devBad N d then ⟨[], [], 0⟩ else devOf N env d
def stT (N : List Nd) (env : List W64) (s : Sy) : St := if stBad N s then St0 else stOf N env s
def boT (N : List Nd) (env : List W64) (s : Sy) : Bool := if stBad N s then false else stHolds N env s
def erT (b : Bool) : Int := if b then 11 else 0
theorem dvT_ep (N : List Nd) (env : List W64) (d : SDv) : (dvT N env d).ep = if devBad N d then 0 else d.ep := by
  unfold dvT; split <;> rfl
theorem dvT_few {N : List Nd} {env : List W64} {d : SDv} (h : d.few) : (dvT N env d).few := by
  unfold dvT
  split
  · exact ⟨by simp, by simp⟩
  · exact ⟨by simpa [devOf] using h.1, by simpa [devOf] using h.2⟩
theorem stT_few {N : List Nd} {env : List W64} {s : Sy} (h : s.few) : (stT N env s).few := by
  unfold stT
  split
  · exact ⟨by simp [St0], by simp [St0], by simp [St0]⟩
  · exact ⟨by simpa [stOf] using h.1, by simpa [stOf, devOf] using h.2.1.1, by simpa [stOf, devOf] using h.2.1.2⟩
theorem stT_len {N : List Nd} {env : List W64} {s : Sy} : True := trivial
section
variable {w : World} {F De D D1 : Nat → Prop} {p : Nat} {N : List Nd} {most : Int} {ev v : Value} {env : List W64}
theorem of_t {sv : Value} {s : Sy} (hd : DagO w F p N most) (he : LV vw w De ev env) (hel : env.length ≤ 1000000) (hs : SyO w D sv s) (hf : s.few) :
    Ret Try.prog 15 #[ptr p, sv, ev] w (fun r w' => ∃ v, r = .tuple #[v, .bool (boT N env s), vi (erT (stBad N s))] ∧ StO w' (w.heap.size ≤ ·) v (stT N env s) ∧ Keep w w' No) := of_ret hd he hel hs hf
theorem rof_t {sv : Value} {s : Sy} (hd : RD w D v N most) (hN : N.length ≤ 1000000) (hG : GoodN N) (he : LV vw w De ev env) (hel : env.length ≤ 1000000) (hs : SyO w D1 sv s) (hf : s.few) :
    Ret Try.prog 22 #[v, sv, ev] w (fun r w' => ∃ v, r = .tuple #[v, .bool (boT N env s), vi (erT (stBad N s))] ∧ StO w' (w.heap.size ≤ ·) v (stT N env s) ∧ Keep w w' No) := rof_ret hd hN hG he hel hs hf
theorem deviceOf_t {a b : Value} {d : SDv} (hd : DagO w F p N most) (he : LV vw w De ev env) (hel : env.length ≤ 1000000) (hs : SDvO w D a b d) (hf : d.few) :
    Ret Try.prog 23 #[ptr p, .agg ⟨[a, b, vi d.ep]⟩, ev] w (fun r w' => ∃ a' b', r = .tuple #[.agg ⟨[a', b', vi (dvT N env d).ep]⟩, vi (erT (devBad N d))] ∧ DvO w' (w.heap.size ≤ ·) a' b' (dvT N env d) ∧ Keep w w' No) :=
  (deviceOf_ret hd he hel hs hf).mono (fun r w' ⟨a', b', h1, h2, h3⟩ => ⟨a', b', by rw [dvT_ep]; exact h1, h2, h3⟩)
theorem rdeviceOf_t {a b : Value} {d : SDv} (hd : RD w D v N most) (hN : N.length ≤ 1000000) (hG : GoodN N) (he : LV vw w De ev env) (hel : env.length ≤ 1000000) (hs : SDvO w D1 a b d) (hf : d.few) :
    Ret Try.prog 24 #[v, .agg ⟨[a, b, vi d.ep]⟩, ev] w (fun r w' => ∃ a' b', r = .tuple #[.agg ⟨[a', b', vi (dvT N env d).ep]⟩, vi (erT (devBad N d))] ∧ DvO w' (w.heap.size ≤ ·) a' b' (dvT N env d) ∧ Keep w w' No) :=
  (rdeviceOf_ret hd hN hG he hel hs hf).mono (fun r w' ⟨a', b', h1, h2, h3⟩ => ⟨a', b', by rw [dvT_ep]; exact h1, h2, h3⟩)
theorem few36_ret {sv : Value} {s : Sy} (hs : SyO w D sv s) :
    Ret Try.prog 20 #[sv] w (fun r w' => r = .bool (decide (s.cells.length ≤ 60 ∧ s.dev.disk.length ≤ 60 ∧ s.dev.pend.length ≤ 60 ∧ s.conds.length ≤ 60)) ∧ Keep w w' No) := by
  obtain ⟨h8, c, a, b, cd, rfl, hc, hdv, hcd⟩ := hs
  obtain ⟨regs, cells, pc, steps, calls, en, code, value, dev, conds⟩ := s
  simp only at h8 hc hdv hcd
  obtain ⟨A1, c1, rfl, _, _⟩ := hc
  obtain ⟨⟨A2, c2, rfl, _, _⟩, A3, c3, rfl, _, _⟩ := hdv
  obtain ⟨A4, c4, rfl, _, _⟩ := hcd
  obtain ⟨r0, r1, r2, r3, r4, r5, r6, r7, rfl⟩ := eight h8
  refine ok20 _ _ _ ?_
  unfold sh20
  refine M.new_i (l := [vi r0, vi r1, vi r2, vi r3, vi r4, vi r5, vi r6, vi r7, .slice A1 cells.length c1, vi pc, vi steps, vi calls, vi en, vi code, vi value, .slice A2 dev.disk.length c2, .slice A3 dev.pend.length c3, vi dev.ep, .slice A4 conds.length c4]) (fun w1 b1 k1 s1 => ?_)
  by_cases h1 : cells.length ≤ 60
  · by_cases h2 : dev.disk.length ≤ 60
    · by_cases h3 : dev.pend.length ≤ 60
      · by_cases h4 : conds.length ≤ 60
        · (repeat (first|refine ja ?_|refine jb ?_|refine jc ?_|refine jd ?_|refine je ?_|refine jf ?_|refine jg ?_|refine jh ?_|refine ji ?_|refine jj ?_|refine jk ?_|refine jl ?_|refine jm ?_|refine jn ?_|refine jo ?_|refine jp ?_|refine jq ?_|refine jr ?_|refine js ?_|refine jt ?_|refine ju ?_|refine jv ?_|refine jw ?_|refine jx ?_|refine jy ?_|refine jz ?_|refine jA ?_|refine jB ?_|refine jC ?_|refine jD ?_|refine jE ?_|refine jF ?_|refine jG ?_|refine jH ?_|refine jI ?_|refine jJ ?_|refine jK ?_|refine jL ?_|refine jM (by assumption) ?_|refine jN (by assumption) rfl ?_|refine jO (by assumption) ?_|refine jP (by assumption) rfl ?_|refine jQ ?_|refine jR ?_|refine jS ?_|refine jT ?_|refine jU (by assumption) rfl ?_))
          exact ⟨by simp [h1, h2, h3, h4], k1⟩
        · (repeat (first|refine ja ?_|refine jb ?_|refine jc ?_|refine jd ?_|refine je ?_|refine jf ?_|refine jg ?_|refine jh ?_|refine ji ?_|refine jj ?_|refine jk ?_|refine jl ?_|refine jm ?_|refine jn ?_|refine jo ?_|refine jp ?_|refine jq ?_|refine jr ?_|refine js ?_|refine jt ?_|refine ju ?_|refine jv ?_|refine jw ?_|refine jx ?_|refine jy ?_|refine jz ?_|refine jA ?_|refine jB ?_|refine jC ?_|refine jD ?_|refine jE ?_|refine jF ?_|refine jG ?_|refine jH ?_|refine jI ?_|refine jJ ?_|refine jK ?_|refine jL ?_|refine jM (by assumption) ?_|refine jN (by assumption) rfl ?_|refine jO (by assumption) ?_|refine jP (by assumption) rfl ?_|refine jQ ?_|refine jR ?_|refine jS ?_|refine jT ?_|refine jU (by assumption) rfl ?_))
          exact ⟨by simp [h1, h2, h3, h4], k1⟩
      · (repeat (first|refine ja ?_|refine jb ?_|refine jc ?_|refine jd ?_|refine je ?_|refine jf ?_|refine jg ?_|refine jh ?_|refine ji ?_|refine jj ?_|refine jk ?_|refine jl ?_|refine jm ?_|refine jn ?_|refine jo ?_|refine jp ?_|refine jq ?_|refine jr ?_|refine js ?_|refine jt ?_|refine ju ?_|refine jv ?_|refine jw ?_|refine jx ?_|refine jy ?_|refine jz ?_|refine jA ?_|refine jB ?_|refine jC ?_|refine jD ?_|refine jE ?_|refine jF ?_|refine jG ?_|refine jH ?_|refine jI ?_|refine jJ ?_|refine jK ?_|refine jL ?_|refine jM (by assumption) ?_|refine jN (by assumption) rfl ?_|refine jO (by assumption) ?_|refine jP (by assumption) rfl ?_|refine jQ ?_|refine jR ?_|refine jS ?_|refine jT ?_|refine jU (by assumption) rfl ?_))
        exact ⟨by simp [h1, h2, h3], k1⟩
    · (repeat (first|refine ja ?_|refine jb ?_|refine jc ?_|refine jd ?_|refine je ?_|refine jf ?_|refine jg ?_|refine jh ?_|refine ji ?_|refine jj ?_|refine jk ?_|refine jl ?_|refine jm ?_|refine jn ?_|refine jo ?_|refine jp ?_|refine jq ?_|refine jr ?_|refine js ?_|refine jt ?_|refine ju ?_|refine jv ?_|refine jw ?_|refine jx ?_|refine jy ?_|refine jz ?_|refine jA ?_|refine jB ?_|refine jC ?_|refine jD ?_|refine jE ?_|refine jF ?_|refine jG ?_|refine jH ?_|refine jI ?_|refine jJ ?_|refine jK ?_|refine jL ?_|refine jM (by assumption) ?_|refine jN (by assumption) rfl ?_|refine jO (by assumption) ?_|refine jP (by assumption) rfl ?_|refine jQ ?_|refine jR ?_|refine jS ?_|refine jT ?_|refine jU (by assumption) rfl ?_))
      exact ⟨by simp [h1, h2], k1⟩
  · (repeat (first|refine ja ?_|refine jb ?_|refine jc ?_|refine jd ?_|refine je ?_|refine jf ?_|refine jg ?_|refine jh ?_|refine ji ?_|refine jj ?_|refine jk ?_|refine jl ?_|refine jm ?_|refine jn ?_|refine jo ?_|refine jp ?_|refine jq ?_|refine jr ?_|refine js ?_|refine jt ?_|refine ju ?_|refine jv ?_|refine jw ?_|refine jx ?_|refine jy ?_|refine jz ?_|refine jA ?_|refine jB ?_|refine jC ?_|refine jD ?_|refine jE ?_|refine jF ?_|refine jG ?_|refine jH ?_|refine jI ?_|refine jJ ?_|refine jK ?_|refine jL ?_|refine jM (by assumption) ?_|refine jN (by assumption) rfl ?_|refine jO (by assumption) ?_|refine jP (by assumption) rfl ?_|refine jQ ?_|refine jR ?_|refine jS ?_|refine jT ?_|refine jU (by assumption) rfl ?_))
    exact ⟨by simp [h1], k1⟩
set_option maxHeartbeats 2000000 in
theorem symOf_ret {D2 D3 : Nat → Prop} {lv sv : Value} {l : List Nd} {s : Sy} (hl : LN Nd.cells w D lv l) (hs : SyO w D2 sv s) (hv : LV vw w D3 ev env) :
    Ret Try.prog 4 #[lv, sv, ev] w (fun r w' => r = .bool true ∧ Keep w w' No) := by
  obtain ⟨A0, c0, rfl, _, _⟩ := id hl
  obtain ⟨E, ce, rfl, _, _⟩ := id hv
  obtain ⟨h8, c, a, b, cd, rfl, hc, hdv, hcd⟩ := id hs
  have hlen : (s.vals c a b cd).length = 19 := by simp [Sy.vals, h8]
  have hdrop : (s.vals c a b cd).drop 15 = [a, b, vi s.dev.ep, cd] := by
    unfold Sy.vals
    rw [List.drop_append]
    simp [h8]
  refine ok4 _ _ _ _ _ ?_
  unfold sh4
  refine M.new_i (l := s.vals c a b cd) (fun w1 b1 k1 s1 => ?_)
  have hs1 := hs.keep k1 (fun _ _ _ h => h)
  have hl1 := hl.keep k1 (fun _ _ _ h => h)
  have hv1 := hv.keep k1 (fun _ _ _ h => h)
  by_cases h60 : 60 < l.length
  · (repeat (first|refine ja ?_|refine jb ?_|refine jc ?_|refine jd ?_|refine je ?_|refine jf ?_|refine jg ?_|refine jh ?_|refine ji ?_|refine jj ?_|refine jk ?_|refine jl ?_|refine jm ?_|refine jn ?_|refine jo ?_|refine jp ?_|refine jq ?_|refine jr ?_|refine js ?_|refine jt ?_|refine ju ?_|refine jv ?_|refine jw ?_|refine jx ?_|refine jy ?_|refine jz ?_|refine jA ?_|refine jB ?_|refine jC ?_|refine jD ?_|refine jE ?_|refine jF ?_|refine jG ?_|refine jH ?_|refine jI ?_|refine jJ ?_|refine jK ?_|refine jL ?_|refine jM (by assumption) ?_|refine jN (by assumption) rfl ?_|refine jO (by assumption) ?_|refine jP (by assumption) rfl ?_|refine jQ ?_|refine jR ?_|refine jS ?_|refine jT ?_|refine jU (by assumption) rfl ?_))
    refine M.call_i (awake36_ret w1) ?_; rintro _ w2 ⟨rfl, k2⟩
    exact ⟨rfl, k1.trans k2 (fun _ _ h => h)⟩
  (repeat (first|refine ja ?_|refine jb ?_|refine jc ?_|refine jd ?_|refine je ?_|refine jf ?_|refine jg ?_|refine jh ?_|refine ji ?_|refine jj ?_|refine jk ?_|refine jl ?_|refine jm ?_|refine jn ?_|refine jo ?_|refine jp ?_|refine jq ?_|refine jr ?_|refine js ?_|refine jt ?_|refine ju ?_|refine jv ?_|refine jw ?_|refine jx ?_|refine jy ?_|refine jz ?_|refine jA ?_|refine jB ?_|refine jC ?_|refine jD ?_|refine jE ?_|refine jF ?_|refine jG ?_|refine jH ?_|refine jI ?_|refine jJ ?_|refine jK ?_|refine jL ?_|refine jM (by assumption) ?_|refine jN (by assumption) rfl ?_|refine jO (by assumption) ?_|refine jP (by assumption) rfl ?_|refine jQ ?_|refine jR ?_|refine jS ?_|refine jT ?_|refine jU (by assumption) rfl ?_))
  refine M.loadAll_i b1 hlen ?_
  (repeat (first|refine ja ?_|refine jb ?_|refine jc ?_|refine jd ?_|refine je ?_|refine jf ?_|refine jg ?_|refine jh ?_|refine ji ?_|refine jj ?_|refine jk ?_|refine jl ?_|refine jm ?_|refine jn ?_|refine jo ?_|refine jp ?_|refine jq ?_|refine jr ?_|refine js ?_|refine jt ?_|refine ju ?_|refine jv ?_|refine jw ?_|refine jx ?_|refine jy ?_|refine jz ?_|refine jA ?_|refine jB ?_|refine jC ?_|refine jD ?_|refine jE ?_|refine jF ?_|refine jG ?_|refine jH ?_|refine jI ?_|refine jJ ?_|refine jK ?_|refine jL ?_|refine jM (by assumption) ?_|refine jN (by assumption) rfl ?_|refine jO (by assumption) ?_|refine jP (by assumption) rfl ?_|refine jQ ?_|refine jR ?_|refine jS ?_|refine jT ?_|refine jU (by assumption) rfl ?_))
  refine M.call_i (few36_ret hs1) ?_; rintro _ w2 ⟨rfl, k2⟩
  have b1 := b1.keep k2 (fun h => h)
  have hs2 := hs1.keep k2 (fun _ _ _ h => h)
  have hl2 := hl1.keep k2 (fun _ _ _ h => h)
  have hv2 := hv1.keep k2 (fun _ _ _ h => h)
  have k02 := k1.trans k2 (fun _ _ h => h)
  by_cases hfw : s.cells.length ≤ 60 ∧ s.dev.disk.length ≤ 60 ∧ s.dev.pend.length ≤ 60 ∧ s.conds.length ≤ 60
  rotate_left
  · rw [decide_eq_false hfw]
    (repeat (first|refine ja ?_|refine jb ?_|refine jc ?_|refine jd ?_|refine je ?_|refine jf ?_|refine jg ?_|refine jh ?_|refine ji ?_|refine jj ?_|refine jk ?_|refine jl ?_|refine jm ?_|refine jn ?_|refine jo ?_|refine jp ?_|refine jq ?_|refine jr ?_|refine js ?_|refine jt ?_|refine ju ?_|refine jv ?_|refine jw ?_|refine jx ?_|refine jy ?_|refine jz ?_|refine jA ?_|refine jB ?_|refine jC ?_|refine jD ?_|refine jE ?_|refine jF ?_|refine jG ?_|refine jH ?_|refine jI ?_|refine jJ ?_|refine jK ?_|refine jL ?_|refine jM (by assumption) ?_|refine jN (by assumption) rfl ?_|refine jO (by assumption) ?_|refine jP (by assumption) rfl ?_|refine jQ ?_|refine jR ?_|refine jS ?_|refine jT ?_|refine jU (by assumption) rfl ?_))
    refine M.call_i (awake36_ret w2) ?_; rintro _ w3 ⟨rfl, k3⟩
    exact ⟨rfl, k02.trans k3 (fun _ _ h => h)⟩
  rw [decide_eq_true hfw]
  have hfew : s.few := ⟨by omega, ⟨by omega, by omega⟩, by omega⟩
  by_cases h300 : 300 < env.length
  · (repeat (first|refine ja ?_|refine jb ?_|refine jc ?_|refine jd ?_|refine je ?_|refine jf ?_|refine jg ?_|refine jh ?_|refine ji ?_|refine jj ?_|refine jk ?_|refine jl ?_|refine jm ?_|refine jn ?_|refine jo ?_|refine jp ?_|refine jq ?_|refine jr ?_|refine js ?_|refine jt ?_|refine ju ?_|refine jv ?_|refine jw ?_|refine jx ?_|refine jy ?_|refine jz ?_|refine jA ?_|refine jB ?_|refine jC ?_|refine jD ?_|refine jE ?_|refine jF ?_|refine jG ?_|refine jH ?_|refine jI ?_|refine jJ ?_|refine jK ?_|refine jL ?_|refine jM (by assumption) ?_|refine jN (by assumption) rfl ?_|refine jO (by assumption) ?_|refine jP (by assumption) rfl ?_|refine jQ ?_|refine jR ?_|refine jS ?_|refine jT ?_|refine jU (by assumption) rfl ?_))
    refine M.call_i (awake36_ret w2) ?_; rintro _ w3 ⟨rfl, k3⟩
    exact ⟨rfl, k02.trans k3 (fun _ _ h => h)⟩
  (repeat (first|refine ja ?_|refine jb ?_|refine jc ?_|refine jd ?_|refine je ?_|refine jf ?_|refine jg ?_|refine jh ?_|refine ji ?_|refine jj ?_|refine jk ?_|refine jl ?_|refine jm ?_|refine jn ?_|refine jo ?_|refine jp ?_|refine jq ?_|refine jr ?_|refine js ?_|refine jt ?_|refine ju ?_|refine jv ?_|refine jw ?_|refine jx ?_|refine jy ?_|refine jz ?_|refine jA ?_|refine jB ?_|refine jC ?_|refine jD ?_|refine jE ?_|refine jF ?_|refine jG ?_|refine jH ?_|refine jI ?_|refine jJ ?_|refine jK ?_|refine jL ?_|refine jM (by assumption) ?_|refine jN (by assumption) rfl ?_|refine jO (by assumption) ?_|refine jP (by assumption) rfl ?_|refine jQ ?_|refine jR ?_|refine jS ?_|refine jT ?_|refine jU (by assumption) rfl ?_))
  refine M.call_i (build_ret hl2 (by omega) 1000) ?_; rintro _ w3 ⟨F, p, v, N, rfl, hd, hr, hF, k3⟩
  have b1 := b1.keep k3 (fun h => h)
  have hs3 := hs2.keep k3 (fun _ _ _ h => h)
  have hv3 := hv2.keep k3 (fun _ _ _ h => h)
  have k03 := k02.trans k3 (fun _ _ h => h)
  have hNl := hd.len.1
  have hG := hd.good
  refine M.extract_i (v := ptr p) rfl ?_
  refine M.extract_i (v := v) rfl ?_
  refine M.new_i (l := [.slice none 0 0, vi 0]) (fun w4 b4 k4 s4 => ?_)
  obtain ⟨X, xc, rfl, _⟩ := id hr
  refine M.storeAll_i b4 rfl rfl two_one (fun w5 b5 k5 s5 => ?_)
  have k35 : Keep w3 w5 No := k4.trans k5 (fun b hb h => by omega)
  have b1 := b1.keep k35 (fun h => h)
  have hs5 := hs3.keep k35 (fun _ _ _ h => h)
  have hv5 := hv3.keep k35 (fun _ _ _ h => h)
  have hd5 := hd.keepN k35
  have hr5 := hr.keep k35 (fun _ _ _ h => h)
  have k05 := k03.trans k35 (fun _ _ h => h)
  (repeat (first|refine ja ?_|refine jb ?_|refine jc ?_|refine jd ?_|refine je ?_|refine jf ?_|refine jg ?_|refine jh ?_|refine ji ?_|refine jj ?_|refine jk ?_|refine jl ?_|refine jm ?_|refine jn ?_|refine jo ?_|refine jp ?_|refine jq ?_|refine jr ?_|refine js ?_|refine jt ?_|refine ju ?_|refine jv ?_|refine jw ?_|refine jx ?_|refine jy ?_|refine jz ?_|refine jA ?_|refine jB ?_|refine jC ?_|refine jD ?_|refine jE ?_|refine jF ?_|refine jG ?_|refine jH ?_|refine jI ?_|refine jJ ?_|refine jK ?_|refine jL ?_|refine jM (by assumption) ?_|refine jN (by assumption) rfl ?_|refine jO (by assumption) ?_|refine jP (by assumption) rfl ?_|refine jQ ?_|refine jR ?_|refine jS ?_|refine jT ?_|refine jU (by assumption) rfl ?_))
  refine M.loadAll_i b1 hlen ?_
  refine M.call_i (of_t hd5 hv5 (by omega) hs5 hfew) ?_; rintro _ w6 ⟨v6, rfl, st6, k6⟩
  refine M.extract_i (v := v6) rfl ?_
  refine M.extract_i (v := .bool (boT N env s)) rfl ?_
  refine M.extract_i (v := vi (erT (stBad N s))) rfl ?_
  refine M.new_i (l := zSt) (fun w7 b7 k7 s7 => ?_)
  refine M.putSt_i (st6.keep k7 (fun _ _ _ h => h)) b7 rfl (fun w8 L8 b8 e8 l8 k8 s8 => ?_)
  have k68 : Keep w6 w8 No := k7.trans k8 (fun b hb h => by omega)
  have k58 := k6.trans k68 (fun _ _ h => h)
  have b1 := b1.keep k58 (fun h => h)
  have b5 := b5.keep k58 (fun h => h)
  have hs8 := hs5.keep k58 (fun _ _ _ h => h)
  have hv8 := hv5.keep k58 (fun _ _ _ h => h)
  have hd8 := hd5.keepN k58
  have hr8 := hr5.keep k58 (fun _ _ _ h => h)
  have st8 := st6.keep k68 (fun _ _ _ h => h)
  have k08 := k05.trans k58 (fun _ _ h => h)
  refine M.loadAll_i b5 rfl ?_
  refine M.loadAll_i b1 hlen ?_
  refine M.call_i (rof_t hr8 (by omega) hG hv8 (by omega) hs8 hfew) ?_; rintro _ w9 ⟨v9, rfl, st9, k9⟩
  refine M.extract_i (v := v9) rfl ?_
  refine M.extract_i (v := .bool (boT N env s)) rfl ?_
  refine M.extract_i (v := vi (erT (stBad N s))) rfl ?_
  refine M.new_i (l := zSt) (fun w10 b10 k10 s10 => ?_)
  refine M.putSt_i (st9.keep k10 (fun _ _ _ h => h)) b10 rfl (fun w11 L11 b11 e11 l11 k11 s11 => ?_)
  have k911 : Keep w9 w11 No := k10.trans k11 (fun b hb h => by omega)
  have k811 := k9.trans k911 (fun _ _ h => h)
  have b1 := b1.keep k811 (fun h => h)
  have b5 := b5.keep k811 (fun h => h)
  have b8 := b8.keep k811 (fun h => h)
  have hs11 := hs8.keep k811 (fun _ _ _ h => h)
  have hv11 := hv8.keep k811 (fun _ _ _ h => h)
  have hd11 := hd8.keepN k811
  have hr11 := hr8.keep k811 (fun _ _ _ h => h)
  have st8 := st8.keep k811 (fun _ _ _ h => h)
  have st11 := st9.keep k911 (fun _ _ _ h => h)
  have k011 := k08.trans k811 (fun _ _ h => h)
  have dv11 := (hdv.keep k011 (fun _ _ _ h => h))
  refine M.field_i ?_
  refine M.loadP_i (r := [a, b, vi s.dev.ep]) b1 (by rw [hlen]; omega) (by rw [Nat.zero_add, hdrop]; rfl) ?_
  refine M.call_i (deviceOf_t hd11 hv11 (by omega) dv11 hfew.2.1) ?_; rintro _ w12 ⟨a12, b12, rfl, dv12, k12⟩
  obtain ⟨⟨Y1, y1, rfl, _, _⟩, Y2, y2, rfl, _, _⟩ := id dv12
  refine M.extract_i (v := .agg ⟨[.slice Y1 (dvT N env s.dev).disk.length y1, .slice Y2 (dvT N env s.dev).pend.length y2, vi (dvT N env s.dev).ep]⟩) rfl ?_
  refine M.extract_i (v := vi (erT (devBad N s.dev))) rfl ?_
  refine M.new_i (l := zDv) (fun w13 b13 k13 s13 => ?_)
  refine M.storeAll_i b13 rfl rfl (List.all_eq_true.1 rfl) (fun w14 b14 k14 s14 => ?_)
  have k1214 : Keep w12 w14 No := k13.trans k14 (fun b hb h => by omega)
  have k1114 := k12.trans k1214 (fun _ _ h => h)
  have b1 := b1.keep k1114 (fun h => h)
  have b5 := b5.keep k1114 (fun h => h)
  have b8 := b8.keep k1114 (fun h => h)
  have b11 := b11.keep k1114 (fun h => h)
  have hv14 := hv11.keep k1114 (fun _ _ _ h => h)
  have hr14 := hr11.keep k1114 (fun _ _ _ h => h)
  have st8 := st8.keep k1114 (fun _ _ _ h => h)
  have st11 := st11.keep k1114 (fun _ _ _ h => h)
  have dv14 := dv11.keep k1114 (fun _ _ _ h => h)
  have dv12 := dv12.keep k1214 (fun _ _ _ h => h)
  have k014 := k011.trans k1114 (fun _ _ h => h)
  refine M.loadAll_i b5 rfl ?_
  refine M.field_i ?_
  refine M.loadP_i (r := [a, b, vi s.dev.ep]) b1 (by rw [hlen]; omega) (by rw [Nat.zero_add, hdrop]; rfl) ?_
  refine M.call_i (rdeviceOf_t hr14 (by omega) hG hv14 (by omega) dv14 hfew.2.1) ?_; rintro _ w15 ⟨a15, b15, rfl, dv15, k15⟩
  obtain ⟨⟨Z1, z1, rfl, _, _⟩, Z2, z2, rfl, _, _⟩ := id dv15
  refine M.extract_i (v := .agg ⟨[.slice Z1 (dvT N env s.dev).disk.length z1, .slice Z2 (dvT N env s.dev).pend.length z2, vi (dvT N env s.dev).ep]⟩) rfl ?_
  refine M.extract_i (v := vi (erT (devBad N s.dev))) rfl ?_
  refine M.new_i (l := zDv) (fun w16 b16 k16 s16 => ?_)
  refine M.storeAll_i b16 rfl rfl (List.all_eq_true.1 rfl) (fun w17 b17 k17 s17 => ?_)
  have k1517 : Keep w15 w17 No := k16.trans k17 (fun b hb h => by omega)
  have k1417 := k15.trans k1517 (fun _ _ h => h)
  have b8 := b8.keep k1417 (fun h => h)
  have b11 := b11.keep k1417 (fun h => h)
  have b14 := b14.keep k1417 (fun h => h)
  have st8 := st8.keep k1417 (fun _ _ _ h => h)
  have st11 := st11.keep k1417 (fun _ _ _ h => h)
  have dv12 := dv12.keep k1417 (fun _ _ _ h => h)
  have dv15 := dv15.keep k1517 (fun _ _ _ h => h)
  have k017 := k014.trans k1417 (fun _ _ h => h)
  refine M.getV_i b8 e8 l8 ?_
  refine M.getV_i b11 e11 l11 ?_
  refine M.call_i (same33_ret st8 st11 (stT_few hfew)) ?_; rintro _ w18 ⟨rfl, k18⟩
  have b14 := b14.keep k18 (fun h => h)
  have b17 := b17.keep k18 (fun h => h)
  (repeat (first|refine ja ?_|refine jb ?_|refine jc ?_|refine jd ?_|refine je ?_|refine jf ?_|refine jg ?_|refine jh ?_|refine ji ?_|refine jj ?_|refine jk ?_|refine jl ?_|refine jm ?_|refine jn ?_|refine jo ?_|refine jp ?_|refine jq ?_|refine jr ?_|refine js ?_|refine jt ?_|refine ju ?_|refine jv ?_|refine jw ?_|refine jx ?_|refine jy ?_|refine jz ?_|refine jA ?_|refine jB ?_|refine jC ?_|refine jD ?_|refine jE ?_|refine jF ?_|refine jG ?_|refine jH ?_|refine jI ?_|refine jJ ?_|refine jK ?_|refine jL ?_|refine jM (by assumption) ?_|refine jN (by assumption) rfl ?_|refine jO (by assumption) ?_|refine jP (by assumption) rfl ?_|refine jQ ?_|refine jR ?_|refine jS ?_|refine jT ?_|refine jU (by assumption) rfl ?_))
  refine M.eqB_i ?_
  rw [show (xor false (boT N env s == boT N env s)) = true by simp]
  (repeat (first|refine ja ?_|refine jb ?_|refine jc ?_|refine jd ?_|refine je ?_|refine jf ?_|refine jg ?_|refine jh ?_|refine ji ?_|refine jj ?_|refine jk ?_|refine jl ?_|refine jm ?_|refine jn ?_|refine jo ?_|refine jp ?_|refine jq ?_|refine jr ?_|refine js ?_|refine jt ?_|refine ju ?_|refine jv ?_|refine jw ?_|refine jx ?_|refine jy ?_|refine jz ?_|refine jA ?_|refine jB ?_|refine jC ?_|refine jD ?_|refine jE ?_|refine jF ?_|refine jG ?_|refine jH ?_|refine jI ?_|refine jJ ?_|refine jK ?_|refine jL ?_|refine jM (by assumption) ?_|refine jN (by assumption) rfl ?_|refine jO (by assumption) ?_|refine jP (by assumption) rfl ?_|refine jQ ?_|refine jR ?_|refine jS ?_|refine jT ?_|refine jU (by assumption) rfl ?_))
  refine M.loadAll_i b14 rfl ?_
  (repeat (first|refine ja ?_|refine jb ?_|refine jc ?_|refine jd ?_|refine je ?_|refine jf ?_|refine jg ?_|refine jh ?_|refine ji ?_|refine jj ?_|refine jk ?_|refine jl ?_|refine jm ?_|refine jn ?_|refine jo ?_|refine jp ?_|refine jq ?_|refine jr ?_|refine js ?_|refine jt ?_|refine ju ?_|refine jv ?_|refine jw ?_|refine jx ?_|refine jy ?_|refine jz ?_|refine jA ?_|refine jB ?_|refine jC ?_|refine jD ?_|refine jE ?_|refine jF ?_|refine jG ?_|refine jH ?_|refine jI ?_|refine jJ ?_|refine jK ?_|refine jL ?_|refine jM (by assumption) ?_|refine jN (by assumption) rfl ?_|refine jO (by assumption) ?_|refine jP (by assumption) rfl ?_|refine jQ ?_|refine jR ?_|refine jS ?_|refine jT ?_|refine jU (by assumption) rfl ?_))
  refine M.loadAll_i b17 rfl ?_
  (repeat (first|refine ja ?_|refine jb ?_|refine jc ?_|refine jd ?_|refine je ?_|refine jf ?_|refine jg ?_|refine jh ?_|refine ji ?_|refine jj ?_|refine jk ?_|refine jl ?_|refine jm ?_|refine jn ?_|refine jo ?_|refine jp ?_|refine jq ?_|refine jr ?_|refine js ?_|refine jt ?_|refine ju ?_|refine jv ?_|refine jw ?_|refine jx ?_|refine jy ?_|refine jz ?_|refine jA ?_|refine jB ?_|refine jC ?_|refine jD ?_|refine jE ?_|refine jF ?_|refine jG ?_|refine jH ?_|refine jI ?_|refine jJ ?_|refine jK ?_|refine jL ?_|refine jM (by assumption) ?_|refine jN (by assumption) rfl ?_|refine jO (by assumption) ?_|refine jP (by assumption) rfl ?_|refine jQ ?_|refine jR ?_|refine jS ?_|refine jT ?_|refine jU (by assumption) rfl ?_))
  refine M.call_i (same31_ret (dv12.keep k18 (fun _ _ _ h => h)) (dv15.keep k18 (fun _ _ _ h => h)) (dvT_few hfew.2.1)) ?_; rintro _ w19 ⟨rfl, k19⟩
  (repeat (first|refine ja ?_|refine jb ?_|refine jc ?_|refine jd ?_|refine je ?_|refine jf ?_|refine jg ?_|refine jh ?_|refine ji ?_|refine jj ?_|refine jk ?_|refine jl ?_|refine jm ?_|refine jn ?_|refine jo ?_|refine jp ?_|refine jq ?_|refine jr ?_|refine js ?_|refine jt ?_|refine ju ?_|refine jv ?_|refine jw ?_|refine jx ?_|refine jy ?_|refine jz ?_|refine jA ?_|refine jB ?_|refine jC ?_|refine jD ?_|refine jE ?_|refine jF ?_|refine jG ?_|refine jH ?_|refine jI ?_|refine jJ ?_|refine jK ?_|refine jL ?_|refine jM (by assumption) ?_|refine jN (by assumption) rfl ?_|refine jO (by assumption) ?_|refine jP (by assumption) rfl ?_|refine jQ ?_|refine jR ?_|refine jS ?_|refine jT ?_|refine jU (by assumption) rfl ?_))
  refine M.call_i (awake36_ret w19) ?_; rintro _ w20 ⟨rfl, k20⟩
  (repeat (first|refine ja ?_|refine jb ?_|refine jc ?_|refine jd ?_|refine je ?_|refine jf ?_|refine jg ?_|refine jh ?_|refine ji ?_|refine jj ?_|refine jk ?_|refine jl ?_|refine jm ?_|refine jn ?_|refine jo ?_|refine jp ?_|refine jq ?_|refine jr ?_|refine js ?_|refine jt ?_|refine ju ?_|refine jv ?_|refine jw ?_|refine jx ?_|refine jy ?_|refine jz ?_|refine jA ?_|refine jB ?_|refine jC ?_|refine jD ?_|refine jE ?_|refine jF ?_|refine jG ?_|refine jH ?_|refine jI ?_|refine jJ ?_|refine jK ?_|refine jL ?_|refine jM (by assumption) ?_|refine jN (by assumption) rfl ?_|refine jO (by assumption) ?_|refine jP (by assumption) rfl ?_|refine jQ ?_|refine jR ?_|refine jS ?_|refine jT ?_|refine jU (by assumption) rfl ?_))
  exact ⟨rfl, ((k017.trans k18 (fun _ _ h => h)).trans k19 (fun _ _ h => h)).trans k20 (fun _ _ h => h)⟩
end
end Go.Proofs.Ytgbodhibflpgmaa
