import Derived.Test.YtgbodhibflpgmaaRef36
namespace Go.Proofs.Ytgbodhibflpgmaa
open Go.Mw Go.Maps Go.MapKept
set_option linter.unusedVariables false
set_option linter.unusedSimpArgs false
set_option maxRecDepth 100000
attribute [local irreducible] M.val M.unit M.next M.pick M.new M.nilCheck M.load1 M.loadA M.store M.fieldAddr M.indexSl M.indexArr M.slice M.makeSlice M.buildSlice M.len M.lenS M.cap M.append M.extract M.conv M.not M.neg M.bin M.shift M.eqB M.eqNil M.call M.callv M.gd M.share M.cond M.loop M.draw pureW readW Ret
/-! breakwater/breakwaterref36.Of: function 22 -/
def sh22 (x0 x1 x2 : Value) (R : Kt) (w : World) : Prop :=
  M.new 56 (Value.cells x0) (fun t3 w =>
  M.new 35 (Value.cells x1) (fun t4 w =>
  M.new 44 #[.int .u64 0, .int .u64 0, .int .u64 0, .int .u64 0, .int .u64 0, .int .u64 0, .int .u64 0, .int .u64 0, .slice none 0 0, .int .i64 0, .int .i64 0, .int .i64 0, .int .i64 0, .int .i64 0, .int .u64 0, .slice none 0 0, .slice none 0 0, .int .i64 0] (fun t6 w =>
  M.loadA 2 t3 (fun t24 w =>
  M.call Try.prog 46 #[t24, x2] (fun t26 w =>
  M.loop [(Value.slice none 0 0), (Value.int IntKind.i64 0)] (fun s1 K1 w => ∀ _ : List Value,
  M.bin .lss (s1.getD 1 undef) (Value.int IntKind.i64 8) (fun t28 w =>
  M.cond t28
  (M.fieldAddr 0 t4 (fun t33 w =>
  M.indexArr 8 1 t33 (s1.getD 1 undef) (fun t34 w =>
  M.load1 t34 (fun t35 w =>
  M.buildSlice 3 1 #[.int .i64 0] 1 [(0, t35)] (fun t36 w =>
  M.append 3 1 8 #[.int .i64 0] (s1.getD 0 undef) t36 (fun t37 w =>
  M.bin .add (s1.getD 1 undef) (Value.int IntKind.i64 1) (fun t30 w =>
  K1 [t37, t30] w) w) w) w) w) w) w)
  (M.loadA 2 t3 (fun t39 w =>
  M.call Try.prog 60 #[t39, (s1.getD 0 undef), t26] (fun t42 w =>
  M.extract 0 t42 (fun t43 w =>
  M.extract 1 t42 (fun t44 w =>
  M.loadA 2 t3 (fun t46 w =>
  M.fieldAddr 8 t4 (fun t47 w =>
  M.load1 t47 (fun t48 w =>
  M.call Try.prog 60 #[t46, t48, t26] (fun t50 w =>
  M.extract 0 t50 (fun t51 w =>
  M.extract 1 t50 (fun t52 w =>
  M.loadA 2 t3 (fun t54 w =>
  M.fieldAddr 18 t4 (fun t55 w =>
  M.load1 t55 (fun t56 w =>
  M.call Try.prog 60 #[t54, t56, t26] (fun t58 w =>
  M.extract 0 t58 (fun t59 w =>
  M.extract 1 t58 (fun t60 w =>
  M.loadA 2 t3 (fun t62 w =>
  M.fieldAddr 15 t4 (fun t63 w =>
  M.loadA 3 t63 (fun t64 w =>
  M.call Try.prog 61 #[t62, t64, t26] (fun t66 w =>
  M.extract 0 t66 (fun t67 w =>
  M.extract 1 t66 (fun t68 w =>
  M.new 42 #[.slice none 0 0, .slice none 0 0, .int .i64 0] (fun t18 w =>
  M.store 3 t18 t67 (fun _ w =>
  M.not t44 (fun t70 w =>
  M.gd t70 false (fun k w => k t52 w) (fun t72 w =>
  M.gd t70 false (fun k w => M.not t72 k w) (fun t73 w =>
  M.pick t70 (Value.bool true) t73 (fun t74 w =>
  M.gd t74 false (fun k w => k t60 w) (fun t76 w =>
  M.gd t74 false (fun k w => M.not t76 k w) (fun t77 w =>
  M.pick t74 (Value.bool true) t77 (fun t78 w =>
  M.gd t78 false (fun k w => k t68 w) (fun t80 w =>
  M.gd t78 false (fun k w => M.not t80 k w) (fun t81 w =>
  M.pick t78 (Value.bool true) t81 (fun t82 w =>
  M.gd t82 false (fun k w => M.fieldAddr 12 t4 k w) (fun t84 w =>
  M.gd t82 false (fun k w => M.load1 t84 k w) (fun t85 w =>
  M.gd t82 false (fun k w => M.bin .eql t85 (Value.int IntKind.i64 1) k w) (fun t86 w =>
  M.gd t82 false (fun k w => k t86 w) (fun t87 w =>
  M.gd t87 true (fun k w => M.loadA 2 t3 k w) (fun t88 w =>
  M.gd t87 true (fun k w => M.fieldAddr 14 t4 k w) (fun t89 w =>
  M.gd t87 true (fun k w => M.load1 t89 k w) (fun t90 w =>
  M.gd t87 true (fun k w => M.call Try.prog 62 #[t88, t90] k w) (fun t91 w =>
  M.gd t87 true (fun k w => M.not t91 k w) (fun t92 w =>
  M.gd t82 false (fun k w => M.pick t87 t92 (Value.bool false) k w) (fun t93 w =>
  M.pick t82 (Value.bool true) t93 (fun t94 w =>
  M.cond t94
  (pureW Try.prog (Instr.build 44 #[]) (fun t95 w =>
  M.store 18 t6 t95 (fun _ w =>
  M.loadA 18 t6 (fun r0 w => R (.tuple #[r0, (Value.bool false), (Value.int IntKind.i64 11)]) w) w) w) w)
  (M.fieldAddr 9 t4 (fun t97 w =>
  M.load1 t97 (fun t98 w =>
  M.fieldAddr 10 t4 (fun t99 w =>
  M.load1 t99 (fun t100 w =>
  M.fieldAddr 11 t4 (fun t101 w =>
  M.load1 t101 (fun t102 w =>
  M.fieldAddr 12 t4 (fun t103 w =>
  M.load1 t103 (fun t104 w =>
  M.fieldAddr 13 t4 (fun t105 w =>
  M.load1 t105 (fun t106 w =>
  M.loadA 3 t18 (fun t107 w =>
  pureW Try.prog (Instr.build 44 #[(1, t51), (2, t98), (3, t100), (4, t102), (5, t104), (6, t106), (8, t107)]) (fun t108 w =>
  M.new 44 #[.int .u64 0, .int .u64 0, .int .u64 0, .int .u64 0, .int .u64 0, .int .u64 0, .int .u64 0, .int .u64 0, .slice none 0 0, .int .i64 0, .int .i64 0, .int .i64 0, .int .i64 0, .int .i64 0, .int .u64 0, .slice none 0 0, .slice none 0 0, .int .i64 0] (fun t20 w =>
  M.store 18 t20 t108 (fun _ w =>
  M.loop [(Value.int IntKind.i64 0)] (fun s2 K2 w => ∀ _ : List Value,
  M.bin .lss (s2.getD 0 undef) (Value.int IntKind.i64 8) (fun t110 w =>
  M.cond t110
  (M.indexSl 1 t43 (s2.getD 0 undef) (fun t116 w =>
  M.load1 t116 (fun t117 w =>
  M.fieldAddr 0 t20 (fun t118 w =>
  M.indexArr 8 1 t118 (s2.getD 0 undef) (fun t119 w =>
  M.store 1 t119 t117 (fun _ w =>
  M.bin .add (s2.getD 0 undef) (Value.int IntKind.i64 1) (fun t112 w =>
  K2 [t112] w) w) w) w) w) w) w)
  (M.share (fun K3 w =>
  M.fieldAddr 12 t4 (fun t120 w =>
  M.load1 t120 (fun t121 w =>
  M.bin .eql t121 (Value.int IntKind.i64 1) (fun t122 w =>
  M.cond t122
  (M.fieldAddr 14 t4 (fun t124 w =>
  M.load1 t124 (fun t125 w =>
  M.indexSl 1 t26 t125 (fun t126 w =>
  M.load1 t126 (fun t127 w =>
  M.fieldAddr 14 t20 (fun t128 w =>
  M.store 1 t128 t127 (fun _ w =>
  K3 [] w) w) w) w) w) w) w)
  (K3 [] w)) w) w) w) (fun s3 w => ∀ _ : List Value,
  M.loop [(Value.bool true), (Value.int IntKind.i64 0)] (fun s4 K4 w => ∀ _ : List Value,
  M.len t59 (fun t131 w =>
  M.bin .lss (s4.getD 1 undef) t131 (fun t132 w =>
  M.cond t132
  (M.gd (s4.getD 0 undef) true (fun k w => k t59 w) (fun t137 w =>
  M.gd (s4.getD 0 undef) true (fun k w => k (s4.getD 1 undef) w) (fun t138 w =>
  M.gd (s4.getD 0 undef) true (fun k w => M.indexSl 1 t137 t138 k w) (fun t139 w =>
  M.gd (s4.getD 0 undef) true (fun k w => M.load1 t139 k w) (fun t140 w =>
  M.gd (s4.getD 0 undef) true (fun k w => M.bin .eql t140 (Value.int IntKind.u64 1) k w) (fun t141 w =>
  M.pick (s4.getD 0 undef) t141 (Value.bool false) (fun t142 w =>
  M.bin .add (s4.getD 1 undef) (Value.int IntKind.i64 1) (fun t134 w =>
  K4 [t142, t134] w) w) w) w) w) w) w) w)
  (M.loadA 18 t20 (fun t143 w =>
  M.store 18 t6 t143 (fun _ w =>
  M.loadA 18 t6 (fun r0 w => R (.tuple #[r0, (s4.getD 0 undef), (Value.int IntKind.i64 0)]) w) w) w) w)) w) w) w) w)) w) w) w) w) w) w) w) w) w) w) w) w) w) w) w) w)) w) w) w) w) w) w) w) w) w) w) w) w) w) w) w) w) w) w) w) w) w) w) w) w) w) w) w) w) w) w) w) w) w) w) w) w) w) w) w) w) w) w) w) w) w)) w) w) w) w) w) w) w
theorem ok22 (x0 x1 x2 : Value) (R : Kt) (w : World) (h : sh22 x0 x1 x2 R w) : Ret Try.prog 22 #[x0, x1, x2] w R :=
  ret_mk <| calls_of_comp mixed (c := Try.f22.body.getD .skip) (args := [x0, x1, x2]) (rs := [(ResultVar.cell 6 44), (ResultVar.tmp 7), (ResultVar.tmp 8)]) (Ann.seq Ann.text (Ann.seq Ann.text (Ann.seq Ann.text (Ann.seq (Ann.seq Ann.text (Ann.block (Ann.loop [10, 11] [27, 28, 29, 30, 31, 32, 33, 34, 35, 36, 37] (Ann.seq (Ann.seq Ann.text (Ann.cond Ann.leaf Ann.leaf)) (Ann.seq (Ann.block Ann.text) Ann.text))))) (Ann.seq Ann.text (Ann.seq Ann.text (Ann.seq Ann.text (Ann.seq Ann.text (Ann.seq (Ann.seq Ann.text (Ann.cond (Ann.seq Ann.text Ann.leaf) Ann.leaf)) (Ann.seq Ann.text (Ann.seq (Ann.seq Ann.text (Ann.block (Ann.loop [21] [109, 110, 111, 112, 113, 114, 115, 116, 117, 118, 119] (Ann.seq (Ann.seq Ann.text (Ann.cond Ann.leaf Ann.leaf)) (Ann.seq (Ann.block Ann.text) Ann.text))))) (Ann.join [] [120, 121, 122, 123, 124, 125, 126, 127, 128] (Ann.seq Ann.text (Ann.cond Ann.text Ann.leaf)) (Ann.seq Ann.text (Ann.seq (Ann.seq Ann.text (Ann.block (Ann.loop [22, 23] [129, 130, 131, 132, 133, 134, 135, 136, 137, 138, 139, 140, 141, 142] (Ann.seq (Ann.seq Ann.text (Ann.cond Ann.leaf Ann.leaf)) (Ann.seq (Ann.block Ann.text) Ann.text))))) (Ann.seq Ann.text Ann.leaf)))))))))))))))
    Try.func22 (by kernel_rfl) (by kernel_rfl)
    (Eq.mp (by kernel_rfl) h)

section
variable {w : World} {D : Nat → Prop} {v : Value} {N : List Nd} {most : Int} {env : List W64}
set_option maxHeartbeats 1000000 in
theorem rdeviceOf_ret {D1 De : Nat → Prop} {a b ev : Value} {d : SDv} (hd : RD w D v N most) (hN : N.length ≤ 1000000) (hG : GoodN N) (he : LV vw w De ev env) (hel : env.length ≤ 1000000) (hs : SDvO w D1 a b d) (hf : d.few) :
    Ret Try.prog 24 #[v, .agg ⟨[a, b, vi d.ep]⟩, ev] w (fun r w' => ∃ a' b', r = .tuple #[.agg ⟨[a', b', vi (if devBad N d then 0 else d.ep)]⟩, vi (if devBad N d then 11 else 0)] ∧ DvO w' (w.heap.size ≤ ·) a' b' (if devBad N d then ⟨[], [], 0⟩ else devOf N env d) ∧ Keep w w' No) := by
  obtain ⟨A, c, rfl, hr⟩ := id hd
  refine ok24 _ _ _ _ _ ?_
  unfold sh24
  refine M.new_i (l := [.slice A N.length c, vi most]) (fun w1 b1 k1 s1 => ?_)
  refine M.new_i (l := [a, b, vi d.ep]) (fun w2 b2 k2 s2 => ?_)
  refine M.new_i (l := [.slice none 0 0, .slice none 0 0, vi 0]) (fun w3 b3 k3 s3 => ?_)
  have b1 := (b1.keep k2 (fun h => h)).keep k3 (fun h => h)
  have b2 := b2.keep k3 (fun h => h)
  have k03 := (k1.trans k2 (fun _ _ h => h)).trans k3 (fun _ _ h => h)
  have q03 := k03.size
  refine M.share_j (fun vals w' => ∃ pn X n x Y m y e, vals = [ptr pn, .bool (!devBad N d)] ∧ w3.heap.size ≤ pn ∧ Blk w' pn [.slice X n x, .slice Y m y, vi e] ∧ (devBad N d = false → e = d.ep ∧ DvO w' (fun b => w3.heap.size ≤ b) (.slice X n x) (.slice Y m y) (devOf N env d)) ∧ Keep w3 w' No) ?_ ?_
  · rintro vals w4 ⟨pn, X, n, x, Y, m, y, e, rfl, hpn, bn, hok, k4⟩ _
    simp only [List.getD_cons_zero, List.getD_cons_succ]
    have b3 := b3.keep k4 (fun h => h)
    have k04 := k03.trans k4 (fun _ _ h => h)
    refine M.not_i ?_
    cases hbad : devBad N d with
    | true =>
      (repeat (first|refine ja ?_|refine jb ?_|refine jc ?_|refine jd ?_|refine je ?_|refine jf ?_|refine jg ?_|refine jh ?_|refine ji ?_|refine jj ?_|refine jk ?_|refine jl ?_|refine jm ?_|refine jn ?_|refine jo ?_|refine jp ?_|refine jq ?_|refine jr ?_|refine js ?_|refine jt ?_|refine ju ?_|refine jv ?_|refine jw ?_|refine jx ?_|refine jy ?_|refine jz ?_|refine jA ?_|refine jB ?_|refine jC ?_|refine jD ?_|refine jE ?_|refine jF ?_|refine jG ?_|refine jH ?_|refine jI ?_|refine jJ ?_|refine jK ?_|refine jL ?_|refine jM (by assumption) ?_|refine jN (by assumption) rfl ?_|refine jO (by assumption) ?_|refine jP (by assumption) rfl ?_|refine jQ ?_|refine jR ?_|refine jS ?_|refine jT ?_|refine jU (by assumption) rfl ?_))
      refine M.pure_i (.agg ⟨[.slice none 0 0, .slice none 0 0, vi 0]⟩) (fun _ => by kernel_rfl) ?_
      refine M.storeAll_i b3 rfl rfl (List.all_eq_true.1 rfl) (fun w7 b7 k7 s7 => ?_)
      refine M.loadAll_i b7 rfl ?_
      exact ⟨_, _, rfl, ⟨LV.nil _ _ _, LN.nil _ _ _⟩, k04.trans k7 (fun b hb h => by omega)⟩
    | false =>
      obtain ⟨rfl, ho⟩ := hok hbad
      (repeat (first|refine ja ?_|refine jb ?_|refine jc ?_|refine jd ?_|refine je ?_|refine jf ?_|refine jg ?_|refine jh ?_|refine ji ?_|refine jj ?_|refine jk ?_|refine jl ?_|refine jm ?_|refine jn ?_|refine jo ?_|refine jp ?_|refine jq ?_|refine jr ?_|refine js ?_|refine jt ?_|refine ju ?_|refine jv ?_|refine jw ?_|refine jx ?_|refine jy ?_|refine jz ?_|refine jA ?_|refine jB ?_|refine jC ?_|refine jD ?_|refine jE ?_|refine jF ?_|refine jG ?_|refine jH ?_|refine jI ?_|refine jJ ?_|refine jK ?_|refine jL ?_|refine jM (by assumption) ?_|refine jN (by assumption) rfl ?_|refine jO (by assumption) ?_|refine jP (by assumption) rfl ?_|refine jQ ?_|refine jR ?_|refine jS ?_|refine jT ?_|refine jU (by assumption) rfl ?_))
      refine M.loadAll_i bn rfl ?_
      refine M.storeAll_i b3 rfl rfl (List.all_eq_true.1 rfl) (fun w7 b7 k7 s7 => ?_)
      refine M.loadAll_i b7 rfl ?_
      refine ⟨_, _, rfl, ?_, k04.trans k7 (fun b hb h => by omega)⟩
      exact (ho.keep k7 (fun b hb h e => by have h : w3.heap.size ≤ b := h; omega)).mono (fun b hb h => by have h : w3.heap.size ≤ b := h; show w.heap.size ≤ b; omega)
  · intro K hK
    refine M.draw_i ?_
    have kd : Keep w3 w3.drew No := Keep.drew w3 No
    have b1 := b1.keep kd (fun h => h)
    have b2 := b2.keep kd (fun h => h)
    have hd4 := hd.keep (k03.trans kd (fun _ _ h => h)) (fun _ _ _ h => h)
    have hs4 := hs.keep (k03.trans kd (fun _ _ h => h)) (fun _ _ _ h => h)
    have he4 := he.keep (k03.trans kd (fun _ _ h => h)) (fun _ _ _ h => h)
    have e3 : w3.drew.heap.size = w3.heap.size := rfl
    revert e3 kd b1 b2 hd4 hs4 he4
    generalize w3.drew = w4
    intro kd b1 b2 hd4 hs4 he4 e3
    refine M.loadAll_i b1 rfl ?_
    refine M.loadAll_i b2 rfl ?_
    refine M.loadAll_i b1 rfl ?_
    refine ⟨?_, ?_⟩
    · refine M.call_i (rall_ret hd4 hN hG he4 hel) ?_; rintro tv w5 ⟨l5, k5⟩
      have b1 := b1.keep k5 (fun h => h)
      have b2 := b2.keep k5 (fun h => h)
      have hd5 := hd4.keep k5 (fun _ _ _ h => h)
      have hs5 := hs4.keep k5 (fun _ _ _ h => h)
      refine M.stAll_i b2 rfl ?_
      refine M.stAll_i b1 rfl ?_
      have q5 := k5.size
      refine ⟨?_, ?_⟩
      · refine M.call_i (rdev_ret hd5 hs5 l5 hf) ?_; rintro _ w6 ⟨X, n, x, Y, m, y, e, rfl, hok, k6⟩
        have q6 := k6.size
        refine M.extract_i (v := .agg ⟨[.slice X n x, .slice Y m y, vi e]⟩) rfl ?_
        refine M.extract_i (v := .bool (!devBad N d)) rfl ?_
        refine M.new_i (l := [.slice none 0 0, .slice none 0 0, vi 0]) (fun w7 b7 k7 s7 => ?_)
        refine M.storeAll_i b7 rfl rfl (List.all_eq_true.1 rfl) (fun w8 b8 k8 s8 => ?_)
        have k68 : Keep w6 w8 No := k7.trans k8 (fun b hb h => by omega)
        exact hK _ _ ⟨_, X, n, x, Y, m, y, e, rfl, by omega, b8, fun h => ⟨(hok h).1, ((hok h).2.keep k68 (fun _ _ _ h => h)).mono (fun b _ h => by have h : w5.heap.size ≤ b := h; show w3.heap.size ≤ b; omega)⟩, ((kd.trans k5 (fun _ _ h => h)).trans k6 (fun _ _ h => h)).trans k68 (fun _ _ h => h)⟩
      · refine M.new_i (l := [.slice none 0 0, .slice none 0 0, vi 0]) (fun w6 b6 k6 s6 => ?_)
        refine M.stAll_i (b2.keep k6 (fun h => h)) rfl ?_
        refine M.stAll_i (b1.keep k6 (fun h => h)) rfl ?_
        refine M.call_i (rdev_ret (hd5.keep k6 (fun _ _ _ h => h)) (hs5.keep k6 (fun _ _ _ h => h)) (l5.keep k6 (fun _ _ _ h => h)) hf) ?_; rintro _ w7 ⟨X, n, x, Y, m, y, e, rfl, hok, k7⟩
        refine M.extract_i (v := .agg ⟨[.slice X n x, .slice Y m y, vi e]⟩) rfl ?_
        refine M.extract_i (v := .bool (!devBad N d)) rfl ?_
        have b6 := b6.keep k7 (fun h => h)
        refine M.storeAll_i b6 rfl rfl (List.all_eq_true.1 rfl) (fun w8 b8 k8 s8 => ?_)
        have q7 := k7.size
        exact hK _ _ ⟨_, X, n, x, Y, m, y, e, rfl, by omega, b8, fun h => ⟨(hok h).1, ((hok h).2.keep k8 (fun b hb h e => by have h : w6.heap.size ≤ b := h; omega)).mono (fun b _ h => by have h : w6.heap.size ≤ b := h; show w3.heap.size ≤ b; omega)⟩, (((kd.trans k5 (fun _ _ h => h)).trans k6 (fun _ _ h => h)).trans k7 (fun _ _ h => h)).trans k8 (fun b hb h => by omega)⟩
    · refine M.new_i (l := [.slice none 0 0, .slice none 0 0, vi 0]) (fun w5 b5 k5 s5 => ?_)
      have b1 := b1.keep k5 (fun h => h)
      have b2 := b2.keep k5 (fun h => h)
      refine M.stAll_i b1 rfl ?_
      refine M.stAll_i b2 rfl ?_
      refine M.stAll_i b1 rfl ?_
      have hd5 := hd4.keep k5 (fun _ _ _ h => h)
      have hs5 := hs4.keep k5 (fun _ _ _ h => h)
      refine M.call_i (rall_ret hd5 hN hG (he4.keep k5 (fun _ _ _ h => h)) hel) ?_; rintro tv w6 ⟨l6, k6⟩
      have b1 := b1.keep k6 (fun h => h)
      have b2 := b2.keep k6 (fun h => h)
      have b5 := b5.keep k6 (fun h => h)
      refine M.stAll_i b2 rfl ?_
      refine M.stAll_i b1 rfl ?_
      refine M.call_i (rdev_ret (hd5.keep k6 (fun _ _ _ h => h)) (hs5.keep k6 (fun _ _ _ h => h)) l6 hf) ?_; rintro _ w7 ⟨X, n, x, Y, m, y, e, rfl, hok, k7⟩
      refine M.extract_i (v := .agg ⟨[.slice X n x, .slice Y m y, vi e]⟩) rfl ?_
      refine M.extract_i (v := .bool (!devBad N d)) rfl ?_
      have b5 := b5.keep k7 (fun h => h)
      refine M.storeAll_i b5 rfl rfl (List.all_eq_true.1 rfl) (fun w8 b8 k8 s8 => ?_)
      have q6 := k6.size
      have q7 := k7.size
      exact hK _ _ ⟨_, X, n, x, Y, m, y, e, rfl, by omega, b8, fun h => ⟨(hok h).1, ((hok h).2.keep k8 (fun b hb h e => by have h : w6.heap.size ≤ b := h; omega)).mono (fun b _ h => by have h : w6.heap.size ≤ b := h; show w3.heap.size ≤ b; omega)⟩, (((kd.trans k5 (fun _ _ h => h)).trans k6 (fun _ _ h => h)).trans k7 (fun _ _ h => h)).trans k8 (fun b hb h => by omega)⟩
end
end Go.Proofs.Ytgbodhibflpgmaa
