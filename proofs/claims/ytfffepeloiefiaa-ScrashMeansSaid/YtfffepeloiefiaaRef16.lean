import Derived.Test.YtfffepeloiefiaaRef15d
import Derived.Test.YtfffepeloiefiaaSem16b
import Derived.Test.YtfffepeloiefiaaLnGw
namespace Go.Proofs.Ytfffepeloiefiaa
open Go.Mw Go.Maps Go.MapKept
set_option linter.unusedVariables false
set_option linter.unusedSimpArgs false
set_option maxRecDepth 100000
attribute [local irreducible] M.val M.unit M.next M.pick M.new M.nilCheck M.load1 M.loadA M.store M.fieldAddr M.indexSl M.indexArr M.slice M.makeSlice M.buildSlice M.len M.lenS M.cap M.append M.extract M.conv M.not M.neg M.bin M.shift M.eqB M.eqNil M.call M.callv M.gd M.share M.cond M.loop M.draw pureW readW Ret
/-! breakwater/breakwaterref16.one: function 29 -/
def sh29 (x0 x1 x2 x3 : Value) (R : Kt) (w : World) : Prop :=
  M.new 46 (Value.cells x0) (fun t4 w =>
  M.new 78 (Value.cells x1) (fun t5 w =>
  M.fieldAddr 0 t5 (fun t13 w =>
  M.load1 t13 (fun t14 w =>
  M.bin .eql t14 (Value.int IntKind.i64 20) (fun t16 w =>
  M.cond t16
  (M.fieldAddr 5 t5 (fun t17 w =>
  M.load1 t17 (fun t18 w =>
  R t18 w) w) w)
  (M.bin .eql t14 (Value.int IntKind.i64 21) (fun t20 w =>
  M.cond t20
  (M.fieldAddr 2 t5 (fun t21 w =>
  M.load1 t21 (fun t22 w =>
  M.len x3 (fun t24 w =>
  M.bin .lss t22 t24 (fun t25 w =>
  M.cond t25
  (M.draw (fun w =>
  M.fieldAddr 1 t5 (fun t26 w =>
  M.load1 t26 (fun t27 w =>
  M.fieldAddr 2 t5 (fun t29 w =>
  M.load1 t29 (fun t30 w =>
  M.indexSl 1 x3 t30 (fun t31 w =>
  M.load1 t31 (fun t32 w =>
  M.call Try.prog 52 #[t27, t32] (fun t33 w =>
  ((M.load1 t29 (fun v' _ => v' = t30) w) ∧ R t33 w)) w) w) w) w) w) w) w) w)
  (R (Value.int IntKind.u64 0) w)) w) w) w) w)
  (M.bin .eql t14 (Value.int IntKind.i64 22) (fun t35 w =>
  M.cond t35
  (M.fieldAddr 2 t5 (fun t37 w =>
  M.load1 t37 (fun t38 w =>
  M.indexSl 1 x2 t38 (fun t39 w =>
  M.load1 t39 (fun t40 w =>
  M.bin .eql t40 (Value.int IntKind.u64 1) (fun t41 w =>
  M.cond t41
  (M.fieldAddr 3 t5 (fun t43 w =>
  M.load1 t43 (fun t44 w =>
  M.indexSl 1 x2 t44 (fun t45 w =>
  M.load1 t45 (fun t46 w =>
  R t46 w) w) w) w) w)
  (M.fieldAddr 4 t5 (fun t48 w =>
  M.load1 t48 (fun t49 w =>
  M.indexSl 1 x2 t49 (fun t50 w =>
  M.load1 t50 (fun t51 w =>
  R t51 w) w) w) w) w)) w) w) w) w) w)
  (M.bin .eql t14 (Value.int IntKind.i64 23) (fun t53 w =>
  M.cond t53
  (M.draw (fun w =>
  M.fieldAddr 1 t5 (fun t54 w =>
  M.load1 t54 (fun t55 w =>
  M.fieldAddr 2 t5 (fun t57 w =>
  M.load1 t57 (fun t58 w =>
  M.indexSl 1 x2 t58 (fun t59 w =>
  M.load1 t59 (fun t60 w =>
  M.fieldAddr 3 t5 (fun t61 w =>
  M.load1 t61 (fun t62 w =>
  M.conv .u64 t62 (fun t63 w =>
  M.shift .shr t60 t63 (fun t64 w =>
  M.call Try.prog 52 #[t55, t64] (fun t65 w =>
  ((M.load1 t61 (fun v' _ => v' = t62) w) ∧ ((M.load1 t59 (fun v' _ => v' = t60) w) ∧ ((M.load1 t57 (fun v' _ => v' = t58) w) ∧ R t65 w)))) w) w) w) w) w) w) w) w) w) w) w) w)
  (M.bin .eql t14 (Value.int IntKind.i64 24) (fun t67 w =>
  M.cond t67
  (M.draw (fun w =>
  M.fieldAddr 2 t5 (fun t69 w =>
  M.load1 t69 (fun t70 w =>
  M.indexSl 1 x2 t70 (fun t71 w =>
  M.load1 t71 (fun t72 w =>
  M.loadA 2 t4 (fun t73 w =>
  M.fieldAddr 3 t5 (fun t74 w =>
  M.load1 t74 (fun t75 w =>
  M.fieldAddr 3 t5 (fun t80 w =>
  M.load1 t80 (fun t81 w =>
  M.indexSl 1 x2 t81 (fun t82 w =>
  M.load1 t82 (fun t83 w =>
  M.call Try.prog 53 #[t73, t75] (fun t76 w =>
  ((M.load1 t82 (fun v' _ => v' = t83) w) ∧ ((M.load1 t80 (fun v' _ => v' = t81) w) ∧ ((M.load1 t71 (fun v' _ => v' = t72) w) ∧ ((M.load1 t69 (fun v' _ => v' = t70) w) ∧ M.conv .u64 t76 (fun t77 w =>
  M.shift .shl t72 t77 (fun t78 w =>
  M.bin .or t78 t83 (fun t84 w =>
  R t84 w) w) w) w))))) w) w) w) w) w) w) w) w) w) w) w) w) w)
  (M.bin .eql t14 (Value.int IntKind.i64 25) (fun t86 w =>
  M.cond t86
  (M.fieldAddr 2 t5 (fun t88 w =>
  M.load1 t88 (fun t89 w =>
  M.indexSl 1 x2 t89 (fun t90 w =>
  M.load1 t90 (fun t91 w =>
  R t91 w) w) w) w) w)
  (M.bin .eql t14 (Value.int IntKind.i64 26) (fun t93 w =>
  M.cond t93
  (M.draw (fun w =>
  M.fieldAddr 1 t5 (fun t94 w =>
  M.load1 t94 (fun t95 w =>
  M.loadA 2 t4 (fun t96 w =>
  M.fieldAddr 2 t5 (fun t97 w =>
  M.load1 t97 (fun t98 w =>
  M.fieldAddr 2 t5 (fun t101 w =>
  M.load1 t101 (fun t102 w =>
  M.indexSl 1 x2 t102 (fun t103 w =>
  M.load1 t103 (fun t104 w =>
  M.call Try.prog 53 #[t96, t98] (fun t99 w =>
  ((M.load1 t103 (fun v' _ => v' = t104) w) ∧ ((M.load1 t101 (fun v' _ => v' = t102) w) ∧ ((M.load1 t94 (fun v' _ => v' = t95) w) ∧ M.call Try.prog 54 #[t99, t104] (fun t105 w =>
  ((M.load1 t101 (fun v' _ => v' = t102) w) ∧ ((M.load1 t94 (fun v' _ => v' = t95) w) ∧ M.conv .u64 t105 (fun t106 w =>
  M.call Try.prog 52 #[t95, t106] (fun t107 w =>
  ((M.load1 t101 (fun v' _ => v' = t102) w) ∧ R t107 w)) w) w))) w)))) w) w) w) w) w) w) w) w) w) w) w)
  (M.share (fun K1 w =>
  M.bin .eql t14 (Value.int IntKind.i64 15) (fun t109 w =>
  M.cond t109
  (K1 [t109] w)
  (M.bin .eql t14 (Value.int IntKind.i64 16) (fun t110 w =>
  K1 [t110] w) w)) w) (fun s1 w => ∀ _ : List Value,
  M.cond (s1.getD 0 undef)
  (M.draw (fun w =>
  M.fieldAddr 0 t5 (fun t112 w =>
  M.load1 t112 (fun t113 w =>
  M.fieldAddr 1 t5 (fun t114 w =>
  M.load1 t114 (fun t115 w =>
  M.fieldAddr 2 t5 (fun t117 w =>
  M.load1 t117 (fun t118 w =>
  M.indexSl 1 x2 t118 (fun t119 w =>
  M.load1 t119 (fun t120 w =>
  M.call Try.prog 55 #[t113, t115, t120] (fun t121 w =>
  ((M.load1 t117 (fun v' _ => v' = t118) w) ∧ M.extract 0 t121 (fun t122 w =>
  M.extract 1 t121 (fun t123 w =>
  R t122 w) w) w)) w) w) w) w) w) w) w) w) w) w)
  (M.draw (fun w =>
  M.fieldAddr 0 t5 (fun t126 w =>
  M.load1 t126 (fun t127 w =>
  M.loadA 2 t4 (fun t128 w =>
  M.fieldAddr 2 t5 (fun t129 w =>
  M.load1 t129 (fun t130 w =>
  M.fieldAddr 2 t5 (fun t133 w =>
  M.load1 t133 (fun t134 w =>
  M.indexSl 1 x2 t134 (fun t135 w =>
  M.load1 t135 (fun t136 w =>
  M.fieldAddr 3 t5 (fun t138 w =>
  M.load1 t138 (fun t139 w =>
  M.indexSl 1 x2 t139 (fun t140 w =>
  M.load1 t140 (fun t141 w =>
  M.call Try.prog 53 #[t128, t130] (fun t131 w =>
  ((M.load1 t140 (fun v' _ => v' = t141) w) ∧ ((M.load1 t138 (fun v' _ => v' = t139) w) ∧ ((M.load1 t135 (fun v' _ => v' = t136) w) ∧ ((M.load1 t133 (fun v' _ => v' = t134) w) ∧ ((M.load1 t126 (fun v' _ => v' = t127) w) ∧ M.call Try.prog 56 #[t127, t131, t136, t141] (fun t142 w =>
  ((M.load1 t138 (fun v' _ => v' = t139) w) ∧ ((M.load1 t133 (fun v' _ => v' = t134) w) ∧ M.extract 0 t142 (fun t143 w =>
  M.extract 1 t142 (fun t144 w =>
  R t143 w) w) w))) w)))))) w) w) w) w) w) w) w) w) w) w) w) w) w) w) w)) w)) w)) w)) w)) w)) w)) w)) w) w) w) w) w
theorem ok29 (x0 x1 x2 x3 : Value) (R : Kt) (w : World) (h : sh29 x0 x1 x2 x3 R w) : Ret Try.prog 29 #[x0, x1, x2, x3] w R :=
  ret_mk <| calls_of_comp mixed (c := Try.f29.body.getD .skip) (args := [x0, x1, x2, x3]) (rs := [(ResultVar.tmp 8)]) (Ann.seq Ann.text (Ann.seq (Ann.seq Ann.text (Ann.block (Ann.seq Ann.text (Ann.cond (Ann.seq Ann.text Ann.leaf) (Ann.seq Ann.text (Ann.cond (Ann.seq (Ann.seq Ann.text (Ann.cond (Ann.seq (Ann.draw (Sch.take 0 (Sch.take 1 (Sch.take 2 (Sch.take 3 (Sch.take 4 (Sch.take 5 (Sch.take 6 (Sch.one 7 (Sch.take 8 Sch.done)))))))))) Ann.leaf) Ann.leaf)) (Ann.seq Ann.text Ann.leaf)) (Ann.seq Ann.text (Ann.cond (Ann.seq (Ann.seq Ann.text (Ann.cond (Ann.seq Ann.text Ann.leaf) Ann.leaf)) (Ann.seq Ann.text Ann.leaf)) (Ann.seq Ann.text (Ann.cond (Ann.seq (Ann.draw (Sch.take 0 (Sch.take 1 (Sch.take 2 (Sch.take 3 (Sch.take 4 (Sch.take 5 (Sch.take 6 (Sch.take 7 (Sch.take 8 (Sch.take 9 (Sch.take 10 (Sch.one 11 (Sch.take 12 Sch.done)))))))))))))) Ann.leaf) (Ann.seq Ann.text (Ann.cond (Ann.seq (Ann.draw (Sch.take 0 (Sch.take 1 (Sch.take 2 (Sch.take 3 (Sch.take 4 (Sch.take 5 (Sch.take 6 (Sch.take 7 (Sch.take 11 (Sch.take 12 (Sch.take 13 (Sch.take 14 (Sch.take 15 (Sch.one 8 (Sch.take 9 (Sch.take 10 (Sch.take 16 (Sch.take 17 Sch.done))))))))))))))))))) Ann.leaf) (Ann.seq Ann.text (Ann.cond (Ann.seq Ann.text Ann.leaf) (Ann.seq Ann.text (Ann.cond (Ann.seq (Ann.draw (Sch.take 0 (Sch.take 1 (Sch.take 2 (Sch.take 3 (Sch.take 4 (Sch.take 6 (Sch.take 7 (Sch.take 8 (Sch.take 9 (Sch.take 10 (Sch.one 5 (Sch.one 11 (Sch.take 12 (Sch.one 13 (Sch.take 14 Sch.done)))))))))))))))) Ann.leaf) (Ann.join [108] [109, 110] (Ann.seq Ann.text (Ann.cond Ann.leaf Ann.text)) (Ann.cond (Ann.seq (Ann.draw (Sch.take 0 (Sch.take 1 (Sch.take 2 (Sch.take 3 (Sch.take 4 (Sch.take 5 (Sch.take 6 (Sch.take 7 (Sch.take 8 (Sch.one 9 (Sch.take 10 (Sch.take 11 (Sch.take 12 (Sch.take 13 (Sch.take 14 Sch.done)))))))))))))))) (Ann.seq Ann.text Ann.leaf)) Ann.leaf)))))))))))))))))) (Ann.seq (Ann.draw (Sch.take 0 (Sch.take 1 (Sch.take 2 (Sch.take 3 (Sch.take 4 (Sch.take 6 (Sch.take 7 (Sch.take 8 (Sch.take 9 (Sch.take 10 (Sch.take 11 (Sch.take 12 (Sch.take 13 (Sch.take 14 (Sch.take 15 (Sch.one 5 (Sch.one 16 (Sch.take 17 (Sch.take 18 (Sch.take 19 (Sch.take 20 (Sch.take 21 Sch.done))))))))))))))))))))))) (Ann.seq Ann.text Ann.leaf))))
    Try.func29 (by kernel_rfl) (by kernel_rfl)
    (Eq.mp (by kernel_rfl) h)
/-! breakwater/breakwaterref16.All: function 17 -/
def sh17 (x0 x1 : Value) (R : Kt) (w : World) : Prop :=
  M.new 46 (Value.cells x0) (fun t2 w =>
  M.loop [(Value.slice none 0 0), (Value.int IntKind.i64 0)] (fun s1 K1 w => ∀ _ : List Value,
  M.fieldAddr 0 t2 (fun t8 w =>
  M.load1 t8 (fun t9 w =>
  M.len t9 (fun t10 w =>
  M.bin .lss (s1.getD 1 undef) t10 (fun t11 w =>
  M.cond t11
  (M.draw (fun w =>
  M.loadA 2 t2 (fun t15 w =>
  M.fieldAddr 0 t2 (fun t16 w =>
  M.load1 t16 (fun t17 w =>
  M.indexSl 6 t17 (s1.getD 1 undef) (fun t19 w =>
  M.loadA 6 t19 (fun t20 w =>
  M.call Try.prog 29 #[t15, t20, (s1.getD 0 undef), x1] (fun t23 w =>
  ((M.load1 t16 (fun v' _ => v' = t17) w) ∧ M.buildSlice 30 1 #[.int .u64 0] 1 [(0, t23)] (fun t24 w =>
  ((M.load1 t16 (fun v' _ => v' = t17) w) ∧ M.append 30 1 8 #[.int .u64 0] (s1.getD 0 undef) t24 (fun t25 w =>
  ((M.load1 t16 (fun v' _ => v' = t17) w) ∧ M.bin .add (s1.getD 1 undef) (Value.int IntKind.i64 1) (fun t13 w =>
  K1 [t25, t13] w) w)) w)) w)) w) w) w) w) w) w) w)
  (R (s1.getD 0 undef) w)) w) w) w) w) w) w
theorem ok17 (x0 x1 : Value) (R : Kt) (w : World) (h : sh17 x0 x1 R w) : Ret Try.prog 17 #[x0, x1] w R :=
  ret_mk <| calls_of_comp mixed (c := Try.f17.body.getD .skip) (args := [x0, x1]) (rs := [(ResultVar.tmp 4)]) (Ann.seq Ann.text (Ann.seq Ann.text (Ann.seq (Ann.seq Ann.text (Ann.block (Ann.loop [5, 6] [7, 8, 9, 10, 11, 12, 13, 14, 15, 16, 17, 18, 19, 20, 21, 22, 23, 24, 25] (Ann.seq (Ann.seq Ann.text (Ann.cond Ann.leaf Ann.leaf)) (Ann.seq (Ann.block (Ann.draw (Sch.take 0 (Sch.take 1 (Sch.take 2 (Sch.take 3 (Sch.take 4 (Sch.take 5 (Sch.take 6 (Sch.take 7 (Sch.take 8 (Sch.one 9 (Sch.one 10 (Sch.one 11 (Sch.take 12 Sch.done))))))))))))))) Ann.text))))) (Ann.seq Ann.text Ann.leaf))))
    Try.func17 (by kernel_rfl) (by kernel_rfl)
    (Eq.mp (by kernel_rfl) h)

theorem M.wat_i {K : Kt} {w : World} {D : Nat → Prop} {A : Option Addr} {vals : List W64} {n c : Nat} {k : Int} (hr : Row w D A (vals.map vw)) (hn : vals.length = n) (h0 : 0 ≤ k) (h1 : k < vals.length)
    (h : ∀ b o, w.cell? ⟨b, o, none⟩ = some (vw (vals.getD k.toNat 0)) → K (.pointer (some ⟨b, o, none⟩)) w) : M.indexSl 1 (.slice A n c) (vi k) K w := by
  have hl : k.toNat < vals.length := by omega
  refine M.idxLV_i hr hn h0 (by omega) (x := vals.getD k.toNat 0) ?_ (fun b o _ hc => h b _ hc)
  rw [List.getD_eq_getElem?_getD, List.getElem?_eq_getElem hl]; rfl
theorem ofI_nat {n : Int} (h0 : 0 ≤ n) (h1 : n ≤ 64) : (BitVec.ofInt 64 n).toNat = n.toNat := by
  rw [BitVec.toNat_ofInt]
  omega
section
variable {w : World} {D : Nat → Prop} {v : Value} {N : List Nd} {most : Int}
set_option maxHeartbeats 4000000 in
theorem rone_ret {D2 De : Nat → Prop} {vv ev : Value} {Mx : List Nd} {n : Nd} {vals env : List W64} (hd : RD w D v N most) (hn : goodN Mx n) (hkl : ∀ k ∈ kidsN n, 0 ≤ k ∧ k < vals.length) (hwd : ∀ k ∈ kidsN n, 1 ≤ wdN N k ∧ wdN N k ≤ 64) (hv : LV vw w D2 vv vals) (he : LV vw w De ev env) (hel : env.length ≤ 1000000) :
    Ret Try.prog 29 #[v, encN n, vv, ev] w (fun r w' => r = vw (oneV N n (fun k => vals.getD k.toNat 0) env) ∧ Keep w w' No) := by
  obtain ⟨A, c, rfl, hr⟩ := id hd
  obtain ⟨B, cv, rfl, hvr, _⟩ := hv
  obtain ⟨E, ce, rfl, her, _⟩ := he
  refine ok29 _ _ _ _ _ _ ?_
  unfold sh29
  refine M.new_i (l := [.slice A N.length c, vi most]) (fun w1 b1 k1 s1 => ?_)
  refine M.new_i (l := n.cells) (fun w2 b2 k2 s2 => ?_)
  have b1 := b1.keep k2 (fun h => h)
  have b2 : Blk w2 w1.heap.size [vi n.op, vi n.wd, vi n.a, vi n.b, vi n.c, vw n.val] := b2
  have k02 := k1.trans k2 (fun _ _ h => h)
  have hvr := hvr.keep k02 (fun _ _ _ h => h)
  have her := her.keep k02 (fun _ _ _ h => h)
  have hd2 := hd.keep k02 (fun _ _ _ h => h)
  have kd := Keep.drew w2 No
  have d1 := b1.keep kd (fun h => h)
  have d2 := b2.keep kd (fun h => h)
  have hvd := hvr.keep kd (fun _ _ _ h => h)
  have hed := her.keep kd (fun _ _ _ h => h)
  have hdd := hd2.keep kd (fun _ _ _ h => h)
  have k0d := k02.trans kd (fun _ _ h => h)
  obtain ⟨hw64, _, h3⟩ := hn
  rcases h3 with ⟨ho, _⟩ | ⟨ho, ha0, ha1, _⟩ | ⟨ho, _⟩ | ⟨ho, ho2, _⟩ | ⟨ho, _⟩ | ⟨ho, hb0, hb64, _⟩ | ⟨ho, _⟩ | ⟨ho, _⟩
  · (repeat (first|refine ja ?_|refine jb ?_|refine jc ?_|refine jd ?_|refine je ?_|refine jf ?_|refine jg ?_|refine jh ?_|refine ji ?_|refine jj ?_|refine jk ?_|refine jl ?_|refine jm ?_|refine jn ?_|refine jo ?_|refine jp ?_|refine jq ?_|refine jr ?_|refine js ?_|refine jt ?_|refine ju ?_|refine jv ?_|refine jw ?_|refine jx ?_|refine jy ?_|refine jz ?_|refine jA ?_|refine jB ?_|refine jC ?_|refine jD ?_|refine jE ?_|refine jF ?_|refine jG ?_|refine jH ?_|refine jI ?_|refine jJ ?_|refine jK ?_|refine jL ?_|refine jM (by assumption) ?_|refine jN (by assumption) rfl ?_|refine jO (by assumption) ?_|refine jP (by assumption) rfl ?_|refine jQ ?_|refine jR ?_|refine jS ?_|refine jT ?_|refine jU (by assumption) rfl ?_))
    exact ⟨by rw [oneV_const ho], k02⟩
  · by_cases hlt : n.a < (env.length : Int)
    · obtain ⟨x, hx⟩ : ∃ x, env[n.a.toNat]? = some x := ⟨_, List.getElem?_eq_getElem (by omega)⟩
      (repeat (first|refine ja ?_|refine jb ?_|refine jc ?_|refine jd ?_|refine je ?_|refine jf ?_|refine jg ?_|refine jh ?_|refine ji ?_|refine jj ?_|refine jk ?_|refine jl ?_|refine jm ?_|refine jn ?_|refine jo ?_|refine jp ?_|refine jq ?_|refine jr ?_|refine js ?_|refine jt ?_|refine ju ?_|refine jv ?_|refine jw ?_|refine jx ?_|refine jy ?_|refine jz ?_|refine jA ?_|refine jB ?_|refine jC ?_|refine jD ?_|refine jE ?_|refine jF ?_|refine jG ?_|refine jH ?_|refine jI ?_|refine jJ ?_|refine jK ?_|refine jL ?_|refine jM (by assumption) ?_|refine jN (by assumption) rfl ?_|refine jO (by assumption) ?_|refine jP (by assumption) rfl ?_|refine jQ ?_|refine jR ?_|refine jS ?_|refine jT ?_|refine jU (by assumption) rfl ?_))
      refine M.idxLV_i hed rfl ha0 hlt (x := x) hx (fun bb oo hA hcc => ?_)
      (repeat (first|refine ja ?_|refine jb ?_|refine jc ?_|refine jd ?_|refine je ?_|refine jf ?_|refine jg ?_|refine jh ?_|refine ji ?_|refine jj ?_|refine jk ?_|refine jl ?_|refine jm ?_|refine jn ?_|refine jo ?_|refine jp ?_|refine jq ?_|refine jr ?_|refine js ?_|refine jt ?_|refine ju ?_|refine jv ?_|refine jw ?_|refine jx ?_|refine jy ?_|refine jz ?_|refine jA ?_|refine jB ?_|refine jC ?_|refine jD ?_|refine jE ?_|refine jF ?_|refine jG ?_|refine jH ?_|refine jI ?_|refine jJ ?_|refine jK ?_|refine jL ?_|refine jM (by assumption) ?_|refine jN (by assumption) rfl ?_|refine jO (by assumption) ?_|refine jP (by assumption) rfl ?_|refine jQ ?_|refine jR ?_|refine jS ?_|refine jT ?_|refine jU (by assumption) rfl ?_))
      refine M.call_i (rcut_ret n.wd x w2.drew) ?_; rintro _ w3 ⟨rfl, rfl⟩
      (repeat (first|refine ja ?_|refine jb ?_|refine jc ?_|refine jd ?_|refine je ?_|refine jf ?_|refine jg ?_|refine jh ?_|refine ji ?_|refine jj ?_|refine jk ?_|refine jl ?_|refine jm ?_|refine jn ?_|refine jo ?_|refine jp ?_|refine jq ?_|refine jr ?_|refine js ?_|refine jt ?_|refine ju ?_|refine jv ?_|refine jw ?_|refine jx ?_|refine jy ?_|refine jz ?_|refine jA ?_|refine jB ?_|refine jC ?_|refine jD ?_|refine jE ?_|refine jF ?_|refine jG ?_|refine jH ?_|refine jI ?_|refine jJ ?_|refine jK ?_|refine jL ?_|refine jM (by assumption) ?_|refine jN (by assumption) rfl ?_|refine jO (by assumption) ?_|refine jP (by assumption) rfl ?_|refine jQ ?_|refine jR ?_|refine jS ?_|refine jT ?_|refine jU (by assumption) rfl ?_))
      refine ⟨?_, k0d⟩
      rw [oneV_var ho, if_pos hlt, List.getD_eq_getElem?_getD, hx]; rfl
    · (repeat (first|refine ja ?_|refine jb ?_|refine jc ?_|refine jd ?_|refine je ?_|refine jf ?_|refine jg ?_|refine jh ?_|refine ji ?_|refine jj ?_|refine jk ?_|refine jl ?_|refine jm ?_|refine jn ?_|refine jo ?_|refine jp ?_|refine jq ?_|refine jr ?_|refine js ?_|refine jt ?_|refine ju ?_|refine jv ?_|refine jw ?_|refine jx ?_|refine jy ?_|refine jz ?_|refine jA ?_|refine jB ?_|refine jC ?_|refine jD ?_|refine jE ?_|refine jF ?_|refine jG ?_|refine jH ?_|refine jI ?_|refine jJ ?_|refine jK ?_|refine jL ?_|refine jM (by assumption) ?_|refine jN (by assumption) rfl ?_|refine jO (by assumption) ?_|refine jP (by assumption) rfl ?_|refine jQ ?_|refine jR ?_|refine jS ?_|refine jT ?_|refine jU (by assumption) rfl ?_))
      refine ⟨?_, k02⟩
      rw [oneV_var ho, if_neg hlt]; rfl
  · have hk := kids_one (n := n) (by omega)
    have ka := hkl n.a (by rw [hk]; simp)
    (repeat (first|refine ja ?_|refine jb ?_|refine jc ?_|refine jd ?_|refine je ?_|refine jf ?_|refine jg ?_|refine jh ?_|refine ji ?_|refine jj ?_|refine jk ?_|refine jl ?_|refine jm ?_|refine jn ?_|refine jo ?_|refine jp ?_|refine jq ?_|refine jr ?_|refine js ?_|refine jt ?_|refine ju ?_|refine jv ?_|refine jw ?_|refine jx ?_|refine jy ?_|refine jz ?_|refine jA ?_|refine jB ?_|refine jC ?_|refine jD ?_|refine jE ?_|refine jF ?_|refine jG ?_|refine jH ?_|refine jI ?_|refine jJ ?_|refine jK ?_|refine jL ?_|refine jM (by assumption) ?_|refine jN (by assumption) rfl ?_|refine jO (by assumption) ?_|refine jP (by assumption) rfl ?_|refine jQ ?_|refine jR ?_|refine jS ?_|refine jT ?_|refine jU (by assumption) rfl ?_))
    refine M.share_i ?_
    rcases ho with ho' | ho'
    · (repeat (first|refine ja ?_|refine jb ?_|refine jc ?_|refine jd ?_|refine je ?_|refine jf ?_|refine jg ?_|refine jh ?_|refine ji ?_|refine jj ?_|refine jk ?_|refine jl ?_|refine jm ?_|refine jn ?_|refine jo ?_|refine jp ?_|refine jq ?_|refine jr ?_|refine js ?_|refine jt ?_|refine ju ?_|refine jv ?_|refine jw ?_|refine jx ?_|refine jy ?_|refine jz ?_|refine jA ?_|refine jB ?_|refine jC ?_|refine jD ?_|refine jE ?_|refine jF ?_|refine jG ?_|refine jH ?_|refine jI ?_|refine jJ ?_|refine jK ?_|refine jL ?_|refine jM (by assumption) ?_|refine jN (by assumption) rfl ?_|refine jO (by assumption) ?_|refine jP (by assumption) rfl ?_|refine jQ ?_|refine jR ?_|refine jS ?_|refine jT ?_|refine jU (by assumption) rfl ?_))
      intro _
      simp only [List.getD_cons_zero, List.getD_cons_succ]
      (repeat (first|refine ja ?_|refine jb ?_|refine jc ?_|refine jd ?_|refine je ?_|refine jf ?_|refine jg ?_|refine jh ?_|refine ji ?_|refine jj ?_|refine jk ?_|refine jl ?_|refine jm ?_|refine jn ?_|refine jo ?_|refine jp ?_|refine jq ?_|refine jr ?_|refine js ?_|refine jt ?_|refine ju ?_|refine jv ?_|refine jw ?_|refine jx ?_|refine jy ?_|refine jz ?_|refine jA ?_|refine jB ?_|refine jC ?_|refine jD ?_|refine jE ?_|refine jF ?_|refine jG ?_|refine jH ?_|refine jI ?_|refine jJ ?_|refine jK ?_|refine jL ?_|refine jM (by assumption) ?_|refine jN (by assumption) rfl ?_|refine jO (by assumption) ?_|refine jP (by assumption) rfl ?_|refine jQ ?_|refine jR ?_|refine jS ?_|refine jT ?_|refine jU (by assumption) rfl ?_))
      refine M.wat_i hvd rfl ka.1 ka.2 (fun bb oo hcc => ?_)
      (repeat (first|refine ja ?_|refine jb ?_|refine jc ?_|refine jd ?_|refine je ?_|refine jf ?_|refine jg ?_|refine jh ?_|refine ji ?_|refine jj ?_|refine jk ?_|refine jl ?_|refine jm ?_|refine jn ?_|refine jo ?_|refine jp ?_|refine jq ?_|refine jr ?_|refine js ?_|refine jt ?_|refine ju ?_|refine jv ?_|refine jw ?_|refine jx ?_|refine jy ?_|refine jz ?_|refine jA ?_|refine jB ?_|refine jC ?_|refine jD ?_|refine jE ?_|refine jF ?_|refine jG ?_|refine jH ?_|refine jI ?_|refine jJ ?_|refine jK ?_|refine jL ?_|refine jM (by assumption) ?_|refine jN (by assumption) rfl ?_|refine jO (by assumption) ?_|refine jP (by assumption) rfl ?_|refine jQ ?_|refine jR ?_|refine jS ?_|refine jT ?_|refine jU (by assumption) rfl ?_))
      refine M.call_i (runary_ret n.op n.wd (vals.getD n.a.toNat 0) w2.drew) ?_; rintro _ w3 ⟨rfl, rfl⟩
      (repeat (first|refine ja ?_|refine jb ?_|refine jc ?_|refine jd ?_|refine je ?_|refine jf ?_|refine jg ?_|refine jh ?_|refine ji ?_|refine jj ?_|refine jk ?_|refine jl ?_|refine jm ?_|refine jn ?_|refine jo ?_|refine jp ?_|refine jq ?_|refine jr ?_|refine js ?_|refine jt ?_|refine ju ?_|refine jv ?_|refine jw ?_|refine jx ?_|refine jy ?_|refine jz ?_|refine jA ?_|refine jB ?_|refine jC ?_|refine jD ?_|refine jE ?_|refine jF ?_|refine jG ?_|refine jH ?_|refine jI ?_|refine jJ ?_|refine jK ?_|refine jL ?_|refine jM (by assumption) ?_|refine jN (by assumption) rfl ?_|refine jO (by assumption) ?_|refine jP (by assumption) rfl ?_|refine jQ ?_|refine jR ?_|refine jS ?_|refine jT ?_|refine jU (by assumption) rfl ?_))
      refine M.extract_i rfl ?_
      refine M.extract_i rfl ?_
      exact ⟨by rw [oneV_un (.inl ho')]; rfl, k0d⟩
    · (repeat (first|refine ja ?_|refine jb ?_|refine jc ?_|refine jd ?_|refine je ?_|refine jf ?_|refine jg ?_|refine jh ?_|refine ji ?_|refine jj ?_|refine jk ?_|refine jl ?_|refine jm ?_|refine jn ?_|refine jo ?_|refine jp ?_|refine jq ?_|refine jr ?_|refine js ?_|refine jt ?_|refine ju ?_|refine jv ?_|refine jw ?_|refine jx ?_|refine jy ?_|refine jz ?_|refine jA ?_|refine jB ?_|refine jC ?_|refine jD ?_|refine jE ?_|refine jF ?_|refine jG ?_|refine jH ?_|refine jI ?_|refine jJ ?_|refine jK ?_|refine jL ?_|refine jM (by assumption) ?_|refine jN (by assumption) rfl ?_|refine jO (by assumption) ?_|refine jP (by assumption) rfl ?_|refine jQ ?_|refine jR ?_|refine jS ?_|refine jT ?_|refine jU (by assumption) rfl ?_))
      intro _
      simp only [List.getD_cons_zero, List.getD_cons_succ]
      (repeat (first|refine ja ?_|refine jb ?_|refine jc ?_|refine jd ?_|refine je ?_|refine jf ?_|refine jg ?_|refine jh ?_|refine ji ?_|refine jj ?_|refine jk ?_|refine jl ?_|refine jm ?_|refine jn ?_|refine jo ?_|refine jp ?_|refine jq ?_|refine jr ?_|refine js ?_|refine jt ?_|refine ju ?_|refine jv ?_|refine jw ?_|refine jx ?_|refine jy ?_|refine jz ?_|refine jA ?_|refine jB ?_|refine jC ?_|refine jD ?_|refine jE ?_|refine jF ?_|refine jG ?_|refine jH ?_|refine jI ?_|refine jJ ?_|refine jK ?_|refine jL ?_|refine jM (by assumption) ?_|refine jN (by assumption) rfl ?_|refine jO (by assumption) ?_|refine jP (by assumption) rfl ?_|refine jQ ?_|refine jR ?_|refine jS ?_|refine jT ?_|refine jU (by assumption) rfl ?_))
      refine M.wat_i hvd rfl ka.1 ka.2 (fun bb oo hcc => ?_)
      (repeat (first|refine ja ?_|refine jb ?_|refine jc ?_|refine jd ?_|refine je ?_|refine jf ?_|refine jg ?_|refine jh ?_|refine ji ?_|refine jj ?_|refine jk ?_|refine jl ?_|refine jm ?_|refine jn ?_|refine jo ?_|refine jp ?_|refine jq ?_|refine jr ?_|refine js ?_|refine jt ?_|refine ju ?_|refine jv ?_|refine jw ?_|refine jx ?_|refine jy ?_|refine jz ?_|refine jA ?_|refine jB ?_|refine jC ?_|refine jD ?_|refine jE ?_|refine jF ?_|refine jG ?_|refine jH ?_|refine jI ?_|refine jJ ?_|refine jK ?_|refine jL ?_|refine jM (by assumption) ?_|refine jN (by assumption) rfl ?_|refine jO (by assumption) ?_|refine jP (by assumption) rfl ?_|refine jQ ?_|refine jR ?_|refine jS ?_|refine jT ?_|refine jU (by assumption) rfl ?_))
      refine M.call_i (runary_ret n.op n.wd (vals.getD n.a.toNat 0) w2.drew) ?_; rintro _ w3 ⟨rfl, rfl⟩
      (repeat (first|refine ja ?_|refine jb ?_|refine jc ?_|refine jd ?_|refine je ?_|refine jf ?_|refine jg ?_|refine jh ?_|refine ji ?_|refine jj ?_|refine jk ?_|refine jl ?_|refine jm ?_|refine jn ?_|refine jo ?_|refine jp ?_|refine jq ?_|refine jr ?_|refine js ?_|refine jt ?_|refine ju ?_|refine jv ?_|refine jw ?_|refine jx ?_|refine jy ?_|refine jz ?_|refine jA ?_|refine jB ?_|refine jC ?_|refine jD ?_|refine jE ?_|refine jF ?_|refine jG ?_|refine jH ?_|refine jI ?_|refine jJ ?_|refine jK ?_|refine jL ?_|refine jM (by assumption) ?_|refine jN (by assumption) rfl ?_|refine jO (by assumption) ?_|refine jP (by assumption) rfl ?_|refine jQ ?_|refine jR ?_|refine jS ?_|refine jT ?_|refine jU (by assumption) rfl ?_))
      refine M.extract_i rfl ?_
      refine M.extract_i rfl ?_
      exact ⟨by rw [oneV_un (.inr ho')]; rfl, k0d⟩
  · have hk := kids_two (n := n) (by omega)
    have ka := hkl n.a (by rw [hk]; simp)
    have kb := hkl n.b (by rw [hk]; simp)
    (repeat (first|refine ja ?_|refine jb ?_|refine jc ?_|refine jd ?_|refine je ?_|refine jf ?_|refine jg ?_|refine jh ?_|refine ji ?_|refine jj ?_|refine jk ?_|refine jl ?_|refine jm ?_|refine jn ?_|refine jo ?_|refine jp ?_|refine jq ?_|refine jr ?_|refine js ?_|refine jt ?_|refine ju ?_|refine jv ?_|refine jw ?_|refine jx ?_|refine jy ?_|refine jz ?_|refine jA ?_|refine jB ?_|refine jC ?_|refine jD ?_|refine jE ?_|refine jF ?_|refine jG ?_|refine jH ?_|refine jI ?_|refine jJ ?_|refine jK ?_|refine jL ?_|refine jM (by assumption) ?_|refine jN (by assumption) rfl ?_|refine jO (by assumption) ?_|refine jP (by assumption) rfl ?_|refine jQ ?_|refine jR ?_|refine jS ?_|refine jT ?_|refine jU (by assumption) rfl ?_))
    refine M.share_i ?_
    (repeat (first|refine ja ?_|refine jb ?_|refine jc ?_|refine jd ?_|refine je ?_|refine jf ?_|refine jg ?_|refine jh ?_|refine ji ?_|refine jj ?_|refine jk ?_|refine jl ?_|refine jm ?_|refine jn ?_|refine jo ?_|refine jp ?_|refine jq ?_|refine jr ?_|refine js ?_|refine jt ?_|refine ju ?_|refine jv ?_|refine jw ?_|refine jx ?_|refine jy ?_|refine jz ?_|refine jA ?_|refine jB ?_|refine jC ?_|refine jD ?_|refine jE ?_|refine jF ?_|refine jG ?_|refine jH ?_|refine jI ?_|refine jJ ?_|refine jK ?_|refine jL ?_|refine jM (by assumption) ?_|refine jN (by assumption) rfl ?_|refine jO (by assumption) ?_|refine jP (by assumption) rfl ?_|refine jQ ?_|refine jR ?_|refine jS ?_|refine jT ?_|refine jU (by assumption) rfl ?_))
    intro _
    simp only [List.getD_cons_zero, List.getD_cons_succ]
    (repeat (first|refine ja ?_|refine jb ?_|refine jc ?_|refine jd ?_|refine je ?_|refine jf ?_|refine jg ?_|refine jh ?_|refine ji ?_|refine jj ?_|refine jk ?_|refine jl ?_|refine jm ?_|refine jn ?_|refine jo ?_|refine jp ?_|refine jq ?_|refine jr ?_|refine js ?_|refine jt ?_|refine ju ?_|refine jv ?_|refine jw ?_|refine jx ?_|refine jy ?_|refine jz ?_|refine jA ?_|refine jB ?_|refine jC ?_|refine jD ?_|refine jE ?_|refine jF ?_|refine jG ?_|refine jH ?_|refine jI ?_|refine jJ ?_|refine jK ?_|refine jL ?_|refine jM (by assumption) ?_|refine jN (by assumption) rfl ?_|refine jO (by assumption) ?_|refine jP (by assumption) rfl ?_|refine jQ ?_|refine jR ?_|refine jS ?_|refine jT ?_|refine jU (by assumption) rfl ?_))
    refine M.loadAll_i d1 rfl ?_
    (repeat (first|refine ja ?_|refine jb ?_|refine jc ?_|refine jd ?_|refine je ?_|refine jf ?_|refine jg ?_|refine jh ?_|refine ji ?_|refine jj ?_|refine jk ?_|refine jl ?_|refine jm ?_|refine jn ?_|refine jo ?_|refine jp ?_|refine jq ?_|refine jr ?_|refine js ?_|refine jt ?_|refine ju ?_|refine jv ?_|refine jw ?_|refine jx ?_|refine jy ?_|refine jz ?_|refine jA ?_|refine jB ?_|refine jC ?_|refine jD ?_|refine jE ?_|refine jF ?_|refine jG ?_|refine jH ?_|refine jI ?_|refine jJ ?_|refine jK ?_|refine jL ?_|refine jM (by assumption) ?_|refine jN (by assumption) rfl ?_|refine jO (by assumption) ?_|refine jP (by assumption) rfl ?_|refine jQ ?_|refine jR ?_|refine jS ?_|refine jT ?_|refine jU (by assumption) rfl ?_))
    refine M.wat_i hvd rfl ka.1 ka.2 (fun bb oo hcc => ?_)
    (repeat (first|refine ja ?_|refine jb ?_|refine jc ?_|refine jd ?_|refine je ?_|refine jf ?_|refine jg ?_|refine jh ?_|refine ji ?_|refine jj ?_|refine jk ?_|refine jl ?_|refine jm ?_|refine jn ?_|refine jo ?_|refine jp ?_|refine jq ?_|refine jr ?_|refine js ?_|refine jt ?_|refine ju ?_|refine jv ?_|refine jw ?_|refine jx ?_|refine jy ?_|refine jz ?_|refine jA ?_|refine jB ?_|refine jC ?_|refine jD ?_|refine jE ?_|refine jF ?_|refine jG ?_|refine jH ?_|refine jI ?_|refine jJ ?_|refine jK ?_|refine jL ?_|refine jM (by assumption) ?_|refine jN (by assumption) rfl ?_|refine jO (by assumption) ?_|refine jP (by assumption) rfl ?_|refine jQ ?_|refine jR ?_|refine jS ?_|refine jT ?_|refine jU (by assumption) rfl ?_))
    refine M.wat_i hvd rfl kb.1 kb.2 (fun bb' oo' hcc' => ?_)
    (repeat (first|refine ja ?_|refine jb ?_|refine jc ?_|refine jd ?_|refine je ?_|refine jf ?_|refine jg ?_|refine jh ?_|refine ji ?_|refine jj ?_|refine jk ?_|refine jl ?_|refine jm ?_|refine jn ?_|refine jo ?_|refine jp ?_|refine jq ?_|refine jr ?_|refine js ?_|refine jt ?_|refine ju ?_|refine jv ?_|refine jw ?_|refine jx ?_|refine jy ?_|refine jz ?_|refine jA ?_|refine jB ?_|refine jC ?_|refine jD ?_|refine jE ?_|refine jF ?_|refine jG ?_|refine jH ?_|refine jI ?_|refine jJ ?_|refine jK ?_|refine jL ?_|refine jM (by assumption) ?_|refine jN (by assumption) rfl ?_|refine jO (by assumption) ?_|refine jP (by assumption) rfl ?_|refine jQ ?_|refine jR ?_|refine jS ?_|refine jT ?_|refine jU (by assumption) rfl ?_))
    refine M.call_i (rwidth_ret hdd n.a) ?_; rintro _ w3 ⟨rfl, k3⟩
    have d2 := d2.keep k3 (fun h => h)
    have hcc := k3.cell (fun h => h) hcc
    have hcc' := k3.cell (fun h => h) hcc'
    (repeat (first|refine ja ?_|refine jb ?_|refine jc ?_|refine jd ?_|refine je ?_|refine jf ?_|refine jg ?_|refine jh ?_|refine ji ?_|refine jj ?_|refine jk ?_|refine jl ?_|refine jm ?_|refine jn ?_|refine jo ?_|refine jp ?_|refine jq ?_|refine jr ?_|refine js ?_|refine jt ?_|refine ju ?_|refine jv ?_|refine jw ?_|refine jx ?_|refine jy ?_|refine jz ?_|refine jA ?_|refine jB ?_|refine jC ?_|refine jD ?_|refine jE ?_|refine jF ?_|refine jG ?_|refine jH ?_|refine jI ?_|refine jJ ?_|refine jK ?_|refine jL ?_|refine jM (by assumption) ?_|refine jN (by assumption) rfl ?_|refine jO (by assumption) ?_|refine jP (by assumption) rfl ?_|refine jQ ?_|refine jR ?_|refine jS ?_|refine jT ?_|refine jU (by assumption) rfl ?_))
    refine M.call_i (rbinary_ret n.op (wdN N n.a) (vals.getD n.a.toNat 0) (vals.getD n.b.toNat 0) w3) ?_; rintro _ w5 ⟨rfl, rfl⟩
    (repeat (first|refine ja ?_|refine jb ?_|refine jc ?_|refine jd ?_|refine je ?_|refine jf ?_|refine jg ?_|refine jh ?_|refine ji ?_|refine jj ?_|refine jk ?_|refine jl ?_|refine jm ?_|refine jn ?_|refine jo ?_|refine jp ?_|refine jq ?_|refine jr ?_|refine js ?_|refine jt ?_|refine ju ?_|refine jv ?_|refine jw ?_|refine jx ?_|refine jy ?_|refine jz ?_|refine jA ?_|refine jB ?_|refine jC ?_|refine jD ?_|refine jE ?_|refine jF ?_|refine jG ?_|refine jH ?_|refine jI ?_|refine jJ ?_|refine jK ?_|refine jL ?_|refine jM (by assumption) ?_|refine jN (by assumption) rfl ?_|refine jO (by assumption) ?_|refine jP (by assumption) rfl ?_|refine jQ ?_|refine jR ?_|refine jS ?_|refine jT ?_|refine jU (by assumption) rfl ?_))
    refine M.extract_i rfl ?_
    refine M.extract_i rfl ?_
    exact ⟨by rw [oneV_bin ho ho2]; rfl, k0d.trans k3 (fun _ _ h => h)⟩
  · have hk := kids_three ho
    have ka := hkl n.a (by rw [hk]; simp)
    have kb := hkl n.b (by rw [hk]; simp)
    have kc := hkl n.c (by rw [hk]; simp)
    (repeat (first|refine ja ?_|refine jb ?_|refine jc ?_|refine jd ?_|refine je ?_|refine jf ?_|refine jg ?_|refine jh ?_|refine ji ?_|refine jj ?_|refine jk ?_|refine jl ?_|refine jm ?_|refine jn ?_|refine jo ?_|refine jp ?_|refine jq ?_|refine jr ?_|refine js ?_|refine jt ?_|refine ju ?_|refine jv ?_|refine jw ?_|refine jx ?_|refine jy ?_|refine jz ?_|refine jA ?_|refine jB ?_|refine jC ?_|refine jD ?_|refine jE ?_|refine jF ?_|refine jG ?_|refine jH ?_|refine jI ?_|refine jJ ?_|refine jK ?_|refine jL ?_|refine jM (by assumption) ?_|refine jN (by assumption) rfl ?_|refine jO (by assumption) ?_|refine jP (by assumption) rfl ?_|refine jQ ?_|refine jR ?_|refine jS ?_|refine jT ?_|refine jU (by assumption) rfl ?_))
    refine M.wat_i hvr rfl ka.1 ka.2 (fun bb oo hcc => ?_)
    refine M.load_i hcc ?_
    change M.bin .eql (vw (vals.getD n.a.toNat 0)) (vw 1) _ _
    refine M.eqlW_i ?_
    refine M.cond_i (fun h1 => ?_) (fun h1 => ?_)
    · (repeat (first|refine ja ?_|refine jb ?_|refine jc ?_|refine jd ?_|refine je ?_|refine jf ?_|refine jg ?_|refine jh ?_|refine ji ?_|refine jj ?_|refine jk ?_|refine jl ?_|refine jm ?_|refine jn ?_|refine jo ?_|refine jp ?_|refine jq ?_|refine jr ?_|refine js ?_|refine jt ?_|refine ju ?_|refine jv ?_|refine jw ?_|refine jx ?_|refine jy ?_|refine jz ?_|refine jA ?_|refine jB ?_|refine jC ?_|refine jD ?_|refine jE ?_|refine jF ?_|refine jG ?_|refine jH ?_|refine jI ?_|refine jJ ?_|refine jK ?_|refine jL ?_|refine jM (by assumption) ?_|refine jN (by assumption) rfl ?_|refine jO (by assumption) ?_|refine jP (by assumption) rfl ?_|refine jQ ?_|refine jR ?_|refine jS ?_|refine jT ?_|refine jU (by assumption) rfl ?_))
      refine M.wat_i hvr rfl kb.1 kb.2 (fun bb oo hcc => ?_)
      refine M.load_i hcc ?_
      exact ⟨by rw [oneV_ite ho, if_pos h1], k02⟩
    · (repeat (first|refine ja ?_|refine jb ?_|refine jc ?_|refine jd ?_|refine je ?_|refine jf ?_|refine jg ?_|refine jh ?_|refine ji ?_|refine jj ?_|refine jk ?_|refine jl ?_|refine jm ?_|refine jn ?_|refine jo ?_|refine jp ?_|refine jq ?_|refine jr ?_|refine js ?_|refine jt ?_|refine ju ?_|refine jv ?_|refine jw ?_|refine jx ?_|refine jy ?_|refine jz ?_|refine jA ?_|refine jB ?_|refine jC ?_|refine jD ?_|refine jE ?_|refine jF ?_|refine jG ?_|refine jH ?_|refine jI ?_|refine jJ ?_|refine jK ?_|refine jL ?_|refine jM (by assumption) ?_|refine jN (by assumption) rfl ?_|refine jO (by assumption) ?_|refine jP (by assumption) rfl ?_|refine jQ ?_|refine jR ?_|refine jS ?_|refine jT ?_|refine jU (by assumption) rfl ?_))
      refine M.wat_i hvr rfl kc.1 kc.2 (fun bb oo hcc => ?_)
      refine M.load_i hcc ?_
      exact ⟨by rw [oneV_ite ho, if_neg h1], k02⟩
  · have hk := kids_one (n := n) (by omega)
    have ka := hkl n.a (by rw [hk]; simp)
    (repeat (first|refine ja ?_|refine jb ?_|refine jc ?_|refine jd ?_|refine je ?_|refine jf ?_|refine jg ?_|refine jh ?_|refine ji ?_|refine jj ?_|refine jk ?_|refine jl ?_|refine jm ?_|refine jn ?_|refine jo ?_|refine jp ?_|refine jq ?_|refine jr ?_|refine js ?_|refine jt ?_|refine ju ?_|refine jv ?_|refine jw ?_|refine jx ?_|refine jy ?_|refine jz ?_|refine jA ?_|refine jB ?_|refine jC ?_|refine jD ?_|refine jE ?_|refine jF ?_|refine jG ?_|refine jH ?_|refine jI ?_|refine jJ ?_|refine jK ?_|refine jL ?_|refine jM (by assumption) ?_|refine jN (by assumption) rfl ?_|refine jO (by assumption) ?_|refine jP (by assumption) rfl ?_|refine jQ ?_|refine jR ?_|refine jS ?_|refine jT ?_|refine jU (by assumption) rfl ?_))
    refine M.wat_i hvd rfl ka.1 ka.2 (fun bb oo hcc => ?_)
    (repeat (first|refine ja ?_|refine jb ?_|refine jc ?_|refine jd ?_|refine je ?_|refine jf ?_|refine jg ?_|refine jh ?_|refine ji ?_|refine jj ?_|refine jk ?_|refine jl ?_|refine jm ?_|refine jn ?_|refine jo ?_|refine jp ?_|refine jq ?_|refine jr ?_|refine js ?_|refine jt ?_|refine ju ?_|refine jv ?_|refine jw ?_|refine jx ?_|refine jy ?_|refine jz ?_|refine jA ?_|refine jB ?_|refine jC ?_|refine jD ?_|refine jE ?_|refine jF ?_|refine jG ?_|refine jH ?_|refine jI ?_|refine jJ ?_|refine jK ?_|refine jL ?_|refine jM (by assumption) ?_|refine jN (by assumption) rfl ?_|refine jO (by assumption) ?_|refine jP (by assumption) rfl ?_|refine jQ ?_|refine jR ?_|refine jS ?_|refine jT ?_|refine jU (by assumption) rfl ?_))
    refine M.toWord_i ?_
    refine M.shrW_i ?_
    rw [ofI_nat hb0 hb64]
    refine M.call_i (rcut_ret n.wd (vals.getD n.a.toNat 0 >>> n.b.toNat) w2.drew) ?_; rintro _ w3 ⟨rfl, rfl⟩
    (repeat (first|refine ja ?_|refine jb ?_|refine jc ?_|refine jd ?_|refine je ?_|refine jf ?_|refine jg ?_|refine jh ?_|refine ji ?_|refine jj ?_|refine jk ?_|refine jl ?_|refine jm ?_|refine jn ?_|refine jo ?_|refine jp ?_|refine jq ?_|refine jr ?_|refine js ?_|refine jt ?_|refine ju ?_|refine jv ?_|refine jw ?_|refine jx ?_|refine jy ?_|refine jz ?_|refine jA ?_|refine jB ?_|refine jC ?_|refine jD ?_|refine jE ?_|refine jF ?_|refine jG ?_|refine jH ?_|refine jI ?_|refine jJ ?_|refine jK ?_|refine jL ?_|refine jM (by assumption) ?_|refine jN (by assumption) rfl ?_|refine jO (by assumption) ?_|refine jP (by assumption) rfl ?_|refine jQ ?_|refine jR ?_|refine jS ?_|refine jT ?_|refine jU (by assumption) rfl ?_))
    exact ⟨by rw [oneV_ext ho], k0d⟩
  · have hk := kids_two (n := n) (by omega)
    have ka := hkl n.a (by rw [hk]; simp)
    have kb := hkl n.b (by rw [hk]; simp)
    have hwb := hwd n.b (by rw [hk]; simp)
    (repeat (first|refine ja ?_|refine jb ?_|refine jc ?_|refine jd ?_|refine je ?_|refine jf ?_|refine jg ?_|refine jh ?_|refine ji ?_|refine jj ?_|refine jk ?_|refine jl ?_|refine jm ?_|refine jn ?_|refine jo ?_|refine jp ?_|refine jq ?_|refine jr ?_|refine js ?_|refine jt ?_|refine ju ?_|refine jv ?_|refine jw ?_|refine jx ?_|refine jy ?_|refine jz ?_|refine jA ?_|refine jB ?_|refine jC ?_|refine jD ?_|refine jE ?_|refine jF ?_|refine jG ?_|refine jH ?_|refine jI ?_|refine jJ ?_|refine jK ?_|refine jL ?_|refine jM (by assumption) ?_|refine jN (by assumption) rfl ?_|refine jO (by assumption) ?_|refine jP (by assumption) rfl ?_|refine jQ ?_|refine jR ?_|refine jS ?_|refine jT ?_|refine jU (by assumption) rfl ?_))
    refine M.wat_i hvd rfl ka.1 ka.2 (fun bb oo hcc => ?_)
    (repeat (first|refine ja ?_|refine jb ?_|refine jc ?_|refine jd ?_|refine je ?_|refine jf ?_|refine jg ?_|refine jh ?_|refine ji ?_|refine jj ?_|refine jk ?_|refine jl ?_|refine jm ?_|refine jn ?_|refine jo ?_|refine jp ?_|refine jq ?_|refine jr ?_|refine js ?_|refine jt ?_|refine ju ?_|refine jv ?_|refine jw ?_|refine jx ?_|refine jy ?_|refine jz ?_|refine jA ?_|refine jB ?_|refine jC ?_|refine jD ?_|refine jE ?_|refine jF ?_|refine jG ?_|refine jH ?_|refine jI ?_|refine jJ ?_|refine jK ?_|refine jL ?_|refine jM (by assumption) ?_|refine jN (by assumption) rfl ?_|refine jO (by assumption) ?_|refine jP (by assumption) rfl ?_|refine jQ ?_|refine jR ?_|refine jS ?_|refine jT ?_|refine jU (by assumption) rfl ?_))
    refine M.loadAll_i d1 rfl ?_
    (repeat (first|refine ja ?_|refine jb ?_|refine jc ?_|refine jd ?_|refine je ?_|refine jf ?_|refine jg ?_|refine jh ?_|refine ji ?_|refine jj ?_|refine jk ?_|refine jl ?_|refine jm ?_|refine jn ?_|refine jo ?_|refine jp ?_|refine jq ?_|refine jr ?_|refine js ?_|refine jt ?_|refine ju ?_|refine jv ?_|refine jw ?_|refine jx ?_|refine jy ?_|refine jz ?_|refine jA ?_|refine jB ?_|refine jC ?_|refine jD ?_|refine jE ?_|refine jF ?_|refine jG ?_|refine jH ?_|refine jI ?_|refine jJ ?_|refine jK ?_|refine jL ?_|refine jM (by assumption) ?_|refine jN (by assumption) rfl ?_|refine jO (by assumption) ?_|refine jP (by assumption) rfl ?_|refine jQ ?_|refine jR ?_|refine jS ?_|refine jT ?_|refine jU (by assumption) rfl ?_))
    refine M.wat_i hvd rfl kb.1 kb.2 (fun bb' oo' hcc' => ?_)
    (repeat (first|refine ja ?_|refine jb ?_|refine jc ?_|refine jd ?_|refine je ?_|refine jf ?_|refine jg ?_|refine jh ?_|refine ji ?_|refine jj ?_|refine jk ?_|refine jl ?_|refine jm ?_|refine jn ?_|refine jo ?_|refine jp ?_|refine jq ?_|refine jr ?_|refine js ?_|refine jt ?_|refine ju ?_|refine jv ?_|refine jw ?_|refine jx ?_|refine jy ?_|refine jz ?_|refine jA ?_|refine jB ?_|refine jC ?_|refine jD ?_|refine jE ?_|refine jF ?_|refine jG ?_|refine jH ?_|refine jI ?_|refine jJ ?_|refine jK ?_|refine jL ?_|refine jM (by assumption) ?_|refine jN (by assumption) rfl ?_|refine jO (by assumption) ?_|refine jP (by assumption) rfl ?_|refine jQ ?_|refine jR ?_|refine jS ?_|refine jT ?_|refine jU (by assumption) rfl ?_))
    refine M.call_i (rwidth_ret hdd n.b) ?_; rintro _ w3 ⟨rfl, k3⟩
    have d2 := d2.keep k3 (fun h => h)
    have hcc := k3.cell (fun h => h) hcc
    have hcc' := k3.cell (fun h => h) hcc'
    (repeat (first|refine ja ?_|refine jb ?_|refine jc ?_|refine jd ?_|refine je ?_|refine jf ?_|refine jg ?_|refine jh ?_|refine ji ?_|refine jj ?_|refine jk ?_|refine jl ?_|refine jm ?_|refine jn ?_|refine jo ?_|refine jp ?_|refine jq ?_|refine jr ?_|refine js ?_|refine jt ?_|refine ju ?_|refine jv ?_|refine jw ?_|refine jx ?_|refine jy ?_|refine jz ?_|refine jA ?_|refine jB ?_|refine jC ?_|refine jD ?_|refine jE ?_|refine jF ?_|refine jG ?_|refine jH ?_|refine jI ?_|refine jJ ?_|refine jK ?_|refine jL ?_|refine jM (by assumption) ?_|refine jN (by assumption) rfl ?_|refine jO (by assumption) ?_|refine jP (by assumption) rfl ?_|refine jQ ?_|refine jR ?_|refine jS ?_|refine jT ?_|refine jU (by assumption) rfl ?_))
    refine M.toWord_i ?_
    refine M.shlW_i ?_
    rw [ofI_nat (by omega) hwb.2]
    refine M.orW_i ?_
    exact ⟨by rw [oneV_cat ho], k0d.trans k3 (fun _ _ h => h)⟩
  · have hk := kids_one (n := n) (by omega)
    have ka := hkl n.a (by rw [hk]; simp)
    rcases ho with ho | ho
    · (repeat (first|refine ja ?_|refine jb ?_|refine jc ?_|refine jd ?_|refine je ?_|refine jf ?_|refine jg ?_|refine jh ?_|refine ji ?_|refine jj ?_|refine jk ?_|refine jl ?_|refine jm ?_|refine jn ?_|refine jo ?_|refine jp ?_|refine jq ?_|refine jr ?_|refine js ?_|refine jt ?_|refine ju ?_|refine jv ?_|refine jw ?_|refine jx ?_|refine jy ?_|refine jz ?_|refine jA ?_|refine jB ?_|refine jC ?_|refine jD ?_|refine jE ?_|refine jF ?_|refine jG ?_|refine jH ?_|refine jI ?_|refine jJ ?_|refine jK ?_|refine jL ?_|refine jM (by assumption) ?_|refine jN (by assumption) rfl ?_|refine jO (by assumption) ?_|refine jP (by assumption) rfl ?_|refine jQ ?_|refine jR ?_|refine jS ?_|refine jT ?_|refine jU (by assumption) rfl ?_))
      refine M.wat_i hvr rfl ka.1 ka.2 (fun bb oo hcc => ?_)
      refine M.load_i hcc ?_
      exact ⟨by rw [oneV_zext ho], k02⟩
    · (repeat (first|refine ja ?_|refine jb ?_|refine jc ?_|refine jd ?_|refine je ?_|refine jf ?_|refine jg ?_|refine jh ?_|refine ji ?_|refine jj ?_|refine jk ?_|refine jl ?_|refine jm ?_|refine jn ?_|refine jo ?_|refine jp ?_|refine jq ?_|refine jr ?_|refine js ?_|refine jt ?_|refine ju ?_|refine jv ?_|refine jw ?_|refine jx ?_|refine jy ?_|refine jz ?_|refine jA ?_|refine jB ?_|refine jC ?_|refine jD ?_|refine jE ?_|refine jF ?_|refine jG ?_|refine jH ?_|refine jI ?_|refine jJ ?_|refine jK ?_|refine jL ?_|refine jM (by assumption) ?_|refine jN (by assumption) rfl ?_|refine jO (by assumption) ?_|refine jP (by assumption) rfl ?_|refine jQ ?_|refine jR ?_|refine jS ?_|refine jT ?_|refine jU (by assumption) rfl ?_))
      refine M.loadAll_i d1 rfl ?_
      (repeat (first|refine ja ?_|refine jb ?_|refine jc ?_|refine jd ?_|refine je ?_|refine jf ?_|refine jg ?_|refine jh ?_|refine ji ?_|refine jj ?_|refine jk ?_|refine jl ?_|refine jm ?_|refine jn ?_|refine jo ?_|refine jp ?_|refine jq ?_|refine jr ?_|refine js ?_|refine jt ?_|refine ju ?_|refine jv ?_|refine jw ?_|refine jx ?_|refine jy ?_|refine jz ?_|refine jA ?_|refine jB ?_|refine jC ?_|refine jD ?_|refine jE ?_|refine jF ?_|refine jG ?_|refine jH ?_|refine jI ?_|refine jJ ?_|refine jK ?_|refine jL ?_|refine jM (by assumption) ?_|refine jN (by assumption) rfl ?_|refine jO (by assumption) ?_|refine jP (by assumption) rfl ?_|refine jQ ?_|refine jR ?_|refine jS ?_|refine jT ?_|refine jU (by assumption) rfl ?_))
      refine M.wat_i hvd rfl ka.1 ka.2 (fun bb oo hcc => ?_)
      (repeat (first|refine ja ?_|refine jb ?_|refine jc ?_|refine jd ?_|refine je ?_|refine jf ?_|refine jg ?_|refine jh ?_|refine ji ?_|refine jj ?_|refine jk ?_|refine jl ?_|refine jm ?_|refine jn ?_|refine jo ?_|refine jp ?_|refine jq ?_|refine jr ?_|refine js ?_|refine jt ?_|refine ju ?_|refine jv ?_|refine jw ?_|refine jx ?_|refine jy ?_|refine jz ?_|refine jA ?_|refine jB ?_|refine jC ?_|refine jD ?_|refine jE ?_|refine jF ?_|refine jG ?_|refine jH ?_|refine jI ?_|refine jJ ?_|refine jK ?_|refine jL ?_|refine jM (by assumption) ?_|refine jN (by assumption) rfl ?_|refine jO (by assumption) ?_|refine jP (by assumption) rfl ?_|refine jQ ?_|refine jR ?_|refine jS ?_|refine jT ?_|refine jU (by assumption) rfl ?_))
      refine M.call_i (rwidth_ret hdd n.a) ?_; rintro _ w3 ⟨rfl, k3⟩
      have d2 := d2.keep k3 (fun h => h)
      have hcc := k3.cell (fun h => h) hcc
      (repeat (first|refine ja ?_|refine jb ?_|refine jc ?_|refine jd ?_|refine je ?_|refine jf ?_|refine jg ?_|refine jh ?_|refine ji ?_|refine jj ?_|refine jk ?_|refine jl ?_|refine jm ?_|refine jn ?_|refine jo ?_|refine jp ?_|refine jq ?_|refine jr ?_|refine js ?_|refine jt ?_|refine ju ?_|refine jv ?_|refine jw ?_|refine jx ?_|refine jy ?_|refine jz ?_|refine jA ?_|refine jB ?_|refine jC ?_|refine jD ?_|refine jE ?_|refine jF ?_|refine jG ?_|refine jH ?_|refine jI ?_|refine jJ ?_|refine jK ?_|refine jL ?_|refine jM (by assumption) ?_|refine jN (by assumption) rfl ?_|refine jO (by assumption) ?_|refine jP (by assumption) rfl ?_|refine jQ ?_|refine jR ?_|refine jS ?_|refine jT ?_|refine jU (by assumption) rfl ?_))
      refine M.call_i (rsigned_ret (wdN N n.a) (vals.getD n.a.toNat 0) w3) ?_; rintro _ w4 ⟨rfl, rfl⟩
      (repeat (first|refine ja ?_|refine jb ?_|refine jc ?_|refine jd ?_|refine je ?_|refine jf ?_|refine jg ?_|refine jh ?_|refine ji ?_|refine jj ?_|refine jk ?_|refine jl ?_|refine jm ?_|refine jn ?_|refine jo ?_|refine jp ?_|refine jq ?_|refine jr ?_|refine js ?_|refine jt ?_|refine ju ?_|refine jv ?_|refine jw ?_|refine jx ?_|refine jy ?_|refine jz ?_|refine jA ?_|refine jB ?_|refine jC ?_|refine jD ?_|refine jE ?_|refine jF ?_|refine jG ?_|refine jH ?_|refine jI ?_|refine jJ ?_|refine jK ?_|refine jL ?_|refine jM (by assumption) ?_|refine jN (by assumption) rfl ?_|refine jO (by assumption) ?_|refine jP (by assumption) rfl ?_|refine jQ ?_|refine jR ?_|refine jS ?_|refine jT ?_|refine jU (by assumption) rfl ?_))
      refine M.toWord_i ?_
      rw [ofInt_toInt]
      refine M.call_i (rcut_ret n.wd (sgnW (wdN N n.a) (vals.getD n.a.toNat 0)) w4) ?_; rintro _ w5 ⟨rfl, rfl⟩
      (repeat (first|refine ja ?_|refine jb ?_|refine jc ?_|refine jd ?_|refine je ?_|refine jf ?_|refine jg ?_|refine jh ?_|refine ji ?_|refine jj ?_|refine jk ?_|refine jl ?_|refine jm ?_|refine jn ?_|refine jo ?_|refine jp ?_|refine jq ?_|refine jr ?_|refine js ?_|refine jt ?_|refine ju ?_|refine jv ?_|refine jw ?_|refine jx ?_|refine jy ?_|refine jz ?_|refine jA ?_|refine jB ?_|refine jC ?_|refine jD ?_|refine jE ?_|refine jF ?_|refine jG ?_|refine jH ?_|refine jI ?_|refine jJ ?_|refine jK ?_|refine jL ?_|refine jM (by assumption) ?_|refine jN (by assumption) rfl ?_|refine jO (by assumption) ?_|refine jP (by assumption) rfl ?_|refine jQ ?_|refine jR ?_|refine jS ?_|refine jT ?_|refine jU (by assumption) rfl ?_))
      exact ⟨by rw [oneV_sext ho], k0d.trans k3 (fun _ _ h => h)⟩
theorem rall_ret {De : Nat → Prop} {ev : Value} {env : List W64} (hd : RD w D v N most) (hN : N.length ≤ 1000000) (hG : GoodN N) (he : LV vw w De ev env) (hel : env.length ≤ 1000000) :
    Ret Try.prog 17 #[v, ev] w (fun r w' => LV vw w' (w.heap.size ≤ ·) r (valsU N env N.length) ∧ Keep w w' No) := by
  obtain ⟨A, c, rfl, hr⟩ := id hd
  refine ok17 _ _ _ _ ?_
  unfold sh17
  refine M.new_i (l := [.slice A N.length c, vi most]) (fun w1 b1 k1 s1 => ?_)
  refine M.loop_i (σ := Nat) (fun m vals w' => ∃ (i : Nat) (sv : Value), m = N.length - i ∧ i ≤ N.length ∧ vals = [sv, vi i] ∧ GW w' (w1.heap.size ≤ ·) sv (valsU N env i) ∧ Blk w' w.heap.size [.slice A N.length c, vi most] ∧ Keep w1 w' No) id N.length
    ⟨0, _, by omega, by omega, rfl, GC.nil _ _ _, b1, Keep.refl _ _⟩ ?_
  rintro m vals w2 K ⟨i, sv, rfl, hi, rfl, g2, b2, k12⟩ hK _
  simp only [List.getD_cons_zero, List.getD_cons_succ]
  have k2 := k1.trans k12 (fun _ _ h => h)
  have q12 := k12.size
  by_cases hlt : i < N.length
  · obtain ⟨n, hn⟩ : ∃ n, N[i]? = some n := ⟨_, List.getElem?_eq_getElem hlt⟩
    have kd := Keep.drew w2 No
    have k2d := k2.trans kd (fun _ _ h => h)
    have d2 := b2.keep kd (fun h => h)
    have gd := g2.keep kd (fun _ _ _ h => h)
    have hrd := hr.keep k2d (fun _ _ _ h => h)
    (repeat (first|refine ja ?_|refine jb ?_|refine jc ?_|refine jd ?_|refine je ?_|refine jf ?_|refine jg ?_|refine jh ?_|refine ji ?_|refine jj ?_|refine jk ?_|refine jl ?_|refine jm ?_|refine jn ?_|refine jo ?_|refine jp ?_|refine jq ?_|refine jr ?_|refine js ?_|refine jt ?_|refine ju ?_|refine jv ?_|refine jw ?_|refine jx ?_|refine jy ?_|refine jz ?_|refine jA ?_|refine jB ?_|refine jC ?_|refine jD ?_|refine jE ?_|refine jF ?_|refine jG ?_|refine jH ?_|refine jI ?_|refine jJ ?_|refine jK ?_|refine jL ?_|refine jM (by assumption) ?_|refine jN (by assumption) rfl ?_|refine jO (by assumption) ?_|refine jP (by assumption) rfl ?_|refine jQ ?_|refine jR ?_|refine jS ?_|refine jT ?_|refine jU (by assumption) rfl ?_))
    refine M.loadAll_i d2 rfl ?_
    (repeat (first|refine ja ?_|refine jb ?_|refine jc ?_|refine jd ?_|refine je ?_|refine jf ?_|refine jg ?_|refine jh ?_|refine ji ?_|refine jj ?_|refine jk ?_|refine jl ?_|refine jm ?_|refine jn ?_|refine jo ?_|refine jp ?_|refine jq ?_|refine jr ?_|refine js ?_|refine jt ?_|refine ju ?_|refine jv ?_|refine jw ?_|refine jx ?_|refine jy ?_|refine jz ?_|refine jA ?_|refine jB ?_|refine jC ?_|refine jD ?_|refine jE ?_|refine jF ?_|refine jG ?_|refine jH ?_|refine jI ?_|refine jJ ?_|refine jK ?_|refine jL ?_|refine jM (by assumption) ?_|refine jN (by assumption) rfl ?_|refine jO (by assumption) ?_|refine jP (by assumption) rfl ?_|refine jQ ?_|refine jR ?_|refine jS ?_|refine jT ?_|refine jU (by assumption) rfl ?_))
    refine M.idxN_i hrd rfl (by omega) (n := n) (by simpa using hn) (fun bb oo hc => ?_)
    refine M.loadN_i hc ?_
    have hgn := hG i n hn
    have hkw : ∀ k ∈ kidsN n, 1 ≤ wdN N k ∧ wdN N k ≤ 64 := fun k hk => by
      have := kids_lt hG hn hk
      exact hG.wd (isN_iff.2 ⟨by omega, by omega⟩)
    have hkl : ∀ k ∈ kidsN n, 0 ≤ k ∧ k < (valsU N env i).length := fun k hk => by rw [valsU_len]; exact kids_lt hG hn hk
    refine M.call_i (rone_ret (hd.keep k2d (fun _ _ _ h => h)) hgn hkl hkw (GW.lv gd) (he.keep k2d (fun _ _ _ h => h)) hel) ?_; rintro _ w3 ⟨rfl, k3⟩
    have d3 := d2.keep k3 (fun h => h)
    have g3 := gd.keep k3 (fun _ _ _ h => h)
    have k03 := k2d.trans k3 (fun _ _ h => h)
    have q3 := k03.size; have q1 := k1.size; have qq := (kd.trans k3 (fun _ _ h => h)).size
    (repeat (first|refine ja ?_|refine jb ?_|refine jc ?_|refine jd ?_|refine je ?_|refine jf ?_|refine jg ?_|refine jh ?_|refine ji ?_|refine jj ?_|refine jk ?_|refine jl ?_|refine jm ?_|refine jn ?_|refine jo ?_|refine jp ?_|refine jq ?_|refine jr ?_|refine js ?_|refine jt ?_|refine ju ?_|refine jv ?_|refine jw ?_|refine jx ?_|refine jy ?_|refine jz ?_|refine jA ?_|refine jB ?_|refine jC ?_|refine jD ?_|refine jE ?_|refine jF ?_|refine jG ?_|refine jH ?_|refine jI ?_|refine jJ ?_|refine jK ?_|refine jL ?_|refine jM (by assumption) ?_|refine jN (by assumption) rfl ?_|refine jO (by assumption) ?_|refine jP (by assumption) rfl ?_|refine jQ ?_|refine jR ?_|refine jS ?_|refine jT ?_|refine jU (by assumption) rfl ?_))
    refine M.buildSlice_i [vw (oneV N n (fun k => (valsU N env i).getD k.toNat 0) env)] (by kernel_rfl) (fun w4 b4 k4 s4 => ?_)
    have d4 := d3.keep k4 (fun h => h)
    have g4 := g3.keep k4 (fun _ _ _ h => h)
    (repeat (first|refine ja ?_|refine jb ?_|refine jc ?_|refine jd ?_|refine je ?_|refine jf ?_|refine jg ?_|refine jh ?_|refine ji ?_|refine jj ?_|refine jk ?_|refine jl ?_|refine jm ?_|refine jn ?_|refine jo ?_|refine jp ?_|refine jq ?_|refine jr ?_|refine js ?_|refine jt ?_|refine ju ?_|refine jv ?_|refine jw ?_|refine jx ?_|refine jy ?_|refine jz ?_|refine jA ?_|refine jB ?_|refine jC ?_|refine jD ?_|refine jE ?_|refine jF ?_|refine jG ?_|refine jH ?_|refine jI ?_|refine jJ ?_|refine jK ?_|refine jL ?_|refine jM (by assumption) ?_|refine jN (by assumption) rfl ?_|refine jO (by assumption) ?_|refine jP (by assumption) rfl ?_|refine jQ ?_|refine jR ?_|refine jS ?_|refine jT ?_|refine jU (by assumption) rfl ?_))
    have hlv := valsU_len N env i
    refine M.append_i g4 (Row.of_blk' (D := fun _ => True) b4 trivial) rfl (by simp; rfl) rfl (by omega) (by omega) (fun v5 w5 g5 k5 => ?_)
    have d5 := d4.keep k5 (fun h => by have h : w1.heap.size ≤ w.heap.size := h; omega)
    have q4 := k4.size
    have k24 := (kd.trans k3 (fun _ _ h => h)).trans k4 (fun _ _ h => h)
    have q24 := k24.size
    (repeat (first|refine ja ?_|refine jb ?_|refine jc ?_|refine jd ?_|refine je ?_|refine jf ?_|refine jg ?_|refine jh ?_|refine ji ?_|refine jj ?_|refine jk ?_|refine jl ?_|refine jm ?_|refine jn ?_|refine jo ?_|refine jp ?_|refine jq ?_|refine jr ?_|refine js ?_|refine jt ?_|refine ju ?_|refine jv ?_|refine jw ?_|refine jx ?_|refine jy ?_|refine jz ?_|refine jA ?_|refine jB ?_|refine jC ?_|refine jD ?_|refine jE ?_|refine jF ?_|refine jG ?_|refine jH ?_|refine jI ?_|refine jJ ?_|refine jK ?_|refine jL ?_|refine jM (by assumption) ?_|refine jN (by assumption) rfl ?_|refine jO (by assumption) ?_|refine jP (by assumption) rfl ?_|refine jQ ?_|refine jR ?_|refine jS ?_|refine jT ?_|refine jU (by assumption) rfl ?_))
    refine hK (N.length - (i + 1)) _ _ (by show N.length - (i + 1) < N.length - i; omega) ⟨i + 1, _, rfl, by omega, rfl, ?_, d5, (k12.trans k24 (fun _ _ h => h)).trans k5 (fun b hb h => by have h : w1.heap.size ≤ b := h; omega)⟩
    have e : valsU N env (i + 1) = valsU N env i ++ [oneV N n (fun k => (valsU N env i).getD k.toNat 0) env] := by
      rw [valsU, hn]
    rw [e]
    have := g5.mono (L' := (w1.heap.size ≤ ·)) (fun b hb h => by rcases h with h | h; exact h; (show w1.heap.size ≤ b); omega)
    simpa [GW] using this
  · have e : i = N.length := by omega
    subst e
    (repeat (first|refine ja ?_|refine jb ?_|refine jc ?_|refine jd ?_|refine je ?_|refine jf ?_|refine jg ?_|refine jh ?_|refine ji ?_|refine jj ?_|refine jk ?_|refine jl ?_|refine jm ?_|refine jn ?_|refine jo ?_|refine jp ?_|refine jq ?_|refine jr ?_|refine js ?_|refine jt ?_|refine ju ?_|refine jv ?_|refine jw ?_|refine jx ?_|refine jy ?_|refine jz ?_|refine jA ?_|refine jB ?_|refine jC ?_|refine jD ?_|refine jE ?_|refine jF ?_|refine jG ?_|refine jH ?_|refine jI ?_|refine jJ ?_|refine jK ?_|refine jL ?_|refine jM (by assumption) ?_|refine jN (by assumption) rfl ?_|refine jO (by assumption) ?_|refine jP (by assumption) rfl ?_|refine jQ ?_|refine jR ?_|refine jS ?_|refine jT ?_|refine jU (by assumption) rfl ?_))
    exact ⟨(GW.lv g2).mono (fun b _ h => by have h : w1.heap.size ≤ b := h; show w.heap.size ≤ b; omega), k2⟩
end
end Go.Proofs.Ytfffepeloiefiaa
