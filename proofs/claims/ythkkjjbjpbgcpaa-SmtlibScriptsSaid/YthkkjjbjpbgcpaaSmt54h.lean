import Derived.Test.YthkkjjbjpbgcpaaSmt54g
namespace Go.Proofs.Ythkkjjbjpbgcpaa
open Go.Mw Go.Lib
set_option linter.unusedVariables false
set_option linter.unusedSimpArgs false
set_option maxRecDepth 100000
attribute [local irreducible] M.val M.unit M.next M.pick M.new M.nilCheck M.load1 M.loadA M.store M.fieldAddr M.indexSl M.indexArr M.slice M.makeSlice M.buildSlice M.len M.lenS M.cap M.append M.extract M.conv M.not M.neg M.bin M.shift M.eqB M.eqNil M.scat M.call M.callv M.gd M.share M.cond M.loop M.draw pureW readW Ret
/-! breakwater/breakwaterref54.one: function 27 -/
def sh27 (x0 x1 x2 : Value) (R : Kt) (w : World) : Prop :=
  M.new 27 (Value.cells x0) (fun t3 w =>
  M.new 55 (Value.cells x1) (fun t4 w =>
  M.fieldAddr 0 t4 (fun t8 w =>
  M.load1 t8 (fun t9 w =>
  M.bin .eql t9 (Value.int IntKind.i64 20) (fun t10 w =>
  M.cond t10
  (M.draw (fun w =>
  M.fieldAddr 5 t4 (fun t11 w =>
  M.load1 t11 (fun t12 w =>
  M.fieldAddr 1 t4 (fun t16 w =>
  M.load1 t16 (fun t17 w =>
  M.call Try.prog 56 #[t12] (fun t13 w =>
  ((M.load1 t16 (fun v' _ => v' = t17) w) ∧ M.scat (Value.string { data := #[40, 95, 32, 98, 118] }) t13 (fun t14 w =>
  M.scat t14 (Value.string { data := #[32] }) (fun t15 w =>
  M.call Try.prog 34 #[t17] (fun t18 w =>
  M.scat t15 t18 (fun t19 w =>
  M.scat t19 (Value.string { data := #[41] }) (fun t20 w =>
  R t20 w) w) w) w) w) w)) w) w) w) w) w) w)
  (M.fieldAddr 0 t4 (fun t22 w =>
  M.load1 t22 (fun t23 w =>
  M.bin .eql t23 (Value.int IntKind.i64 21) (fun t24 w =>
  M.cond t24
  (M.fieldAddr 2 t4 (fun t25 w =>
  M.load1 t25 (fun t26 w =>
  M.call Try.prog 34 #[t26] (fun t27 w =>
  M.scat (Value.string { data := #[120] }) t27 (fun t28 w =>
  R t28 w) w) w) w) w)
  (M.fieldAddr 0 t4 (fun t30 w =>
  M.load1 t30 (fun t31 w =>
  M.bin .eql t31 (Value.int IntKind.i64 12) (fun t32 w =>
  M.gd t32 false (fun k w => M.fieldAddr 0 t4 k w) (fun t34 w =>
  M.gd t32 false (fun k w => M.load1 t34 k w) (fun t35 w =>
  M.gd t32 false (fun k w => M.bin .eql t35 (Value.int IntKind.i64 13) k w) (fun t36 w =>
  M.pick t32 (Value.bool true) t36 (fun t37 w =>
  M.gd t37 false (fun k w => M.fieldAddr 0 t4 k w) (fun t39 w =>
  M.gd t37 false (fun k w => M.load1 t39 k w) (fun t40 w =>
  M.gd t37 false (fun k w => M.bin .eql t40 (Value.int IntKind.i64 14) k w) (fun t41 w =>
  M.pick t37 (Value.bool true) t41 (fun t42 w =>
  M.cond t42
  (M.draw (fun w =>
  M.fieldAddr 0 t4 (fun t43 w =>
  M.load1 t43 (fun t44 w =>
  M.fieldAddr 2 t4 (fun t49 w =>
  M.load1 t49 (fun t50 w =>
  M.indexSl 1 x2 t50 (fun t51 w =>
  M.load1 t51 (fun t52 w =>
  M.fieldAddr 3 t4 (fun t56 w =>
  M.load1 t56 (fun t57 w =>
  M.indexSl 1 x2 t57 (fun t58 w =>
  M.load1 t58 (fun t59 w =>
  M.call Try.prog 57 #[t44] (fun t45 w =>
  ((M.load1 t58 (fun v' _ => v' = t59) w) ∧ ((M.load1 t56 (fun v' _ => v' = t57) w) ∧ ((M.load1 t51 (fun v' _ => v' = t52) w) ∧ ((M.load1 t49 (fun v' _ => v' = t50) w) ∧ M.scat (Value.string { data := #[40, 105, 116, 101, 32, 40] }) t45 (fun t46 w =>
  M.scat t46 (Value.string { data := #[32] }) (fun t47 w =>
  M.scat t47 t52 (fun t53 w =>
  M.scat t53 (Value.string { data := #[32] }) (fun t54 w =>
  M.scat t54 t59 (fun t60 w =>
  M.scat t60 (Value.string { data := #[41, 32] }) (fun t61 w =>
  M.scat t61 (Value.string { data := #[40, 95, 32, 98, 118, 49, 32, 49, 41] }) (fun t62 w =>
  M.scat t62 (Value.string { data := #[32, 40, 95, 32, 98, 118, 48, 32, 49, 41, 41] }) (fun t63 w =>
  R t63 w) w) w) w) w) w) w) w) w))))) w) w) w) w) w) w) w) w) w) w) w) w)
  (M.fieldAddr 0 t4 (fun t65 w =>
  M.load1 t65 (fun t66 w =>
  M.bin .eql t66 (Value.int IntKind.i64 15) (fun t67 w =>
  M.gd t67 false (fun k w => M.fieldAddr 0 t4 k w) (fun t69 w =>
  M.gd t67 false (fun k w => M.load1 t69 k w) (fun t70 w =>
  M.gd t67 false (fun k w => M.bin .eql t70 (Value.int IntKind.i64 16) k w) (fun t71 w =>
  M.pick t67 (Value.bool true) t71 (fun t72 w =>
  M.cond t72
  (M.draw (fun w =>
  M.fieldAddr 0 t4 (fun t73 w =>
  M.load1 t73 (fun t74 w =>
  M.fieldAddr 2 t4 (fun t79 w =>
  M.load1 t79 (fun t80 w =>
  M.indexSl 1 x2 t80 (fun t81 w =>
  M.load1 t81 (fun t82 w =>
  M.call Try.prog 57 #[t74] (fun t75 w =>
  ((M.load1 t81 (fun v' _ => v' = t82) w) ∧ ((M.load1 t79 (fun v' _ => v' = t80) w) ∧ M.scat (Value.string { data := #[40] }) t75 (fun t76 w =>
  M.scat t76 (Value.string { data := #[32] }) (fun t77 w =>
  M.scat t77 t82 (fun t83 w =>
  M.scat t83 (Value.string { data := #[41] }) (fun t84 w =>
  R t84 w) w) w) w) w))) w) w) w) w) w) w) w) w)
  (M.fieldAddr 0 t4 (fun t86 w =>
  M.load1 t86 (fun t87 w =>
  M.bin .eql t87 (Value.int IntKind.i64 22) (fun t88 w =>
  M.cond t88
  (M.draw (fun w =>
  M.fieldAddr 2 t4 (fun t90 w =>
  M.load1 t90 (fun t91 w =>
  M.indexSl 1 x2 t91 (fun t92 w =>
  M.load1 t92 (fun t93 w =>
  M.scat (Value.string { data := #[40, 105, 116, 101, 32, 40, 61, 32] }) t93 (fun t94 w =>
  M.scat t94 (Value.string { data := #[32] }) (fun t95 w =>
  M.scat t95 (Value.string { data := #[40, 95, 32, 98, 118, 49, 32, 49, 41] }) (fun t96 w =>
  M.scat t96 (Value.string { data := #[41, 32] }) (fun t97 w =>
  M.fieldAddr 3 t4 (fun t99 w =>
  M.load1 t99 (fun t100 w =>
  M.indexSl 1 x2 t100 (fun t101 w =>
  M.load1 t101 (fun t102 w =>
  M.scat t97 t102 (fun t103 w =>
  M.scat t103 (Value.string { data := #[32] }) (fun t104 w =>
  M.fieldAddr 4 t4 (fun t106 w =>
  M.load1 t106 (fun t107 w =>
  M.indexSl 1 x2 t107 (fun t108 w =>
  M.load1 t108 (fun t109 w =>
  M.scat t104 t109 (fun t110 w =>
  M.scat t110 (Value.string { data := #[41] }) (fun t111 w =>
  R t111 w) w) w) w) w) w) w) w) w) w) w) w) w) w) w) w) w) w) w) w) w) w)
  (M.fieldAddr 0 t4 (fun t113 w =>
  M.load1 t113 (fun t114 w =>
  M.bin .eql t114 (Value.int IntKind.i64 23) (fun t115 w =>
  M.cond t115
  (M.draw (fun w =>
  M.fieldAddr 3 t4 (fun t116 w =>
  M.load1 t116 (fun t117 w =>
  M.fieldAddr 1 t4 (fun t118 w =>
  M.load1 t118 (fun t119 w =>
  M.bin .add t117 t119 (fun t120 w =>
  M.bin .sub t120 (Value.int IntKind.i64 1) (fun t121 w =>
  M.fieldAddr 3 t4 (fun t125 w =>
  M.load1 t125 (fun t126 w =>
  M.fieldAddr 2 t4 (fun t131 w =>
  M.load1 t131 (fun t132 w =>
  M.indexSl 1 x2 t132 (fun t133 w =>
  M.load1 t133 (fun t134 w =>
  M.call Try.prog 34 #[t121] (fun t122 w =>
  ((M.load1 t133 (fun v' _ => v' = t134) w) ∧ ((M.load1 t131 (fun v' _ => v' = t132) w) ∧ ((M.load1 t125 (fun v' _ => v' = t126) w) ∧ ((M.load1 t118 (fun v' _ => v' = t119) w) ∧ ((M.load1 t116 (fun v' _ => v' = t117) w) ∧ M.scat (Value.string { data := #[40, 40, 95, 32, 101, 120, 116, 114, 97, 99, 116, 32] }) t122 (fun t123 w =>
  M.scat t123 (Value.string { data := #[32] }) (fun t124 w =>
  M.call Try.prog 34 #[t126] (fun t127 w =>
  ((M.load1 t133 (fun v' _ => v' = t134) w) ∧ ((M.load1 t131 (fun v' _ => v' = t132) w) ∧ ((M.load1 t118 (fun v' _ => v' = t119) w) ∧ ((M.load1 t116 (fun v' _ => v' = t117) w) ∧ M.scat t124 t127 (fun t128 w =>
  M.scat t128 (Value.string { data := #[41, 32] }) (fun t129 w =>
  M.scat t129 t134 (fun t135 w =>
  M.scat t135 (Value.string { data := #[41] }) (fun t136 w =>
  R t136 w) w) w) w) w))))) w) w) w)))))) w) w) w) w) w) w) w) w) w) w) w) w) w) w)
  (M.fieldAddr 0 t4 (fun t138 w =>
  M.load1 t138 (fun t139 w =>
  M.bin .eql t139 (Value.int IntKind.i64 25) (fun t140 w =>
  M.cond t140
  (M.draw (fun w =>
  M.fieldAddr 1 t4 (fun t141 w =>
  M.load1 t141 (fun t142 w =>
  M.loadA 2 t3 (fun t143 w =>
  M.fieldAddr 2 t4 (fun t144 w =>
  M.load1 t144 (fun t145 w =>
  M.fieldAddr 2 t4 (fun t152 w =>
  M.load1 t152 (fun t153 w =>
  M.indexSl 1 x2 t153 (fun t154 w =>
  M.load1 t154 (fun t155 w =>
  M.call Try.prog 31 #[t143, t145] (fun t146 w =>
  ((M.load1 t154 (fun v' _ => v' = t155) w) ∧ ((M.load1 t152 (fun v' _ => v' = t153) w) ∧ ((M.load1 t141 (fun v' _ => v' = t142) w) ∧ M.bin .sub t142 t146 (fun t147 w =>
  M.call Try.prog 34 #[t147] (fun t148 w =>
  ((M.load1 t154 (fun v' _ => v' = t155) w) ∧ ((M.load1 t152 (fun v' _ => v' = t153) w) ∧ ((M.load1 t141 (fun v' _ => v' = t142) w) ∧ M.scat (Value.string { data := #[40, 40, 95, 32, 122, 101, 114, 111, 95, 101, 120, 116, 101, 110, 100, 32] }) t148 (fun t149 w =>
  M.scat t149 (Value.string { data := #[41, 32] }) (fun t150 w =>
  M.scat t150 t155 (fun t156 w =>
  M.scat t156 (Value.string { data := #[41] }) (fun t157 w =>
  R t157 w) w) w) w) w)))) w) w)))) w) w) w) w) w) w) w) w) w) w) w)
  (M.fieldAddr 0 t4 (fun t159 w =>
  M.load1 t159 (fun t160 w =>
  M.bin .eql t160 (Value.int IntKind.i64 26) (fun t161 w =>
  M.cond t161
  (M.draw (fun w =>
  M.fieldAddr 1 t4 (fun t162 w =>
  M.load1 t162 (fun t163 w =>
  M.loadA 2 t3 (fun t164 w =>
  M.fieldAddr 2 t4 (fun t165 w =>
  M.load1 t165 (fun t166 w =>
  M.fieldAddr 2 t4 (fun t173 w =>
  M.load1 t173 (fun t174 w =>
  M.indexSl 1 x2 t174 (fun t175 w =>
  M.load1 t175 (fun t176 w =>
  M.call Try.prog 31 #[t164, t166] (fun t167 w =>
  ((M.load1 t175 (fun v' _ => v' = t176) w) ∧ ((M.load1 t173 (fun v' _ => v' = t174) w) ∧ ((M.load1 t162 (fun v' _ => v' = t163) w) ∧ M.bin .sub t163 t167 (fun t168 w =>
  M.call Try.prog 34 #[t168] (fun t169 w =>
  ((M.load1 t175 (fun v' _ => v' = t176) w) ∧ ((M.load1 t173 (fun v' _ => v' = t174) w) ∧ ((M.load1 t162 (fun v' _ => v' = t163) w) ∧ M.scat (Value.string { data := #[40, 40, 95, 32, 115, 105, 103, 110, 95, 101, 120, 116, 101, 110, 100, 32] }) t169 (fun t170 w =>
  M.scat t170 (Value.string { data := #[41, 32] }) (fun t171 w =>
  M.scat t171 t176 (fun t177 w =>
  M.scat t177 (Value.string { data := #[41] }) (fun t178 w =>
  R t178 w) w) w) w) w)))) w) w)))) w) w) w) w) w) w) w) w) w) w) w)
  (M.draw (fun w =>
  M.fieldAddr 0 t4 (fun t179 w =>
  M.load1 t179 (fun t180 w =>
  M.fieldAddr 2 t4 (fun t185 w =>
  M.load1 t185 (fun t186 w =>
  M.indexSl 1 x2 t186 (fun t187 w =>
  M.load1 t187 (fun t188 w =>
  M.fieldAddr 3 t4 (fun t192 w =>
  M.load1 t192 (fun t193 w =>
  M.indexSl 1 x2 t193 (fun t194 w =>
  M.load1 t194 (fun t195 w =>
  M.call Try.prog 57 #[t180] (fun t181 w =>
  ((M.load1 t194 (fun v' _ => v' = t195) w) ∧ ((M.load1 t192 (fun v' _ => v' = t193) w) ∧ ((M.load1 t187 (fun v' _ => v' = t188) w) ∧ ((M.load1 t185 (fun v' _ => v' = t186) w) ∧ M.scat (Value.string { data := #[40] }) t181 (fun t182 w =>
  M.scat t182 (Value.string { data := #[32] }) (fun t183 w =>
  M.scat t183 t188 (fun t189 w =>
  M.scat t189 (Value.string { data := #[32] }) (fun t190 w =>
  M.scat t190 t195 (fun t196 w =>
  M.scat t196 (Value.string { data := #[41] }) (fun t197 w =>
  R t197 w) w) w) w) w) w) w))))) w) w) w) w) w) w) w) w) w) w) w) w)) w) w) w)) w) w) w)) w) w) w)) w) w) w)) w) w) w) w) w) w) w)) w) w) w) w) w) w) w) w) w) w) w)) w) w) w)) w) w) w) w) w
theorem ok27 (x0 x1 x2 : Value) (R : Kt) (w : World) (h : sh27 x0 x1 x2 R w) : Ret Try.prog 27 #[x0, x1, x2] w R :=
  ret_mk <| calls_of_comp mixed (c := Try.f27.body.getD .skip) (args := [x0, x1, x2]) (rs := [(ResultVar.tmp 6)]) (Ann.seq Ann.text (Ann.seq (Ann.block (Ann.seq Ann.text (Ann.cond (Ann.seq (Ann.draw (Sch.take 0 (Sch.take 1 (Sch.take 5 (Sch.take 6 (Sch.one 2 (Sch.take 3 (Sch.take 4 (Sch.one 7 (Sch.take 8 (Sch.take 9 (Sch.take 10 Sch.done)))))))))))) Ann.leaf) (Ann.seq Ann.text (Ann.cond (Ann.seq Ann.text Ann.leaf) (Ann.seq Ann.text (Ann.cond (Ann.seq (Ann.draw (Sch.take 0 (Sch.take 1 (Sch.take 5 (Sch.take 6 (Sch.take 7 (Sch.take 8 (Sch.take 9 (Sch.take 12 (Sch.take 13 (Sch.take 14 (Sch.take 15 (Sch.take 16 (Sch.one 2 (Sch.take 3 (Sch.take 4 (Sch.take 10 (Sch.take 11 (Sch.take 17 (Sch.take 18 (Sch.take 19 (Sch.take 20 (Sch.take 21 Sch.done))))))))))))))))))))))) Ann.leaf) (Ann.seq Ann.text (Ann.cond (Ann.seq (Ann.draw (Sch.take 0 (Sch.take 1 (Sch.take 5 (Sch.take 6 (Sch.take 7 (Sch.take 8 (Sch.take 9 (Sch.one 2 (Sch.take 3 (Sch.take 4 (Sch.take 10 (Sch.take 11 (Sch.take 12 Sch.done)))))))))))))) Ann.leaf) (Ann.seq Ann.text (Ann.cond (Ann.seq (Ann.draw (Sch.take 0 (Sch.take 1 (Sch.take 2 (Sch.take 3 (Sch.take 4 (Sch.take 5 (Sch.take 6 (Sch.take 7 (Sch.take 8 (Sch.take 9 (Sch.take 10 (Sch.take 11 (Sch.take 12 (Sch.take 13 (Sch.take 14 (Sch.take 15 (Sch.take 16 (Sch.take 17 (Sch.take 18 (Sch.take 19 (Sch.take 20 (Sch.take 21 (Sch.take 22 (Sch.take 23 Sch.done))))))))))))))))))))))))) Ann.leaf) (Ann.seq Ann.text (Ann.cond (Ann.seq (Ann.draw (Sch.take 0 (Sch.take 1 (Sch.take 2 (Sch.take 3 (Sch.take 4 (Sch.take 5 (Sch.take 9 (Sch.take 10 (Sch.take 14 (Sch.take 15 (Sch.take 16 (Sch.take 17 (Sch.take 18 (Sch.one 6 (Sch.take 7 (Sch.take 8 (Sch.one 11 (Sch.take 12 (Sch.take 13 (Sch.take 19 (Sch.take 20 (Sch.take 21 Sch.done))))))))))))))))))))))) Ann.leaf) (Ann.seq Ann.text (Ann.cond (Ann.seq (Ann.draw (Sch.take 0 (Sch.take 1 (Sch.take 2 (Sch.take 3 (Sch.take 4 (Sch.take 10 (Sch.take 11 (Sch.take 12 (Sch.take 13 (Sch.take 14 (Sch.one 5 (Sch.take 6 (Sch.one 7 (Sch.take 8 (Sch.take 9 (Sch.take 15 (Sch.take 16 (Sch.take 17 Sch.done))))))))))))))))))) Ann.leaf) (Ann.seq Ann.text (Ann.cond (Ann.seq (Ann.draw (Sch.take 0 (Sch.take 1 (Sch.take 2 (Sch.take 3 (Sch.take 4 (Sch.take 10 (Sch.take 11 (Sch.take 12 (Sch.take 13 (Sch.take 14 (Sch.one 5 (Sch.take 6 (Sch.one 7 (Sch.take 8 (Sch.take 9 (Sch.take 15 (Sch.take 16 (Sch.take 17 Sch.done))))))))))))))))))) Ann.leaf) Ann.leaf))))))))))))))))) (Ann.seq (Ann.draw (Sch.take 0 (Sch.take 1 (Sch.take 5 (Sch.take 6 (Sch.take 7 (Sch.take 8 (Sch.take 9 (Sch.take 12 (Sch.take 13 (Sch.take 14 (Sch.take 15 (Sch.take 16 (Sch.one 2 (Sch.take 3 (Sch.take 4 (Sch.take 10 (Sch.take 11 (Sch.take 17 (Sch.take 18 (Sch.take 19 Sch.done))))))))))))))))))))) Ann.leaf)))
    Try.func27 (by kernel_rfl) (by kernel_rfl)
    (Eq.mp (by kernel_rfl) h)

set_option maxHeartbeats 16000000 in
theorem one54_ret {w : World} {D D0 : Nat → Prop} {N NN : List Nd} {most : Int} {n : Nd} {x0 v : Value} {ls : List Bt} {o : Bt} (hd : RD w D0 x0 N most) (hG : GoodN N) (hn : goodN NN n) (hl : LV vs w D v ls) (hk : ∀ k ∈ kidsN n, 0 ≤ k ∧ k < ls.length) (hlen : ∀ l ∈ ls, l.length ≤ 4096) (hone : o = oneB N n (fun k => ls.getD k.toNat [])) :
    Ret Try.prog 27 #[x0, encN n, v] w (fun r w' => r = vs o ∧ Keep w w' No) := by
  obtain ⟨A, c, rfl, hr, _⟩ := hl
  obtain ⟨A0, cap0, rfl, hr0⟩ := id hd
  obtain ⟨⟨hw1, hw2⟩, _, hcs⟩ := hn
  have hwd : 0 ≤ wdN N n.a ∧ wdN N n.a ≤ 64 := by
    cases h : isN N n.a with
    | true => have := hG.wd h; omega
    | false => rw [wdN_none h]; omega
  have ho := op_len n.op
  have hn1 := num_len n.wd
  have hn2 := num_len n.a
  have hn3 := num_len n.b
  have hn4 := num_len (n.wd - wdN N n.a)
  have hn5 := num_len (n.b + n.wd - 1)
  have hn6 := val_len n.val
  have hop : (1 ≤ n.op ∧ n.op ≤ 16) ∨ (20 ≤ n.op ∧ n.op ≤ 26) := by
    rcases hcs with h | h | h | h | h | h | h | h <;> omega
  have hb23 : n.op = 23 → 0 ≤ n.b ∧ n.b ≤ 64 := fun h => by
    rcases hcs with h | h | h | h | h | h | h | h <;> omega
  clear hcs
  have get : ∀ k : Int, 0 ≤ k ∧ k < ls.length → ls[k.toNat]? = some (ls.getD k.toNat []) := fun k h => by
    rw [List.getD_eq_getElem?_getD, List.getElem?_eq_getElem (by omega)]; rfl
  have len : ∀ k : Int, 0 ≤ k ∧ k < ls.length → (ls.getD k.toNat []).length ≤ 4096 := fun k h => hlen _ (List.mem_of_getElem? (get k h))
  refine ok27 _ _ _ _ _ ?_
  unfold sh27
  refine M.new_i (l := [.slice A0 N.length cap0, vi most]) (fun w1 c3 k1 s1 => ?_)
  refine M.new_i (l := n.cells) (fun w2 c4 k2 s2 => ?_)
  have c4 : Blk w2 w1.heap.size [vi n.op, vi n.wd, vi n.a, vi n.b, vi n.c, vw n.val] := c4
  have c3 := c3.keep k2 (fun h => h)
  have q : Keep w w2 No := k1.trans k2 (fun _ _ h => h)
  have hr := hr.keep q (fun _ _ _ h => h)
  have hd := hd.keep q (fun _ _ _ h => h)
  by_cases e20 : n.op = 20
  ·
    have hp : pcsN N n = [tP (([40, 95, 32, 98, 118] : List UInt8) ++ digB n.val.toNat ++ ([32] : List UInt8) ++ numB n.wd ++ ([41] : List UInt8))] := by unfold pcsN; rw [if_pos e20]
    (repeat (first|refine ja ?_|refine jb ?_|refine jc ?_|refine jd ?_|refine je ?_|refine jf ?_|refine jg ?_|refine jh ?_|refine ji ?_|refine jj ?_|refine jk ?_|refine jl ?_|refine jm ?_|refine jn ?_|refine jo ?_|refine jp ?_|refine jq ?_|refine jr ?_|refine js ?_|refine jt ?_|refine ju ?_|refine jv ?_|refine jw ?_|refine jx ?_|refine jy ?_|refine jz ?_|refine jA ?_|refine jB ?_|refine jC ?_|refine jD ?_|refine jE ?_|refine jF ?_|refine jG ?_|refine jH ?_|refine jI ?_|refine jJ ?_|refine jK ?_|refine jL ?_|refine jM (by assumption) ?_|refine jN (by assumption) rfl ?_|refine jO (by assumption) ?_|refine jP (by assumption) rfl ?_|refine jQ ?_|refine jR ?_|refine jS ?_|refine jT ?_|refine jU (by assumption) rfl ?_))
    have k3 := Keep.drew w2 No
    have c3 := c3.keep k3 (fun h => h)
    have c4 := c4.keep k3 (fun h => h)
    try have ea := k3.cell (fun h => h) ea
    try have eb := k3.cell (fun h => h) eb
    try have ec := k3.cell (fun h => h) ec
    have hr := hr.keep k3 (fun _ _ _ h => h)
    have hd := hd.keep k3 (fun _ _ _ h => h)
    have q := q.trans k3 (fun _ _ h => h)
    repeat (first | (first|refine ja ?_|refine jb ?_|refine jc ?_|refine jd ?_|refine je ?_|refine jf ?_|refine jg ?_|refine jh ?_|refine ji ?_|refine jj ?_|refine jk ?_|refine jl ?_|refine jm ?_|refine jn ?_|refine jo ?_|refine jp ?_|refine jq ?_|refine jr ?_|refine js ?_|refine jt ?_|refine ju ?_|refine jv ?_|refine jw ?_|refine jx ?_|refine jy ?_|refine jz ?_|refine jA ?_|refine jB ?_|refine jC ?_|refine jD ?_|refine jE ?_|refine jF ?_|refine jG ?_|refine jH ?_|refine jI ?_|refine jJ ?_|refine jK ?_|refine jL ?_|refine jM (by assumption) ?_|refine jN (by assumption) rfl ?_|refine jO (by assumption) ?_|refine jP (by assumption) rfl ?_|refine jQ ?_|refine jR ?_|refine jS ?_|refine jT ?_|refine jU (by assumption) rfl ?_) | refine M.str_i (by simp only [List.length_append, List.length_cons, List.length_nil]; omega) ?_ | refine M.idxLV_i hr rfl ha.1 ha.2 ga (fun bba ooa hAa ea => ?_) | refine M.idxLV_i hr rfl hb.1 hb.2 gb (fun bbb oob hAb eb => ?_) | refine M.idxLV_i hr rfl hc.1 hc.2 gc (fun bbc ooc hAc ec => ?_))
    refine M.call_i (rdigits_ret (BitVec.isLt n.val) w2.drew) ?_; rintro _ w4 ⟨rfl, k4⟩
    have c3 := c3.keep k4 (fun h => h)
    have c4 := c4.keep k4 (fun h => h)
    try have ea := k4.cell (fun h => h) ea
    try have eb := k4.cell (fun h => h) eb
    try have ec := k4.cell (fun h => h) ec
    have hr := hr.keep k4 (fun _ _ _ h => h)
    have hd := hd.keep k4 (fun _ _ _ h => h)
    have q := q.trans k4 (fun _ _ h => h)
    repeat (first | (first|refine ja ?_|refine jb ?_|refine jc ?_|refine jd ?_|refine je ?_|refine jf ?_|refine jg ?_|refine jh ?_|refine ji ?_|refine jj ?_|refine jk ?_|refine jl ?_|refine jm ?_|refine jn ?_|refine jo ?_|refine jp ?_|refine jq ?_|refine jr ?_|refine js ?_|refine jt ?_|refine ju ?_|refine jv ?_|refine jw ?_|refine jx ?_|refine jy ?_|refine jz ?_|refine jA ?_|refine jB ?_|refine jC ?_|refine jD ?_|refine jE ?_|refine jF ?_|refine jG ?_|refine jH ?_|refine jI ?_|refine jJ ?_|refine jK ?_|refine jL ?_|refine jM (by assumption) ?_|refine jN (by assumption) rfl ?_|refine jO (by assumption) ?_|refine jP (by assumption) rfl ?_|refine jQ ?_|refine jR ?_|refine jS ?_|refine jT ?_|refine jU (by assumption) rfl ?_) | refine M.str_i (by simp only [List.length_append, List.length_cons, List.length_nil]; omega) ?_ | refine M.idxLV_i hr rfl ha.1 ha.2 ga (fun bba ooa hAa ea => ?_) | refine M.idxLV_i hr rfl hb.1 hb.2 gb (fun bbb oob hAb eb => ?_) | refine M.idxLV_i hr rfl hc.1 hc.2 gc (fun bbc ooc hAc ec => ?_))
    refine M.call_i (rnumber_ret _ w4) ?_; rintro _ w5 ⟨rfl, k5⟩
    have c3 := c3.keep k5 (fun h => h)
    have c4 := c4.keep k5 (fun h => h)
    try have ea := k5.cell (fun h => h) ea
    try have eb := k5.cell (fun h => h) eb
    try have ec := k5.cell (fun h => h) ec
    have hr := hr.keep k5 (fun _ _ _ h => h)
    have hd := hd.keep k5 (fun _ _ _ h => h)
    have q := q.trans k5 (fun _ _ h => h)
    repeat (first | (first|refine ja ?_|refine jb ?_|refine jc ?_|refine jd ?_|refine je ?_|refine jf ?_|refine jg ?_|refine jh ?_|refine ji ?_|refine jj ?_|refine jk ?_|refine jl ?_|refine jm ?_|refine jn ?_|refine jo ?_|refine jp ?_|refine jq ?_|refine jr ?_|refine js ?_|refine jt ?_|refine ju ?_|refine jv ?_|refine jw ?_|refine jx ?_|refine jy ?_|refine jz ?_|refine jA ?_|refine jB ?_|refine jC ?_|refine jD ?_|refine jE ?_|refine jF ?_|refine jG ?_|refine jH ?_|refine jI ?_|refine jJ ?_|refine jK ?_|refine jL ?_|refine jM (by assumption) ?_|refine jN (by assumption) rfl ?_|refine jO (by assumption) ?_|refine jP (by assumption) rfl ?_|refine jQ ?_|refine jR ?_|refine jS ?_|refine jT ?_|refine jU (by assumption) rfl ?_) | refine M.str_i (by simp only [List.length_append, List.length_cons, List.length_nil]; omega) ?_ | refine M.idxLV_i hr rfl ha.1 ha.2 ga (fun bba ooa hAa ea => ?_) | refine M.idxLV_i hr rfl hb.1 hb.2 gb (fun bbb oob hAb eb => ?_) | refine M.idxLV_i hr rfl hc.1 hc.2 gc (fun bbc ooc hAc ec => ?_))
    exact ⟨by rw [hone]; unfold oneB; rw [hp]; simp [rendP, tP, iP, hp], q⟩
  by_cases e21 : n.op = 21
  ·
    have hp : pcsN N n = [tP (([120] : List UInt8) ++ numB n.a)] := by unfold pcsN; rw [if_neg e20, if_pos e21]
    (repeat (first|refine ja ?_|refine jb ?_|refine jc ?_|refine jd ?_|refine je ?_|refine jf ?_|refine jg ?_|refine jh ?_|refine ji ?_|refine jj ?_|refine jk ?_|refine jl ?_|refine jm ?_|refine jn ?_|refine jo ?_|refine jp ?_|refine jq ?_|refine jr ?_|refine js ?_|refine jt ?_|refine ju ?_|refine jv ?_|refine jw ?_|refine jx ?_|refine jy ?_|refine jz ?_|refine jA ?_|refine jB ?_|refine jC ?_|refine jD ?_|refine jE ?_|refine jF ?_|refine jG ?_|refine jH ?_|refine jI ?_|refine jJ ?_|refine jK ?_|refine jL ?_|refine jM (by assumption) ?_|refine jN (by assumption) rfl ?_|refine jO (by assumption) ?_|refine jP (by assumption) rfl ?_|refine jQ ?_|refine jR ?_|refine jS ?_|refine jT ?_|refine jU (by assumption) rfl ?_))
    refine M.call_i (rnumber_ret _ w2) ?_; rintro _ w3 ⟨rfl, k3⟩
    have c3 := c3.keep k3 (fun h => h)
    have c4 := c4.keep k3 (fun h => h)
    try have ea := k3.cell (fun h => h) ea
    try have eb := k3.cell (fun h => h) eb
    try have ec := k3.cell (fun h => h) ec
    have hr := hr.keep k3 (fun _ _ _ h => h)
    have hd := hd.keep k3 (fun _ _ _ h => h)
    have q := q.trans k3 (fun _ _ h => h)
    (repeat (first|refine ja ?_|refine jb ?_|refine jc ?_|refine jd ?_|refine je ?_|refine jf ?_|refine jg ?_|refine jh ?_|refine ji ?_|refine jj ?_|refine jk ?_|refine jl ?_|refine jm ?_|refine jn ?_|refine jo ?_|refine jp ?_|refine jq ?_|refine jr ?_|refine js ?_|refine jt ?_|refine ju ?_|refine jv ?_|refine jw ?_|refine jx ?_|refine jy ?_|refine jz ?_|refine jA ?_|refine jB ?_|refine jC ?_|refine jD ?_|refine jE ?_|refine jF ?_|refine jG ?_|refine jH ?_|refine jI ?_|refine jJ ?_|refine jK ?_|refine jL ?_|refine jM (by assumption) ?_|refine jN (by assumption) rfl ?_|refine jO (by assumption) ?_|refine jP (by assumption) rfl ?_|refine jQ ?_|refine jR ?_|refine jS ?_|refine jT ?_|refine jU (by assumption) rfl ?_))
    refine M.str_i (by simp only [List.length_append, List.length_cons, List.length_nil]; omega) ?_
    (repeat (first|refine ja ?_|refine jb ?_|refine jc ?_|refine jd ?_|refine je ?_|refine jf ?_|refine jg ?_|refine jh ?_|refine ji ?_|refine jj ?_|refine jk ?_|refine jl ?_|refine jm ?_|refine jn ?_|refine jo ?_|refine jp ?_|refine jq ?_|refine jr ?_|refine js ?_|refine jt ?_|refine ju ?_|refine jv ?_|refine jw ?_|refine jx ?_|refine jy ?_|refine jz ?_|refine jA ?_|refine jB ?_|refine jC ?_|refine jD ?_|refine jE ?_|refine jF ?_|refine jG ?_|refine jH ?_|refine jI ?_|refine jJ ?_|refine jK ?_|refine jL ?_|refine jM (by assumption) ?_|refine jN (by assumption) rfl ?_|refine jO (by assumption) ?_|refine jP (by assumption) rfl ?_|refine jQ ?_|refine jR ?_|refine jS ?_|refine jT ?_|refine jU (by assumption) rfl ?_))
    exact ⟨by rw [hone]; unfold oneB; rw [hp]; simp [rendP, tP, iP, hp], q⟩
  by_cases e12 : n.op = 12 ∨ n.op = 13 ∨ n.op = 14
  ·
    have hp : pcsN N n = [tP (([40, 105, 116, 101, 32, 40] : List UInt8) ++ opB n.op ++ ([32] : List UInt8)), iP n.a, tP (([32] : List UInt8)), iP n.b, tP (([41, 32, 40, 95, 32, 98, 118, 49, 32, 49, 41, 32, 40, 95, 32, 98, 118, 48, 32, 49, 41, 41] : List UInt8))] := by unfold pcsN; rw [if_neg e20, if_neg e21, if_pos e12]
    have ek : kidsN n = [n.a, n.b] := by unfold kidsN; rw [if_neg (by omega), if_neg (by omega), if_pos (by omega)]
    rw [ek] at hk
    have ha := hk n.a (by simp); have ga := get _ ha; have la := len _ ha
    have hb := hk n.b (by simp); have gb := get _ hb; have lb := len _ hb
    rcases e12 with e | e | e
    all_goals
      (repeat (first|refine ja ?_|refine jb ?_|refine jc ?_|refine jd ?_|refine je ?_|refine jf ?_|refine jg ?_|refine jh ?_|refine ji ?_|refine jj ?_|refine jk ?_|refine jl ?_|refine jm ?_|refine jn ?_|refine jo ?_|refine jp ?_|refine jq ?_|refine jr ?_|refine js ?_|refine jt ?_|refine ju ?_|refine jv ?_|refine jw ?_|refine jx ?_|refine jy ?_|refine jz ?_|refine jA ?_|refine jB ?_|refine jC ?_|refine jD ?_|refine jE ?_|refine jF ?_|refine jG ?_|refine jH ?_|refine jI ?_|refine jJ ?_|refine jK ?_|refine jL ?_|refine jM (by assumption) ?_|refine jN (by assumption) rfl ?_|refine jO (by assumption) ?_|refine jP (by assumption) rfl ?_|refine jQ ?_|refine jR ?_|refine jS ?_|refine jT ?_|refine jU (by assumption) rfl ?_))
      have k3 := Keep.drew w2 No
      have c3 := c3.keep k3 (fun h => h)
      have c4 := c4.keep k3 (fun h => h)
      try have ea := k3.cell (fun h => h) ea
      try have eb := k3.cell (fun h => h) eb
      try have ec := k3.cell (fun h => h) ec
      have hr := hr.keep k3 (fun _ _ _ h => h)
      have hd := hd.keep k3 (fun _ _ _ h => h)
      have q := q.trans k3 (fun _ _ h => h)
      repeat (first | (first|refine ja ?_|refine jb ?_|refine jc ?_|refine jd ?_|refine je ?_|refine jf ?_|refine jg ?_|refine jh ?_|refine ji ?_|refine jj ?_|refine jk ?_|refine jl ?_|refine jm ?_|refine jn ?_|refine jo ?_|refine jp ?_|refine jq ?_|refine jr ?_|refine js ?_|refine jt ?_|refine ju ?_|refine jv ?_|refine jw ?_|refine jx ?_|refine jy ?_|refine jz ?_|refine jA ?_|refine jB ?_|refine jC ?_|refine jD ?_|refine jE ?_|refine jF ?_|refine jG ?_|refine jH ?_|refine jI ?_|refine jJ ?_|refine jK ?_|refine jL ?_|refine jM (by assumption) ?_|refine jN (by assumption) rfl ?_|refine jO (by assumption) ?_|refine jP (by assumption) rfl ?_|refine jQ ?_|refine jR ?_|refine jS ?_|refine jT ?_|refine jU (by assumption) rfl ?_) | refine M.str_i (by simp only [List.length_append, List.length_cons, List.length_nil]; omega) ?_ | refine M.idxLV_i hr rfl ha.1 ha.2 ga (fun bba ooa hAa ea => ?_) | refine M.idxLV_i hr rfl hb.1 hb.2 gb (fun bbb oob hAb eb => ?_) | refine M.idxLV_i hr rfl hc.1 hc.2 gc (fun bbc ooc hAc ec => ?_))
      refine M.call_i (rword_ret (op := n.op) (by omega) w2.drew) ?_; rintro _ w4 ⟨rfl, k4⟩
      have c3 := c3.keep k4 (fun h => h)
      have c4 := c4.keep k4 (fun h => h)
      try have ea := k4.cell (fun h => h) ea
      try have eb := k4.cell (fun h => h) eb
      try have ec := k4.cell (fun h => h) ec
      have hr := hr.keep k4 (fun _ _ _ h => h)
      have hd := hd.keep k4 (fun _ _ _ h => h)
      have q := q.trans k4 (fun _ _ h => h)
      repeat (first | (first|refine ja ?_|refine jb ?_|refine jc ?_|refine jd ?_|refine je ?_|refine jf ?_|refine jg ?_|refine jh ?_|refine ji ?_|refine jj ?_|refine jk ?_|refine jl ?_|refine jm ?_|refine jn ?_|refine jo ?_|refine jp ?_|refine jq ?_|refine jr ?_|refine js ?_|refine jt ?_|refine ju ?_|refine jv ?_|refine jw ?_|refine jx ?_|refine jy ?_|refine jz ?_|refine jA ?_|refine jB ?_|refine jC ?_|refine jD ?_|refine jE ?_|refine jF ?_|refine jG ?_|refine jH ?_|refine jI ?_|refine jJ ?_|refine jK ?_|refine jL ?_|refine jM (by assumption) ?_|refine jN (by assumption) rfl ?_|refine jO (by assumption) ?_|refine jP (by assumption) rfl ?_|refine jQ ?_|refine jR ?_|refine jS ?_|refine jT ?_|refine jU (by assumption) rfl ?_) | refine M.str_i (by simp only [List.length_append, List.length_cons, List.length_nil]; omega) ?_ | refine M.idxLV_i hr rfl ha.1 ha.2 ga (fun bba ooa hAa ea => ?_) | refine M.idxLV_i hr rfl hb.1 hb.2 gb (fun bbb oob hAb eb => ?_) | refine M.idxLV_i hr rfl hc.1 hc.2 gc (fun bbc ooc hAc ec => ?_))
      exact ⟨by rw [hone]; unfold oneB; rw [hp]; simp [rendP, tP, iP, Int.not_lt.2 ha.1, Int.not_lt.2 hb.1], q⟩
  by_cases e15 : n.op = 15 ∨ n.op = 16
  ·
    have hp : pcsN N n = [tP (([40] : List UInt8) ++ opB n.op ++ ([32] : List UInt8)), iP n.a, tP (([41] : List UInt8))] := by unfold pcsN; rw [if_neg e20, if_neg e21, if_neg e12, if_pos e15]
    have ek : kidsN n = [n.a] := by unfold kidsN; rw [if_neg (by omega), if_neg (by omega), if_neg (by omega)]
    rw [ek] at hk
    have ha := hk n.a (by simp); have ga := get _ ha; have la := len _ ha
    rcases e15 with e | e
    all_goals
      (repeat (first|refine ja ?_|refine jb ?_|refine jc ?_|refine jd ?_|refine je ?_|refine jf ?_|refine jg ?_|refine jh ?_|refine ji ?_|refine jj ?_|refine jk ?_|refine jl ?_|refine jm ?_|refine jn ?_|refine jo ?_|refine jp ?_|refine jq ?_|refine jr ?_|refine js ?_|refine jt ?_|refine ju ?_|refine jv ?_|refine jw ?_|refine jx ?_|refine jy ?_|refine jz ?_|refine jA ?_|refine jB ?_|refine jC ?_|refine jD ?_|refine jE ?_|refine jF ?_|refine jG ?_|refine jH ?_|refine jI ?_|refine jJ ?_|refine jK ?_|refine jL ?_|refine jM (by assumption) ?_|refine jN (by assumption) rfl ?_|refine jO (by assumption) ?_|refine jP (by assumption) rfl ?_|refine jQ ?_|refine jR ?_|refine jS ?_|refine jT ?_|refine jU (by assumption) rfl ?_))
      have k3 := Keep.drew w2 No
      have c3 := c3.keep k3 (fun h => h)
      have c4 := c4.keep k3 (fun h => h)
      try have ea := k3.cell (fun h => h) ea
      try have eb := k3.cell (fun h => h) eb
      try have ec := k3.cell (fun h => h) ec
      have hr := hr.keep k3 (fun _ _ _ h => h)
      have hd := hd.keep k3 (fun _ _ _ h => h)
      have q := q.trans k3 (fun _ _ h => h)
      repeat (first | (first|refine ja ?_|refine jb ?_|refine jc ?_|refine jd ?_|refine je ?_|refine jf ?_|refine jg ?_|refine jh ?_|refine ji ?_|refine jj ?_|refine jk ?_|refine jl ?_|refine jm ?_|refine jn ?_|refine jo ?_|refine jp ?_|refine jq ?_|refine jr ?_|refine js ?_|refine jt ?_|refine ju ?_|refine jv ?_|refine jw ?_|refine jx ?_|refine jy ?_|refine jz ?_|refine jA ?_|refine jB ?_|refine jC ?_|refine jD ?_|refine jE ?_|refine jF ?_|refine jG ?_|refine jH ?_|refine jI ?_|refine jJ ?_|refine jK ?_|refine jL ?_|refine jM (by assumption) ?_|refine jN (by assumption) rfl ?_|refine jO (by assumption) ?_|refine jP (by assumption) rfl ?_|refine jQ ?_|refine jR ?_|refine jS ?_|refine jT ?_|refine jU (by assumption) rfl ?_) | refine M.str_i (by simp only [List.length_append, List.length_cons, List.length_nil]; omega) ?_ | refine M.idxLV_i hr rfl ha.1 ha.2 ga (fun bba ooa hAa ea => ?_) | refine M.idxLV_i hr rfl hb.1 hb.2 gb (fun bbb oob hAb eb => ?_) | refine M.idxLV_i hr rfl hc.1 hc.2 gc (fun bbc ooc hAc ec => ?_))
      refine M.call_i (rword_ret (op := n.op) (by omega) w2.drew) ?_; rintro _ w4 ⟨rfl, k4⟩
      have c3 := c3.keep k4 (fun h => h)
      have c4 := c4.keep k4 (fun h => h)
      try have ea := k4.cell (fun h => h) ea
      try have eb := k4.cell (fun h => h) eb
      try have ec := k4.cell (fun h => h) ec
      have hr := hr.keep k4 (fun _ _ _ h => h)
      have hd := hd.keep k4 (fun _ _ _ h => h)
      have q := q.trans k4 (fun _ _ h => h)
      repeat (first | (first|refine ja ?_|refine jb ?_|refine jc ?_|refine jd ?_|refine je ?_|refine jf ?_|refine jg ?_|refine jh ?_|refine ji ?_|refine jj ?_|refine jk ?_|refine jl ?_|refine jm ?_|refine jn ?_|refine jo ?_|refine jp ?_|refine jq ?_|refine jr ?_|refine js ?_|refine jt ?_|refine ju ?_|refine jv ?_|refine jw ?_|refine jx ?_|refine jy ?_|refine jz ?_|refine jA ?_|refine jB ?_|refine jC ?_|refine jD ?_|refine jE ?_|refine jF ?_|refine jG ?_|refine jH ?_|refine jI ?_|refine jJ ?_|refine jK ?_|refine jL ?_|refine jM (by assumption) ?_|refine jN (by assumption) rfl ?_|refine jO (by assumption) ?_|refine jP (by assumption) rfl ?_|refine jQ ?_|refine jR ?_|refine jS ?_|refine jT ?_|refine jU (by assumption) rfl ?_) | refine M.str_i (by simp only [List.length_append, List.length_cons, List.length_nil]; omega) ?_ | refine M.idxLV_i hr rfl ha.1 ha.2 ga (fun bba ooa hAa ea => ?_) | refine M.idxLV_i hr rfl hb.1 hb.2 gb (fun bbb oob hAb eb => ?_) | refine M.idxLV_i hr rfl hc.1 hc.2 gc (fun bbc ooc hAc ec => ?_))
      exact ⟨by rw [hone]; unfold oneB; rw [hp]; simp [rendP, tP, iP, Int.not_lt.2 ha.1], q⟩
  by_cases e22 : n.op = 22
  ·
    have hp : pcsN N n = [tP (([40, 105, 116, 101, 32, 40, 61, 32] : List UInt8)), iP n.a, tP (([32, 40, 95, 32, 98, 118, 49, 32, 49, 41, 41, 32] : List UInt8)), iP n.b, tP (([32] : List UInt8)), iP n.c, tP (([41] : List UInt8))] := by unfold pcsN; rw [if_neg e20, if_neg e21, if_neg e12, if_neg e15, if_pos e22]
    have ek : kidsN n = [n.a, n.b, n.c] := by unfold kidsN; rw [if_neg (by omega), if_pos e22]
    rw [ek] at hk
    have ha := hk n.a (by simp); have ga := get _ ha; have la := len _ ha
    have hb := hk n.b (by simp); have gb := get _ hb; have lb := len _ hb
    have hc := hk n.c (by simp); have gc := get _ hc; have lc := len _ hc
    (repeat (first|refine ja ?_|refine jb ?_|refine jc ?_|refine jd ?_|refine je ?_|refine jf ?_|refine jg ?_|refine jh ?_|refine ji ?_|refine jj ?_|refine jk ?_|refine jl ?_|refine jm ?_|refine jn ?_|refine jo ?_|refine jp ?_|refine jq ?_|refine jr ?_|refine js ?_|refine jt ?_|refine ju ?_|refine jv ?_|refine jw ?_|refine jx ?_|refine jy ?_|refine jz ?_|refine jA ?_|refine jB ?_|refine jC ?_|refine jD ?_|refine jE ?_|refine jF ?_|refine jG ?_|refine jH ?_|refine jI ?_|refine jJ ?_|refine jK ?_|refine jL ?_|refine jM (by assumption) ?_|refine jN (by assumption) rfl ?_|refine jO (by assumption) ?_|refine jP (by assumption) rfl ?_|refine jQ ?_|refine jR ?_|refine jS ?_|refine jT ?_|refine jU (by assumption) rfl ?_))
    have k3 := Keep.drew w2 No
    have c3 := c3.keep k3 (fun h => h)
    have c4 := c4.keep k3 (fun h => h)
    try have ea := k3.cell (fun h => h) ea
    try have eb := k3.cell (fun h => h) eb
    try have ec := k3.cell (fun h => h) ec
    have hr := hr.keep k3 (fun _ _ _ h => h)
    have hd := hd.keep k3 (fun _ _ _ h => h)
    have q := q.trans k3 (fun _ _ h => h)
    repeat (first | (first|refine ja ?_|refine jb ?_|refine jc ?_|refine jd ?_|refine je ?_|refine jf ?_|refine jg ?_|refine jh ?_|refine ji ?_|refine jj ?_|refine jk ?_|refine jl ?_|refine jm ?_|refine jn ?_|refine jo ?_|refine jp ?_|refine jq ?_|refine jr ?_|refine js ?_|refine jt ?_|refine ju ?_|refine jv ?_|refine jw ?_|refine jx ?_|refine jy ?_|refine jz ?_|refine jA ?_|refine jB ?_|refine jC ?_|refine jD ?_|refine jE ?_|refine jF ?_|refine jG ?_|refine jH ?_|refine jI ?_|refine jJ ?_|refine jK ?_|refine jL ?_|refine jM (by assumption) ?_|refine jN (by assumption) rfl ?_|refine jO (by assumption) ?_|refine jP (by assumption) rfl ?_|refine jQ ?_|refine jR ?_|refine jS ?_|refine jT ?_|refine jU (by assumption) rfl ?_) | refine M.str_i (by simp only [List.length_append, List.length_cons, List.length_nil]; omega) ?_ | refine M.idxLV_i hr rfl ha.1 ha.2 ga (fun bba ooa hAa ea => ?_) | refine M.idxLV_i hr rfl hb.1 hb.2 gb (fun bbb oob hAb eb => ?_) | refine M.idxLV_i hr rfl hc.1 hc.2 gc (fun bbc ooc hAc ec => ?_))
    exact ⟨by rw [hone]; unfold oneB; rw [hp]; simp [rendP, tP, iP, Int.not_lt.2 ha.1, Int.not_lt.2 hb.1, Int.not_lt.2 hc.1], q⟩
  by_cases e23 : n.op = 23
  ·
    have hp : pcsN N n = [tP (([40, 40, 95, 32, 101, 120, 116, 114, 97, 99, 116, 32] : List UInt8) ++ numB (n.b + n.wd - 1) ++ ([32] : List UInt8) ++ numB n.b ++ ([41, 32] : List UInt8)), iP n.a, tP (([41] : List UInt8))] := by unfold pcsN; rw [if_neg e20, if_neg e21, if_neg e12, if_neg e15, if_neg e22, if_pos e23]
    have hb := hb23 e23
    have ek : kidsN n = [n.a] := by unfold kidsN; rw [if_neg (by omega), if_neg (by omega), if_neg (by omega)]
    rw [ek] at hk
    have ha := hk n.a (by simp); have ga := get _ ha; have la := len _ ha
    (repeat (first|refine ja ?_|refine jb ?_|refine jc ?_|refine jd ?_|refine je ?_|refine jf ?_|refine jg ?_|refine jh ?_|refine ji ?_|refine jj ?_|refine jk ?_|refine jl ?_|refine jm ?_|refine jn ?_|refine jo ?_|refine jp ?_|refine jq ?_|refine jr ?_|refine js ?_|refine jt ?_|refine ju ?_|refine jv ?_|refine jw ?_|refine jx ?_|refine jy ?_|refine jz ?_|refine jA ?_|refine jB ?_|refine jC ?_|refine jD ?_|refine jE ?_|refine jF ?_|refine jG ?_|refine jH ?_|refine jI ?_|refine jJ ?_|refine jK ?_|refine jL ?_|refine jM (by assumption) ?_|refine jN (by assumption) rfl ?_|refine jO (by assumption) ?_|refine jP (by assumption) rfl ?_|refine jQ ?_|refine jR ?_|refine jS ?_|refine jT ?_|refine jU (by assumption) rfl ?_))
    have k3 := Keep.drew w2 No
    have c3 := c3.keep k3 (fun h => h)
    have c4 := c4.keep k3 (fun h => h)
    try have ea := k3.cell (fun h => h) ea
    try have eb := k3.cell (fun h => h) eb
    try have ec := k3.cell (fun h => h) ec
    have hr := hr.keep k3 (fun _ _ _ h => h)
    have hd := hd.keep k3 (fun _ _ _ h => h)
    have q := q.trans k3 (fun _ _ h => h)
    repeat (first | (first|refine ja ?_|refine jb ?_|refine jc ?_|refine jd ?_|refine je ?_|refine jf ?_|refine jg ?_|refine jh ?_|refine ji ?_|refine jj ?_|refine jk ?_|refine jl ?_|refine jm ?_|refine jn ?_|refine jo ?_|refine jp ?_|refine jq ?_|refine jr ?_|refine js ?_|refine jt ?_|refine ju ?_|refine jv ?_|refine jw ?_|refine jx ?_|refine jy ?_|refine jz ?_|refine jA ?_|refine jB ?_|refine jC ?_|refine jD ?_|refine jE ?_|refine jF ?_|refine jG ?_|refine jH ?_|refine jI ?_|refine jJ ?_|refine jK ?_|refine jL ?_|refine jM (by assumption) ?_|refine jN (by assumption) rfl ?_|refine jO (by assumption) ?_|refine jP (by assumption) rfl ?_|refine jQ ?_|refine jR ?_|refine jS ?_|refine jT ?_|refine jU (by assumption) rfl ?_) | refine M.str_i (by simp only [List.length_append, List.length_cons, List.length_nil]; omega) ?_ | refine M.idxLV_i hr rfl ha.1 ha.2 ga (fun bba ooa hAa ea => ?_) | refine M.idxLV_i hr rfl hb.1 hb.2 gb (fun bbb oob hAb eb => ?_) | refine M.idxLV_i hr rfl hc.1 hc.2 gc (fun bbc ooc hAc ec => ?_))
    refine M.call_i (rnumber_ret _ w2.drew) ?_; rintro _ w4 ⟨rfl, k4⟩
    have c3 := c3.keep k4 (fun h => h)
    have c4 := c4.keep k4 (fun h => h)
    try have ea := k4.cell (fun h => h) ea
    try have eb := k4.cell (fun h => h) eb
    try have ec := k4.cell (fun h => h) ec
    have hr := hr.keep k4 (fun _ _ _ h => h)
    have hd := hd.keep k4 (fun _ _ _ h => h)
    have q := q.trans k4 (fun _ _ h => h)
    repeat (first | (first|refine ja ?_|refine jb ?_|refine jc ?_|refine jd ?_|refine je ?_|refine jf ?_|refine jg ?_|refine jh ?_|refine ji ?_|refine jj ?_|refine jk ?_|refine jl ?_|refine jm ?_|refine jn ?_|refine jo ?_|refine jp ?_|refine jq ?_|refine jr ?_|refine js ?_|refine jt ?_|refine ju ?_|refine jv ?_|refine jw ?_|refine jx ?_|refine jy ?_|refine jz ?_|refine jA ?_|refine jB ?_|refine jC ?_|refine jD ?_|refine jE ?_|refine jF ?_|refine jG ?_|refine jH ?_|refine jI ?_|refine jJ ?_|refine jK ?_|refine jL ?_|refine jM (by assumption) ?_|refine jN (by assumption) rfl ?_|refine jO (by assumption) ?_|refine jP (by assumption) rfl ?_|refine jQ ?_|refine jR ?_|refine jS ?_|refine jT ?_|refine jU (by assumption) rfl ?_) | refine M.str_i (by simp only [List.length_append, List.length_cons, List.length_nil]; omega) ?_ | refine M.idxLV_i hr rfl ha.1 ha.2 ga (fun bba ooa hAa ea => ?_) | refine M.idxLV_i hr rfl hb.1 hb.2 gb (fun bbb oob hAb eb => ?_) | refine M.idxLV_i hr rfl hc.1 hc.2 gc (fun bbc ooc hAc ec => ?_))
    refine M.call_i (rnumber_ret _ w4) ?_; rintro _ w5 ⟨rfl, k5⟩
    have c3 := c3.keep k5 (fun h => h)
    have c4 := c4.keep k5 (fun h => h)
    try have ea := k5.cell (fun h => h) ea
    try have eb := k5.cell (fun h => h) eb
    try have ec := k5.cell (fun h => h) ec
    have hr := hr.keep k5 (fun _ _ _ h => h)
    have hd := hd.keep k5 (fun _ _ _ h => h)
    have q := q.trans k5 (fun _ _ h => h)
    repeat (first | (first|refine ja ?_|refine jb ?_|refine jc ?_|refine jd ?_|refine je ?_|refine jf ?_|refine jg ?_|refine jh ?_|refine ji ?_|refine jj ?_|refine jk ?_|refine jl ?_|refine jm ?_|refine jn ?_|refine jo ?_|refine jp ?_|refine jq ?_|refine jr ?_|refine js ?_|refine jt ?_|refine ju ?_|refine jv ?_|refine jw ?_|refine jx ?_|refine jy ?_|refine jz ?_|refine jA ?_|refine jB ?_|refine jC ?_|refine jD ?_|refine jE ?_|refine jF ?_|refine jG ?_|refine jH ?_|refine jI ?_|refine jJ ?_|refine jK ?_|refine jL ?_|refine jM (by assumption) ?_|refine jN (by assumption) rfl ?_|refine jO (by assumption) ?_|refine jP (by assumption) rfl ?_|refine jQ ?_|refine jR ?_|refine jS ?_|refine jT ?_|refine jU (by assumption) rfl ?_) | refine M.str_i (by simp only [List.length_append, List.length_cons, List.length_nil]; omega) ?_ | refine M.idxLV_i hr rfl ha.1 ha.2 ga (fun bba ooa hAa ea => ?_) | refine M.idxLV_i hr rfl hb.1 hb.2 gb (fun bbb oob hAb eb => ?_) | refine M.idxLV_i hr rfl hc.1 hc.2 gc (fun bbc ooc hAc ec => ?_))
    exact ⟨by rw [hone]; unfold oneB; rw [hp]; simp [rendP, tP, iP, Int.not_lt.2 ha.1], q⟩
  by_cases e25 : n.op = 25
  ·
    have hp : pcsN N n = [tP (([40, 40, 95, 32, 122, 101, 114, 111, 95, 101, 120, 116, 101, 110, 100, 32] : List UInt8) ++ numB (n.wd - wdN N n.a) ++ ([41, 32] : List UInt8)), iP n.a, tP (([41] : List UInt8))] := by unfold pcsN; rw [if_neg e20, if_neg e21, if_neg e12, if_neg e15, if_neg e22, if_neg e23, if_pos e25]
    have ek : kidsN n = [n.a] := by unfold kidsN; rw [if_neg (by omega), if_neg (by omega), if_neg (by omega)]
    rw [ek] at hk
    have ha := hk n.a (by simp); have ga := get _ ha; have la := len _ ha
    (repeat (first|refine ja ?_|refine jb ?_|refine jc ?_|refine jd ?_|refine je ?_|refine jf ?_|refine jg ?_|refine jh ?_|refine ji ?_|refine jj ?_|refine jk ?_|refine jl ?_|refine jm ?_|refine jn ?_|refine jo ?_|refine jp ?_|refine jq ?_|refine jr ?_|refine js ?_|refine jt ?_|refine ju ?_|refine jv ?_|refine jw ?_|refine jx ?_|refine jy ?_|refine jz ?_|refine jA ?_|refine jB ?_|refine jC ?_|refine jD ?_|refine jE ?_|refine jF ?_|refine jG ?_|refine jH ?_|refine jI ?_|refine jJ ?_|refine jK ?_|refine jL ?_|refine jM (by assumption) ?_|refine jN (by assumption) rfl ?_|refine jO (by assumption) ?_|refine jP (by assumption) rfl ?_|refine jQ ?_|refine jR ?_|refine jS ?_|refine jT ?_|refine jU (by assumption) rfl ?_))
    have k3 := Keep.drew w2 No
    have c3 := c3.keep k3 (fun h => h)
    have c4 := c4.keep k3 (fun h => h)
    try have ea := k3.cell (fun h => h) ea
    try have eb := k3.cell (fun h => h) eb
    try have ec := k3.cell (fun h => h) ec
    have hr := hr.keep k3 (fun _ _ _ h => h)
    have hd := hd.keep k3 (fun _ _ _ h => h)
    have q := q.trans k3 (fun _ _ h => h)
    repeat (first | (first|refine ja ?_|refine jb ?_|refine jc ?_|refine jd ?_|refine je ?_|refine jf ?_|refine jg ?_|refine jh ?_|refine ji ?_|refine jj ?_|refine jk ?_|refine jl ?_|refine jm ?_|refine jn ?_|refine jo ?_|refine jp ?_|refine jq ?_|refine jr ?_|refine js ?_|refine jt ?_|refine ju ?_|refine jv ?_|refine jw ?_|refine jx ?_|refine jy ?_|refine jz ?_|refine jA ?_|refine jB ?_|refine jC ?_|refine jD ?_|refine jE ?_|refine jF ?_|refine jG ?_|refine jH ?_|refine jI ?_|refine jJ ?_|refine jK ?_|refine jL ?_|refine jM (by assumption) ?_|refine jN (by assumption) rfl ?_|refine jO (by assumption) ?_|refine jP (by assumption) rfl ?_|refine jQ ?_|refine jR ?_|refine jS ?_|refine jT ?_|refine jU (by assumption) rfl ?_) | refine M.str_i (by simp only [List.length_append, List.length_cons, List.length_nil]; omega) ?_ | refine M.idxLV_i hr rfl ha.1 ha.2 ga (fun bba ooa hAa ea => ?_) | refine M.idxLV_i hr rfl hb.1 hb.2 gb (fun bbb oob hAb eb => ?_) | refine M.idxLV_i hr rfl hc.1 hc.2 gc (fun bbc ooc hAc ec => ?_))
    refine M.loadAll_i c3 rfl ?_
    repeat (first | (first|refine ja ?_|refine jb ?_|refine jc ?_|refine jd ?_|refine je ?_|refine jf ?_|refine jg ?_|refine jh ?_|refine ji ?_|refine jj ?_|refine jk ?_|refine jl ?_|refine jm ?_|refine jn ?_|refine jo ?_|refine jp ?_|refine jq ?_|refine jr ?_|refine js ?_|refine jt ?_|refine ju ?_|refine jv ?_|refine jw ?_|refine jx ?_|refine jy ?_|refine jz ?_|refine jA ?_|refine jB ?_|refine jC ?_|refine jD ?_|refine jE ?_|refine jF ?_|refine jG ?_|refine jH ?_|refine jI ?_|refine jJ ?_|refine jK ?_|refine jL ?_|refine jM (by assumption) ?_|refine jN (by assumption) rfl ?_|refine jO (by assumption) ?_|refine jP (by assumption) rfl ?_|refine jQ ?_|refine jR ?_|refine jS ?_|refine jT ?_|refine jU (by assumption) rfl ?_) | refine M.str_i (by simp only [List.length_append, List.length_cons, List.length_nil]; omega) ?_ | refine M.idxLV_i hr rfl ha.1 ha.2 ga (fun bba ooa hAa ea => ?_) | refine M.idxLV_i hr rfl hb.1 hb.2 gb (fun bbb oob hAb eb => ?_) | refine M.idxLV_i hr rfl hc.1 hc.2 gc (fun bbc ooc hAc ec => ?_))
    refine M.call_i (rwidth_ret hd n.a) ?_; rintro _ w4 ⟨rfl, k4⟩
    have c3 := c3.keep k4 (fun h => h)
    have c4 := c4.keep k4 (fun h => h)
    try have ea := k4.cell (fun h => h) ea
    try have eb := k4.cell (fun h => h) eb
    try have ec := k4.cell (fun h => h) ec
    have hr := hr.keep k4 (fun _ _ _ h => h)
    have hd := hd.keep k4 (fun _ _ _ h => h)
    have q := q.trans k4 (fun _ _ h => h)
    repeat (first | (first|refine ja ?_|refine jb ?_|refine jc ?_|refine jd ?_|refine je ?_|refine jf ?_|refine jg ?_|refine jh ?_|refine ji ?_|refine jj ?_|refine jk ?_|refine jl ?_|refine jm ?_|refine jn ?_|refine jo ?_|refine jp ?_|refine jq ?_|refine jr ?_|refine js ?_|refine jt ?_|refine ju ?_|refine jv ?_|refine jw ?_|refine jx ?_|refine jy ?_|refine jz ?_|refine jA ?_|refine jB ?_|refine jC ?_|refine jD ?_|refine jE ?_|refine jF ?_|refine jG ?_|refine jH ?_|refine jI ?_|refine jJ ?_|refine jK ?_|refine jL ?_|refine jM (by assumption) ?_|refine jN (by assumption) rfl ?_|refine jO (by assumption) ?_|refine jP (by assumption) rfl ?_|refine jQ ?_|refine jR ?_|refine jS ?_|refine jT ?_|refine jU (by assumption) rfl ?_) | refine M.str_i (by simp only [List.length_append, List.length_cons, List.length_nil]; omega) ?_ | refine M.idxLV_i hr rfl ha.1 ha.2 ga (fun bba ooa hAa ea => ?_) | refine M.idxLV_i hr rfl hb.1 hb.2 gb (fun bbb oob hAb eb => ?_) | refine M.idxLV_i hr rfl hc.1 hc.2 gc (fun bbc ooc hAc ec => ?_))
    refine M.call_i (rnumber_ret _ w4) ?_; rintro _ w5 ⟨rfl, k5⟩
    have c3 := c3.keep k5 (fun h => h)
    have c4 := c4.keep k5 (fun h => h)
    try have ea := k5.cell (fun h => h) ea
    try have eb := k5.cell (fun h => h) eb
    try have ec := k5.cell (fun h => h) ec
    have hr := hr.keep k5 (fun _ _ _ h => h)
    have hd := hd.keep k5 (fun _ _ _ h => h)
    have q := q.trans k5 (fun _ _ h => h)
    repeat (first | (first|refine ja ?_|refine jb ?_|refine jc ?_|refine jd ?_|refine je ?_|refine jf ?_|refine jg ?_|refine jh ?_|refine ji ?_|refine jj ?_|refine jk ?_|refine jl ?_|refine jm ?_|refine jn ?_|refine jo ?_|refine jp ?_|refine jq ?_|refine jr ?_|refine js ?_|refine jt ?_|refine ju ?_|refine jv ?_|refine jw ?_|refine jx ?_|refine jy ?_|refine jz ?_|refine jA ?_|refine jB ?_|refine jC ?_|refine jD ?_|refine jE ?_|refine jF ?_|refine jG ?_|refine jH ?_|refine jI ?_|refine jJ ?_|refine jK ?_|refine jL ?_|refine jM (by assumption) ?_|refine jN (by assumption) rfl ?_|refine jO (by assumption) ?_|refine jP (by assumption) rfl ?_|refine jQ ?_|refine jR ?_|refine jS ?_|refine jT ?_|refine jU (by assumption) rfl ?_) | refine M.str_i (by simp only [List.length_append, List.length_cons, List.length_nil]; omega) ?_ | refine M.idxLV_i hr rfl ha.1 ha.2 ga (fun bba ooa hAa ea => ?_) | refine M.idxLV_i hr rfl hb.1 hb.2 gb (fun bbb oob hAb eb => ?_) | refine M.idxLV_i hr rfl hc.1 hc.2 gc (fun bbc ooc hAc ec => ?_))
    exact ⟨by rw [hone]; unfold oneB; rw [hp]; simp [rendP, tP, iP, Int.not_lt.2 ha.1], q⟩
  by_cases e26 : n.op = 26
  ·
    have hp : pcsN N n = [tP (([40, 40, 95, 32, 115, 105, 103, 110, 95, 101, 120, 116, 101, 110, 100, 32] : List UInt8) ++ numB (n.wd - wdN N n.a) ++ ([41, 32] : List UInt8)), iP n.a, tP (([41] : List UInt8))] := by unfold pcsN; rw [if_neg e20, if_neg e21, if_neg e12, if_neg e15, if_neg e22, if_neg e23, if_neg e25, if_pos e26]
    have ek : kidsN n = [n.a] := by unfold kidsN; rw [if_neg (by omega), if_neg (by omega), if_neg (by omega)]
    rw [ek] at hk
    have ha := hk n.a (by simp); have ga := get _ ha; have la := len _ ha
    (repeat (first|refine ja ?_|refine jb ?_|refine jc ?_|refine jd ?_|refine je ?_|refine jf ?_|refine jg ?_|refine jh ?_|refine ji ?_|refine jj ?_|refine jk ?_|refine jl ?_|refine jm ?_|refine jn ?_|refine jo ?_|refine jp ?_|refine jq ?_|refine jr ?_|refine js ?_|refine jt ?_|refine ju ?_|refine jv ?_|refine jw ?_|refine jx ?_|refine jy ?_|refine jz ?_|refine jA ?_|refine jB ?_|refine jC ?_|refine jD ?_|refine jE ?_|refine jF ?_|refine jG ?_|refine jH ?_|refine jI ?_|refine jJ ?_|refine jK ?_|refine jL ?_|refine jM (by assumption) ?_|refine jN (by assumption) rfl ?_|refine jO (by assumption) ?_|refine jP (by assumption) rfl ?_|refine jQ ?_|refine jR ?_|refine jS ?_|refine jT ?_|refine jU (by assumption) rfl ?_))
    have k3 := Keep.drew w2 No
    have c3 := c3.keep k3 (fun h => h)
    have c4 := c4.keep k3 (fun h => h)
    try have ea := k3.cell (fun h => h) ea
    try have eb := k3.cell (fun h => h) eb
    try have ec := k3.cell (fun h => h) ec
    have hr := hr.keep k3 (fun _ _ _ h => h)
    have hd := hd.keep k3 (fun _ _ _ h => h)
    have q := q.trans k3 (fun _ _ h => h)
    repeat (first | (first|refine ja ?_|refine jb ?_|refine jc ?_|refine jd ?_|refine je ?_|refine jf ?_|refine jg ?_|refine jh ?_|refine ji ?_|refine jj ?_|refine jk ?_|refine jl ?_|refine jm ?_|refine jn ?_|refine jo ?_|refine jp ?_|refine jq ?_|refine jr ?_|refine js ?_|refine jt ?_|refine ju ?_|refine jv ?_|refine jw ?_|refine jx ?_|refine jy ?_|refine jz ?_|refine jA ?_|refine jB ?_|refine jC ?_|refine jD ?_|refine jE ?_|refine jF ?_|refine jG ?_|refine jH ?_|refine jI ?_|refine jJ ?_|refine jK ?_|refine jL ?_|refine jM (by assumption) ?_|refine jN (by assumption) rfl ?_|refine jO (by assumption) ?_|refine jP (by assumption) rfl ?_|refine jQ ?_|refine jR ?_|refine jS ?_|refine jT ?_|refine jU (by assumption) rfl ?_) | refine M.str_i (by simp only [List.length_append, List.length_cons, List.length_nil]; omega) ?_ | refine M.idxLV_i hr rfl ha.1 ha.2 ga (fun bba ooa hAa ea => ?_) | refine M.idxLV_i hr rfl hb.1 hb.2 gb (fun bbb oob hAb eb => ?_) | refine M.idxLV_i hr rfl hc.1 hc.2 gc (fun bbc ooc hAc ec => ?_))
    refine M.loadAll_i c3 rfl ?_
    repeat (first | (first|refine ja ?_|refine jb ?_|refine jc ?_|refine jd ?_|refine je ?_|refine jf ?_|refine jg ?_|refine jh ?_|refine ji ?_|refine jj ?_|refine jk ?_|refine jl ?_|refine jm ?_|refine jn ?_|refine jo ?_|refine jp ?_|refine jq ?_|refine jr ?_|refine js ?_|refine jt ?_|refine ju ?_|refine jv ?_|refine jw ?_|refine jx ?_|refine jy ?_|refine jz ?_|refine jA ?_|refine jB ?_|refine jC ?_|refine jD ?_|refine jE ?_|refine jF ?_|refine jG ?_|refine jH ?_|refine jI ?_|refine jJ ?_|refine jK ?_|refine jL ?_|refine jM (by assumption) ?_|refine jN (by assumption) rfl ?_|refine jO (by assumption) ?_|refine jP (by assumption) rfl ?_|refine jQ ?_|refine jR ?_|refine jS ?_|refine jT ?_|refine jU (by assumption) rfl ?_) | refine M.str_i (by simp only [List.length_append, List.length_cons, List.length_nil]; omega) ?_ | refine M.idxLV_i hr rfl ha.1 ha.2 ga (fun bba ooa hAa ea => ?_) | refine M.idxLV_i hr rfl hb.1 hb.2 gb (fun bbb oob hAb eb => ?_) | refine M.idxLV_i hr rfl hc.1 hc.2 gc (fun bbc ooc hAc ec => ?_))
    refine M.call_i (rwidth_ret hd n.a) ?_; rintro _ w4 ⟨rfl, k4⟩
    have c3 := c3.keep k4 (fun h => h)
    have c4 := c4.keep k4 (fun h => h)
    try have ea := k4.cell (fun h => h) ea
    try have eb := k4.cell (fun h => h) eb
    try have ec := k4.cell (fun h => h) ec
    have hr := hr.keep k4 (fun _ _ _ h => h)
    have hd := hd.keep k4 (fun _ _ _ h => h)
    have q := q.trans k4 (fun _ _ h => h)
    repeat (first | (first|refine ja ?_|refine jb ?_|refine jc ?_|refine jd ?_|refine je ?_|refine jf ?_|refine jg ?_|refine jh ?_|refine ji ?_|refine jj ?_|refine jk ?_|refine jl ?_|refine jm ?_|refine jn ?_|refine jo ?_|refine jp ?_|refine jq ?_|refine jr ?_|refine js ?_|refine jt ?_|refine ju ?_|refine jv ?_|refine jw ?_|refine jx ?_|refine jy ?_|refine jz ?_|refine jA ?_|refine jB ?_|refine jC ?_|refine jD ?_|refine jE ?_|refine jF ?_|refine jG ?_|refine jH ?_|refine jI ?_|refine jJ ?_|refine jK ?_|refine jL ?_|refine jM (by assumption) ?_|refine jN (by assumption) rfl ?_|refine jO (by assumption) ?_|refine jP (by assumption) rfl ?_|refine jQ ?_|refine jR ?_|refine jS ?_|refine jT ?_|refine jU (by assumption) rfl ?_) | refine M.str_i (by simp only [List.length_append, List.length_cons, List.length_nil]; omega) ?_ | refine M.idxLV_i hr rfl ha.1 ha.2 ga (fun bba ooa hAa ea => ?_) | refine M.idxLV_i hr rfl hb.1 hb.2 gb (fun bbb oob hAb eb => ?_) | refine M.idxLV_i hr rfl hc.1 hc.2 gc (fun bbc ooc hAc ec => ?_))
    refine M.call_i (rnumber_ret _ w4) ?_; rintro _ w5 ⟨rfl, k5⟩
    have c3 := c3.keep k5 (fun h => h)
    have c4 := c4.keep k5 (fun h => h)
    try have ea := k5.cell (fun h => h) ea
    try have eb := k5.cell (fun h => h) eb
    try have ec := k5.cell (fun h => h) ec
    have hr := hr.keep k5 (fun _ _ _ h => h)
    have hd := hd.keep k5 (fun _ _ _ h => h)
    have q := q.trans k5 (fun _ _ h => h)
    repeat (first | (first|refine ja ?_|refine jb ?_|refine jc ?_|refine jd ?_|refine je ?_|refine jf ?_|refine jg ?_|refine jh ?_|refine ji ?_|refine jj ?_|refine jk ?_|refine jl ?_|refine jm ?_|refine jn ?_|refine jo ?_|refine jp ?_|refine jq ?_|refine jr ?_|refine js ?_|refine jt ?_|refine ju ?_|refine jv ?_|refine jw ?_|refine jx ?_|refine jy ?_|refine jz ?_|refine jA ?_|refine jB ?_|refine jC ?_|refine jD ?_|refine jE ?_|refine jF ?_|refine jG ?_|refine jH ?_|refine jI ?_|refine jJ ?_|refine jK ?_|refine jL ?_|refine jM (by assumption) ?_|refine jN (by assumption) rfl ?_|refine jO (by assumption) ?_|refine jP (by assumption) rfl ?_|refine jQ ?_|refine jR ?_|refine jS ?_|refine jT ?_|refine jU (by assumption) rfl ?_) | refine M.str_i (by simp only [List.length_append, List.length_cons, List.length_nil]; omega) ?_ | refine M.idxLV_i hr rfl ha.1 ha.2 ga (fun bba ooa hAa ea => ?_) | refine M.idxLV_i hr rfl hb.1 hb.2 gb (fun bbb oob hAb eb => ?_) | refine M.idxLV_i hr rfl hc.1 hc.2 gc (fun bbc ooc hAc ec => ?_))
    exact ⟨by rw [hone]; unfold oneB; rw [hp]; simp [rendP, tP, iP, Int.not_lt.2 ha.1], q⟩
  have hp : pcsN N n = [tP (([40] : List UInt8) ++ opB n.op ++ ([32] : List UInt8)), iP n.a, tP (([32] : List UInt8)), iP n.b, tP (([41] : List UInt8))] := by unfold pcsN; rw [if_neg e20, if_neg e21, if_neg e12, if_neg e15, if_neg e22, if_neg e23, if_neg e25, if_neg e26]
  have ek : kidsN n = [n.a, n.b] := by unfold kidsN; rw [if_neg (by omega), if_neg (by omega), if_pos (by omega)]
  rw [ek] at hk
  have ha := hk n.a (by simp); have ga := get _ ha; have la := len _ ha
  have hb := hk n.b (by simp); have gb := get _ hb; have lb := len _ hb
  (repeat (first|refine ja ?_|refine jb ?_|refine jc ?_|refine jd ?_|refine je ?_|refine jf ?_|refine jg ?_|refine jh ?_|refine ji ?_|refine jj ?_|refine jk ?_|refine jl ?_|refine jm ?_|refine jn ?_|refine jo ?_|refine jp ?_|refine jq ?_|refine jr ?_|refine js ?_|refine jt ?_|refine ju ?_|refine jv ?_|refine jw ?_|refine jx ?_|refine jy ?_|refine jz ?_|refine jA ?_|refine jB ?_|refine jC ?_|refine jD ?_|refine jE ?_|refine jF ?_|refine jG ?_|refine jH ?_|refine jI ?_|refine jJ ?_|refine jK ?_|refine jL ?_|refine jM (by assumption) ?_|refine jN (by assumption) rfl ?_|refine jO (by assumption) ?_|refine jP (by assumption) rfl ?_|refine jQ ?_|refine jR ?_|refine jS ?_|refine jT ?_|refine jU (by assumption) rfl ?_))
  have k3 := Keep.drew w2 No
  have c3 := c3.keep k3 (fun h => h)
  have c4 := c4.keep k3 (fun h => h)
  try have ea := k3.cell (fun h => h) ea
  try have eb := k3.cell (fun h => h) eb
  try have ec := k3.cell (fun h => h) ec
  have hr := hr.keep k3 (fun _ _ _ h => h)
  have hd := hd.keep k3 (fun _ _ _ h => h)
  have q := q.trans k3 (fun _ _ h => h)
  repeat (first | (first|refine ja ?_|refine jb ?_|refine jc ?_|refine jd ?_|refine je ?_|refine jf ?_|refine jg ?_|refine jh ?_|refine ji ?_|refine jj ?_|refine jk ?_|refine jl ?_|refine jm ?_|refine jn ?_|refine jo ?_|refine jp ?_|refine jq ?_|refine jr ?_|refine js ?_|refine jt ?_|refine ju ?_|refine jv ?_|refine jw ?_|refine jx ?_|refine jy ?_|refine jz ?_|refine jA ?_|refine jB ?_|refine jC ?_|refine jD ?_|refine jE ?_|refine jF ?_|refine jG ?_|refine jH ?_|refine jI ?_|refine jJ ?_|refine jK ?_|refine jL ?_|refine jM (by assumption) ?_|refine jN (by assumption) rfl ?_|refine jO (by assumption) ?_|refine jP (by assumption) rfl ?_|refine jQ ?_|refine jR ?_|refine jS ?_|refine jT ?_|refine jU (by assumption) rfl ?_) | refine M.str_i (by simp only [List.length_append, List.length_cons, List.length_nil]; omega) ?_ | refine M.idxLV_i hr rfl ha.1 ha.2 ga (fun bba ooa hAa ea => ?_) | refine M.idxLV_i hr rfl hb.1 hb.2 gb (fun bbb oob hAb eb => ?_) | refine M.idxLV_i hr rfl hc.1 hc.2 gc (fun bbc ooc hAc ec => ?_))
  refine M.call_i (rword_ret (op := n.op) (by omega) w2.drew) ?_; rintro _ w4 ⟨rfl, k4⟩
  have c3 := c3.keep k4 (fun h => h)
  have c4 := c4.keep k4 (fun h => h)
  try have ea := k4.cell (fun h => h) ea
  try have eb := k4.cell (fun h => h) eb
  try have ec := k4.cell (fun h => h) ec
  have hr := hr.keep k4 (fun _ _ _ h => h)
  have hd := hd.keep k4 (fun _ _ _ h => h)
  have q := q.trans k4 (fun _ _ h => h)
  repeat (first | (first|refine ja ?_|refine jb ?_|refine jc ?_|refine jd ?_|refine je ?_|refine jf ?_|refine jg ?_|refine jh ?_|refine ji ?_|refine jj ?_|refine jk ?_|refine jl ?_|refine jm ?_|refine jn ?_|refine jo ?_|refine jp ?_|refine jq ?_|refine jr ?_|refine js ?_|refine jt ?_|refine ju ?_|refine jv ?_|refine jw ?_|refine jx ?_|refine jy ?_|refine jz ?_|refine jA ?_|refine jB ?_|refine jC ?_|refine jD ?_|refine jE ?_|refine jF ?_|refine jG ?_|refine jH ?_|refine jI ?_|refine jJ ?_|refine jK ?_|refine jL ?_|refine jM (by assumption) ?_|refine jN (by assumption) rfl ?_|refine jO (by assumption) ?_|refine jP (by assumption) rfl ?_|refine jQ ?_|refine jR ?_|refine jS ?_|refine jT ?_|refine jU (by assumption) rfl ?_) | refine M.str_i (by simp only [List.length_append, List.length_cons, List.length_nil]; omega) ?_ | refine M.idxLV_i hr rfl ha.1 ha.2 ga (fun bba ooa hAa ea => ?_) | refine M.idxLV_i hr rfl hb.1 hb.2 gb (fun bbb oob hAb eb => ?_) | refine M.idxLV_i hr rfl hc.1 hc.2 gc (fun bbc ooc hAc ec => ?_))
  exact ⟨by rw [hone]; unfold oneB; rw [hp]; simp [rendP, tP, iP, Int.not_lt.2 ha.1, Int.not_lt.2 hb.1], q⟩
end Go.Proofs.Ythkkjjbjpbgcpaa
