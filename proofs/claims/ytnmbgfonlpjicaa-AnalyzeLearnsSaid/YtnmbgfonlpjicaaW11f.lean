import Derived.Test.YtnmbgfonlpjicaaW11r
namespace Go.Proofs.Ytnmbgfonlpjicaa
open Go.Mw Go.MapKept
set_option linter.unusedVariables false
set_option linter.unusedSimpArgs false
set_option maxRecDepth 100000
attribute [local irreducible] M.val M.unit M.next M.pick M.new M.nilCheck M.load1 M.loadA M.store M.fieldAddr M.indexSl M.indexArr M.slice M.makeSlice M.buildSlice M.len M.lenS M.cap M.append M.extract M.conv M.not M.neg M.bin M.shift M.eqB M.eqNil M.call M.callv M.gd M.share M.cond M.loop M.draw pureW readW Ret
/-! (*breakwater/watch.Watch).fell: function 33 -/
def sh33 (x0 x1 x2 : Value) (R : Kt) (w : World) : Prop :=
  M.nilCheck x0 (fun t13 w =>
  M.fieldAddr 3 t13 (fun t14 w =>
  M.load1 t14 (fun t15 w =>
  M.indexSl 1 t15 x2 (fun t17 w =>
  M.load1 t17 (fun t18 w =>
  M.nilCheck x0 (fun t20 w =>
  M.fieldAddr 3 t20 (fun t21 w =>
  M.load1 t21 (fun t22 w =>
  M.indexSl 1 t22 x2 (fun t24 w =>
  M.store 1 t24 (Value.slice none 0 0) (fun _ w =>
  M.len t18 (fun t26 w =>
  M.loop [(Value.int IntKind.i64 0)] (fun s1 K1 w => ∀ _ : List Value,
  M.bin .lss (s1.getD 0 undef) t26 (fun t28 w =>
  M.cond t28
  (M.share (fun K2 w =>
  M.indexSl 1 t18 (s1.getD 0 undef) (fun t30 w =>
  M.load1 t30 (fun t31 w =>
  M.nilCheck x0 (fun t33 w =>
  M.fieldAddr 2 t33 (fun t34 w =>
  M.load1 t34 (fun t35 w =>
  readW Try.prog (Instr.lookup 61 t35 t31 false) (fun t37 w =>
  M.eqNil 0 false t37 (fun t39 w =>
  M.gd t39 false (fun k w => k t37 w) (fun t41 w =>
  M.gd t39 false (fun k w => M.nilCheck t41 k w) (fun t42 w =>
  M.gd t39 false (fun k w => M.fieldAddr 1 t42 k w) (fun t43 w =>
  M.gd t39 false (fun k w => M.load1 t43 k w) (fun t44 w =>
  M.pick t39 (Value.bool true) t44 (fun t45 w =>
  M.gd t45 false (fun k w => k t37 w) (fun t47 w =>
  M.gd t45 false (fun k w => M.nilCheck t47 k w) (fun t48 w =>
  M.gd t45 false (fun k w => M.fieldAddr 0 t48 k w) (fun t49 w =>
  M.gd t45 false (fun k w => M.load1 t49 k w) (fun t50 w =>
  M.gd t45 false (fun k w => M.indexSl 1 t50 (Value.int IntKind.i64 0) k w) (fun t51 w =>
  M.gd t45 false (fun k w => M.load1 t51 k w) (fun t52 w =>
  M.gd t45 false (fun k w => k x2 w) (fun t53 w =>
  M.gd t45 false (fun k w => M.bin .neq t52 t53 k w) (fun t54 w =>
  M.gd t45 false (fun k w => k t54 w) (fun t55 w =>
  M.gd t55 true (fun k w => k t37 w) (fun t56 w =>
  M.gd t55 true (fun k w => M.nilCheck t56 k w) (fun t57 w =>
  M.gd t55 true (fun k w => M.fieldAddr 0 t57 k w) (fun t58 w =>
  M.gd t55 true (fun k w => M.load1 t58 k w) (fun t59 w =>
  M.gd t55 true (fun k w => M.indexSl 1 t59 (Value.int IntKind.i64 1) k w) (fun t60 w =>
  M.gd t55 true (fun k w => M.load1 t60 k w) (fun t61 w =>
  M.gd t55 true (fun k w => k x2 w) (fun t62 w =>
  M.gd t55 true (fun k w => M.bin .neq t61 t62 k w) (fun t63 w =>
  M.gd t45 false (fun k w => M.pick t55 t63 (Value.bool false) k w) (fun t64 w =>
  M.pick t45 (Value.bool true) t64 (fun t65 w =>
  M.gd t65 false (fun k w => k x0 w) (fun t67 w =>
  M.gd t65 false (fun k w => k x1 w) (fun t68 w =>
  M.gd t65 false (fun k w => k t31 w) (fun t69 w =>
  M.gd t65 false (fun k w => k x2 w) (fun t70 w =>
  M.gd t65 false (fun k w => M.call Try.prog 52 #[t67, t68, t69, t70] k w) (fun t71 w =>
  M.pick t65 (Value.bool true) t71 (fun t72 w =>
  M.cond t72
  (K2 [] w)
  (M.nilCheck t37 (fun t74 w =>
  M.fieldAddr 0 t74 (fun t75 w =>
  M.load1 t75 (fun t76 w =>
  M.indexSl 1 t76 (Value.int IntKind.i64 0) (fun t77 w =>
  M.load1 t77 (fun t78 w =>
  M.share (fun K3 w =>
  M.call Try.prog 38 #[x1, t78] (fun t81 w =>
  M.bin .eql t81 (Value.int IntKind.i64 0) (fun t82 w =>
  M.cond t82
  (M.call Try.prog 16 #[x1, t78, t31] (fun t86 w =>
  K3 [] w) w)
  (K3 [] w)) w) w) (fun s3 w => ∀ _ : List Value,
  M.share (fun K4 w =>
  M.call Try.prog 38 #[x1, t78] (fun t89 w =>
  M.bin .lss t89 (Value.int IntKind.i64 0) (fun t90 w =>
  M.gd t90 false (fun k w => k x1 w) (fun t92 w =>
  M.gd t90 false (fun k w => k t78 w) (fun t93 w =>
  M.gd t90 false (fun k w => M.call Try.prog 22 #[t93] k w) (fun t94 w =>
  M.gd t90 false (fun k w => M.call Try.prog 21 #[t92, t94] k w) (fun t95 w =>
  M.gd t90 false (fun k w => k x1 w) (fun t96 w =>
  M.gd t90 false (fun k w => k x2 w) (fun t97 w =>
  M.gd t90 false (fun k w => M.call Try.prog 22 #[t97] k w) (fun t98 w =>
  M.gd t90 false (fun k w => M.call Try.prog 21 #[t96, t98] k w) (fun t99 w =>
  M.gd t90 false (fun k w => M.bin .gtr t95 t99 k w) (fun t100 w =>
  M.pick t90 (Value.bool true) t100 (fun t101 w =>
  M.cond t101
  (M.call Try.prog 53 #[x0, t31] (fun t104 w =>
  K4 [] w) w)
  (M.draw (fun w =>
  M.nilCheck x0 (fun t106 w =>
  M.fieldAddr 3 t106 (fun t107 w =>
  M.load1 t107 (fun t108 w =>
  M.nilCheck x0 (fun t111 w =>
  M.fieldAddr 3 t111 (fun t112 w =>
  M.load1 t112 (fun t113 w =>
  M.indexSl 1 t113 x2 (fun t115 w =>
  M.load1 t115 (fun t116 w =>
  M.buildSlice 3 1 #[.int .i64 0] 1 [(0, t31)] (fun t118 w =>
  ((M.load1 t115 (fun v' _ => v' = t116) w) ∧ ((M.load1 t112 (fun v' _ => v' = t113) w) ∧ ((M.load1 t107 (fun v' _ => v' = t108) w) ∧ M.append 3 1 8 #[.int .i64 0] t116 t118 (fun t119 w =>
  ((M.load1 t112 (fun v' _ => v' = t113) w) ∧ ((M.load1 t107 (fun v' _ => v' = t108) w) ∧ M.indexSl 1 t108 x2 (fun t120 w =>
  M.store 1 t120 t119 (fun _ w =>
  K4 [] w) w) w))) w)))) w) w) w) w) w) w) w) w) w) w)) w) w) w) w) w) w) w) w) w) w) w) w) (fun s4 w => ∀ _ : List Value,
  M.call Try.prog 38 #[x1, t78] (fun t123 w =>
  M.bin .lss t123 (Value.int IntKind.i64 0) (fun t124 w =>
  M.cond t124
  (M.draw (fun w =>
  M.nilCheck x0 (fun t126 w =>
  M.fieldAddr 3 t126 (fun t127 w =>
  M.load1 t127 (fun t128 w =>
  M.nilCheck x0 (fun t131 w =>
  M.fieldAddr 3 t131 (fun t132 w =>
  M.load1 t132 (fun t133 w =>
  M.indexSl 1 t133 x2 (fun t135 w =>
  M.load1 t135 (fun t136 w =>
  M.bin .add (s1.getD 0 undef) (Value.int IntKind.i64 1) (fun t139 w =>
  M.slice 1 t18 (some t139) none none (fun t140 w =>
  M.append 3 1 8 #[.int .i64 0] t136 t140 (fun t141 w =>
  ((M.load1 t132 (fun v' _ => v' = t133) w) ∧ ((M.load1 t127 (fun v' _ => v' = t128) w) ∧ M.indexSl 1 t128 x2 (fun t142 w =>
  M.store 1 t142 t141 (fun _ w =>
  R t31 w) w) w))) w) w) w) w) w) w) w) w) w) w) w) w)
  (K2 [] w)) w) w) w) w) w) w) w) w) w)) w) w) w) w) w) w) w) w) w) w) w) w) w) w) w) w) w) w) w) w) w) w) w) w) w) w) w) w) w) w) w) w) w) w) w) w) w) (fun s2 w => ∀ _ : List Value,
  M.bin .add (s1.getD 0 undef) (Value.int IntKind.i64 1) (fun t144 w =>
  K1 [t144] w) w) w)
  (R (Value.int IntKind.i64 (-1)) w)) w) w) w) w) w) w) w) w) w) w) w) w) w
theorem ok33 (x0 x1 x2 : Value) (R : Kt) (w : World) (h : sh33 x0 x1 x2 R w) : Ret Try.prog 33 #[x0, x1, x2] w R :=
  ret_mk <| calls_of_comp mixed (c := Try.f33.body.getD .skip) (args := [x0, x1, x2]) (rs := [(ResultVar.tmp 6)]) (Ann.seq Ann.text (Ann.seq Ann.text (Ann.seq Ann.text (Ann.seq (Ann.seq Ann.text (Ann.block (Ann.loop [27] [6, 8, 9, 10, 11, 28, 29, 30, 31, 32, 33, 34, 35, 36, 37, 38, 39, 40, 41, 42, 43, 44, 45, 46, 47, 48, 49, 50, 51, 52, 53, 54, 55, 56, 57, 58, 59, 60, 61, 62, 63, 64, 65, 66, 67, 68, 69, 70, 71, 72, 73, 74, 75, 76, 77, 78, 79, 80, 81, 82, 83, 84, 85, 86, 87, 88, 89, 90, 91, 92, 93, 94, 95, 96, 97, 98, 99, 100, 101, 102, 103, 104, 105, 106, 107, 108, 109, 110, 111, 112, 113, 114, 115, 116, 117, 118, 119, 120, 121, 122, 123, 124, 125, 126, 127, 128, 129, 130, 131, 132, 133, 134, 135, 136, 137, 138, 139, 140, 141, 142, 143, 144] (Ann.seq Ann.text (Ann.seq (Ann.cond Ann.leaf Ann.leaf) (Ann.seq (Ann.jblock [] [6, 8, 9, 10, 11, 29, 30, 31, 32, 33, 34, 35, 36, 37, 38, 39, 40, 41, 42, 43, 44, 45, 46, 47, 48, 49, 50, 51, 52, 53, 54, 55, 56, 57, 58, 59, 60, 61, 62, 63, 64, 65, 66, 67, 68, 69, 70, 71, 72, 73, 74, 75, 76, 77, 78, 79, 80, 81, 82, 83, 84, 85, 86, 87, 88, 89, 90, 91, 92, 93, 94, 95, 96, 97, 98, 99, 100, 101, 102, 103, 104, 105, 106, 107, 108, 109, 110, 111, 112, 113, 114, 115, 116, 117, 118, 119, 120, 121, 122, 123, 124, 125, 126, 127, 128, 129, 130, 131, 132, 133, 134, 135, 136, 137, 138, 139, 140, 141, 142, 143] (Ann.seq Ann.text (Ann.seq Ann.text (Ann.seq (Ann.seq Ann.text (Ann.cond Ann.leaf Ann.leaf)) (Ann.seq Ann.text (Ann.join [] [79, 80, 81, 82, 83, 84, 85, 86] (Ann.seq Ann.text (Ann.cond Ann.text Ann.leaf)) (Ann.join [] [87, 88, 89, 90, 91, 92, 93, 94, 95, 96, 97, 98, 99, 100, 101, 102, 103, 104, 105, 106, 107, 108, 109, 110, 111, 112, 113, 114, 115, 116, 117, 118, 119, 120] (Ann.seq Ann.text (Ann.cond Ann.text (Ann.draw (Sch.take 0 (Sch.take 1 (Sch.take 2 (Sch.take 3 (Sch.take 4 (Sch.take 5 (Sch.take 6 (Sch.take 7 (Sch.take 8 (Sch.take 9 (Sch.take 10 (Sch.take 11 (Sch.take 12 (Sch.one 13 (Sch.one 14 (Sch.take 15 (Sch.one 16 Sch.done)))))))))))))))))))) (Ann.seq Ann.text (Ann.cond (Ann.seq (Ann.draw (Sch.take 0 (Sch.take 1 (Sch.take 2 (Sch.take 3 (Sch.take 4 (Sch.take 5 (Sch.take 6 (Sch.take 7 (Sch.take 8 (Sch.take 9 (Sch.take 10 (Sch.take 11 (Sch.take 12 (Sch.take 13 (Sch.take 14 (Sch.take 15 (Sch.one 16 (Sch.take 17 (Sch.one 18 Sch.done)))))))))))))))))))) (Ann.seq Ann.text Ann.leaf)) Ann.leaf))))))))) Ann.text)))))) (Ann.seq Ann.text Ann.leaf)))))
    Try.func33 (by kernel_rfl) (by kernel_rfl)
    (Eq.mp (by kernel_rfl) h)

section
variable {w w1 : World} {p q r : Nat} {lab ow bk : Nat → Nat} {cv : Nat → Value} {wv : Value} {t : Tr} {s : Wt} {vb vw1 vd : Value} {bvs : List Value} {O : Nat → Prop}
theorem TW.byNil_i {K : Kt} (h : TW w p q lab ow bk cv t s r vb vw1 vd bvs O) {x : Nat} (hx : x < s.by1.length)
    (hK : ∀ w2 O', TWR w2 p q O' bk cv vw1 t { s with by1 := s.by1.set x [] } → OMod w w2 O O' → (∀ b, ow b = 6 + 3 * x → ¬ O' b) → Keep w w2 (ow · = 3) → K undef w2) : M.indexSl 1 vb (vi x) (fun t w => M.store 1 t (.slice none 0 0) K w) w := by
  have hbl := h.wb.byl
  refine M.idxStoreV_i h.wb.by0 (by omega) rfl (fun w2 hB k2 s2 => ?_)
  have g2 : GI w2 No (.slice none 0 0) [] := GC.nil _ _ _
  have wb2 := h.wb.setBy (w1 := w2) hx g2 (fun b e => e.elim) (k2.mono (fun _ _ e => .inl e)) hB
  obtain ⟨O', h5, h6⟩ := h.setW (k2.mono (fun b _ e => by show ow b ≠ 0; omega)) wb2 (fun b hb e => by
    rcases relX_le e with h | h
    · exact h
    · exact (GC.blkOf g2 h).1.elim)
  refine hK w2 O' ⟨_, _, _, _, _, _, h5⟩ h6 (fun b hb e => ?_) k2
  have hn : ¬ blkOf (.slice none 0 0) b := fun ⟨n, c, e⟩ => by simp at e
  rcases (h5.iff b).1 e with e | e
  · have := h.ap b e; omega
  · unfold relX at e
    rw [if_neg hn, if_pos hb] at e
    exact e rfl
set_option maxHeartbeats 4000000 in
theorem fell_ret (h : TWR w p q O bk cv wv t s) (wi : WI t s X0) (ri : RI t s.cls) {x : Int} {e0 : Ent} (hx : 0 ≤ x ∧ x < 2 * t.vars) (he0 : e0 ∈ t.L ∧ e0.lit = notOf x) (hz : s.sz ≤ 400000000) (hcl : ∀ c ∈ s.cls, c.lits.length ≤ 1000000) (hc0 : 0 ≤ t.count) (hcc : t.count + t.vars ≤ 1000000000000) :
    Ret Try.prog 33 #[ptr q, ptr p, vi x] w (fun v w' => ∃ t' s' O' wv' bad, v = vi bad ∧ TWR w' p q O' bk cv wv' t' s' ∧ OMod w w' O O' ∧ FeR t s t' s' x e0 bad) := by
  obtain ⟨lab, ow, r, vb, vd, bvs, hT⟩ := id h
  have hB := hT.wb.st
  have hbyl := wi.byl
  obtain ⟨xn, rfl⟩ := Int.eq_ofNat_of_zero_le hx.1
  refine ok33 _ _ _ _ _ ?_
  unfold sh33
  (repeat (first|refine ja ?_|refine jb ?_|refine jc ?_|refine jd ?_|refine je ?_|refine jf ?_|refine jg ?_|refine jh ?_|refine ji ?_|refine jj ?_|refine jk ?_|refine jl ?_|refine jm ?_|refine jn ?_|refine jo ?_|refine jp ?_|refine jq ?_|refine jr ?_|refine js ?_|refine jt ?_|refine ju ?_|refine jv ?_|refine jw ?_|refine jx ?_|refine jy ?_|refine jz ?_|refine jA ?_|refine jB ?_|refine jC ?_|refine jD ?_|refine jE ?_|refine jF ?_|refine jG ?_|refine jH ?_|refine jI ?_|refine jJ ?_|refine jK ?_|refine jL ?_|refine jM (by assumption) ?_|refine jN (by assumption) rfl ?_|refine jO (by assumption) ?_|refine jP (by assumption) rfl ?_|refine jQ ?_|refine jR ?_|refine jS ?_|refine jT ?_|refine jU (by assumption) rfl ?_))
  refine M.byAt_i hT.wb (x := xn) (by omega) (fun bb v list hob hbv hbl hgl hcell => ?_)
  (repeat (first|refine ja ?_|refine jb ?_|refine jc ?_|refine jd ?_|refine je ?_|refine jf ?_|refine jg ?_|refine jh ?_|refine ji ?_|refine jj ?_|refine jk ?_|refine jl ?_|refine jm ?_|refine jn ?_|refine jo ?_|refine jp ?_|refine jq ?_|refine jr ?_|refine js ?_|refine jt ?_|refine ju ?_|refine jv ?_|refine jw ?_|refine jx ?_|refine jy ?_|refine jz ?_|refine jA ?_|refine jB ?_|refine jC ?_|refine jD ?_|refine jE ?_|refine jF ?_|refine jG ?_|refine jH ?_|refine jI ?_|refine jJ ?_|refine jK ?_|refine jL ?_|refine jM (by assumption) ?_|refine jN (by assumption) rfl ?_|refine jO (by assumption) ?_|refine jP (by assumption) rfl ?_|refine jQ ?_|refine jR ?_|refine jS ?_|refine jT ?_|refine jU (by assumption) rfl ?_))
  obtain ⟨A, cap, rfl, hrow, hcap⟩ := GC.row2 hgl (by omega)
  refine hT.byNil_i (by omega) (fun w2 O2 h2 m2 hO2 k2 => ?_)
  have hrow2 : Row w2 (fun b => ¬ O2 b ∧ b < w2.heap.size) A (list.map vi) := (hrow.keep k2 (fun b _ e e2 => by omega)).mono (fun b hb e => ⟨hO2 b e, hb⟩)
  have hI0 : FeI t s t { s with by1 := s.by1.set xn [] } xn e0 list 0 := by
    have := FeI.start (e0 := e0) wi ri hx.1 (by rw [Int.toNat_natCast]; exact hbl)
    rw [Int.toNat_natCast] at this
    exact this
  (repeat (first|refine ja ?_|refine jb ?_|refine jc ?_|refine jd ?_|refine je ?_|refine jf ?_|refine jg ?_|refine jh ?_|refine ji ?_|refine jj ?_|refine jk ?_|refine jl ?_|refine jm ?_|refine jn ?_|refine jo ?_|refine jp ?_|refine jq ?_|refine jr ?_|refine js ?_|refine jt ?_|refine ju ?_|refine jv ?_|refine jw ?_|refine jx ?_|refine jy ?_|refine jz ?_|refine jA ?_|refine jB ?_|refine jC ?_|refine jD ?_|refine jE ?_|refine jF ?_|refine jG ?_|refine jH ?_|refine jI ?_|refine jJ ?_|refine jK ?_|refine jL ?_|refine jM (by assumption) ?_|refine jN (by assumption) rfl ?_|refine jO (by assumption) ?_|refine jP (by assumption) rfl ?_|refine jQ ?_|refine jR ?_|refine jS ?_|refine jT ?_|refine jU (by assumption) rfl ?_))
  refine M.loop_i (σ := Nat) (fun k vals w' => vals = [vi k] ∧ k ≤ list.length ∧ ∃ t' s' O' wv', TWR w' p q O' bk cv wv' t' s' ∧ OMod w2 w' O2 O' ∧ FeI t s t' s' xn e0 list k) (fun k => list.length - k) 0
    ⟨rfl, by omega, t, _, O2, wv, h2, OMod.refl _ _, hI0⟩ ?_
  rintro k vals w3 K ⟨rfl, hk, t', s', O', wv', h3, m3, hI⟩ hK _
  simp only [List.getD_cons_zero, List.getD_cons_succ]
  have hszI := hI.sz
  have hll : list.length ≤ s.sz := by have := sz_by hbl; omega
  by_cases hlt : k < list.length
  rotate_left
  · have e : k = list.length := by omega
    subst e
    (repeat (first|refine ja ?_|refine jb ?_|refine jc ?_|refine jd ?_|refine je ?_|refine jf ?_|refine jg ?_|refine jh ?_|refine ji ?_|refine jj ?_|refine jk ?_|refine jl ?_|refine jm ?_|refine jn ?_|refine jo ?_|refine jp ?_|refine jq ?_|refine jr ?_|refine js ?_|refine jt ?_|refine ju ?_|refine jv ?_|refine jw ?_|refine jx ?_|refine jy ?_|refine jz ?_|refine jA ?_|refine jB ?_|refine jC ?_|refine jD ?_|refine jE ?_|refine jF ?_|refine jG ?_|refine jH ?_|refine jI ?_|refine jJ ?_|refine jK ?_|refine jL ?_|refine jM (by assumption) ?_|refine jN (by assumption) rfl ?_|refine jO (by assumption) ?_|refine jP (by assumption) rfl ?_|refine jQ ?_|refine jR ?_|refine jS ?_|refine jT ?_|refine jU (by assumption) rfl ?_))
    exact ⟨t', s', O', wv', -1, rfl, h3, m2.trans m3, hI.fin⟩
  obtain ⟨i, hi⟩ : ∃ i, list[k]? = some i := ⟨_, List.getElem?_eq_getElem hlt⟩
  obtain ⟨lab3, ow3, r3, vb3, vd3, bvs3, hT3⟩ := id h3
  have hB3 := hT3.wb.st
  have hrow3 := hrow2.keep m3.1 (fun b _ e e2 => e.1 e2)
  (repeat (first|refine ja ?_|refine jb ?_|refine jc ?_|refine jd ?_|refine je ?_|refine jf ?_|refine jg ?_|refine jh ?_|refine ji ?_|refine jj ?_|refine jk ?_|refine jl ?_|refine jm ?_|refine jn ?_|refine jo ?_|refine jp ?_|refine jq ?_|refine jr ?_|refine js ?_|refine jt ?_|refine ju ?_|refine jv ?_|refine jw ?_|refine jx ?_|refine jy ?_|refine jz ?_|refine jA ?_|refine jB ?_|refine jC ?_|refine jD ?_|refine jE ?_|refine jF ?_|refine jG ?_|refine jH ?_|refine jI ?_|refine jJ ?_|refine jK ?_|refine jL ?_|refine jM (by assumption) ?_|refine jN (by assumption) rfl ?_|refine jO (by assumption) ?_|refine jP (by assumption) rfl ?_|refine jQ ?_|refine jR ?_|refine jS ?_|refine jT ?_|refine jU (by assumption) rfl ?_))
  refine M.share_j (fun vals w' => ∃ t2 s2 O3 wv3, TWR w' p q O3 bk cv wv3 t2 s2 ∧ OMod w2 w' O2 O3 ∧ FeI t s t2 s2 xn e0 list (k + 1)) ?_ ?_
  · rintro vals w' ⟨t2, s2, O3, wv3, h4, m4, hI4⟩ _
    (repeat (first|refine ja ?_|refine jb ?_|refine jc ?_|refine jd ?_|refine je ?_|refine jf ?_|refine jg ?_|refine jh ?_|refine ji ?_|refine jj ?_|refine jk ?_|refine jl ?_|refine jm ?_|refine jn ?_|refine jo ?_|refine jp ?_|refine jq ?_|refine jr ?_|refine js ?_|refine jt ?_|refine ju ?_|refine jv ?_|refine jw ?_|refine jx ?_|refine jy ?_|refine jz ?_|refine jA ?_|refine jB ?_|refine jC ?_|refine jD ?_|refine jE ?_|refine jF ?_|refine jG ?_|refine jH ?_|refine jI ?_|refine jJ ?_|refine jK ?_|refine jL ?_|refine jM (by assumption) ?_|refine jN (by assumption) rfl ?_|refine jO (by assumption) ?_|refine jP (by assumption) rfl ?_|refine jQ ?_|refine jR ?_|refine jS ?_|refine jT ?_|refine jU (by assumption) rfl ?_))
    exact hK (k + 1) _ _ (by omega) ⟨rfl, by omega, t2, s2, O3, wv3, h4, m4, hI4⟩
  · intro K2 hK2
    refine M.idxLV_i hrow3 rfl (by omega) (by omega) (x := i) (by simpa using hi) (fun bb oo hA hcc => ?_)
    (repeat (first|refine ja ?_|refine jb ?_|refine jc ?_|refine jd ?_|refine je ?_|refine jf ?_|refine jg ?_|refine jh ?_|refine ji ?_|refine jj ?_|refine jk ?_|refine jl ?_|refine jm ?_|refine jn ?_|refine jo ?_|refine jp ?_|refine jq ?_|refine jr ?_|refine js ?_|refine jt ?_|refine ju ?_|refine jv ?_|refine jw ?_|refine jx ?_|refine jy ?_|refine jz ?_|refine jA ?_|refine jB ?_|refine jC ?_|refine jD ?_|refine jE ?_|refine jF ?_|refine jG ?_|refine jH ?_|refine jI ?_|refine jJ ?_|refine jK ?_|refine jL ?_|refine jM (by assumption) ?_|refine jN (by assumption) rfl ?_|refine jO (by assumption) ?_|refine jP (by assumption) rfl ?_|refine jQ ?_|refine jR ?_|refine jS ?_|refine jT ?_|refine jU (by assumption) rfl ?_))
    refine hT3.wb.all_i _ ?_
    cases hgi : s'.get i with
    | none =>
      (repeat (first|refine ja ?_|refine jb ?_|refine jc ?_|refine jd ?_|refine je ?_|refine jf ?_|refine jg ?_|refine jh ?_|refine ji ?_|refine jj ?_|refine jk ?_|refine jl ?_|refine jm ?_|refine jn ?_|refine jo ?_|refine jp ?_|refine jq ?_|refine jr ?_|refine js ?_|refine jt ?_|refine ju ?_|refine jv ?_|refine jw ?_|refine jx ?_|refine jy ?_|refine jz ?_|refine jA ?_|refine jB ?_|refine jC ?_|refine jD ?_|refine jE ?_|refine jF ?_|refine jG ?_|refine jH ?_|refine jI ?_|refine jJ ?_|refine jK ?_|refine jL ?_|refine jM (by assumption) ?_|refine jN (by assumption) rfl ?_|refine jO (by assumption) ?_|refine jP (by assumption) rfl ?_|refine jQ ?_|refine jR ?_|refine jS ?_|refine jT ?_|refine jU (by assumption) rfl ?_))
      exact hK2 _ _ ⟨t', s', O', wv', h3, m3, hI.skip hi (fun c hc e _ => by rw [← e, hI.wi.get hc] at hgi; cases hgi)⟩
    | some c =>
      obtain ⟨hc, hcn⟩ := get_some hgi
      subst hcn
      obtain ⟨ho3, hb3, hl3⟩ := hT3.wb.one _ hc
      simp only
      by_cases hcw : c.whole = true
      · rw [hcw] at hb3
        (repeat (first|refine ja ?_|refine jb ?_|refine jc ?_|refine jd ?_|refine je ?_|refine jf ?_|refine jg ?_|refine jh ?_|refine ji ?_|refine jj ?_|refine jk ?_|refine jl ?_|refine jm ?_|refine jn ?_|refine jo ?_|refine jp ?_|refine jq ?_|refine jr ?_|refine js ?_|refine jt ?_|refine ju ?_|refine jv ?_|refine jw ?_|refine jx ?_|refine jy ?_|refine jz ?_|refine jA ?_|refine jB ?_|refine jC ?_|refine jD ?_|refine jE ?_|refine jF ?_|refine jG ?_|refine jH ?_|refine jI ?_|refine jJ ?_|refine jK ?_|refine jL ?_|refine jM (by assumption) ?_|refine jN (by assumption) rfl ?_|refine jO (by assumption) ?_|refine jP (by assumption) rfl ?_|refine jQ ?_|refine jR ?_|refine jS ?_|refine jT ?_|refine jU (by assumption) rfl ?_))
        exact hK2 _ _ ⟨t', s', O', wv', h3, m3, hI.skip hi (fun d hd e hw => by
          have := uniq_n hI.wi.nod hd hc (by omega)
          subst this
          rw [hcw] at hw; cases hw)⟩
      have hcw : c.whole = false := by simpa using hcw
      rw [hcw] at hb3
      obtain ⟨l0, l1, rest, hl01, hat0, hat1, hok0, hok1⟩ := hI.wi.wat c hc hcw
      have hcl2 : 2 ≤ c.lits.length := by rw [hl01, List.length_cons, List.length_cons]; omega
      obtain ⟨b0, cap0, tl0, hcv, hL0, hBl, hcap0⟩ := hl3.pos (by omega)
      have hcA : w3.cell? ⟨b0, 0, none⟩ = some (vi l0) := GI.at0 hl3 hcv (by rw [hl01]; rfl)
      have hcB : w3.cell? ⟨b0, 1, none⟩ = some (vi l1) := GI.at0 hl3 hcv (by rw [hl01]; rfl)
      have hi0 : ∀ {k : Kt} {w' : World}, k (.pointer (some ⟨b0, 0, none⟩)) w' → M.indexSl 1 (cv c.n) (Value.int IntKind.i64 0) k w' := fun {k w'} hk => by
        rw [hcv]
        refine M.idx_i (by omega) (by omega) ?_
        exact hk
      have hi1 : ∀ {k : Kt} {w' : World}, k (.pointer (some ⟨b0, 1, none⟩)) w' → M.indexSl 1 (cv c.n) (Value.int IntKind.i64 1) k w' := fun {k w'} hk => by
        rw [hcv]
        refine M.idx_i (by omega) (by omega) ?_
        exact hk
      by_cases hwt : l0 ≠ xn ∧ l1 ≠ xn
      · obtain ⟨hn0, hn1⟩ := hwt
        (repeat (first|refine ja ?_|refine jb ?_|refine jc ?_|refine jd ?_|refine je ?_|refine jf ?_|refine jg ?_|refine jh ?_|refine ji ?_|refine jj ?_|refine jk ?_|refine jl ?_|refine jm ?_|refine jn ?_|refine jo ?_|refine jp ?_|refine jq ?_|refine jr ?_|refine js ?_|refine jt ?_|refine ju ?_|refine jv ?_|refine jw ?_|refine jx ?_|refine jy ?_|refine jz ?_|refine jA ?_|refine jB ?_|refine jC ?_|refine jD ?_|refine jE ?_|refine jF ?_|refine jG ?_|refine jH ?_|refine jI ?_|refine jJ ?_|refine jK ?_|refine jL ?_|refine jM (by assumption) ?_|refine jN (by assumption) rfl ?_|refine jO (by assumption) ?_|refine jP (by assumption) rfl ?_|refine jQ ?_|refine jR ?_|refine jS ?_|refine jT ?_|refine jU (by assumption) rfl ?_))
        refine hi0 ?_
        (repeat (first|refine ja ?_|refine jb ?_|refine jc ?_|refine jd ?_|refine je ?_|refine jf ?_|refine jg ?_|refine jh ?_|refine ji ?_|refine jj ?_|refine jk ?_|refine jl ?_|refine jm ?_|refine jn ?_|refine jo ?_|refine jp ?_|refine jq ?_|refine jr ?_|refine js ?_|refine jt ?_|refine ju ?_|refine jv ?_|refine jw ?_|refine jx ?_|refine jy ?_|refine jz ?_|refine jA ?_|refine jB ?_|refine jC ?_|refine jD ?_|refine jE ?_|refine jF ?_|refine jG ?_|refine jH ?_|refine jI ?_|refine jJ ?_|refine jK ?_|refine jL ?_|refine jM (by assumption) ?_|refine jN (by assumption) rfl ?_|refine jO (by assumption) ?_|refine jP (by assumption) rfl ?_|refine jQ ?_|refine jR ?_|refine jS ?_|refine jT ?_|refine jU (by assumption) rfl ?_))
        refine hi1 ?_
        (repeat (first|refine ja ?_|refine jb ?_|refine jc ?_|refine jd ?_|refine je ?_|refine jf ?_|refine jg ?_|refine jh ?_|refine ji ?_|refine jj ?_|refine jk ?_|refine jl ?_|refine jm ?_|refine jn ?_|refine jo ?_|refine jp ?_|refine jq ?_|refine jr ?_|refine js ?_|refine jt ?_|refine ju ?_|refine jv ?_|refine jw ?_|refine jx ?_|refine jy ?_|refine jz ?_|refine jA ?_|refine jB ?_|refine jC ?_|refine jD ?_|refine jE ?_|refine jF ?_|refine jG ?_|refine jH ?_|refine jI ?_|refine jJ ?_|refine jK ?_|refine jL ?_|refine jM (by assumption) ?_|refine jN (by assumption) rfl ?_|refine jO (by assumption) ?_|refine jP (by assumption) rfl ?_|refine jQ ?_|refine jR ?_|refine jS ?_|refine jT ?_|refine jU (by assumption) rfl ?_))
        exact hK2 _ _ ⟨t', s', O', wv', h3, m3, hI.skip hi (fun d hd e hw a b r' hr => by
          have := uniq_n hI.wi.nod hd hc (by omega)
          subst this
          rw [hl01] at hr
          simp only [List.cons.injEq] at hr
          obtain ⟨rfl, rfl, _⟩ := hr
          exact ⟨hn0, hn1⟩)⟩
      obtain ⟨n1, nb1, hx1⟩ := hI.ext
      have hct1 : 0 ≤ t'.count ∧ t'.count ≤ 1000000000000 := by
        have e1 := hx1.count
        have e2 := h3.fine.len.1
        rw [hx1.L, List.length_append, hx1.vars] at e2
        omega
      obtain ⟨c00, hc0m, hc0n, hc0p⟩ := hI.ceq.mem' hc
      have hcl1 : c.lits.length ≤ 1000000 := by rw [hc0p.length_eq]; exact hcl c00 hc0m
      have hrng := hI.wi.rng c hc
      have hbyl' := hI.wi.byl
      have hvars' := hx1.vars
      have hnd := hI.wi.nodl c hc
      have hf3 := h3.fine
      have he3 : e0 ∈ t'.L := by rw [hx1.L]; exact List.mem_append_left _ he0.1
      have hvx : t'.has (notOf (xn : Int)) := ⟨e0, he3, he0.2⟩
      have hvxn := (hf3.val_neg hx.1).2 hvx
      have hrl : rest.length < c.lits.length := by rw [hl01, List.length_cons, List.length_cons]; omega
      obtain ⟨a, z, haz, hcaz, hz⟩ : ∃ a z : Int, ((a, z) = if l0 = (xn : Int) then (l1, l0) else (l0, l1)) ∧ (c.lits = (xn : Int) :: a :: rest ∨ c.lits = a :: (xn : Int) :: rest) ∧ z = xn := by
        by_cases e : l0 = (xn : Int)
        · exact ⟨l1, l0, by rw [if_pos e], .inl (by rw [hl01, e]), e⟩
        · have e2 : l1 = (xn : Int) := by
            apply Classical.byContradiction
            intro hn
            exact hwt ⟨e, hn⟩
          exact ⟨l0, l1, by rw [if_neg e], .inr (by rw [hl01, e2]), e2⟩
      subst hz
      have hxx : ∀ y ∈ c.lits, 0 ≤ y ∧ y < s'.by1.length := fun y hy => by have := hrng y hy; omega
      have hwt' : l0 = (xn : Int) ∨ (l0 ≠ (xn : Int) ∧ l1 = (xn : Int)) := by
        by_cases e : l0 = (xn : Int)
        · exact .inl e
        · exact .inr ⟨e, by
            apply Classical.byContradiction
            intro hn
            exact hwt ⟨e, hn⟩⟩
      have hszs : s'.sz ≤ 1000000000 := by omega
      obtain ⟨hI4, hp4, hax⟩ := hI.no hi hc hcw hcaz
      rcases hwt' with e0l | ⟨e0l, e1l⟩
      all_goals
        (repeat (first|refine ja ?_|refine jb ?_|refine jc ?_|refine jd ?_|refine je ?_|refine jf ?_|refine jg ?_|refine jh ?_|refine ji ?_|refine jj ?_|refine jk ?_|refine jl ?_|refine jm ?_|refine jn ?_|refine jo ?_|refine jp ?_|refine jq ?_|refine jr ?_|refine js ?_|refine jt ?_|refine ju ?_|refine jv ?_|refine jw ?_|refine jx ?_|refine jy ?_|refine jz ?_|refine jA ?_|refine jB ?_|refine jC ?_|refine jD ?_|refine jE ?_|refine jF ?_|refine jG ?_|refine jH ?_|refine jI ?_|refine jJ ?_|refine jK ?_|refine jL ?_|refine jM (by assumption) ?_|refine jN (by assumption) rfl ?_|refine jO (by assumption) ?_|refine jP (by assumption) rfl ?_|refine jQ ?_|refine jR ?_|refine jS ?_|refine jT ?_|refine jU (by assumption) rfl ?_))
        refine hi0 ?_
        (repeat (first|refine ja ?_|refine jb ?_|refine jc ?_|refine jd ?_|refine je ?_|refine jf ?_|refine jg ?_|refine jh ?_|refine ji ?_|refine jj ?_|refine jk ?_|refine jl ?_|refine jm ?_|refine jn ?_|refine jo ?_|refine jp ?_|refine jq ?_|refine jr ?_|refine js ?_|refine jt ?_|refine ju ?_|refine jv ?_|refine jw ?_|refine jx ?_|refine jy ?_|refine jz ?_|refine jA ?_|refine jB ?_|refine jC ?_|refine jD ?_|refine jE ?_|refine jF ?_|refine jG ?_|refine jH ?_|refine jI ?_|refine jJ ?_|refine jK ?_|refine jL ?_|refine jM (by assumption) ?_|refine jN (by assumption) rfl ?_|refine jO (by assumption) ?_|refine jP (by assumption) rfl ?_|refine jQ ?_|refine jR ?_|refine jS ?_|refine jT ?_|refine jU (by assumption) rfl ?_))
        try
          refine hi1 ?_
          (repeat (first|refine ja ?_|refine jb ?_|refine jc ?_|refine jd ?_|refine je ?_|refine jf ?_|refine jg ?_|refine jh ?_|refine ji ?_|refine jj ?_|refine jk ?_|refine jl ?_|refine jm ?_|refine jn ?_|refine jo ?_|refine jp ?_|refine jq ?_|refine jr ?_|refine js ?_|refine jt ?_|refine ju ?_|refine jv ?_|refine jw ?_|refine jx ?_|refine jy ?_|refine jz ?_|refine jA ?_|refine jB ?_|refine jC ?_|refine jD ?_|refine jE ?_|refine jF ?_|refine jG ?_|refine jH ?_|refine jI ?_|refine jJ ?_|refine jK ?_|refine jL ?_|refine jM (by assumption) ?_|refine jN (by assumption) rfl ?_|refine jO (by assumption) ?_|refine jP (by assumption) rfl ?_|refine jQ ?_|refine jR ?_|refine jS ?_|refine jT ?_|refine jU (by assumption) rfl ?_))
        refine M.call_i (moved_ret h3 hgi hl01 haz hcl1 hszs hxx) ?_
        rintro v4 w4 ⟨s4, O4, hM, h4, m4⟩
        have m04 := m3.trans m4
        cases hM with
        | yes j y hj hv =>
          (repeat (first|refine ja ?_|refine jb ?_|refine jc ?_|refine jd ?_|refine je ?_|refine jf ?_|refine jg ?_|refine jh ?_|refine ji ?_|refine jj ?_|refine jk ?_|refine jl ?_|refine jm ?_|refine jn ?_|refine jo ?_|refine jp ?_|refine jq ?_|refine jr ?_|refine js ?_|refine jt ?_|refine ju ?_|refine jv ?_|refine jw ?_|refine jx ?_|refine jy ?_|refine jz ?_|refine jA ?_|refine jB ?_|refine jC ?_|refine jD ?_|refine jE ?_|refine jF ?_|refine jG ?_|refine jH ?_|refine jI ?_|refine jJ ?_|refine jK ?_|refine jL ?_|refine jM (by assumption) ?_|refine jN (by assumption) rfl ?_|refine jO (by assumption) ?_|refine jP (by assumption) rfl ?_|refine jQ ?_|refine jR ?_|refine jS ?_|refine jT ?_|refine jU (by assumption) rfl ?_))
          exact hK2 _ _ ⟨t', _, O4, wv', h4, m04, hI.yes hf3 hi hc hcw hcaz hx.1 hvx hj hv⟩
        | no hno =>
          have hg4 : (s'.putC c.n (a :: (xn : Int) :: rest) c.whole).get c.n = some ⟨c.n, a :: (xn : Int) :: rest, c.whole⟩ := get_put hgi
          have hc4 := (get_some hg4).1
          have hby4 : (s'.putC c.n (a :: (xn : Int) :: rest) c.whole).by1 = s'.by1 := rfl
          have hsz4 : (s'.putC c.n (a :: (xn : Int) :: rest) c.whole).sz = s'.sz := rfl
          have hbl4 : (s'.putC c.n (a :: (xn : Int) :: rest) c.whole).by1.length = s'.by1.length := rfl
          generalize s'.putC c.n (a :: (xn : Int) :: rest) c.whole = s4 at h4 hI4 hg4 hc4 hby4 hsz4 hbl4
          obtain ⟨lab4, ow4, r4, vb4, vd4, bvs4, hT4⟩ := id h4
          obtain ⟨ho4, hb4, hl4⟩ := hT4.wb.one _ hc4
          have hcA4 : w4.cell? ⟨b0, 0, none⟩ = some (vi a) := GI.at0 hl4 hcv rfl
          simp only at hb4
          (repeat (first|refine ja ?_|refine jb ?_|refine jc ?_|refine jd ?_|refine je ?_|refine jf ?_|refine jg ?_|refine jh ?_|refine ji ?_|refine jj ?_|refine jk ?_|refine jl ?_|refine jm ?_|refine jn ?_|refine jo ?_|refine jp ?_|refine jq ?_|refine jr ?_|refine js ?_|refine jt ?_|refine ju ?_|refine jv ?_|refine jw ?_|refine jx ?_|refine jy ?_|refine jz ?_|refine jA ?_|refine jB ?_|refine jC ?_|refine jD ?_|refine jE ?_|refine jF ?_|refine jG ?_|refine jH ?_|refine jI ?_|refine jJ ?_|refine jK ?_|refine jL ?_|refine jM (by assumption) ?_|refine jN (by assumption) rfl ?_|refine jO (by assumption) ?_|refine jP (by assumption) rfl ?_|refine jQ ?_|refine jR ?_|refine jS ?_|refine jT ?_|refine jU (by assumption) rfl ?_))
          refine hi0 ?_
          (repeat (first|refine ja ?_|refine jb ?_|refine jc ?_|refine jd ?_|refine je ?_|refine jf ?_|refine jg ?_|refine jh ?_|refine ji ?_|refine jj ?_|refine jk ?_|refine jl ?_|refine jm ?_|refine jn ?_|refine jo ?_|refine jp ?_|refine jq ?_|refine jr ?_|refine js ?_|refine jt ?_|refine ju ?_|refine jv ?_|refine jw ?_|refine jx ?_|refine jy ?_|refine jz ?_|refine jA ?_|refine jB ?_|refine jC ?_|refine jD ?_|refine jE ?_|refine jF ?_|refine jG ?_|refine jH ?_|refine jI ?_|refine jJ ?_|refine jK ?_|refine jL ?_|refine jM (by assumption) ?_|refine jN (by assumption) rfl ?_|refine jO (by assumption) ?_|refine jP (by assumption) rfl ?_|refine jQ ?_|refine jR ?_|refine jS ?_|refine jT ?_|refine jU (by assumption) rfl ?_))
          have ha0 := hI4.wi.rng _ hc4 a (by simp)
          refine M.share_j (fun vals w' => ∃ t5 O5, TWR w' p q O5 bk cv wv' t5 s4 ∧ OMod w2 w' O2 O5 ∧ FeI t s t5 s4 xn e0 list k ∧ t5.val a ≠ 0 ∧ ∀ y, t'.has y → t5.has y) ?_ ?_
          rotate_left
          · intro K3 hK3
            refine M.call_i (val_tw h4 a) ?_; rintro _ w5 ⟨rfl, k5⟩
            by_cases hva : t'.val a = 0
            · (repeat (first|refine ja ?_|refine jb ?_|refine jc ?_|refine jd ?_|refine je ?_|refine jf ?_|refine jg ?_|refine jh ?_|refine ji ?_|refine jj ?_|refine jk ?_|refine jl ?_|refine jm ?_|refine jn ?_|refine jo ?_|refine jp ?_|refine jq ?_|refine jr ?_|refine js ?_|refine jt ?_|refine ju ?_|refine jv ?_|refine jw ?_|refine jx ?_|refine jy ?_|refine jz ?_|refine jA ?_|refine jB ?_|refine jC ?_|refine jD ?_|refine jE ?_|refine jF ?_|refine jG ?_|refine jH ?_|refine jI ?_|refine jJ ?_|refine jK ?_|refine jL ?_|refine jM (by assumption) ?_|refine jN (by assumption) rfl ?_|refine jO (by assumption) ?_|refine jP (by assumption) rfl ?_|refine jQ ?_|refine jR ?_|refine jS ?_|refine jT ?_|refine jU (by assumption) rfl ?_))
              refine M.call_i (asg_tw (h4.keepN k5) a c.n) ?_; rintro _ w6 ⟨rfl, O6, h6, m6⟩
              refine hK3 _ _ ⟨_, O6, h6, (m04.trans (OMod.of k5)).trans m6, hI4.asg (c := ⟨c.n, a :: (xn : Int) :: rest, c.whole⟩) hf3 hc4 (by simp) (fun l hl hne => ?_) hct1.1 hct1.2, ?_, ?_⟩
              · simp only [List.mem_cons] at hl
                rcases hl with e | e | e
                · exact absurd e hne
                · rw [e]; exact hvxn
                · exact hno l e
              · obtain ⟨new, nb, hxa, ha1, _⟩ := Ext.assign t' (l := a) (r := c.n) (by omega) hct1.1 hct1.2
                have hm : t'.may a = true := by rw [hf3.may ha0.1 ha0.2]; simpa using hva
                have : (t'.assign a c.n).has a := ⟨⟨a, t'.begins.length, c.n⟩, by rw [hxa.L, ha1 hm]; simp, rfl⟩
                have := (h6.fine.val_pos ha0.1).2 this
                omega
              · obtain ⟨new, nb, hxa, ha1, _⟩ := Ext.assign t' (l := a) (r := c.n) (by omega) hct1.1 hct1.2
                exact fun y hy => hxa.has hy
            · (repeat (first|refine ja ?_|refine jb ?_|refine jc ?_|refine jd ?_|refine je ?_|refine jf ?_|refine jg ?_|refine jh ?_|refine ji ?_|refine jj ?_|refine jk ?_|refine jl ?_|refine jm ?_|refine jn ?_|refine jo ?_|refine jp ?_|refine jq ?_|refine jr ?_|refine js ?_|refine jt ?_|refine ju ?_|refine jv ?_|refine jw ?_|refine jx ?_|refine jy ?_|refine jz ?_|refine jA ?_|refine jB ?_|refine jC ?_|refine jD ?_|refine jE ?_|refine jF ?_|refine jG ?_|refine jH ?_|refine jI ?_|refine jJ ?_|refine jK ?_|refine jL ?_|refine jM (by assumption) ?_|refine jN (by assumption) rfl ?_|refine jO (by assumption) ?_|refine jP (by assumption) rfl ?_|refine jQ ?_|refine jR ?_|refine jS ?_|refine jT ?_|refine jU (by assumption) rfl ?_))
              exact hK3 _ _ ⟨t', O4, h4.keepN k5, m04.trans (OMod.of k5), hI4, hva, fun _ h => h⟩
          · rintro vals w5 ⟨t5, O5, h5, m5, hI5, hva, hmore⟩ _
            obtain ⟨n5, nb5, hx5⟩ := hI5.ext
            have hf5 := h5.fine
            have he5 : e0 ∈ t5.L := by rw [hx5.L]; exact List.mem_append_left _ he0.1
            have hI6a := hI5.look (c := ⟨c.n, a :: (xn : Int) :: rest, c.whole⟩) hi hc4 hcw
            have hz4 : s4.sz ≤ 1000000000 := by omega
            refine M.share_j (fun vals w' => ∃ s6 O6 wv6, TWR w' p q O6 bk cv wv6 t5 s6 ∧ OMod w2 w' O2 O6 ∧ FeI t s t5 s6 xn e0 list (k + 1) ∧ s6.by1.length = s4.by1.length ∧ s6.sz ≤ s4.sz + 1 ∧ ∃ d ∈ s6.cls, d.n = c.n ∧ d.lits = a :: (xn : Int) :: rest) ?_ ?_
            rotate_left
            · intro K4 hK4
              refine M.call_i (val_tw h5 a) ?_; rintro _ w6 ⟨rfl, k6⟩
              have h6 := h5.keepN k6
              have m6 := m5.trans (OMod.of k6)
              have hlk : ∀ w7, Keep w6 w7 No → ∀ (k' : Kt), (∀ v w', K4 [] w' → k' v w') → M.call Try.prog 53 #[ptr q, vi c.n] k' w7 := fun w7 k7 k' hk' => by
                refine M.call_i (look_ret (c := ⟨c.n, a :: (xn : Int) :: rest, c.whole⟩) (h6.keepN k7) hg4 hz4) ?_
                rintro v8 w8 ⟨O8, wv8, h8, m8⟩
                refine hk' _ _ (hK4 _ _ ⟨_, O8, wv8, h8, (m6.trans (OMod.of k7)).trans m8, hI6a, ?_, ?_, ?_⟩)
                · unfold Wt.look; split <;> rfl
                · unfold Wt.look Wt.sz
                  split
                  · omega
                  · simp [Wt.putC]; omega
                · unfold Wt.look
                  rw [if_neg (by rw [hcw]; simp)]
                  exact ⟨⟨c.n, a :: (xn : Int) :: rest, true⟩, (get_some (get_put (c := ⟨c.n, a :: (xn : Int) :: rest, c.whole⟩) hg4)).1, rfl, rfl⟩
              by_cases hv : t5.val a < 0
              · (repeat (first|refine ja ?_|refine jb ?_|refine jc ?_|refine jd ?_|refine je ?_|refine jf ?_|refine jg ?_|refine jh ?_|refine ji ?_|refine jj ?_|refine jk ?_|refine jl ?_|refine jm ?_|refine jn ?_|refine jo ?_|refine jp ?_|refine jq ?_|refine jr ?_|refine js ?_|refine jt ?_|refine ju ?_|refine jv ?_|refine jw ?_|refine jx ?_|refine jy ?_|refine jz ?_|refine jA ?_|refine jB ?_|refine jC ?_|refine jD ?_|refine jE ?_|refine jF ?_|refine jG ?_|refine jH ?_|refine jI ?_|refine jJ ?_|refine jK ?_|refine jL ?_|refine jM (by assumption) ?_|refine jN (by assumption) rfl ?_|refine jO (by assumption) ?_|refine jP (by assumption) rfl ?_|refine jQ ?_|refine jR ?_|refine jS ?_|refine jT ?_|refine jU (by assumption) rfl ?_))
                refine hlk w6 (Keep.refl _ _) _ (fun v w' h => ?_)
                (repeat (first|refine ja ?_|refine jb ?_|refine jc ?_|refine jd ?_|refine je ?_|refine jf ?_|refine jg ?_|refine jh ?_|refine ji ?_|refine jj ?_|refine jk ?_|refine jl ?_|refine jm ?_|refine jn ?_|refine jo ?_|refine jp ?_|refine jq ?_|refine jr ?_|refine js ?_|refine jt ?_|refine ju ?_|refine jv ?_|refine jw ?_|refine jx ?_|refine jy ?_|refine jz ?_|refine jA ?_|refine jB ?_|refine jC ?_|refine jD ?_|refine jE ?_|refine jF ?_|refine jG ?_|refine jH ?_|refine jI ?_|refine jJ ?_|refine jK ?_|refine jL ?_|refine jM (by assumption) ?_|refine jN (by assumption) rfl ?_|refine jO (by assumption) ?_|refine jP (by assumption) rfl ?_|refine jQ ?_|refine jR ?_|refine jS ?_|refine jT ?_|refine jU (by assumption) rfl ?_))
                exact h
              · (repeat (first|refine ja ?_|refine jb ?_|refine jc ?_|refine jd ?_|refine je ?_|refine jf ?_|refine jg ?_|refine jh ?_|refine ji ?_|refine jj ?_|refine jk ?_|refine jl ?_|refine jm ?_|refine jn ?_|refine jo ?_|refine jp ?_|refine jq ?_|refine jr ?_|refine js ?_|refine jt ?_|refine ju ?_|refine jv ?_|refine jw ?_|refine jx ?_|refine jy ?_|refine jz ?_|refine jA ?_|refine jB ?_|refine jC ?_|refine jD ?_|refine jE ?_|refine jF ?_|refine jG ?_|refine jH ?_|refine jI ?_|refine jJ ?_|refine jK ?_|refine jL ?_|refine jM (by assumption) ?_|refine jN (by assumption) rfl ?_|refine jO (by assumption) ?_|refine jP (by assumption) rfl ?_|refine jQ ?_|refine jR ?_|refine jS ?_|refine jT ?_|refine jU (by assumption) rfl ?_))
                obtain ⟨f, hf1, hf2⟩ := (hf5.val_pos ha0.1).1 (by omega)
                obtain ⟨jf, hjf⟩ := List.mem_iff_getElem?.1 hf1
                obtain ⟨j0, hj0⟩ := List.mem_iff_getElem?.1 he5
                have hlva : t5.lev (varOf a) = f.lev := by rw [← hf2]; exact hf5.lev hjf
                have hlvx : t5.lev (varOf (xn : Int)) = e0.lev := by
                  have e1 : varOf (xn : Int) = varOf e0.lit := by
                    have := notOf_nn hx.1
                    rw [he0.2]
                    unfold varOf
                    rw [if_neg (by omega), if_neg (by omega)]
                    omega
                  rw [e1]; exact hf5.lev hj0
                refine M.call_i (var_ret a w6) ?_; rintro _ w7 ⟨rfl, k7⟩
                (repeat (first|refine ja ?_|refine jb ?_|refine jc ?_|refine jd ?_|refine je ?_|refine jf ?_|refine jg ?_|refine jh ?_|refine ji ?_|refine jj ?_|refine jk ?_|refine jl ?_|refine jm ?_|refine jn ?_|refine jo ?_|refine jp ?_|refine jq ?_|refine jr ?_|refine js ?_|refine jt ?_|refine ju ?_|refine jv ?_|refine jw ?_|refine jx ?_|refine jy ?_|refine jz ?_|refine jA ?_|refine jB ?_|refine jC ?_|refine jD ?_|refine jE ?_|refine jF ?_|refine jG ?_|refine jH ?_|refine jI ?_|refine jJ ?_|refine jK ?_|refine jL ?_|refine jM (by assumption) ?_|refine jN (by assumption) rfl ?_|refine jO (by assumption) ?_|refine jP (by assumption) rfl ?_|refine jQ ?_|refine jR ?_|refine jS ?_|refine jT ?_|refine jU (by assumption) rfl ?_))
                refine M.call_i (lev_tw (h6.keepN k7) (varOf a)) ?_; rintro _ w8 ⟨rfl, k8⟩
                (repeat (first|refine ja ?_|refine jb ?_|refine jc ?_|refine jd ?_|refine je ?_|refine jf ?_|refine jg ?_|refine jh ?_|refine ji ?_|refine jj ?_|refine jk ?_|refine jl ?_|refine jm ?_|refine jn ?_|refine jo ?_|refine jp ?_|refine jq ?_|refine jr ?_|refine js ?_|refine jt ?_|refine ju ?_|refine jv ?_|refine jw ?_|refine jx ?_|refine jy ?_|refine jz ?_|refine jA ?_|refine jB ?_|refine jC ?_|refine jD ?_|refine jE ?_|refine jF ?_|refine jG ?_|refine jH ?_|refine jI ?_|refine jJ ?_|refine jK ?_|refine jL ?_|refine jM (by assumption) ?_|refine jN (by assumption) rfl ?_|refine jO (by assumption) ?_|refine jP (by assumption) rfl ?_|refine jQ ?_|refine jR ?_|refine jS ?_|refine jT ?_|refine jU (by assumption) rfl ?_))
                refine M.call_i (var_ret xn w8) ?_; rintro _ w9 ⟨rfl, k9⟩
                (repeat (first|refine ja ?_|refine jb ?_|refine jc ?_|refine jd ?_|refine je ?_|refine jf ?_|refine jg ?_|refine jh ?_|refine ji ?_|refine jj ?_|refine jk ?_|refine jl ?_|refine jm ?_|refine jn ?_|refine jo ?_|refine jp ?_|refine jq ?_|refine jr ?_|refine js ?_|refine jt ?_|refine ju ?_|refine jv ?_|refine jw ?_|refine jx ?_|refine jy ?_|refine jz ?_|refine jA ?_|refine jB ?_|refine jC ?_|refine jD ?_|refine jE ?_|refine jF ?_|refine jG ?_|refine jH ?_|refine jI ?_|refine jJ ?_|refine jK ?_|refine jL ?_|refine jM (by assumption) ?_|refine jN (by assumption) rfl ?_|refine jO (by assumption) ?_|refine jP (by assumption) rfl ?_|refine jQ ?_|refine jR ?_|refine jS ?_|refine jT ?_|refine jU (by assumption) rfl ?_))
                refine M.call_i (lev_tw ((h6.keepN k7).keepN (k8.trans k9 (fun _ _ e => e))) (varOf xn)) ?_; rintro _ w10 ⟨rfl, k10⟩
                have k610 : Keep w6 w10 No := (k7.trans (k8.trans k9 (fun _ _ e => e)) (fun _ _ e => e)).trans k10 (fun _ _ e => e)
                by_cases hlev : t5.lev (varOf (xn : Int)) < t5.lev (varOf a)
                · (repeat (first|refine ja ?_|refine jb ?_|refine jc ?_|refine jd ?_|refine je ?_|refine jf ?_|refine jg ?_|refine jh ?_|refine ji ?_|refine jj ?_|refine jk ?_|refine jl ?_|refine jm ?_|refine jn ?_|refine jo ?_|refine jp ?_|refine jq ?_|refine jr ?_|refine js ?_|refine jt ?_|refine ju ?_|refine jv ?_|refine jw ?_|refine jx ?_|refine jy ?_|refine jz ?_|refine jA ?_|refine jB ?_|refine jC ?_|refine jD ?_|refine jE ?_|refine jF ?_|refine jG ?_|refine jH ?_|refine jI ?_|refine jJ ?_|refine jK ?_|refine jL ?_|refine jM (by assumption) ?_|refine jN (by assumption) rfl ?_|refine jO (by assumption) ?_|refine jP (by assumption) rfl ?_|refine jQ ?_|refine jR ?_|refine jS ?_|refine jT ?_|refine jU (by assumption) rfl ?_))
                  refine hlk w10 k610 _ (fun v w' h => ?_)
                  (repeat (first|refine ja ?_|refine jb ?_|refine jc ?_|refine jd ?_|refine je ?_|refine jf ?_|refine jg ?_|refine jh ?_|refine ji ?_|refine jj ?_|refine jk ?_|refine jl ?_|refine jm ?_|refine jn ?_|refine jo ?_|refine jp ?_|refine jq ?_|refine jr ?_|refine js ?_|refine jt ?_|refine ju ?_|refine jv ?_|refine jw ?_|refine jx ?_|refine jy ?_|refine jz ?_|refine jA ?_|refine jB ?_|refine jC ?_|refine jD ?_|refine jE ?_|refine jF ?_|refine jG ?_|refine jH ?_|refine jI ?_|refine jJ ?_|refine jK ?_|refine jL ?_|refine jM (by assumption) ?_|refine jN (by assumption) rfl ?_|refine jO (by assumption) ?_|refine jP (by assumption) rfl ?_|refine jQ ?_|refine jR ?_|refine jS ?_|refine jT ?_|refine jU (by assumption) rfl ?_))
                  exact h
                · (repeat (first|refine ja ?_|refine jb ?_|refine jc ?_|refine jd ?_|refine je ?_|refine jf ?_|refine jg ?_|refine jh ?_|refine ji ?_|refine jj ?_|refine jk ?_|refine jl ?_|refine jm ?_|refine jn ?_|refine jo ?_|refine jp ?_|refine jq ?_|refine jr ?_|refine js ?_|refine jt ?_|refine ju ?_|refine jv ?_|refine jw ?_|refine jx ?_|refine jy ?_|refine jz ?_|refine jA ?_|refine jB ?_|refine jC ?_|refine jD ?_|refine jE ?_|refine jF ?_|refine jG ?_|refine jH ?_|refine jI ?_|refine jJ ?_|refine jK ?_|refine jL ?_|refine jM (by assumption) ?_|refine jN (by assumption) rfl ?_|refine jO (by assumption) ?_|refine jP (by assumption) rfl ?_|refine jQ ?_|refine jR ?_|refine jS ?_|refine jT ?_|refine jU (by assumption) rfl ?_))
                  have kd := Keep.drew w10 No
                  have h10 := h6.keepN (k610.trans kd (fun _ _ e => e))
                  have m10 := m6.trans (OMod.of (k610.trans kd (fun _ _ e => e)))
                  generalize w10.drew = w11 at *
                  obtain ⟨lab5, ow5, r5, vb5, vd5, bvs5, hT5⟩ := id h10
                  have hB5 := hT5.wb.st
                  (repeat (first|refine ja ?_|refine jb ?_|refine jc ?_|refine jd ?_|refine je ?_|refine jf ?_|refine jg ?_|refine jh ?_|refine ji ?_|refine jj ?_|refine jk ?_|refine jl ?_|refine jm ?_|refine jn ?_|refine jo ?_|refine jp ?_|refine jq ?_|refine jr ?_|refine js ?_|refine jt ?_|refine ju ?_|refine jv ?_|refine jw ?_|refine jx ?_|refine jy ?_|refine jz ?_|refine jA ?_|refine jB ?_|refine jC ?_|refine jD ?_|refine jE ?_|refine jF ?_|refine jG ?_|refine jH ?_|refine jI ?_|refine jJ ?_|refine jK ?_|refine jL ?_|refine jM (by assumption) ?_|refine jN (by assumption) rfl ?_|refine jO (by assumption) ?_|refine jP (by assumption) rfl ?_|refine jQ ?_|refine jR ?_|refine jS ?_|refine jT ?_|refine jU (by assumption) rfl ?_))
                  refine M.byAt_i hT5.wb (x := xn) (by omega) (fun bb5 v5 l5 hob5 hbv5 hbl5 hgl5 hcell5 => ?_)
                  (repeat (first|refine ja ?_|refine jb ?_|refine jc ?_|refine jd ?_|refine je ?_|refine jf ?_|refine jg ?_|refine jh ?_|refine ji ?_|refine jj ?_|refine jk ?_|refine jl ?_|refine jm ?_|refine jn ?_|refine jo ?_|refine jp ?_|refine jq ?_|refine jr ?_|refine js ?_|refine jt ?_|refine ju ?_|refine jv ?_|refine jw ?_|refine jx ?_|refine jy ?_|refine jz ?_|refine jA ?_|refine jB ?_|refine jC ?_|refine jD ?_|refine jE ?_|refine jF ?_|refine jG ?_|refine jH ?_|refine jI ?_|refine jJ ?_|refine jK ?_|refine jL ?_|refine jM (by assumption) ?_|refine jN (by assumption) rfl ?_|refine jO (by assumption) ?_|refine jP (by assumption) rfl ?_|refine jQ ?_|refine jR ?_|refine jS ?_|refine jT ?_|refine jU (by assumption) rfl ?_))
                  refine M.buildSlice_i [vi c.n] (by kernel_rfl) (fun w12 b12 k12 s12 => ?_)
                  have hT6 := hT5.keep k12
                  have hB6 := hT6.wb.st
                  have hcell6 := k12.cell (fun e => e) hcell5
                  (repeat (first|refine ja ?_|refine jb ?_|refine jc ?_|refine jd ?_|refine je ?_|refine jf ?_|refine jg ?_|refine jh ?_|refine ji ?_|refine jj ?_|refine jk ?_|refine jl ?_|refine jm ?_|refine jn ?_|refine jo ?_|refine jp ?_|refine jq ?_|refine jr ?_|refine js ?_|refine jt ?_|refine ju ?_|refine jv ?_|refine jw ?_|refine jx ?_|refine jy ?_|refine jz ?_|refine jA ?_|refine jB ?_|refine jC ?_|refine jD ?_|refine jE ?_|refine jF ?_|refine jG ?_|refine jH ?_|refine jI ?_|refine jJ ?_|refine jK ?_|refine jL ?_|refine jM (by assumption) ?_|refine jN (by assumption) rfl ?_|refine jO (by assumption) ?_|refine jP (by assumption) rfl ?_|refine jQ ?_|refine jR ?_|refine jS ?_|refine jT ?_|refine jU (by assumption) rfl ?_))
                  have hll5 := sz_by hbl5
                  refine M.append1_i (GC.keep hgl5 k12 (fun _ _ _ e => e)) (Row.of_blk' (D := fun _ => True) b12 trivial) rfl (by omega) (fun v13 w13 g13 k13 => ?_)
                  have hB7 := hB6.keep k13 (by have := hT5.wb.oq; omega)
                  (repeat (first|refine ja ?_|refine jb ?_|refine jc ?_|refine jd ?_|refine je ?_|refine jf ?_|refine jg ?_|refine jh ?_|refine ji ?_|refine jj ?_|refine jk ?_|refine jl ?_|refine jm ?_|refine jn ?_|refine jo ?_|refine jp ?_|refine jq ?_|refine jr ?_|refine js ?_|refine jt ?_|refine ju ?_|refine jv ?_|refine jw ?_|refine jx ?_|refine jy ?_|refine jz ?_|refine jA ?_|refine jB ?_|refine jC ?_|refine jD ?_|refine jE ?_|refine jF ?_|refine jG ?_|refine jH ?_|refine jI ?_|refine jJ ?_|refine jK ?_|refine jL ?_|refine jM (by assumption) ?_|refine jN (by assumption) rfl ?_|refine jO (by assumption) ?_|refine jP (by assumption) rfl ?_|refine jQ ?_|refine jR ?_|refine jS ?_|refine jT ?_|refine jU (by assumption) rfl ?_))
                  refine hT6.byStore_i (by omega) g13 (fun b e => e) k13 (fun w14 O14 h14 m14 => ?_)
                  (repeat (first|refine ja ?_|refine jb ?_|refine jc ?_|refine jd ?_|refine je ?_|refine jf ?_|refine jg ?_|refine jh ?_|refine ji ?_|refine jj ?_|refine jk ?_|refine jl ?_|refine jm ?_|refine jn ?_|refine jo ?_|refine jp ?_|refine jq ?_|refine jr ?_|refine js ?_|refine jt ?_|refine ju ?_|refine jv ?_|refine jw ?_|refine jx ?_|refine jy ?_|refine jz ?_|refine jA ?_|refine jB ?_|refine jC ?_|refine jD ?_|refine jE ?_|refine jF ?_|refine jG ?_|refine jH ?_|refine jI ?_|refine jJ ?_|refine jK ?_|refine jL ?_|refine jM (by assumption) ?_|refine jN (by assumption) rfl ?_|refine jO (by assumption) ?_|refine jP (by assumption) rfl ?_|refine jQ ?_|refine jR ?_|refine jS ?_|refine jT ?_|refine jU (by assumption) rfl ?_))
                  have ea : addBy s4.by1 (xn : Int) c.n = s4.by1.set xn (l5 ++ [(c.n : Int)]) := by
                    unfold addBy
                    rw [Int.toNat_natCast, getD_of hbl5]
                  have hst := hI5.stay (c := ⟨c.n, a :: (xn : Int) :: rest, c.whole⟩) hf5 hi hc4 hcw rfl hx.1 he5 he0.2 ⟨f, hf1, hf2, by omega⟩
                  have hsa := sz_add (s := s4) (x := (xn : Int)) (n := c.n) (by omega)
                  simp only at hst hsa
                  rw [ea] at hst hsa
                  exact hK4 _ _ ⟨_, O14, wv', h14, m10.trans ((OMod.of (O := O5) k12).trans m14), hst, by simp, by omega, _, hc4, rfl, rfl⟩
            · rintro vals w6 ⟨s6, O6, wv6, h6, m6, hI6, hbl6, hsz6, d, hd, hdn, hdl⟩ _
              refine M.call_i (val_tw h6 a) ?_; rintro _ w7 ⟨rfl, k7⟩
              have h7 := h6.keepN k7
              have m7 := m6.trans (OMod.of k7)
              by_cases hv : t5.val a < 0
              · (repeat (first|refine ja ?_|refine jb ?_|refine jc ?_|refine jd ?_|refine je ?_|refine jf ?_|refine jg ?_|refine jh ?_|refine ji ?_|refine jj ?_|refine jk ?_|refine jl ?_|refine jm ?_|refine jn ?_|refine jo ?_|refine jp ?_|refine jq ?_|refine jr ?_|refine js ?_|refine jt ?_|refine ju ?_|refine jv ?_|refine jw ?_|refine jx ?_|refine jy ?_|refine jz ?_|refine jA ?_|refine jB ?_|refine jC ?_|refine jD ?_|refine jE ?_|refine jF ?_|refine jG ?_|refine jH ?_|refine jI ?_|refine jJ ?_|refine jK ?_|refine jL ?_|refine jM (by assumption) ?_|refine jN (by assumption) rfl ?_|refine jO (by assumption) ?_|refine jP (by assumption) rfl ?_|refine jQ ?_|refine jR ?_|refine jS ?_|refine jT ?_|refine jU (by assumption) rfl ?_))
                have kd := Keep.drew w7 No
                have h8 := h7.keepN kd
                have m8 := m7.trans (OMod.of kd)
                have hrow8 := hrow2.keep m8.1 (fun b _ e e2 => e.1 e2)
                generalize w7.drew = w8 at *
                obtain ⟨lab5, ow5, r5, vb5, vd5, bvs5, hT5⟩ := id h8
                have hB5 := hT5.wb.st
                (repeat (first|refine ja ?_|refine jb ?_|refine jc ?_|refine jd ?_|refine je ?_|refine jf ?_|refine jg ?_|refine jh ?_|refine ji ?_|refine jj ?_|refine jk ?_|refine jl ?_|refine jm ?_|refine jn ?_|refine jo ?_|refine jp ?_|refine jq ?_|refine jr ?_|refine js ?_|refine jt ?_|refine ju ?_|refine jv ?_|refine jw ?_|refine jx ?_|refine jy ?_|refine jz ?_|refine jA ?_|refine jB ?_|refine jC ?_|refine jD ?_|refine jE ?_|refine jF ?_|refine jG ?_|refine jH ?_|refine jI ?_|refine jJ ?_|refine jK ?_|refine jL ?_|refine jM (by assumption) ?_|refine jN (by assumption) rfl ?_|refine jO (by assumption) ?_|refine jP (by assumption) rfl ?_|refine jQ ?_|refine jR ?_|refine jS ?_|refine jT ?_|refine jU (by assumption) rfl ?_))
                refine M.byAt_i hT5.wb (x := xn) (by omega) (fun bb5 v5 l5 hob5 hbv5 hbl5 hgl5 hcell5 => ?_)
                (repeat (first|refine ja ?_|refine jb ?_|refine jc ?_|refine jd ?_|refine je ?_|refine jf ?_|refine jg ?_|refine jh ?_|refine ji ?_|refine jj ?_|refine jk ?_|refine jl ?_|refine jm ?_|refine jn ?_|refine jo ?_|refine jp ?_|refine jq ?_|refine jr ?_|refine js ?_|refine jt ?_|refine ju ?_|refine jv ?_|refine jw ?_|refine jx ?_|refine jy ?_|refine jz ?_|refine jA ?_|refine jB ?_|refine jC ?_|refine jD ?_|refine jE ?_|refine jF ?_|refine jG ?_|refine jH ?_|refine jI ?_|refine jJ ?_|refine jK ?_|refine jL ?_|refine jM (by assumption) ?_|refine jN (by assumption) rfl ?_|refine jO (by assumption) ?_|refine jP (by assumption) rfl ?_|refine jQ ?_|refine jR ?_|refine jS ?_|refine jT ?_|refine jU (by assumption) rfl ?_))
                have ek : (k : Int) + 1 = ((k + 1 : Nat) : Int) := by omega
                rw [ek]
                refine M.slice_i (k + 1) list.length cap (sl3_l (by omega)) ?_
                have hrow9 := Row.tail (n := k + 1) hrow8 (c := cap) (by rw [List.length_map]; exact hcap)
                rw [← List.map_drop] at hrow9
                have hll5 := sz_by hbl5
                refine M.appendI_i (ys := list.drop (k + 1)) (by rw [List.length_drop]) hgl5 hrow9 rfl (by rw [List.length_drop]; omega) (fun v9 w9 g9 k9 => ?_)
                have hB6 := hB5.keep k9 (by have := hT5.wb.oq; omega)
                (repeat (first|refine ja ?_|refine jb ?_|refine jc ?_|refine jd ?_|refine je ?_|refine jf ?_|refine jg ?_|refine jh ?_|refine ji ?_|refine jj ?_|refine jk ?_|refine jl ?_|refine jm ?_|refine jn ?_|refine jo ?_|refine jp ?_|refine jq ?_|refine jr ?_|refine js ?_|refine jt ?_|refine ju ?_|refine jv ?_|refine jw ?_|refine jx ?_|refine jy ?_|refine jz ?_|refine jA ?_|refine jB ?_|refine jC ?_|refine jD ?_|refine jE ?_|refine jF ?_|refine jG ?_|refine jH ?_|refine jI ?_|refine jJ ?_|refine jK ?_|refine jL ?_|refine jM (by assumption) ?_|refine jN (by assumption) rfl ?_|refine jO (by assumption) ?_|refine jP (by assumption) rfl ?_|refine jQ ?_|refine jR ?_|refine jS ?_|refine jT ?_|refine jU (by assumption) rfl ?_))
                refine hT5.byStore_i (by omega) g9 (fun b e => e) k9 (fun w10 O10 h10 m10 => ?_)
                have hcf := hI6.conf (bad := c.n) hx.1 (by rw [Int.toNat_natCast]; omega) (by omega) ⟨by omega, d, hd, by omega, fun y hy => ?_⟩
                · rw [Int.toNat_natCast, getD_of hbl5] at hcf
                  exact ⟨t5, _, O10, wv6, c.n, rfl, h10, m2.trans (m8.trans m10), hcf⟩
                · rw [hdl] at hy
                  simp only [List.mem_cons] at hy
                  rcases hy with e | e | e
                  · rw [e]; exact hv
                  · rw [e]; exact (hf5.val_neg hx.1).2 ⟨e0, he5, he0.2⟩
                  · have hy0 := (hrng y (by rw [hl01]; simp [e])).1
                    exact (hf5.val_neg hy0).2 (hmore _ ((hf3.val_neg hy0).1 (hno y e)))
              · (repeat (first|refine ja ?_|refine jb ?_|refine jc ?_|refine jd ?_|refine je ?_|refine jf ?_|refine jg ?_|refine jh ?_|refine ji ?_|refine jj ?_|refine jk ?_|refine jl ?_|refine jm ?_|refine jn ?_|refine jo ?_|refine jp ?_|refine jq ?_|refine jr ?_|refine js ?_|refine jt ?_|refine ju ?_|refine jv ?_|refine jw ?_|refine jx ?_|refine jy ?_|refine jz ?_|refine jA ?_|refine jB ?_|refine jC ?_|refine jD ?_|refine jE ?_|refine jF ?_|refine jG ?_|refine jH ?_|refine jI ?_|refine jJ ?_|refine jK ?_|refine jL ?_|refine jM (by assumption) ?_|refine jN (by assumption) rfl ?_|refine jO (by assumption) ?_|refine jP (by assumption) rfl ?_|refine jQ ?_|refine jR ?_|refine jS ?_|refine jT ?_|refine jU (by assumption) rfl ?_))
                exact hK2 _ _ ⟨t5, s6, O6, wv6, h7, m7, hI6⟩
end
end Go.Proofs.Ytnmbgfonlpjicaa
