import Derived.Test.YtanjlgafjgoaaaaSt37i
namespace Go.Proofs.Ytanjlgafjgoaaaa
open Go.Mw
set_option linter.unusedVariables false
set_option linter.unusedSimpArgs false
set_option maxRecDepth 100000
attribute [local irreducible] M.val M.unit M.next M.pick M.new M.nilCheck M.load1 M.loadA M.store M.fieldAddr M.indexSl M.indexArr M.slice M.makeSlice M.buildSlice M.len M.lenS M.cap M.append M.extract M.conv M.not M.neg M.bin M.shift M.eqB M.eqNil M.scat M.call M.callv M.gd M.share M.cond M.loop M.draw pureW readW Ret
/-! (*breakwater/sstep.stepper).step: function 18 -/
def sh18 (x0 : Value) (R : Kt) (w : World) : Prop :=
  M.nilCheck x0 (fun t4 w =>
  M.fieldAddr 20 t4 (fun t5 w =>
  M.fieldAddr 0 t5 (fun t6 w =>
  M.load1 t6 (fun t7 w =>
  M.share (fun K1 w =>
  M.bin .eql t7 (Value.int IntKind.i64 1) (fun t19 w =>
  M.cond t19
  (M.nilCheck x0 (fun t24 w =>
  M.fieldAddr 20 t24 (fun t25 w =>
  M.fieldAddr 4 t25 (fun t26 w =>
  M.load1 t26 (fun t27 w =>
  M.call Try.prog 27 #[x0, t27] (fun t28 w =>
  M.call Try.prog 26 #[x0, t28] (fun t29 w =>
  M.call Try.prog 25 #[x0, t29, (Value.int IntKind.i64 (-1))] (fun t30 w =>
  K1 [] w) w) w) w) w) w) w) w)
  (M.bin .eql t7 (Value.int IntKind.i64 2) (fun t32 w =>
  M.cond t32
  (M.draw (fun w =>
  M.nilCheck x0 (fun t37 w =>
  M.fieldAddr 20 t37 (fun t38 w =>
  M.fieldAddr 2 t38 (fun t39 w =>
  M.load1 t39 (fun t40 w =>
  M.nilCheck x0 (fun t41 w =>
  M.fieldAddr 1 t41 (fun t42 w =>
  M.fieldAddr 0 t42 (fun t43 w =>
  M.indexArr 8 1 t43 t40 (fun t44 w =>
  M.load1 t44 (fun t45 w =>
  M.call Try.prog 26 #[x0, t45] (fun t46 w =>
  ((M.load1 t39 (fun v' _ => v' = t40) w) ∧ M.call Try.prog 25 #[x0, t46, (Value.int IntKind.i64 (-1))] (fun t47 w =>
  ((M.load1 t39 (fun v' _ => v' = t40) w) ∧ K1 [] w)) w)) w) w) w) w) w) w) w) w) w) w) w)
  (M.bin .eql t7 (Value.int IntKind.i64 3) (fun t49 w =>
  M.cond t49
  (M.call Try.prog 28 #[x0] (fun t53 w =>
  M.call Try.prog 26 #[x0, t53] (fun t54 w =>
  M.call Try.prog 25 #[x0, t54, (Value.int IntKind.i64 (-1))] (fun t55 w =>
  K1 [] w) w) w) w)
  (M.bin .eql t7 (Value.int IntKind.i64 4) (fun t57 w =>
  M.cond t57
  (M.draw (fun w =>
  M.nilCheck x0 (fun t62 w =>
  M.fieldAddr 0 t62 (fun t63 w =>
  M.load1 t63 (fun t64 w =>
  M.nilCheck x0 (fun t66 w =>
  M.fieldAddr 20 t66 (fun t67 w =>
  M.fieldAddr 4 t67 (fun t68 w =>
  M.load1 t68 (fun t69 w =>
  M.conv .i64 t69 (fun t70 w =>
  M.nilCheck x0 (fun t73 w =>
  M.fieldAddr 20 t73 (fun t74 w =>
  M.fieldAddr 2 t74 (fun t75 w =>
  M.load1 t75 (fun t76 w =>
  M.nilCheck x0 (fun t77 w =>
  M.fieldAddr 1 t77 (fun t78 w =>
  M.fieldAddr 0 t78 (fun t79 w =>
  M.indexArr 8 1 t79 t76 (fun t80 w =>
  M.load1 t80 (fun t81 w =>
  M.call Try.prog 30 #[t64, t70, t81] (fun t82 w =>
  ((M.load1 t75 (fun v' _ => v' = t76) w) ∧ ((M.load1 t68 (fun v' _ => v' = t69) w) ∧ M.extract 0 t82 (fun t83 w =>
  M.extract 1 t82 (fun t84 w =>
  M.call Try.prog 29 #[x0, t83, t84] (fun t85 w =>
  ((M.load1 t75 (fun v' _ => v' = t76) w) ∧ ((M.load1 t68 (fun v' _ => v' = t69) w) ∧ M.call Try.prog 26 #[x0, t85] (fun t86 w =>
  ((M.load1 t75 (fun v' _ => v' = t76) w) ∧ ((M.load1 t68 (fun v' _ => v' = t69) w) ∧ M.call Try.prog 25 #[x0, t86, (Value.int IntKind.i64 (-1))] (fun t87 w =>
  ((M.load1 t75 (fun v' _ => v' = t76) w) ∧ ((M.load1 t68 (fun v' _ => v' = t69) w) ∧ K1 [] w))) w))) w))) w) w) w))) w) w) w) w) w) w) w) w) w) w) w) w) w) w) w) w) w) w) w)
  (M.bin .eql t7 (Value.int IntKind.i64 5) (fun t89 w =>
  M.cond t89
  (M.call Try.prog 31 #[x0] (fun t92 w =>
  M.call Try.prog 25 #[x0, t92, (Value.int IntKind.i64 (-1))] (fun t93 w =>
  K1 [] w) w) w)
  (M.bin .eql t7 (Value.int IntKind.i64 6) (fun t95 w =>
  M.cond t95
  (M.call Try.prog 32 #[x0] (fun t97 w =>
  K1 [] w) w)
  (M.bin .eql t7 (Value.int IntKind.i64 7) (fun t99 w =>
  M.cond t99
  (M.call Try.prog 33 #[x0] (fun t101 w =>
  K1 [] w) w)
  (M.bin .eql t7 (Value.int IntKind.i64 8) (fun t103 w =>
  M.cond t103
  (M.call Try.prog 34 #[x0] (fun t105 w =>
  K1 [] w) w)
  (M.bin .eql t7 (Value.int IntKind.i64 9) (fun t107 w =>
  M.cond t107
  (M.call Try.prog 35 #[x0] (fun t111 w =>
  M.call Try.prog 26 #[x0, t111] (fun t112 w =>
  M.call Try.prog 25 #[x0, t112, (Value.int IntKind.i64 (-1))] (fun t113 w =>
  K1 [] w) w) w) w)
  (M.bin .eql t7 (Value.int IntKind.i64 10) (fun t115 w =>
  M.cond t115
  (M.call Try.prog 36 #[x0] (fun t117 w =>
  K1 [] w) w)
  (M.bin .eql t7 (Value.int IntKind.i64 11) (fun t119 w =>
  M.cond t119
  (M.call Try.prog 37 #[x0] (fun t121 w =>
  K1 [] w) w)
  (M.bin .eql t7 (Value.int IntKind.i64 12) (fun t123 w =>
  M.cond t123
  (M.call Try.prog 38 #[x0] (fun t125 w =>
  K1 [] w) w)
  (M.bin .eql t7 (Value.int IntKind.i64 13) (fun t127 w =>
  M.cond t127
  (M.call Try.prog 39 #[x0] (fun t129 w =>
  K1 [] w) w)
  (M.bin .eql t7 (Value.int IntKind.i64 14) (fun t131 w =>
  M.cond t131
  (M.nilCheck x0 (fun t133 w =>
  M.fieldAddr 1 t133 (fun t134 w =>
  M.loadA 19 t134 (fun t135 w =>
  M.new 42 #[.int .i64 0, .int .i64 0, .int .i64 0, .int .i64 0, .int .i64 0, .int .i64 0, .int .i64 0, .int .i64 0, .slice none 0 0, .int .i64 0, .int .i64 0, .int .i64 0, .int .i64 0, .int .i64 0, .int .i64 0, .slice none 0 0, .slice none 0 0, .int .i64 0, .slice none 0 0] (fun t2 w =>
  M.store 19 t2 t135 (fun _ w =>
  M.nilCheck x0 (fun t137 w =>
  M.fieldAddr 20 t137 (fun t138 w =>
  M.fieldAddr 1 t138 (fun t139 w =>
  M.load1 t139 (fun t140 w =>
  M.fieldAddr 0 t2 (fun t141 w =>
  M.indexArr 8 1 t141 t140 (fun t142 w =>
  M.load1 t142 (fun t143 w =>
  M.fieldAddr 12 t2 (fun t144 w =>
  M.store 1 t144 (Value.int IntKind.i64 1) (fun _ w =>
  M.fieldAddr 14 t2 (fun t145 w =>
  M.store 1 t145 t143 (fun _ w =>
  M.loadA 19 t2 (fun t147 w =>
  M.call Try.prog 25 #[x0, t147, (Value.int IntKind.i64 (-1))] (fun t148 w =>
  K1 [] w) w) w) w) w) w) w) w) w) w) w) w) w) w) w) w) w) w) w)
  (M.nilCheck x0 (fun t11 w =>
  M.fieldAddr 20 t11 (fun t12 w =>
  M.fieldAddr 4 t12 (fun t13 w =>
  M.load1 t13 (fun t14 w =>
  M.conv .i64 t14 (fun t15 w =>
  M.call Try.prog 17 #[x0, t15] (fun t16 w =>
  M.call Try.prog 25 #[x0, t16, (Value.int IntKind.i64 (-1))] (fun t17 w =>
  K1 [] w) w) w) w) w) w) w) w)) w)) w)) w)) w)) w)) w)) w)) w)) w)) w)) w)) w)) w)) w) (fun s1 w => ∀ _ : List Value,
  R (.tuple #[]) w) w) w) w) w) w
theorem ok18 (x0 : Value) (R : Kt) (w : World) (h : sh18 x0 R w) : Ret Try.prog 18 #[x0] w R :=
  ret_mk <| calls_of_comp mixed (c := Try.f18.body.getD .skip) (args := [x0]) (rs := []) (Ann.seq Ann.text (Ann.jblock [] [2, 8, 9, 10, 11, 12, 13, 14, 15, 16, 17, 18, 19, 20, 21, 22, 23, 24, 25, 26, 27, 28, 29, 30, 31, 32, 33, 34, 35, 36, 37, 38, 39, 40, 41, 42, 43, 44, 45, 46, 47, 48, 49, 50, 51, 52, 53, 54, 55, 56, 57, 58, 59, 60, 61, 62, 63, 64, 65, 66, 67, 68, 69, 70, 71, 72, 73, 74, 75, 76, 77, 78, 79, 80, 81, 82, 83, 84, 85, 86, 87, 88, 89, 90, 91, 92, 93, 94, 95, 96, 97, 98, 99, 100, 101, 102, 103, 104, 105, 106, 107, 108, 109, 110, 111, 112, 113, 114, 115, 116, 117, 118, 119, 120, 121, 122, 123, 124, 125, 126, 127, 128, 129, 130, 131, 132, 133, 134, 135, 136, 137, 138, 139, 140, 141, 142, 143, 144, 145, 146, 147, 148] (Ann.seq Ann.text (Ann.cond Ann.text (Ann.seq Ann.text (Ann.cond (Ann.draw (Sch.take 0 (Sch.take 1 (Sch.take 2 (Sch.take 3 (Sch.take 4 (Sch.take 5 (Sch.take 6 (Sch.take 7 (Sch.take 8 (Sch.take 9 (Sch.take 10 (Sch.take 11 (Sch.take 12 (Sch.one 13 (Sch.one 14 Sch.done)))))))))))))))) (Ann.seq Ann.text (Ann.cond Ann.text (Ann.seq Ann.text (Ann.cond (Ann.draw (Sch.take 0 (Sch.take 1 (Sch.take 2 (Sch.take 3 (Sch.take 4 (Sch.take 5 (Sch.take 6 (Sch.take 7 (Sch.take 8 (Sch.take 9 (Sch.take 10 (Sch.take 11 (Sch.take 12 (Sch.take 13 (Sch.take 14 (Sch.take 15 (Sch.take 16 (Sch.take 17 (Sch.take 18 (Sch.take 19 (Sch.take 20 (Sch.take 21 (Sch.take 22 (Sch.take 23 (Sch.one 24 (Sch.take 25 (Sch.take 26 (Sch.one 27 (Sch.one 28 (Sch.one 29 Sch.done))))))))))))))))))))))))))))))) (Ann.seq Ann.text (Ann.cond Ann.text (Ann.seq Ann.text (Ann.cond Ann.text (Ann.seq Ann.text (Ann.cond Ann.text (Ann.seq Ann.text (Ann.cond Ann.text (Ann.seq Ann.text (Ann.cond Ann.text (Ann.seq Ann.text (Ann.cond Ann.text (Ann.seq Ann.text (Ann.cond Ann.text (Ann.seq Ann.text (Ann.cond Ann.text (Ann.seq Ann.text (Ann.cond Ann.text (Ann.seq Ann.text (Ann.cond (Ann.seq Ann.text (Ann.seq Ann.text Ann.text)) Ann.text))))))))))))))))))))))))))))))
    Try.func18 (by kernel_rfl) (by kernel_rfl)
    (Eq.mp (by kernel_rfl) h)

section
variable {w : World} {F : Nat → Prop} {p pb : Nat} {N : List Nd} {most : Int} {s : Sy} {sv : List Value} {i : Ins} {inputs mw : Int} {ov : Value} {outs : List Sy} {e : Int} {c a b d : Value}
/-- A state is made and added. -/
theorem M.setAdd_i {kt : World → Prop} {id : Int} (h : Stp w F p pb N most s sv i inputs mw ov [] e) (hsv : sv = s.vals c a b d) (hB : Bnd s) (hR : RegsOk i)
    (hK : ∀ w', (∃ ov', Stp w' F p pb N most s sv i inputs mw ov' (addP N e [] (s.set i id) (-1)) e ∧ Mv w F pb ov w' F ov') → kt w') :
    M.call Try.prog 26 #[ptr pb, vi id] (fun t w => M.call Try.prog 25 #[ptr pb, t, vi (-1)] (fun _ w => kt w) w) w := by
  refine M.call_i (set37_ret h hsv hB.pc hR.1 id) ?_; rintro _ w1 ⟨rfl, k1⟩
  have h1 := h.keepN k1
  have h8' : (s.set i id).regs.length = 8 := by have := h.sy.1; simp [Sy.set, Sy.next, this]
  have hs1 : SyO w1 (Fr F pb ov) (.agg ⟨(s.set i id).vals c a b d⟩) (s.set i id) := SyO.of_vals h8' (h1.lists hsv)
  refine M.call_i (add37_ret h1 hs1 hB.conds (by simp) (-1)) ?_
  rintro _ w2 ⟨_, ov2, h2, m2⟩
  exact hK w2 ⟨ov2, h2, (Mv.none k1).trans m2⟩
theorem regs_getD (h8 : s.regs.length = 8) {r : Int} (h0 : 0 ≤ r) (h7 : r ≤ 7) : (s.vals c a b d)[r.toNat]? = some (vi (s.reg r)) := by
  unfold Sy.vals
  rw [List.getElem?_append_left (by simp; omega), List.getElem?_map, List.getElem?_eq_getElem (by omega)]
  unfold Sy.reg
  rw [List.getD_eq_getElem?_getD, List.getElem?_eq_getElem (by omega)]; rfl
theorem immOk_bound {len : Nat} (hlen : len ≤ 1000000) (hok : okI i len = true) (h : i.op = 3 ∨ i.op = 4 ∨ i.op = 5 ∨ i.op = 6 ∨ i.op = 9 ∨ i.op = 15) : i.imm.toNat < 1000000 := by
  have h2 := ((okI_iff i len).1 hok).2
  unfold immOk at h2
  by_cases o3 : i.op = 3
  · rw [if_pos o3] at h2; simp at h2; omega
  rw [if_neg o3] at h2
  by_cases o4 : i.op = 4
  · rw [if_pos o4] at h2; simp at h2; omega
  rw [if_neg o4] at h2
  by_cases o5 : i.op = 5 ∨ i.op = 6
  · rw [if_pos o5] at h2; simp at h2; omega
  rw [if_neg o5] at h2
  by_cases o9 : i.op = 9
  · rw [if_pos o9] at h2; simp at h2; omega
  rw [if_neg o9] at h2
  by_cases o15 : i.op = 15
  · rw [if_pos o15] at h2; simp at h2; omega
  omega
theorem okI_regs {len : Int} (hok : okI i len = true) : RegsOk i := by
  have h2 := ((okI_iff i len).1 hok).1.2.1
  have one : ∀ k, k < 3 → 0 ≤ (fldOf i k).2 ∧ (fldOf i k).2 ≤ 7 := fun k hk => by
    have := h2 k hk
    unfold regOk at this
    split at this
    · simpa using this
    · simp at this; omega
  exact ⟨one 0 (by omega), one 1 (by omega), one 2 (by omega)⟩
set_option maxHeartbeats 4000000 in
theorem step37_ret {len : Nat} (h : Stp w F p pb N most s sv i inputs mw ov [] 0) (hsv : sv = s.vals c a b d) (hB : Bnd s) (hlen : len ≤ 1000000) (hok : okI i len = true) (hin : inputs ≤ 1000000) :
    Ret Try.prog 18 #[ptr pb] w (Adds w F p pb most s sv i inputs mw ov (stepI most N s i inputs mw)) := by
  have hR := okI_regs hok
  have hop := ((okI_iff i len).1 hok).1.1
  have hib := immOk_bound hlen hok
  have h8 := h.sy.1
  have hcop := h.cop
  refine ok18 _ _ _ ?_
  unfold sh18
  (repeat (first|refine ja ?_|refine jb ?_|refine jc ?_|refine jd ?_|refine je ?_|refine jf ?_|refine jg ?_|refine jh ?_|refine ji ?_|refine jj ?_|refine jk ?_|refine jl ?_|refine jm ?_|refine jn ?_|refine jo ?_|refine jp ?_|refine jq ?_|refine jr ?_|refine js ?_|refine jt ?_|refine ju ?_|refine jv ?_|refine jw ?_|refine jx ?_|refine jy ?_|refine jz ?_|refine jA ?_|refine jB ?_|refine jC ?_|refine jD ?_|refine jE ?_|refine jF ?_|refine jG ?_|refine jH ?_|refine jI ?_|refine jJ ?_|refine jK ?_|refine jL ?_|refine jM (by assumption) ?_|refine jN (by assumption) rfl ?_|refine jO (by assumption) ?_|refine jP (by assumption) rfl ?_|refine jQ ?_|refine jR ?_|refine jS ?_|refine jT ?_|refine jU (by assumption) rfl ?_))
  refine M.share_j (fun vals w' => Adds w F p pb most s sv i inputs mw ov (stepI most N s i inputs mw) (.tuple #[]) w') (fun vals w' hA _ => hA) ?_
  intro K hK
  have hK : ∀ w', (∃ F' ov', Stp w' F' p pb (stepI most N s i inputs mw).1 most s sv i inputs mw ov' (stepI most N s i inputs mw).2.2 (stepI most N s i inputs mw).2.1 ∧ Mv w F pb ov w' F' ov') → K [] w' := fun w' hh => hK [] w' ⟨rfl, hh⟩
  unfold stepI at hK
  by_cases o1 : i.op = 1
  · simp only [if_pos o1] at hK
    have hcI := h.cI
    (repeat (first|refine ja ?_|refine jb ?_|refine jc ?_|refine jd ?_|refine je ?_|refine jf ?_|refine jg ?_|refine jh ?_|refine ji ?_|refine jj ?_|refine jk ?_|refine jl ?_|refine jm ?_|refine jn ?_|refine jo ?_|refine jp ?_|refine jq ?_|refine jr ?_|refine js ?_|refine jt ?_|refine ju ?_|refine jv ?_|refine jw ?_|refine jx ?_|refine jy ?_|refine jz ?_|refine jA ?_|refine jB ?_|refine jC ?_|refine jD ?_|refine jE ?_|refine jF ?_|refine jG ?_|refine jH ?_|refine jI ?_|refine jJ ?_|refine jK ?_|refine jL ?_|refine jM (by assumption) ?_|refine jN (by assumption) rfl ?_|refine jO (by assumption) ?_|refine jP (by assumption) rfl ?_|refine jQ ?_|refine jR ?_|refine jS ?_|refine jT ?_|refine jU (by assumption) rfl ?_))
    refine M.call_i (word37_ret h i.imm) ?_
    rintro _ w1 ⟨rfl, F1, h1, m1⟩
    refine M.setAdd_i h1 hsv hB hR ?_
    rintro w2 ⟨ov2, h2, m2⟩
    exact hK w2 ⟨F1, ov2, h2, m1.trans m2⟩
  by_cases o2 : i.op = 2
  · simp only [if_neg o1, if_pos o2] at hK
    have kd := Keep.drew w No
    have hd := h.keepN kd
    have hcB := hd.cB
    have hrB := hd.creg hR.2.1.1 hR.2.1.2
    (repeat (first|refine ja ?_|refine jb ?_|refine jc ?_|refine jd ?_|refine je ?_|refine jf ?_|refine jg ?_|refine jh ?_|refine ji ?_|refine jj ?_|refine jk ?_|refine jl ?_|refine jm ?_|refine jn ?_|refine jo ?_|refine jp ?_|refine jq ?_|refine jr ?_|refine js ?_|refine jt ?_|refine ju ?_|refine jv ?_|refine jw ?_|refine jx ?_|refine jy ?_|refine jz ?_|refine jA ?_|refine jB ?_|refine jC ?_|refine jD ?_|refine jE ?_|refine jF ?_|refine jG ?_|refine jH ?_|refine jI ?_|refine jJ ?_|refine jK ?_|refine jL ?_|refine jM (by assumption) ?_|refine jN (by assumption) rfl ?_|refine jO (by assumption) ?_|refine jP (by assumption) rfl ?_|refine jQ ?_|refine jR ?_|refine jS ?_|refine jT ?_|refine jU (by assumption) rfl ?_))
    refine M.arr8_i hR.2.1.1 (by have := hR.2.1.2; omega) ?_
    (repeat (first|refine ja ?_|refine jb ?_|refine jc ?_|refine jd ?_|refine je ?_|refine jf ?_|refine jg ?_|refine jh ?_|refine ji ?_|refine jj ?_|refine jk ?_|refine jl ?_|refine jm ?_|refine jn ?_|refine jo ?_|refine jp ?_|refine jq ?_|refine jr ?_|refine js ?_|refine jt ?_|refine ju ?_|refine jv ?_|refine jw ?_|refine jx ?_|refine jy ?_|refine jz ?_|refine jA ?_|refine jB ?_|refine jC ?_|refine jD ?_|refine jE ?_|refine jF ?_|refine jG ?_|refine jH ?_|refine jI ?_|refine jJ ?_|refine jK ?_|refine jL ?_|refine jM (by assumption) ?_|refine jN (by assumption) rfl ?_|refine jO (by assumption) ?_|refine jP (by assumption) rfl ?_|refine jQ ?_|refine jR ?_|refine jS ?_|refine jT ?_|refine jU (by assumption) rfl ?_))
    refine M.call_i (set37_ret hd hsv hB.pc hR.1 (s.reg i.b)) ?_; rintro _ w1 ⟨rfl, k1⟩
    have h1 := hd.keepN k1
    have hcB1 := h1.cB
    (repeat (first|refine ja ?_|refine jb ?_|refine jc ?_|refine jd ?_|refine je ?_|refine jf ?_|refine jg ?_|refine jh ?_|refine ji ?_|refine jj ?_|refine jk ?_|refine jl ?_|refine jm ?_|refine jn ?_|refine jo ?_|refine jp ?_|refine jq ?_|refine jr ?_|refine js ?_|refine jt ?_|refine ju ?_|refine jv ?_|refine jw ?_|refine jx ?_|refine jy ?_|refine jz ?_|refine jA ?_|refine jB ?_|refine jC ?_|refine jD ?_|refine jE ?_|refine jF ?_|refine jG ?_|refine jH ?_|refine jI ?_|refine jJ ?_|refine jK ?_|refine jL ?_|refine jM (by assumption) ?_|refine jN (by assumption) rfl ?_|refine jO (by assumption) ?_|refine jP (by assumption) rfl ?_|refine jQ ?_|refine jR ?_|refine jS ?_|refine jT ?_|refine jU (by assumption) rfl ?_))
    have h8' : (s.set i (s.reg i.b)).regs.length = 8 := by simp [Sy.set, Sy.next, h8]
    have hs1 : SyO w1 (Fr F pb ov) (.agg ⟨(s.set i (s.reg i.b)).vals c a b d⟩) (s.set i (s.reg i.b)) := SyO.of_vals h8' (h1.lists hsv)
    refine M.call_i (add37_ret h1 hs1 hB.conds (by simp) (-1)) ?_
    rintro _ w2 ⟨rfl, ov2, h2, m2⟩
    have hcB2 := h2.cB
    (repeat (first|refine ja ?_|refine jb ?_|refine jc ?_|refine jd ?_|refine je ?_|refine jf ?_|refine jg ?_|refine jh ?_|refine ji ?_|refine jj ?_|refine jk ?_|refine jl ?_|refine jm ?_|refine jn ?_|refine jo ?_|refine jp ?_|refine jq ?_|refine jr ?_|refine js ?_|refine jt ?_|refine ju ?_|refine jv ?_|refine jw ?_|refine jx ?_|refine jy ?_|refine jz ?_|refine jA ?_|refine jB ?_|refine jC ?_|refine jD ?_|refine jE ?_|refine jF ?_|refine jG ?_|refine jH ?_|refine jI ?_|refine jJ ?_|refine jK ?_|refine jL ?_|refine jM (by assumption) ?_|refine jN (by assumption) rfl ?_|refine jO (by assumption) ?_|refine jP (by assumption) rfl ?_|refine jQ ?_|refine jR ?_|refine jS ?_|refine jT ?_|refine jU (by assumption) rfl ?_))
    exact hK w2 ⟨F, ov2, h2, (Mv.none (kd.trans k1 (fun _ _ h => h))).trans m2⟩
  by_cases o3 : i.op = 3
  · simp only [if_neg o1, if_neg o2, if_pos o3] at hK
    (repeat (first|refine ja ?_|refine jb ?_|refine jc ?_|refine jd ?_|refine je ?_|refine jf ?_|refine jg ?_|refine jh ?_|refine ji ?_|refine jj ?_|refine jk ?_|refine jl ?_|refine jm ?_|refine jn ?_|refine jo ?_|refine jp ?_|refine jq ?_|refine jr ?_|refine js ?_|refine jt ?_|refine ju ?_|refine jv ?_|refine jw ?_|refine jx ?_|refine jy ?_|refine jz ?_|refine jA ?_|refine jB ?_|refine jC ?_|refine jD ?_|refine jE ?_|refine jF ?_|refine jG ?_|refine jH ?_|refine jI ?_|refine jJ ?_|refine jK ?_|refine jL ?_|refine jM (by assumption) ?_|refine jN (by assumption) rfl ?_|refine jO (by assumption) ?_|refine jP (by assumption) rfl ?_|refine jQ ?_|refine jR ?_|refine jS ?_|refine jT ?_|refine jU (by assumption) rfl ?_))
    refine M.call_i (binary37_ret h hR (hib (by omega))) ?_
    rintro _ w1 ⟨rfl, F1, h1, m1⟩
    refine M.setAdd_i h1 hsv hB hR ?_
    rintro w2 ⟨ov2, h2, m2⟩
    exact hK w2 ⟨F1, ov2, h2, m1.trans m2⟩
  by_cases o4 : i.op = 4
  · simp only [if_neg o1, if_neg o2, if_neg o3, if_pos o4] at hK
    have hi9 := hib (by omega)
    have kd := Keep.drew w No
    have hd := h.keepN kd
    have hcp := hd.cp
    have hcI := hd.cI
    have hcB := hd.cB
    have hrB := hd.creg hR.2.1.1 hR.2.1.2
    (repeat (first|refine ja ?_|refine jb ?_|refine jc ?_|refine jd ?_|refine je ?_|refine jf ?_|refine jg ?_|refine jh ?_|refine ji ?_|refine jj ?_|refine jk ?_|refine jl ?_|refine jm ?_|refine jn ?_|refine jo ?_|refine jp ?_|refine jq ?_|refine jr ?_|refine js ?_|refine jt ?_|refine ju ?_|refine jv ?_|refine jw ?_|refine jx ?_|refine jy ?_|refine jz ?_|refine jA ?_|refine jB ?_|refine jC ?_|refine jD ?_|refine jE ?_|refine jF ?_|refine jG ?_|refine jH ?_|refine jI ?_|refine jJ ?_|refine jK ?_|refine jL ?_|refine jM (by assumption) ?_|refine jN (by assumption) rfl ?_|refine jO (by assumption) ?_|refine jP (by assumption) rfl ?_|refine jQ ?_|refine jR ?_|refine jS ?_|refine jT ?_|refine jU (by assumption) rfl ?_))
    refine M.toIntW_i ?_
    have eI : i.imm.toInt = (i.imm.toNat : Int) := by rw [BitVec.toInt_eq_toNat_cond]; rw [if_pos (by omega)]
    rw [eI]
    (repeat (first|refine ja ?_|refine jb ?_|refine jc ?_|refine jd ?_|refine je ?_|refine jf ?_|refine jg ?_|refine jh ?_|refine ji ?_|refine jj ?_|refine jk ?_|refine jl ?_|refine jm ?_|refine jn ?_|refine jo ?_|refine jp ?_|refine jq ?_|refine jr ?_|refine js ?_|refine jt ?_|refine ju ?_|refine jv ?_|refine jw ?_|refine jx ?_|refine jy ?_|refine jz ?_|refine jA ?_|refine jB ?_|refine jC ?_|refine jD ?_|refine jE ?_|refine jF ?_|refine jG ?_|refine jH ?_|refine jI ?_|refine jJ ?_|refine jK ?_|refine jL ?_|refine jM (by assumption) ?_|refine jN (by assumption) rfl ?_|refine jO (by assumption) ?_|refine jP (by assumption) rfl ?_|refine jQ ?_|refine jR ?_|refine jS ?_|refine jT ?_|refine jU (by assumption) rfl ?_))
    refine M.arr8_i hR.2.1.1 (by have := hR.2.1.2; omega) ?_
    (repeat (first|refine ja ?_|refine jb ?_|refine jc ?_|refine jd ?_|refine je ?_|refine jf ?_|refine jg ?_|refine jh ?_|refine ji ?_|refine jj ?_|refine jk ?_|refine jl ?_|refine jm ?_|refine jn ?_|refine jo ?_|refine jp ?_|refine jq ?_|refine jr ?_|refine js ?_|refine jt ?_|refine ju ?_|refine jv ?_|refine jw ?_|refine jx ?_|refine jy ?_|refine jz ?_|refine jA ?_|refine jB ?_|refine jC ?_|refine jD ?_|refine jE ?_|refine jF ?_|refine jG ?_|refine jH ?_|refine jI ?_|refine jJ ?_|refine jK ?_|refine jL ?_|refine jM (by assumption) ?_|refine jN (by assumption) rfl ?_|refine jO (by assumption) ?_|refine jP (by assumption) rfl ?_|refine jQ ?_|refine jR ?_|refine jS ?_|refine jT ?_|refine jU (by assumption) rfl ?_))
    refine M.call_i (foldUn_ret hd.dag (i.imm.toNat : Int) (s.reg i.b)) ?_; rintro _ w1 ⟨F1, rfl, d1, f1, k1⟩
    obtain ⟨h1, m1⟩ := hd.ask d1 f1 k1
    have hcB1 := h1.cB
    have hcI1 := h1.cI
    (repeat (first|refine ja ?_|refine jb ?_|refine jc ?_|refine jd ?_|refine je ?_|refine jf ?_|refine jg ?_|refine jh ?_|refine ji ?_|refine jj ?_|refine jk ?_|refine jl ?_|refine jm ?_|refine jn ?_|refine jo ?_|refine jp ?_|refine jq ?_|refine jr ?_|refine js ?_|refine jt ?_|refine ju ?_|refine jv ?_|refine jw ?_|refine jx ?_|refine jy ?_|refine jz ?_|refine jA ?_|refine jB ?_|refine jC ?_|refine jD ?_|refine jE ?_|refine jF ?_|refine jG ?_|refine jH ?_|refine jI ?_|refine jJ ?_|refine jK ?_|refine jL ?_|refine jM (by assumption) ?_|refine jN (by assumption) rfl ?_|refine jO (by assumption) ?_|refine jP (by assumption) rfl ?_|refine jQ ?_|refine jR ?_|refine jS ?_|refine jT ?_|refine jU (by assumption) rfl ?_))
    refine M.extract_i rfl ?_
    refine M.extract_i rfl ?_
    refine M.call_i (keep37_ret h1 _ _) ?_
    rintro _ w2 ⟨rfl, F2, h2, m2⟩
    have hcB2 := h2.cB
    have hcI2 := h2.cI
    (repeat (first|refine ja ?_|refine jb ?_|refine jc ?_|refine jd ?_|refine je ?_|refine jf ?_|refine jg ?_|refine jh ?_|refine ji ?_|refine jj ?_|refine jk ?_|refine jl ?_|refine jm ?_|refine jn ?_|refine jo ?_|refine jp ?_|refine jq ?_|refine jr ?_|refine js ?_|refine jt ?_|refine ju ?_|refine jv ?_|refine jw ?_|refine jx ?_|refine jy ?_|refine jz ?_|refine jA ?_|refine jB ?_|refine jC ?_|refine jD ?_|refine jE ?_|refine jF ?_|refine jG ?_|refine jH ?_|refine jI ?_|refine jJ ?_|refine jK ?_|refine jL ?_|refine jM (by assumption) ?_|refine jN (by assumption) rfl ?_|refine jO (by assumption) ?_|refine jP (by assumption) rfl ?_|refine jQ ?_|refine jR ?_|refine jS ?_|refine jT ?_|refine jU (by assumption) rfl ?_))
    have hX : kp 0 ((foldUn most N (i.imm.toNat : Int) (s.reg i.b)).1, (foldUn most N (i.imm.toNat : Int) (s.reg i.b)).2.1, (foldUn most N (i.imm.toNat : Int) (s.reg i.b)).2.2) = kp 0 (foldUn most N (i.imm.toNat : Int) (s.reg i.b)) := rfl
    rw [hX] at h2 ⊢
    generalize kp 0 (foldUn most N (i.imm.toNat : Int) (s.reg i.b)) = X at h2 hK ⊢
    refine M.call_i (set37_ret h2 hsv hB.pc hR.1 X.2.1) ?_; rintro _ w3 ⟨rfl, k3⟩
    have h3 := h2.keepN k3
    have hcB3 := h3.cB
    have hcI3 := h3.cI
    (repeat (first|refine ja ?_|refine jb ?_|refine jc ?_|refine jd ?_|refine je ?_|refine jf ?_|refine jg ?_|refine jh ?_|refine ji ?_|refine jj ?_|refine jk ?_|refine jl ?_|refine jm ?_|refine jn ?_|refine jo ?_|refine jp ?_|refine jq ?_|refine jr ?_|refine js ?_|refine jt ?_|refine ju ?_|refine jv ?_|refine jw ?_|refine jx ?_|refine jy ?_|refine jz ?_|refine jA ?_|refine jB ?_|refine jC ?_|refine jD ?_|refine jE ?_|refine jF ?_|refine jG ?_|refine jH ?_|refine jI ?_|refine jJ ?_|refine jK ?_|refine jL ?_|refine jM (by assumption) ?_|refine jN (by assumption) rfl ?_|refine jO (by assumption) ?_|refine jP (by assumption) rfl ?_|refine jQ ?_|refine jR ?_|refine jS ?_|refine jT ?_|refine jU (by assumption) rfl ?_))
    have h8' : (s.set i X.2.1).regs.length = 8 := by simp [Sy.set, Sy.next, h8]
    have hs3 : SyO w3 (Fr F2 pb ov) (.agg ⟨(s.set i X.2.1).vals c a b d⟩) (s.set i X.2.1) := SyO.of_vals h8' (h3.lists hsv)
    refine M.call_i (add37_ret h3 hs3 hB.conds (by simp) (-1)) ?_
    rintro _ w4 ⟨rfl, ov4, h4, m4⟩
    have hcB4 := h4.cB
    have hcI4 := h4.cI
    (repeat (first|refine ja ?_|refine jb ?_|refine jc ?_|refine jd ?_|refine je ?_|refine jf ?_|refine jg ?_|refine jh ?_|refine ji ?_|refine jj ?_|refine jk ?_|refine jl ?_|refine jm ?_|refine jn ?_|refine jo ?_|refine jp ?_|refine jq ?_|refine jr ?_|refine js ?_|refine jt ?_|refine ju ?_|refine jv ?_|refine jw ?_|refine jx ?_|refine jy ?_|refine jz ?_|refine jA ?_|refine jB ?_|refine jC ?_|refine jD ?_|refine jE ?_|refine jF ?_|refine jG ?_|refine jH ?_|refine jI ?_|refine jJ ?_|refine jK ?_|refine jL ?_|refine jM (by assumption) ?_|refine jN (by assumption) rfl ?_|refine jO (by assumption) ?_|refine jP (by assumption) rfl ?_|refine jQ ?_|refine jR ?_|refine jS ?_|refine jT ?_|refine jU (by assumption) rfl ?_))
    exact hK w4 ⟨F2, ov4, h4, (Mv.none kd).trans (m1.trans (m2.trans ((Mv.none k3).trans m4)))⟩
  by_cases o5 : i.op = 5
  · simp only [if_neg o1, if_neg o2, if_neg o3, if_neg o4, if_pos o5] at hK
    have hi9 := hib (by omega)
    (repeat (first|refine ja ?_|refine jb ?_|refine jc ?_|refine jd ?_|refine je ?_|refine jf ?_|refine jg ?_|refine jh ?_|refine ji ?_|refine jj ?_|refine jk ?_|refine jl ?_|refine jm ?_|refine jn ?_|refine jo ?_|refine jp ?_|refine jq ?_|refine jr ?_|refine js ?_|refine jt ?_|refine ju ?_|refine jv ?_|refine jw ?_|refine jx ?_|refine jy ?_|refine jz ?_|refine jA ?_|refine jB ?_|refine jC ?_|refine jD ?_|refine jE ?_|refine jF ?_|refine jG ?_|refine jH ?_|refine jI ?_|refine jJ ?_|refine jK ?_|refine jL ?_|refine jM (by assumption) ?_|refine jN (by assumption) rfl ?_|refine jO (by assumption) ?_|refine jP (by assumption) rfl ?_|refine jQ ?_|refine jR ?_|refine jS ?_|refine jT ?_|refine jU (by assumption) rfl ?_))
    refine M.call_i (at37_ret h hsv (by omega)) ?_; rintro _ w1 ⟨rfl, k1⟩
    have h1 := h.keepN k1
    have hs1 : SyO w1 (Fr F pb ov) (.agg ⟨(s.at i).vals c a b d⟩) (s.at i) := SyO.of_vals (t := s.at i) h8 (h1.lists hsv)
    refine M.call_i (add37_ret h1 hs1 hB.conds (by simp) (-1)) ?_
    rintro _ w2 ⟨rfl, ov2, h2, m2⟩
    exact hK w2 ⟨F, ov2, h2, (Mv.none k1).trans m2⟩
  by_cases o6 : i.op = 6
  · simp only [if_neg o1, if_neg o2, if_neg o3, if_neg o4, if_neg o5, if_pos o6] at hK
    (repeat (first|refine ja ?_|refine jb ?_|refine jc ?_|refine jd ?_|refine je ?_|refine jf ?_|refine jg ?_|refine jh ?_|refine ji ?_|refine jj ?_|refine jk ?_|refine jl ?_|refine jm ?_|refine jn ?_|refine jo ?_|refine jp ?_|refine jq ?_|refine jr ?_|refine js ?_|refine jt ?_|refine ju ?_|refine jv ?_|refine jw ?_|refine jx ?_|refine jy ?_|refine jz ?_|refine jA ?_|refine jB ?_|refine jC ?_|refine jD ?_|refine jE ?_|refine jF ?_|refine jG ?_|refine jH ?_|refine jI ?_|refine jJ ?_|refine jK ?_|refine jL ?_|refine jM (by assumption) ?_|refine jN (by assumption) rfl ?_|refine jO (by assumption) ?_|refine jP (by assumption) rfl ?_|refine jQ ?_|refine jR ?_|refine jS ?_|refine jT ?_|refine jU (by assumption) rfl ?_))
    refine M.call_i (branch37_ret h hsv hB hR (hib (by omega))) ?_
    rintro _ w1 ⟨rfl, F1, ov1, h1, m1⟩
    exact hK w1 ⟨F1, ov1, h1, m1⟩
  by_cases o7 : i.op = 7
  · simp only [if_neg o1, if_neg o2, if_neg o3, if_neg o4, if_neg o5, if_neg o6, if_pos o7] at hK
    (repeat (first|refine ja ?_|refine jb ?_|refine jc ?_|refine jd ?_|refine je ?_|refine jf ?_|refine jg ?_|refine jh ?_|refine ji ?_|refine jj ?_|refine jk ?_|refine jl ?_|refine jm ?_|refine jn ?_|refine jo ?_|refine jp ?_|refine jq ?_|refine jr ?_|refine js ?_|refine jt ?_|refine ju ?_|refine jv ?_|refine jw ?_|refine jx ?_|refine jy ?_|refine jz ?_|refine jA ?_|refine jB ?_|refine jC ?_|refine jD ?_|refine jE ?_|refine jF ?_|refine jG ?_|refine jH ?_|refine jI ?_|refine jJ ?_|refine jK ?_|refine jL ?_|refine jM (by assumption) ?_|refine jN (by assumption) rfl ?_|refine jO (by assumption) ?_|refine jP (by assumption) rfl ?_|refine jQ ?_|refine jR ?_|refine jS ?_|refine jT ?_|refine jU (by assumption) rfl ?_))
    refine M.call_i (load37_ret h hsv hB hR) ?_
    rintro _ w1 ⟨rfl, F1, ov1, h1, m1⟩
    exact hK w1 ⟨F1, ov1, h1, m1⟩
  by_cases o8 : i.op = 8
  · simp only [if_neg o1, if_neg o2, if_neg o3, if_neg o4, if_neg o5, if_neg o6, if_neg o7, if_pos o8] at hK
    (repeat (first|refine ja ?_|refine jb ?_|refine jc ?_|refine jd ?_|refine je ?_|refine jf ?_|refine jg ?_|refine jh ?_|refine ji ?_|refine jj ?_|refine jk ?_|refine jl ?_|refine jm ?_|refine jn ?_|refine jo ?_|refine jp ?_|refine jq ?_|refine jr ?_|refine js ?_|refine jt ?_|refine ju ?_|refine jv ?_|refine jw ?_|refine jx ?_|refine jy ?_|refine jz ?_|refine jA ?_|refine jB ?_|refine jC ?_|refine jD ?_|refine jE ?_|refine jF ?_|refine jG ?_|refine jH ?_|refine jI ?_|refine jJ ?_|refine jK ?_|refine jL ?_|refine jM (by assumption) ?_|refine jN (by assumption) rfl ?_|refine jO (by assumption) ?_|refine jP (by assumption) rfl ?_|refine jQ ?_|refine jR ?_|refine jS ?_|refine jT ?_|refine jU (by assumption) rfl ?_))
    refine M.call_i (store37_ret h hsv hB hR) ?_
    rintro _ w1 ⟨rfl, F1, ov1, h1, m1⟩
    exact hK w1 ⟨F1, ov1, h1, m1⟩
  by_cases o9 : i.op = 9
  · simp only [if_neg o1, if_neg o2, if_neg o3, if_neg o4, if_neg o5, if_neg o6, if_neg o7, if_neg o8, if_pos o9] at hK
    (repeat (first|refine ja ?_|refine jb ?_|refine jc ?_|refine jd ?_|refine je ?_|refine jf ?_|refine jg ?_|refine jh ?_|refine ji ?_|refine jj ?_|refine jk ?_|refine jl ?_|refine jm ?_|refine jn ?_|refine jo ?_|refine jp ?_|refine jq ?_|refine jr ?_|refine js ?_|refine jt ?_|refine ju ?_|refine jv ?_|refine jw ?_|refine jx ?_|refine jy ?_|refine jz ?_|refine jA ?_|refine jB ?_|refine jC ?_|refine jD ?_|refine jE ?_|refine jF ?_|refine jG ?_|refine jH ?_|refine jI ?_|refine jJ ?_|refine jK ?_|refine jL ?_|refine jM (by assumption) ?_|refine jN (by assumption) rfl ?_|refine jO (by assumption) ?_|refine jP (by assumption) rfl ?_|refine jQ ?_|refine jR ?_|refine jS ?_|refine jT ?_|refine jU (by assumption) rfl ?_))
    refine M.call_i (input37_ret h hin (.inr (hib (by omega)))) ?_
    rintro _ w1 ⟨rfl, F1, h1, m1⟩
    refine M.setAdd_i h1 hsv hB hR ?_
    rintro w2 ⟨ov2, h2, m2⟩
    exact hK w2 ⟨F1, ov2, h2, m1.trans m2⟩
  by_cases o10 : i.op = 10
  · simp only [if_neg o1, if_neg o2, if_neg o3, if_neg o4, if_neg o5, if_neg o6, if_neg o7, if_neg o8, if_neg o9, if_pos o10] at hK
    (repeat (first|refine ja ?_|refine jb ?_|refine jc ?_|refine jd ?_|refine je ?_|refine jf ?_|refine jg ?_|refine jh ?_|refine ji ?_|refine jj ?_|refine jk ?_|refine jl ?_|refine jm ?_|refine jn ?_|refine jo ?_|refine jp ?_|refine jq ?_|refine jr ?_|refine js ?_|refine jt ?_|refine ju ?_|refine jv ?_|refine jw ?_|refine jx ?_|refine jy ?_|refine jz ?_|refine jA ?_|refine jB ?_|refine jC ?_|refine jD ?_|refine jE ?_|refine jF ?_|refine jG ?_|refine jH ?_|refine jI ?_|refine jJ ?_|refine jK ?_|refine jL ?_|refine jM (by assumption) ?_|refine jN (by assumption) rfl ?_|refine jO (by assumption) ?_|refine jP (by assumption) rfl ?_|refine jQ ?_|refine jR ?_|refine jS ?_|refine jT ?_|refine jU (by assumption) rfl ?_))
    refine M.call_i (read37_ret h hsv hB hR) ?_
    rintro _ w1 ⟨rfl, F1, ov1, h1, m1⟩
    exact hK w1 ⟨F1, ov1, h1, m1⟩
  by_cases o11 : i.op = 11
  · simp only [if_neg o1, if_neg o2, if_neg o3, if_neg o4, if_neg o5, if_neg o6, if_neg o7, if_neg o8, if_neg o9, if_neg o10, if_pos o11] at hK
    (repeat (first|refine ja ?_|refine jb ?_|refine jc ?_|refine jd ?_|refine je ?_|refine jf ?_|refine jg ?_|refine jh ?_|refine ji ?_|refine jj ?_|refine jk ?_|refine jl ?_|refine jm ?_|refine jn ?_|refine jo ?_|refine jp ?_|refine jq ?_|refine jr ?_|refine js ?_|refine jt ?_|refine ju ?_|refine jv ?_|refine jw ?_|refine jx ?_|refine jy ?_|refine jz ?_|refine jA ?_|refine jB ?_|refine jC ?_|refine jD ?_|refine jE ?_|refine jF ?_|refine jG ?_|refine jH ?_|refine jI ?_|refine jJ ?_|refine jK ?_|refine jL ?_|refine jM (by assumption) ?_|refine jN (by assumption) rfl ?_|refine jO (by assumption) ?_|refine jP (by assumption) rfl ?_|refine jQ ?_|refine jR ?_|refine jS ?_|refine jT ?_|refine jU (by assumption) rfl ?_))
    refine M.call_i (write37_ret h hsv hB hR) ?_
    rintro _ w1 ⟨rfl, F1, ov1, h1, m1⟩
    exact hK w1 ⟨F1, ov1, h1, m1⟩
  by_cases o12 : i.op = 12
  · simp only [if_neg o1, if_neg o2, if_neg o3, if_neg o4, if_neg o5, if_neg o6, if_neg o7, if_neg o8, if_neg o9, if_neg o10, if_neg o11, if_pos o12] at hK
    (repeat (first|refine ja ?_|refine jb ?_|refine jc ?_|refine jd ?_|refine je ?_|refine jf ?_|refine jg ?_|refine jh ?_|refine ji ?_|refine jj ?_|refine jk ?_|refine jl ?_|refine jm ?_|refine jn ?_|refine jo ?_|refine jp ?_|refine jq ?_|refine jr ?_|refine js ?_|refine jt ?_|refine ju ?_|refine jv ?_|refine jw ?_|refine jx ?_|refine jy ?_|refine jz ?_|refine jA ?_|refine jB ?_|refine jC ?_|refine jD ?_|refine jE ?_|refine jF ?_|refine jG ?_|refine jH ?_|refine jI ?_|refine jJ ?_|refine jK ?_|refine jL ?_|refine jM (by assumption) ?_|refine jN (by assumption) rfl ?_|refine jO (by assumption) ?_|refine jP (by assumption) rfl ?_|refine jQ ?_|refine jR ?_|refine jS ?_|refine jT ?_|refine jU (by assumption) rfl ?_))
    refine M.call_i (flush37_ret h hsv hB) ?_
    rintro _ w1 ⟨rfl, F1, ov1, h1, m1⟩
    exact hK w1 ⟨F1, ov1, h1, m1⟩
  by_cases o13 : i.op = 13
  · simp only [if_neg o1, if_neg o2, if_neg o3, if_neg o4, if_neg o5, if_neg o6, if_neg o7, if_neg o8, if_neg o9, if_neg o10, if_neg o11, if_neg o12, if_pos o13] at hK
    (repeat (first|refine ja ?_|refine jb ?_|refine jc ?_|refine jd ?_|refine je ?_|refine jf ?_|refine jg ?_|refine jh ?_|refine ji ?_|refine jj ?_|refine jk ?_|refine jl ?_|refine jm ?_|refine jn ?_|refine jo ?_|refine jp ?_|refine jq ?_|refine jr ?_|refine js ?_|refine jt ?_|refine ju ?_|refine jv ?_|refine jw ?_|refine jx ?_|refine jy ?_|refine jz ?_|refine jA ?_|refine jB ?_|refine jC ?_|refine jD ?_|refine jE ?_|refine jF ?_|refine jG ?_|refine jH ?_|refine jI ?_|refine jJ ?_|refine jK ?_|refine jL ?_|refine jM (by assumption) ?_|refine jN (by assumption) rfl ?_|refine jO (by assumption) ?_|refine jP (by assumption) rfl ?_|refine jQ ?_|refine jR ?_|refine jS ?_|refine jT ?_|refine jU (by assumption) rfl ?_))
    refine M.call_i (barrier37_ret h hsv hB) ?_
    rintro _ w1 ⟨rfl, F1, ov1, h1, m1⟩
    exact hK w1 ⟨F1, ov1, h1, m1⟩
  by_cases o14 : i.op = 14
  · simp only [if_neg o1, if_neg o2, if_neg o3, if_neg o4, if_neg o5, if_neg o6, if_neg o7, if_neg o8, if_neg o9, if_neg o10, if_neg o11, if_neg o12, if_neg o13, if_pos o14] at hK
    obtain ⟨q1, q2, q3, q4⟩ := h.one4 hsv
    (repeat (first|refine ja ?_|refine jb ?_|refine jc ?_|refine jd ?_|refine je ?_|refine jf ?_|refine jg ?_|refine jh ?_|refine ji ?_|refine jj ?_|refine jk ?_|refine jl ?_|refine jm ?_|refine jn ?_|refine jo ?_|refine jp ?_|refine jq ?_|refine jr ?_|refine js ?_|refine jt ?_|refine ju ?_|refine jv ?_|refine jw ?_|refine jx ?_|refine jy ?_|refine jz ?_|refine jA ?_|refine jB ?_|refine jC ?_|refine jD ?_|refine jE ?_|refine jF ?_|refine jG ?_|refine jH ?_|refine jI ?_|refine jJ ?_|refine jK ?_|refine jL ?_|refine jM (by assumption) ?_|refine jN (by assumption) rfl ?_|refine jO (by assumption) ?_|refine jP (by assumption) rfl ?_|refine jQ ?_|refine jR ?_|refine jS ?_|refine jT ?_|refine jU (by assumption) rfl ?_))
    refine h.svs ?_
    refine M.new_i (l := zSy) (fun w1 b1 k1 s1 => ?_)
    refine M.storeAll_i b1 h.sy.len19 rfl (by rw [hsv]; exact vals_one q1 q2 q3 q4) (fun w2 b2 k2 s2 => ?_)
    have k02 : Keep w w2 No := k1.trans k2 (fun x hx e => by have e : x = w.heap.size := e; omega)
    have h2 := h.keepN k02
    have hcA := h2.cA
    rw [hsv] at b2
    (repeat (first|refine ja ?_|refine jb ?_|refine jc ?_|refine jd ?_|refine je ?_|refine jf ?_|refine jg ?_|refine jh ?_|refine ji ?_|refine jj ?_|refine jk ?_|refine jl ?_|refine jm ?_|refine jn ?_|refine jo ?_|refine jp ?_|refine jq ?_|refine jr ?_|refine js ?_|refine jt ?_|refine ju ?_|refine jv ?_|refine jw ?_|refine jx ?_|refine jy ?_|refine jz ?_|refine jA ?_|refine jB ?_|refine jC ?_|refine jD ?_|refine jE ?_|refine jF ?_|refine jG ?_|refine jH ?_|refine jI ?_|refine jJ ?_|refine jK ?_|refine jL ?_|refine jM (by assumption) ?_|refine jN (by assumption) rfl ?_|refine jO (by assumption) ?_|refine jP (by assumption) rfl ?_|refine jQ ?_|refine jR ?_|refine jS ?_|refine jT ?_|refine jU (by assumption) rfl ?_))
    refine M.arr8_i hR.1.1 (by have := hR.1.2; omega) ?_
    rw [Nat.zero_add]
    refine M.loadB_i b2 (regs_getD h8 hR.1.1 hR.1.2) ?_
    have hl := vals_len (s := s) (c := c) (a := a) (b := b) (d := d) h8
    (repeat (first|refine ja ?_|refine jb ?_|refine jc ?_|refine jd ?_|refine je ?_|refine jf ?_|refine jg ?_|refine jh ?_|refine ji ?_|refine jj ?_|refine jk ?_|refine jl ?_|refine jm ?_|refine jn ?_|refine jo ?_|refine jp ?_|refine jq ?_|refine jr ?_|refine js ?_|refine jt ?_|refine ju ?_|refine jv ?_|refine jw ?_|refine jx ?_|refine jy ?_|refine jz ?_|refine jA ?_|refine jB ?_|refine jC ?_|refine jD ?_|refine jE ?_|refine jF ?_|refine jG ?_|refine jH ?_|refine jI ?_|refine jJ ?_|refine jK ?_|refine jL ?_|refine jM (by assumption) ?_|refine jN (by assumption) rfl ?_|refine jO (by assumption) ?_|refine jP (by assumption) rfl ?_|refine jQ ?_|refine jR ?_|refine jS ?_|refine jT ?_|refine jU (by assumption) rfl ?_))
    refine M.store_i b2 (by rw [hl]; omega) rfl (fun w3 b3 k3 s3 => ?_)
    (repeat (first|refine ja ?_|refine jb ?_|refine jc ?_|refine jd ?_|refine je ?_|refine jf ?_|refine jg ?_|refine jh ?_|refine ji ?_|refine jj ?_|refine jk ?_|refine jl ?_|refine jm ?_|refine jn ?_|refine jo ?_|refine jp ?_|refine jq ?_|refine jr ?_|refine js ?_|refine jt ?_|refine ju ?_|refine jv ?_|refine jw ?_|refine jx ?_|refine jy ?_|refine jz ?_|refine jA ?_|refine jB ?_|refine jC ?_|refine jD ?_|refine jE ?_|refine jF ?_|refine jG ?_|refine jH ?_|refine jI ?_|refine jJ ?_|refine jK ?_|refine jL ?_|refine jM (by assumption) ?_|refine jN (by assumption) rfl ?_|refine jO (by assumption) ?_|refine jP (by assumption) rfl ?_|refine jQ ?_|refine jR ?_|refine jS ?_|refine jT ?_|refine jU (by assumption) rfl ?_))
    refine M.store_i b3 (by rw [List.length_set, hl]; omega) rfl (fun w4 b4 k4 s4 => ?_)
    have ev : ((s.vals c a b d).set (0 + 12) (vi 1)).set (0 + 14) (vi (s.reg i.a)) = ({ s with en := 1, value := s.reg i.a } : Sy).vals c a b d := by
      unfold Sy.vals
      rw [List.set_append_right _ _ (by simp [h8]), List.set_append_right _ _ (by simp [h8])]
      simp [h8]
    rw [ev] at b4
    have k04 : Keep w w4 No := (k02.trans k3 (fun x hx e => by have e : x = w.heap.size := e; omega)).trans k4 (fun x hx e => by have e : x = w.heap.size := e; omega)
    have h4 := h.keepN k04
    refine M.loadAll_i b4 (vals_len (s := { s with en := 1, value := s.reg i.a }) h8) ?_
    have hs4 : SyO w4 (Fr F pb ov) (.agg ⟨({ s with en := 1, value := s.reg i.a } : Sy).vals c a b d⟩) { s with en := 1, value := s.reg i.a } := SyO.of_vals (t := { s with en := 1, value := s.reg i.a }) h8 (h4.lists hsv)
    refine M.call_i (add37_ret h4 hs4 hB.conds (by simp) (-1)) ?_
    rintro _ w5 ⟨rfl, ov5, h5, m5⟩
    exact hK w5 ⟨F, ov5, h5, (Mv.none k04).trans m5⟩
  · simp only [if_neg o1, if_neg o2, if_neg o3, if_neg o4, if_neg o5, if_neg o6, if_neg o7, if_neg o8, if_neg o9, if_neg o10, if_neg o11, if_neg o12, if_neg o13, if_neg o14] at hK
    have hi9 := hib (by omega)
    have hcI := h.cI
    (repeat (first|refine ja ?_|refine jb ?_|refine jc ?_|refine jd ?_|refine je ?_|refine jf ?_|refine jg ?_|refine jh ?_|refine ji ?_|refine jj ?_|refine jk ?_|refine jl ?_|refine jm ?_|refine jn ?_|refine jo ?_|refine jp ?_|refine jq ?_|refine jr ?_|refine js ?_|refine jt ?_|refine ju ?_|refine jv ?_|refine jw ?_|refine jx ?_|refine jy ?_|refine jz ?_|refine jA ?_|refine jB ?_|refine jC ?_|refine jD ?_|refine jE ?_|refine jF ?_|refine jG ?_|refine jH ?_|refine jI ?_|refine jJ ?_|refine jK ?_|refine jL ?_|refine jM (by assumption) ?_|refine jN (by assumption) rfl ?_|refine jO (by assumption) ?_|refine jP (by assumption) rfl ?_|refine jQ ?_|refine jR ?_|refine jS ?_|refine jT ?_|refine jU (by assumption) rfl ?_))
    refine M.toIntW_i ?_
    have eI : i.imm.toInt = (i.imm.toNat : Int) := by rw [BitVec.toInt_eq_toNat_cond]; rw [if_pos (by omega)]
    rw [eI]
    refine M.call_i (trap37_ret h hsv (i.imm.toNat : Int)) ?_; rintro _ w1 ⟨rfl, k1⟩
    have h1 := h.keepN k1
    have hs1 : SyO w1 (Fr F pb ov) (.agg ⟨(s.trap (i.imm.toNat : Int)).vals c a b d⟩) (s.trap (i.imm.toNat : Int)) := SyO.of_vals (t := s.trap (i.imm.toNat : Int)) h8 (h1.lists hsv)
    refine M.call_i (add37_ret h1 hs1 hB.conds (by simp) (-1)) ?_
    rintro _ w2 ⟨rfl, ov2, h2, m2⟩
    exact hK w2 ⟨F, ov2, h2, (Mv.none k1).trans m2⟩
end
end Go.Proofs.Ytanjlgafjgoaaaa
