import Derived.Test.YtanjlgafjgoaaaaSt37a
namespace Go.Proofs.Ytanjlgafjgoaaaa
open Go.Mw
set_option linter.unusedVariables false
set_option linter.unusedSimpArgs false
set_option maxRecDepth 100000
attribute [local irreducible] M.val M.unit M.next M.pick M.new M.nilCheck M.load1 M.loadA M.store M.fieldAddr M.indexSl M.indexArr M.slice M.makeSlice M.buildSlice M.len M.lenS M.cap M.append M.extract M.conv M.not M.neg M.bin M.shift M.eqB M.eqNil M.scat M.call M.callv M.gd M.share M.cond M.loop M.draw pureW readW Ret
/-! (*breakwater/sstep.stepper).keep: function 29 -/
def sh29 (x0 x1 x2 : Value) (R : Kt) (w : World) : Prop :=
  M.share (fun K1 w =>
  M.nilCheck x0 (fun t8 w =>
  M.fieldAddr 28 t8 (fun t9 w =>
  M.load1 t9 (fun t10 w =>
  M.bin .eql t10 (Value.int IntKind.i64 0) (fun t11 w =>
  M.cond t11
  (M.nilCheck x0 (fun t14 w =>
  M.fieldAddr 28 t14 (fun t15 w =>
  M.store 1 t15 x2 (fun _ w =>
  K1 [] w) w) w) w)
  (K1 [] w)) w) w) w) w) (fun s1 w => ∀ _ : List Value,
  R x1 w) w
theorem ok29 (x0 x1 x2 : Value) (R : Kt) (w : World) (h : sh29 x0 x1 x2 R w) : Ret Try.prog 29 #[x0, x1, x2] w R :=
  ret_mk <| calls_of_comp mixed (c := Try.f29.body.getD .skip) (args := [x0, x1, x2]) (rs := [(ResultVar.tmp 6)]) (Ann.seq Ann.text (Ann.join [] [7, 8, 9, 10, 11, 12, 13, 14, 15] (Ann.seq Ann.text (Ann.cond Ann.text Ann.leaf)) (Ann.seq Ann.text Ann.leaf)))
    Try.func29 (by kernel_rfl) (by kernel_rfl)
    (Eq.mp (by kernel_rfl) h)
/-! (*breakwater/sstep.stepper).word: function 27 -/
def sh27 (x0 x1 : Value) (R : Kt) (w : World) : Prop :=
  M.nilCheck x0 (fun t7 w =>
  M.fieldAddr 0 t7 (fun t8 w =>
  M.load1 t8 (fun t9 w =>
  M.call Try.prog 7 #[t9, (Value.int IntKind.i64 64), x1] (fun t11 w =>
  M.extract 0 t11 (fun t12 w =>
  M.extract 1 t11 (fun t13 w =>
  M.call Try.prog 29 #[x0, t12, t13] (fun t14 w =>
  R t14 w) w) w) w) w) w) w) w
theorem ok27 (x0 x1 : Value) (R : Kt) (w : World) (h : sh27 x0 x1 R w) : Ret Try.prog 27 #[x0, x1] w R :=
  ret_mk <| calls_of_comp mixed (c := Try.f27.body.getD .skip) (args := [x0, x1]) (rs := [(ResultVar.tmp 4)]) (Ann.seq Ann.text (Ann.seq Ann.text Ann.leaf))
    Try.func27 (by kernel_rfl) (by kernel_rfl)
    (Eq.mp (by kernel_rfl) h)
/-! (*breakwater/sstep.stepper).is: function 53 -/
def sh53 (x0 x1 x2 : Value) (R : Kt) (w : World) : Prop :=
  M.draw (fun w =>
  M.nilCheck x0 (fun t9 w =>
  M.fieldAddr 0 t9 (fun t10 w =>
  M.load1 t10 (fun t11 w =>
  M.call Try.prog 27 #[x0, x2] (fun t15 w =>
  ((M.load1 t10 (fun v' _ => v' = t11) w) ∧ M.call Try.prog 49 #[t11, (Value.int IntKind.i64 12), x1, t15] (fun t16 w =>
  M.extract 0 t16 (fun t17 w =>
  M.extract 1 t16 (fun t18 w =>
  M.call Try.prog 29 #[x0, t17, t18] (fun t19 w =>
  R t19 w) w) w) w) w)) w) w) w) w) w
theorem ok53 (x0 x1 x2 : Value) (R : Kt) (w : World) (h : sh53 x0 x1 x2 R w) : Ret Try.prog 53 #[x0, x1, x2] w R :=
  ret_mk <| calls_of_comp mixed (c := Try.f53.body.getD .skip) (args := [x0, x1, x2]) (rs := [(ResultVar.tmp 6)]) (Ann.seq Ann.text (Ann.seq (Ann.draw (Sch.take 0 (Sch.take 1 (Sch.take 2 (Sch.take 3 (Sch.take 4 (Sch.take 5 (Sch.take 6 (Sch.take 7 (Sch.one 8 (Sch.one 9 (Sch.take 10 (Sch.take 11 (Sch.one 12 (Sch.take 13 Sch.done))))))))))))))) Ann.leaf))
    Try.func53 (by kernel_rfl) (by kernel_rfl)
    (Eq.mp (by kernel_rfl) h)
/-! (*breakwater/sstep.stepper).not: function 54 -/
def sh54 (x0 x1 : Value) (R : Kt) (w : World) : Prop :=
  M.nilCheck x0 (fun t7 w =>
  M.fieldAddr 0 t7 (fun t8 w =>
  M.load1 t8 (fun t9 w =>
  M.call Try.prog 30 #[t9, (Value.int IntKind.i64 15), x1] (fun t11 w =>
  M.extract 0 t11 (fun t12 w =>
  M.extract 1 t11 (fun t13 w =>
  M.call Try.prog 29 #[x0, t12, t13] (fun t14 w =>
  R t14 w) w) w) w) w) w) w) w
theorem ok54 (x0 x1 : Value) (R : Kt) (w : World) (h : sh54 x0 x1 R w) : Ret Try.prog 54 #[x0, x1] w R :=
  ret_mk <| calls_of_comp mixed (c := Try.f54.body.getD .skip) (args := [x0, x1]) (rs := [(ResultVar.tmp 4)]) (Ann.seq Ann.text (Ann.seq Ann.text Ann.leaf))
    Try.func54 (by kernel_rfl) (by kernel_rfl)
    (Eq.mp (by kernel_rfl) h)
/-! (*breakwater/sstep.stepper).next: function 48 -/
def sh48 (x0 : Value) (R : Kt) (w : World) : Prop :=
  M.new 42 #[.int .i64 0, .int .i64 0, .int .i64 0, .int .i64 0, .int .i64 0, .int .i64 0, .int .i64 0, .int .i64 0, .slice none 0 0, .int .i64 0, .int .i64 0, .int .i64 0, .int .i64 0, .int .i64 0, .int .i64 0, .slice none 0 0, .slice none 0 0, .int .i64 0, .slice none 0 0] (fun t2 w =>
  M.nilCheck x0 (fun t5 w =>
  M.fieldAddr 1 t5 (fun t6 w =>
  M.loadA 19 t6 (fun t7 w =>
  M.new 42 #[.int .i64 0, .int .i64 0, .int .i64 0, .int .i64 0, .int .i64 0, .int .i64 0, .int .i64 0, .int .i64 0, .slice none 0 0, .int .i64 0, .int .i64 0, .int .i64 0, .int .i64 0, .int .i64 0, .int .i64 0, .slice none 0 0, .slice none 0 0, .int .i64 0, .slice none 0 0] (fun t3 w =>
  M.store 19 t3 t7 (fun _ w =>
  M.fieldAddr 9 t3 (fun t8 w =>
  M.load1 t8 (fun t9 w =>
  M.bin .add t9 (Value.int IntKind.i64 1) (fun t10 w =>
  M.fieldAddr 9 t3 (fun t11 w =>
  M.store 1 t11 t10 (fun _ w =>
  M.loadA 19 t3 (fun t12 w =>
  M.store 19 t2 t12 (fun _ w =>
  M.loadA 19 t2 (fun r0 w => R r0 w) w) w) w) w) w) w) w) w) w) w) w) w) w) w
theorem ok48 (x0 : Value) (R : Kt) (w : World) (h : sh48 x0 R w) : Ret Try.prog 48 #[x0] w R :=
  ret_mk <| calls_of_comp mixed (c := Try.f48.body.getD .skip) (args := [x0]) (rs := [(ResultVar.cell 2 42)]) (Ann.seq Ann.text (Ann.seq Ann.text (Ann.seq Ann.text (Ann.seq Ann.text Ann.leaf))))
    Try.func48 (by kernel_rfl) (by kernel_rfl)
    (Eq.mp (by kernel_rfl) h)
/-! (*breakwater/sstep.stepper).set: function 26 -/
def sh26 (x0 x1 : Value) (R : Kt) (w : World) : Prop :=
  M.new 42 #[.int .i64 0, .int .i64 0, .int .i64 0, .int .i64 0, .int .i64 0, .int .i64 0, .int .i64 0, .int .i64 0, .slice none 0 0, .int .i64 0, .int .i64 0, .int .i64 0, .int .i64 0, .int .i64 0, .int .i64 0, .slice none 0 0, .slice none 0 0, .int .i64 0, .slice none 0 0] (fun t4 w =>
  M.call Try.prog 48 #[x0] (fun t7 w =>
  M.new 42 #[.int .i64 0, .int .i64 0, .int .i64 0, .int .i64 0, .int .i64 0, .int .i64 0, .int .i64 0, .int .i64 0, .slice none 0 0, .int .i64 0, .int .i64 0, .int .i64 0, .int .i64 0, .int .i64 0, .int .i64 0, .slice none 0 0, .slice none 0 0, .int .i64 0, .slice none 0 0] (fun t5 w =>
  M.store 19 t5 t7 (fun _ w =>
  M.nilCheck x0 (fun t9 w =>
  M.fieldAddr 20 t9 (fun t10 w =>
  M.fieldAddr 1 t10 (fun t11 w =>
  M.load1 t11 (fun t12 w =>
  M.fieldAddr 0 t5 (fun t14 w =>
  M.indexArr 8 1 t14 t12 (fun t15 w =>
  M.store 1 t15 x1 (fun _ w =>
  M.loadA 19 t5 (fun t16 w =>
  M.store 19 t4 t16 (fun _ w =>
  M.loadA 19 t4 (fun r0 w => R r0 w) w) w) w) w) w) w) w) w) w) w) w) w) w) w
theorem ok26 (x0 x1 : Value) (R : Kt) (w : World) (h : sh26 x0 x1 R w) : Ret Try.prog 26 #[x0, x1] w R :=
  ret_mk <| calls_of_comp mixed (c := Try.f26.body.getD .skip) (args := [x0, x1]) (rs := [(ResultVar.cell 4 42)]) (Ann.seq Ann.text (Ann.seq Ann.text (Ann.seq Ann.text (Ann.seq Ann.text Ann.leaf))))
    Try.func26 (by kernel_rfl) (by kernel_rfl)
    (Eq.mp (by kernel_rfl) h)
/-! (*breakwater/sstep.stepper).trap: function 17 -/
def sh17 (x0 x1 : Value) (R : Kt) (w : World) : Prop :=
  M.new 42 #[.int .i64 0, .int .i64 0, .int .i64 0, .int .i64 0, .int .i64 0, .int .i64 0, .int .i64 0, .int .i64 0, .slice none 0 0, .int .i64 0, .int .i64 0, .int .i64 0, .int .i64 0, .int .i64 0, .int .i64 0, .slice none 0 0, .slice none 0 0, .int .i64 0, .slice none 0 0] (fun t4 w =>
  M.nilCheck x0 (fun t7 w =>
  M.fieldAddr 1 t7 (fun t8 w =>
  M.loadA 19 t8 (fun t9 w =>
  M.new 42 #[.int .i64 0, .int .i64 0, .int .i64 0, .int .i64 0, .int .i64 0, .int .i64 0, .int .i64 0, .int .i64 0, .slice none 0 0, .int .i64 0, .int .i64 0, .int .i64 0, .int .i64 0, .int .i64 0, .int .i64 0, .slice none 0 0, .slice none 0 0, .int .i64 0, .slice none 0 0] (fun t5 w =>
  M.store 19 t5 t9 (fun _ w =>
  M.fieldAddr 12 t5 (fun t11 w =>
  M.store 1 t11 (Value.int IntKind.i64 2) (fun _ w =>
  M.fieldAddr 13 t5 (fun t12 w =>
  M.store 1 t12 x1 (fun _ w =>
  M.loadA 19 t5 (fun t13 w =>
  M.store 19 t4 t13 (fun _ w =>
  M.loadA 19 t4 (fun r0 w => R r0 w) w) w) w) w) w) w) w) w) w) w) w) w) w
theorem ok17 (x0 x1 : Value) (R : Kt) (w : World) (h : sh17 x0 x1 R w) : Ret Try.prog 17 #[x0, x1] w R :=
  ret_mk <| calls_of_comp mixed (c := Try.f17.body.getD .skip) (args := [x0, x1]) (rs := [(ResultVar.cell 4 42)]) (Ann.seq Ann.text (Ann.seq Ann.text (Ann.seq Ann.text (Ann.seq Ann.text Ann.leaf))))
    Try.func17 (by kernel_rfl) (by kernel_rfl)
    (Eq.mp (by kernel_rfl) h)
/-! (*breakwater/sstep.stepper).at: function 31 -/
def sh31 (x0 : Value) (R : Kt) (w : World) : Prop :=
  M.new 42 #[.int .i64 0, .int .i64 0, .int .i64 0, .int .i64 0, .int .i64 0, .int .i64 0, .int .i64 0, .int .i64 0, .slice none 0 0, .int .i64 0, .int .i64 0, .int .i64 0, .int .i64 0, .int .i64 0, .int .i64 0, .slice none 0 0, .slice none 0 0, .int .i64 0, .slice none 0 0] (fun t2 w =>
  M.nilCheck x0 (fun t5 w =>
  M.fieldAddr 1 t5 (fun t6 w =>
  M.loadA 19 t6 (fun t7 w =>
  M.new 42 #[.int .i64 0, .int .i64 0, .int .i64 0, .int .i64 0, .int .i64 0, .int .i64 0, .int .i64 0, .int .i64 0, .slice none 0 0, .int .i64 0, .int .i64 0, .int .i64 0, .int .i64 0, .int .i64 0, .int .i64 0, .slice none 0 0, .slice none 0 0, .int .i64 0, .slice none 0 0] (fun t3 w =>
  M.store 19 t3 t7 (fun _ w =>
  M.nilCheck x0 (fun t9 w =>
  M.fieldAddr 20 t9 (fun t10 w =>
  M.fieldAddr 4 t10 (fun t11 w =>
  M.load1 t11 (fun t12 w =>
  M.conv .i64 t12 (fun t13 w =>
  M.fieldAddr 9 t3 (fun t14 w =>
  M.store 1 t14 t13 (fun _ w =>
  M.loadA 19 t3 (fun t15 w =>
  M.store 19 t2 t15 (fun _ w =>
  M.loadA 19 t2 (fun r0 w => R r0 w) w) w) w) w) w) w) w) w) w) w) w) w) w) w) w) w
theorem ok31 (x0 : Value) (R : Kt) (w : World) (h : sh31 x0 R w) : Ret Try.prog 31 #[x0] w R :=
  ret_mk <| calls_of_comp mixed (c := Try.f31.body.getD .skip) (args := [x0]) (rs := [(ResultVar.cell 2 42)]) (Ann.seq Ann.text (Ann.seq Ann.text (Ann.seq Ann.text (Ann.seq Ann.text Ann.leaf))))
    Try.func31 (by kernel_rfl) (by kernel_rfl)
    (Eq.mp (by kernel_rfl) h)
/-! (*breakwater/sstep.stepper).call: function 63 -/
def sh63 (x0 x1 : Value) (R : Kt) (w : World) : Prop :=
  M.new 37 (Value.cells x1) (fun t3 w =>
  M.new 42 #[.int .i64 0, .int .i64 0, .int .i64 0, .int .i64 0, .int .i64 0, .int .i64 0, .int .i64 0, .int .i64 0, .slice none 0 0, .int .i64 0, .int .i64 0, .int .i64 0, .int .i64 0, .int .i64 0, .int .i64 0, .slice none 0 0, .slice none 0 0, .int .i64 0, .slice none 0 0] (fun t4 w =>
  M.call Try.prog 48 #[x0] (fun t7 w =>
  M.new 42 #[.int .i64 0, .int .i64 0, .int .i64 0, .int .i64 0, .int .i64 0, .int .i64 0, .int .i64 0, .int .i64 0, .slice none 0 0, .int .i64 0, .int .i64 0, .int .i64 0, .int .i64 0, .int .i64 0, .int .i64 0, .slice none 0 0, .slice none 0 0, .int .i64 0, .slice none 0 0] (fun t5 w =>
  M.store 19 t5 t7 (fun _ w =>
  M.loadA 3 t3 (fun t8 w =>
  M.fieldAddr 15 t5 (fun t9 w =>
  M.store 3 t9 t8 (fun _ w =>
  M.fieldAddr 11 t5 (fun t10 w =>
  M.load1 t10 (fun t11 w =>
  M.bin .add t11 (Value.int IntKind.i64 1) (fun t12 w =>
  M.fieldAddr 11 t5 (fun t13 w =>
  M.store 1 t13 t12 (fun _ w =>
  M.loadA 19 t5 (fun t14 w =>
  M.store 19 t4 t14 (fun _ w =>
  M.loadA 19 t4 (fun r0 w => R r0 w) w) w) w) w) w) w) w) w) w) w) w) w) w) w) w) w
theorem ok63 (x0 x1 : Value) (R : Kt) (w : World) (h : sh63 x0 x1 R w) : Ret Try.prog 63 #[x0, x1] w R :=
  ret_mk <| calls_of_comp mixed (c := Try.f63.body.getD .skip) (args := [x0, x1]) (rs := [(ResultVar.cell 4 42)]) (Ann.seq Ann.text (Ann.seq Ann.text (Ann.seq Ann.text (Ann.seq Ann.text (Ann.seq Ann.text Ann.leaf)))))
    Try.func63 (by kernel_rfl) (by kernel_rfl)
    (Eq.mp (by kernel_rfl) h)

section
variable {w : World} {F : Nat → Prop} {p pb : Nat} {N : List Nd} {most : Int} {s : Sy} {sv : List Value} {i : Ins} {inputs mw : Int} {ov : Value} {outs : List Sy} {e : Int}
/-- A method that gives a term. -/
def Idd (w : World) (F : Nat → Prop) (p pb : Nat) (most : Int) (s : Sy) (sv : List Value) (i : Ins) (inputs mw : Int) (ov : Value) (outs : List Sy) (res : Rs) (r : Value) (w' : World) : Prop :=
  r = vi res.2.1 ∧ ∃ F', Stp w' F' p pb res.1 most s sv i inputs mw ov outs res.2.2 ∧ Mv w F pb ov w' F' ov
theorem Idd.pre {w1 w' : World} {F1 : Nat → Prop} {res : Rs} {r : Value} (m : Mv w F pb ov w1 F1 ov) (h : Idd w1 F1 p pb most s sv i inputs mw ov outs res r w') : Idd w F p pb most s sv i inputs mw ov outs res r w' := by
  obtain ⟨h1, F2, h2, h3⟩ := h
  exact ⟨h1, F2, h2, m.trans h3⟩
theorem keep37_ret (h : Stp w F p pb N most s sv i inputs mw ov outs e) (id e2 : Int) :
    Ret Try.prog 29 #[ptr pb, vi id, vi e2] w (Idd w F p pb most s sv i inputs mw ov outs (kp e (N, id, e2))) := by
  have hce := h.ce
  refine ok29 _ _ _ _ _ ?_
  unfold sh29
  unfold kp
  refine M.share_j (fun vals w' => ∃ F', Stp w' F' p pb N most s sv i inputs mw ov outs (if e = 0 then e2 else e) ∧ Mv w F pb ov w' F' ov) ?_ ?_
  · rintro vals w' ⟨F', h1, h2⟩ _
    exact ⟨rfl, F', h1, h2⟩
  intro K hK
  by_cases h0 : e = 0
  · rw [if_pos h0] at hK
    (repeat (first|refine ja ?_|refine jb ?_|refine jc ?_|refine jd ?_|refine je ?_|refine jf ?_|refine jg ?_|refine jh ?_|refine ji ?_|refine jj ?_|refine jk ?_|refine jl ?_|refine jm ?_|refine jn ?_|refine jo ?_|refine jp ?_|refine jq ?_|refine jr ?_|refine js ?_|refine jt ?_|refine ju ?_|refine jv ?_|refine jw ?_|refine jx ?_|refine jy ?_|refine jz ?_|refine jA ?_|refine jB ?_|refine jC ?_|refine jD ?_|refine jE ?_|refine jF ?_|refine jG ?_|refine jH ?_|refine jI ?_|refine jJ ?_|refine jK ?_|refine jL ?_|refine jM (by assumption) ?_|refine jN (by assumption) rfl ?_|refine jO (by assumption) ?_|refine jP (by assumption) rfl ?_|refine jQ ?_|refine jR ?_|refine jS ?_|refine jT ?_|refine jU (by assumption) rfl ?_))
    have hl := h.sy.len19
    refine M.store_i h.blk (by rw [stpL_len hl]; omega) rfl (fun w1 b1 k1 s1 => ?_)
    rw [show 0 + 28 = 28 from rfl, stpL_setE hl] at b1
    obtain ⟨h1, m1⟩ := h.put b1 k1
    exact hK _ _ ⟨F, h1, m1⟩
  · rw [if_neg h0] at hK
    (repeat (first|refine ja ?_|refine jb ?_|refine jc ?_|refine jd ?_|refine je ?_|refine jf ?_|refine jg ?_|refine jh ?_|refine ji ?_|refine jj ?_|refine jk ?_|refine jl ?_|refine jm ?_|refine jn ?_|refine jo ?_|refine jp ?_|refine jq ?_|refine jr ?_|refine js ?_|refine jt ?_|refine ju ?_|refine jv ?_|refine jw ?_|refine jx ?_|refine jy ?_|refine jz ?_|refine jA ?_|refine jB ?_|refine jC ?_|refine jD ?_|refine jE ?_|refine jF ?_|refine jG ?_|refine jH ?_|refine jI ?_|refine jJ ?_|refine jK ?_|refine jL ?_|refine jM (by assumption) ?_|refine jN (by assumption) rfl ?_|refine jO (by assumption) ?_|refine jP (by assumption) rfl ?_|refine jQ ?_|refine jR ?_|refine jS ?_|refine jT ?_|refine jU (by assumption) rfl ?_))
    exact hK _ _ ⟨F, h, Mv.none (Keep.refl _ _)⟩
theorem word37_ret (h : Stp w F p pb N most s sv i inputs mw ov outs e) (x : W64) :
    Ret Try.prog 27 #[ptr pb, vw x] w (Idd w F p pb most s sv i inputs mw ov outs (wordP most N e x)) := by
  have hcp := h.cp
  refine ok27 _ _ _ _ ?_
  unfold sh27
  (repeat (first|refine ja ?_|refine jb ?_|refine jc ?_|refine jd ?_|refine je ?_|refine jf ?_|refine jg ?_|refine jh ?_|refine ji ?_|refine jj ?_|refine jk ?_|refine jl ?_|refine jm ?_|refine jn ?_|refine jo ?_|refine jp ?_|refine jq ?_|refine jr ?_|refine js ?_|refine jt ?_|refine ju ?_|refine jv ?_|refine jw ?_|refine jx ?_|refine jy ?_|refine jz ?_|refine jA ?_|refine jB ?_|refine jC ?_|refine jD ?_|refine jE ?_|refine jF ?_|refine jG ?_|refine jH ?_|refine jI ?_|refine jJ ?_|refine jK ?_|refine jL ?_|refine jM (by assumption) ?_|refine jN (by assumption) rfl ?_|refine jO (by assumption) ?_|refine jP (by assumption) rfl ?_|refine jQ ?_|refine jR ?_|refine jS ?_|refine jT ?_|refine jU (by assumption) rfl ?_))
  refine M.call_i (const_ret h.dag 64 x) ?_; rintro _ w1 ⟨F1, rfl, d1, f1, k1⟩
  refine M.extract_i (v := vi (constN most N 64 x).2.1) rfl ?_
  refine M.extract_i (v := vi (constN most N 64 x).2.2) rfl ?_
  obtain ⟨h1, m1⟩ := h.ask d1 f1 k1
  refine M.call_i (keep37_ret h1 _ _) ?_
  exact fun v w' hv => hv.pre m1
theorem not37_ret (h : Stp w F p pb N most s sv i inputs mw ov outs e) (c : Int) :
    Ret Try.prog 54 #[ptr pb, vi c] w (Idd w F p pb most s sv i inputs mw ov outs (notP most N e c)) := by
  have hcp := h.cp
  refine ok54 _ _ _ _ ?_
  unfold sh54
  (repeat (first|refine ja ?_|refine jb ?_|refine jc ?_|refine jd ?_|refine je ?_|refine jf ?_|refine jg ?_|refine jh ?_|refine ji ?_|refine jj ?_|refine jk ?_|refine jl ?_|refine jm ?_|refine jn ?_|refine jo ?_|refine jp ?_|refine jq ?_|refine jr ?_|refine js ?_|refine jt ?_|refine ju ?_|refine jv ?_|refine jw ?_|refine jx ?_|refine jy ?_|refine jz ?_|refine jA ?_|refine jB ?_|refine jC ?_|refine jD ?_|refine jE ?_|refine jF ?_|refine jG ?_|refine jH ?_|refine jI ?_|refine jJ ?_|refine jK ?_|refine jL ?_|refine jM (by assumption) ?_|refine jN (by assumption) rfl ?_|refine jO (by assumption) ?_|refine jP (by assumption) rfl ?_|refine jQ ?_|refine jR ?_|refine jS ?_|refine jT ?_|refine jU (by assumption) rfl ?_))
  refine M.call_i (foldUn_ret h.dag 15 c) ?_; rintro _ w1 ⟨F1, rfl, d1, f1, k1⟩
  refine M.extract_i (v := vi (foldUn most N 15 c).2.1) rfl ?_
  refine M.extract_i (v := vi (foldUn most N 15 c).2.2) rfl ?_
  obtain ⟨h1, m1⟩ := h.ask d1 f1 k1
  refine M.call_i (keep37_ret h1 _ _) ?_
  exact fun v w' hv => hv.pre m1
theorem is37_ret (h : Stp w F p pb N most s sv i inputs mw ov outs e) (id : Int) (x : W64) :
    Ret Try.prog 53 #[ptr pb, vi id, vw x] w (Idd w F p pb most s sv i inputs mw ov outs (isP most N e id x)) := by
  refine ok53 _ _ _ _ _ ?_
  unfold sh53
  have kd := Keep.drew w No
  have h0 := h.keepN kd
  have hcp := h0.cp
  (repeat (first|refine ja ?_|refine jb ?_|refine jc ?_|refine jd ?_|refine je ?_|refine jf ?_|refine jg ?_|refine jh ?_|refine ji ?_|refine jj ?_|refine jk ?_|refine jl ?_|refine jm ?_|refine jn ?_|refine jo ?_|refine jp ?_|refine jq ?_|refine jr ?_|refine js ?_|refine jt ?_|refine ju ?_|refine jv ?_|refine jw ?_|refine jx ?_|refine jy ?_|refine jz ?_|refine jA ?_|refine jB ?_|refine jC ?_|refine jD ?_|refine jE ?_|refine jF ?_|refine jG ?_|refine jH ?_|refine jI ?_|refine jJ ?_|refine jK ?_|refine jL ?_|refine jM (by assumption) ?_|refine jN (by assumption) rfl ?_|refine jO (by assumption) ?_|refine jP (by assumption) rfl ?_|refine jQ ?_|refine jR ?_|refine jS ?_|refine jT ?_|refine jU (by assumption) rfl ?_))
  refine M.call_i (word37_ret h0 x) ?_
  rintro _ w1 ⟨rfl, F1, h1, m1⟩
  have hcp1 := h1.cp
  (repeat (first|refine ja ?_|refine jb ?_|refine jc ?_|refine jd ?_|refine je ?_|refine jf ?_|refine jg ?_|refine jh ?_|refine ji ?_|refine jj ?_|refine jk ?_|refine jl ?_|refine jm ?_|refine jn ?_|refine jo ?_|refine jp ?_|refine jq ?_|refine jr ?_|refine js ?_|refine jt ?_|refine ju ?_|refine jv ?_|refine jw ?_|refine jx ?_|refine jy ?_|refine jz ?_|refine jA ?_|refine jB ?_|refine jC ?_|refine jD ?_|refine jE ?_|refine jF ?_|refine jG ?_|refine jH ?_|refine jI ?_|refine jJ ?_|refine jK ?_|refine jL ?_|refine jM (by assumption) ?_|refine jN (by assumption) rfl ?_|refine jO (by assumption) ?_|refine jP (by assumption) rfl ?_|refine jQ ?_|refine jR ?_|refine jS ?_|refine jT ?_|refine jU (by assumption) rfl ?_))
  refine M.call_i (foldBin_ret h1.dag 12 id (wordP most N e x).2.1) ?_; rintro _ w2 ⟨F2, rfl, d2, f2, k2⟩
  refine M.extract_i rfl ?_
  refine M.extract_i rfl ?_
  obtain ⟨h2, m2⟩ := h1.ask d2 f2 k2
  refine M.call_i (keep37_ret h2 _ _) ?_
  exact fun v w' hv => hv.pre ((Mv.pre kd m1).trans m2)
theorem vals_one {s : Sy} {c a b d : Value} (h1 : c.oneCell' = true) (h2 : a.oneCell' = true) (h3 : b.oneCell' = true) (h4 : d.oneCell' = true) : ∀ y ∈ s.vals c a b d, y.oneCell' = true := by
  intro y hy
  unfold Sy.vals at hy
  rcases List.mem_append.1 hy with hy | hy
  · obtain ⟨x, _, rfl⟩ := List.mem_map.1 hy
    rfl
  · simp only [List.mem_cons, List.not_mem_nil, or_false] at hy
    rcases hy with rfl | rfl | rfl | rfl | rfl | rfl | rfl | rfl | rfl | rfl | rfl
    all_goals first | rfl | assumption
theorem vals_inj {s : Sy} {c a b d c' a' b' d' : Value} (h : s.vals c a b d = s.vals c' a' b' d') : c = c' ∧ a = a' ∧ b = b' ∧ d = d' := by
  unfold Sy.vals at h
  have := List.append_cancel_left h
  simp only [List.cons.injEq] at this
  exact ⟨this.1, this.2.2.2.2.2.2.2.1, this.2.2.2.2.2.2.2.2.1, this.2.2.2.2.2.2.2.2.2.2.1⟩
theorem Stp.lists {c a b d : Value} (h : Stp w F p pb N most s sv i inputs mw ov outs e) (hsv : sv = s.vals c a b d) : LV vi w (Fr F pb ov) c s.cells ∧ SDvO w (Fr F pb ov) a b s.dev ∧ LV vi w (Fr F pb ov) d s.conds := by
  obtain ⟨h8, c', a', b', d', h2, hc, hdv, hcd⟩ := h.sy
  simp only [Value.agg.injEq, Array.mk.injEq] at h2
  obtain ⟨rfl, rfl, rfl, rfl⟩ := vals_inj (hsv.symm.trans h2)
  exact ⟨hc, hdv, hcd⟩
theorem Stp.one4 {c a b d : Value} (h : Stp w F p pb N most s sv i inputs mw ov outs e) (hsv : sv = s.vals c a b d) : c.oneCell' = true ∧ a.oneCell' = true ∧ b.oneCell' = true ∧ d.oneCell' = true := by
  obtain ⟨h1, h2, h3⟩ := h.lists hsv
  exact ⟨LV.one h1, LV.one h2.1, LN.one h2.2, LV.one h3⟩
/-- A state is given back. -/
theorem fin_v {w2 : World} {R : Kt} {t : Nat} {l0 L : List Value} (b2 : Blk w2 t l0) (hl0 : l0.length = 19) (hL : L.length = 19) (hone : ∀ y ∈ L, y.oneCell' = true)
    (hR : ∀ w', Keep w2 w' (· = t) → R (.agg ⟨L⟩) w') : M.store 19 (ptr t) (.agg ⟨L⟩) (fun _ w => M.loadA 19 (ptr t) (fun r0 w => R r0 w) w) w2 := by
  refine M.storeAll_i b2 hL hl0 hone (fun w3 b3 k3 s3 => ?_)
  exact M.loadAll_i b3 hL (hR w3 k3)
theorem M.arr8_i {k : Kt} {w : World} {len : Nat} {d : IntKind} {i : Int} {b o : Nat} (h0 : 0 ≤ i) (h1 : i < len) (h : k (.pointer (some ⟨b, o + i.toNat, none⟩)) w) : M.indexArr len 1 (.pointer (some ⟨b, o, none⟩)) (.int d i) k w := by
  unfold M.indexArr; simp only [add_mk, Nat.mul_one]; exact ⟨⟨h0, h1⟩, h⟩
variable {c a b d : Value}
theorem next37_ret (h : Stp w F p pb N most s sv i inputs mw ov outs e) (hsv : sv = s.vals c a b d) (hb : 0 ≤ s.pc ∧ s.pc ≤ 1000000) :
    Ret Try.prog 48 #[ptr pb] w (fun r w' => r = .agg ⟨s.next.vals c a b d⟩ ∧ Keep w w' No) := by
  refine ok48 _ _ _ ?_
  unfold sh48
  refine M.new_i (l := zSy) (fun w1 b1 k1 s1 => ?_)
  (repeat (first|refine ja ?_|refine jb ?_|refine jc ?_|refine jd ?_|refine je ?_|refine jf ?_|refine jg ?_|refine jh ?_|refine ji ?_|refine jj ?_|refine jk ?_|refine jl ?_|refine jm ?_|refine jn ?_|refine jo ?_|refine jp ?_|refine jq ?_|refine jr ?_|refine js ?_|refine jt ?_|refine ju ?_|refine jv ?_|refine jw ?_|refine jx ?_|refine jy ?_|refine jz ?_|refine jA ?_|refine jB ?_|refine jC ?_|refine jD ?_|refine jE ?_|refine jF ?_|refine jG ?_|refine jH ?_|refine jI ?_|refine jJ ?_|refine jK ?_|refine jL ?_|refine jM (by assumption) ?_|refine jN (by assumption) rfl ?_|refine jO (by assumption) ?_|refine jP (by assumption) rfl ?_|refine jQ ?_|refine jR ?_|refine jS ?_|refine jT ?_|refine jU (by assumption) rfl ?_))
  refine (h.keepN k1).svs ?_
  refine M.new_i (l := zSy) (fun w2 b2 k2 s2 => ?_)
  have b1 := b1.keep k2 (fun h => h)
  have k02 := k1.trans k2 (fun _ _ h => h)
  obtain ⟨o1, o2, o3, o4⟩ := h.one4 hsv
  have h8 := h.sy.1
  have hplt := h.blk.lt
  obtain ⟨regs, cells, pc, steps, calls, en, code, value, ⟨disk, pend, ep⟩, conds⟩ := s
  obtain ⟨r0, r1, r2, r3, r4, r5, r6, r7, rfl⟩ := eight h8
  have hsv : sv = [vi r0, vi r1, vi r2, vi r3, vi r4, vi r5, vi r6, vi r7, c, vi pc, vi steps, vi calls, vi en, vi code, vi value, a, b, vi ep, d] := hsv
  have one := fun (s' : Sy) => vals_one (s := s') o1 o2 o3 o4
  subst hsv
  refine M.storeAll_i b2 rfl rfl (one ⟨[r0, r1, r2, r3, r4, r5, r6, r7], cells, pc, steps, calls, en, code, value, ⟨disk, pend, ep⟩, conds⟩) (fun w3 b3 k3 s3 => ?_)
  have hne : w.heap.size ≠ w1.heap.size := by omega
  have b1 := b1.keep k3 hne
  have k03 : Keep w w3 No := k02.trans k3 (fun x hx e => by have e : x = w1.heap.size := e; omega)
  have hb : 0 ≤ pc ∧ pc ≤ 1000000 := hb
  (repeat (first|refine ja ?_|refine jb ?_|refine jc ?_|refine jd ?_|refine je ?_|refine jf ?_|refine jg ?_|refine jh ?_|refine ji ?_|refine jj ?_|refine jk ?_|refine jl ?_|refine jm ?_|refine jn ?_|refine jo ?_|refine jp ?_|refine jq ?_|refine jr ?_|refine js ?_|refine jt ?_|refine ju ?_|refine jv ?_|refine jw ?_|refine jx ?_|refine jy ?_|refine jz ?_|refine jA ?_|refine jB ?_|refine jC ?_|refine jD ?_|refine jE ?_|refine jF ?_|refine jG ?_|refine jH ?_|refine jI ?_|refine jJ ?_|refine jK ?_|refine jL ?_|refine jM (by assumption) ?_|refine jN (by assumption) rfl ?_|refine jO (by assumption) ?_|refine jP (by assumption) rfl ?_|refine jQ ?_|refine jR ?_|refine jS ?_|refine jT ?_|refine jU (by assumption) rfl ?_))
  refine M.store_i b3 (by simp) rfl (fun w4 b4 k4 s4 => ?_)
  have b1 := b1.keep k4 hne
  have k04 : Keep w w4 No := k03.trans k4 (fun x hx e => by have e : x = w1.heap.size := e; omega)
  refine M.loadAll_i b4 rfl ?_
  exact fin_v b1 rfl rfl (one (Sy.next ⟨[r0, r1, r2, r3, r4, r5, r6, r7], cells, pc, steps, calls, en, code, value, ⟨disk, pend, ep⟩, conds⟩)) (fun w9 k9 => ⟨rfl, k04.trans k9 (fun x hx e => by have e : x = w.heap.size := e; omega)⟩)
theorem trap37_ret (h : Stp w F p pb N most s sv i inputs mw ov outs e) (hsv : sv = s.vals c a b d) (cd : Int) :
    Ret Try.prog 17 #[ptr pb, vi cd] w (fun r w' => r = .agg ⟨(s.trap cd).vals c a b d⟩ ∧ Keep w w' No) := by
  refine ok17 _ _ _ _ ?_
  unfold sh17
  refine M.new_i (l := zSy) (fun w1 b1 k1 s1 => ?_)
  (repeat (first|refine ja ?_|refine jb ?_|refine jc ?_|refine jd ?_|refine je ?_|refine jf ?_|refine jg ?_|refine jh ?_|refine ji ?_|refine jj ?_|refine jk ?_|refine jl ?_|refine jm ?_|refine jn ?_|refine jo ?_|refine jp ?_|refine jq ?_|refine jr ?_|refine js ?_|refine jt ?_|refine ju ?_|refine jv ?_|refine jw ?_|refine jx ?_|refine jy ?_|refine jz ?_|refine jA ?_|refine jB ?_|refine jC ?_|refine jD ?_|refine jE ?_|refine jF ?_|refine jG ?_|refine jH ?_|refine jI ?_|refine jJ ?_|refine jK ?_|refine jL ?_|refine jM (by assumption) ?_|refine jN (by assumption) rfl ?_|refine jO (by assumption) ?_|refine jP (by assumption) rfl ?_|refine jQ ?_|refine jR ?_|refine jS ?_|refine jT ?_|refine jU (by assumption) rfl ?_))
  refine (h.keepN k1).svs ?_
  refine M.new_i (l := zSy) (fun w2 b2 k2 s2 => ?_)
  have b1 := b1.keep k2 (fun h => h)
  have k02 := k1.trans k2 (fun _ _ h => h)
  obtain ⟨o1, o2, o3, o4⟩ := h.one4 hsv
  have h8 := h.sy.1
  have hplt := h.blk.lt
  obtain ⟨regs, cells, pc, steps, calls, en, code, value, ⟨disk, pend, ep⟩, conds⟩ := s
  obtain ⟨r0, r1, r2, r3, r4, r5, r6, r7, rfl⟩ := eight h8
  have hsv : sv = [vi r0, vi r1, vi r2, vi r3, vi r4, vi r5, vi r6, vi r7, c, vi pc, vi steps, vi calls, vi en, vi code, vi value, a, b, vi ep, d] := hsv
  have one := fun (s' : Sy) => vals_one (s := s') o1 o2 o3 o4
  subst hsv
  refine M.storeAll_i b2 rfl rfl (one ⟨[r0, r1, r2, r3, r4, r5, r6, r7], cells, pc, steps, calls, en, code, value, ⟨disk, pend, ep⟩, conds⟩) (fun w3 b3 k3 s3 => ?_)
  have hne : w.heap.size ≠ w1.heap.size := by omega
  have b1 := b1.keep k3 hne
  have k03 : Keep w w3 No := k02.trans k3 (fun x hx e => by have e : x = w1.heap.size := e; omega)
  (repeat (first|refine ja ?_|refine jb ?_|refine jc ?_|refine jd ?_|refine je ?_|refine jf ?_|refine jg ?_|refine jh ?_|refine ji ?_|refine jj ?_|refine jk ?_|refine jl ?_|refine jm ?_|refine jn ?_|refine jo ?_|refine jp ?_|refine jq ?_|refine jr ?_|refine js ?_|refine jt ?_|refine ju ?_|refine jv ?_|refine jw ?_|refine jx ?_|refine jy ?_|refine jz ?_|refine jA ?_|refine jB ?_|refine jC ?_|refine jD ?_|refine jE ?_|refine jF ?_|refine jG ?_|refine jH ?_|refine jI ?_|refine jJ ?_|refine jK ?_|refine jL ?_|refine jM (by assumption) ?_|refine jN (by assumption) rfl ?_|refine jO (by assumption) ?_|refine jP (by assumption) rfl ?_|refine jQ ?_|refine jR ?_|refine jS ?_|refine jT ?_|refine jU (by assumption) rfl ?_))
  refine M.store_i b3 (by simp) rfl (fun w4 b4 k4 s4 => ?_)
  have b1 := b1.keep k4 hne
  have k04 : Keep w w4 No := k03.trans k4 (fun x hx e => by have e : x = w1.heap.size := e; omega)
  (repeat (first|refine ja ?_|refine jb ?_|refine jc ?_|refine jd ?_|refine je ?_|refine jf ?_|refine jg ?_|refine jh ?_|refine ji ?_|refine jj ?_|refine jk ?_|refine jl ?_|refine jm ?_|refine jn ?_|refine jo ?_|refine jp ?_|refine jq ?_|refine jr ?_|refine js ?_|refine jt ?_|refine ju ?_|refine jv ?_|refine jw ?_|refine jx ?_|refine jy ?_|refine jz ?_|refine jA ?_|refine jB ?_|refine jC ?_|refine jD ?_|refine jE ?_|refine jF ?_|refine jG ?_|refine jH ?_|refine jI ?_|refine jJ ?_|refine jK ?_|refine jL ?_|refine jM (by assumption) ?_|refine jN (by assumption) rfl ?_|refine jO (by assumption) ?_|refine jP (by assumption) rfl ?_|refine jQ ?_|refine jR ?_|refine jS ?_|refine jT ?_|refine jU (by assumption) rfl ?_))
  refine M.store_i b4 (by simp) rfl (fun w5 b5 k5 s5 => ?_)
  have b1 := b1.keep k5 hne
  have k05 : Keep w w5 No := k04.trans k5 (fun x hx e => by have e : x = w1.heap.size := e; omega)
  refine M.loadAll_i b5 rfl ?_
  exact fin_v b1 rfl rfl (one (Sy.trap ⟨[r0, r1, r2, r3, r4, r5, r6, r7], cells, pc, steps, calls, en, code, value, ⟨disk, pend, ep⟩, conds⟩ cd)) (fun w9 k9 => ⟨rfl, k05.trans k9 (fun x hx e => by have e : x = w.heap.size := e; omega)⟩)
theorem at37_ret (h : Stp w F p pb N most s sv i inputs mw ov outs e) (hsv : sv = s.vals c a b d) (hI : i.imm.toNat < 9223372036854775808) :
    Ret Try.prog 31 #[ptr pb] w (fun r w' => r = .agg ⟨(s.at i).vals c a b d⟩ ∧ Keep w w' No) := by
  refine ok31 _ _ _ ?_
  unfold sh31
  refine M.new_i (l := zSy) (fun w1 b1 k1 s1 => ?_)
  (repeat (first|refine ja ?_|refine jb ?_|refine jc ?_|refine jd ?_|refine je ?_|refine jf ?_|refine jg ?_|refine jh ?_|refine ji ?_|refine jj ?_|refine jk ?_|refine jl ?_|refine jm ?_|refine jn ?_|refine jo ?_|refine jp ?_|refine jq ?_|refine jr ?_|refine js ?_|refine jt ?_|refine ju ?_|refine jv ?_|refine jw ?_|refine jx ?_|refine jy ?_|refine jz ?_|refine jA ?_|refine jB ?_|refine jC ?_|refine jD ?_|refine jE ?_|refine jF ?_|refine jG ?_|refine jH ?_|refine jI ?_|refine jJ ?_|refine jK ?_|refine jL ?_|refine jM (by assumption) ?_|refine jN (by assumption) rfl ?_|refine jO (by assumption) ?_|refine jP (by assumption) rfl ?_|refine jQ ?_|refine jR ?_|refine jS ?_|refine jT ?_|refine jU (by assumption) rfl ?_))
  refine (h.keepN k1).svs ?_
  refine M.new_i (l := zSy) (fun w2 b2 k2 s2 => ?_)
  have b1 := b1.keep k2 (fun h => h)
  have k02 := k1.trans k2 (fun _ _ h => h)
  obtain ⟨o1, o2, o3, o4⟩ := h.one4 hsv
  have h8 := h.sy.1
  have hplt := h.blk.lt
  obtain ⟨regs, cells, pc, steps, calls, en, code, value, ⟨disk, pend, ep⟩, conds⟩ := s
  obtain ⟨r0, r1, r2, r3, r4, r5, r6, r7, rfl⟩ := eight h8
  have hsv : sv = [vi r0, vi r1, vi r2, vi r3, vi r4, vi r5, vi r6, vi r7, c, vi pc, vi steps, vi calls, vi en, vi code, vi value, a, b, vi ep, d] := hsv
  have one := fun (s' : Sy) => vals_one (s := s') o1 o2 o3 o4
  subst hsv
  refine M.storeAll_i b2 rfl rfl (one ⟨[r0, r1, r2, r3, r4, r5, r6, r7], cells, pc, steps, calls, en, code, value, ⟨disk, pend, ep⟩, conds⟩) (fun w3 b3 k3 s3 => ?_)
  have hne : w.heap.size ≠ w1.heap.size := by omega
  have b1 := b1.keep k3 hne
  have k03 : Keep w w3 No := k02.trans k3 (fun x hx e => by have e : x = w1.heap.size := e; omega)
  have hcI := (h.keepN k03).cI
  (repeat (first|refine ja ?_|refine jb ?_|refine jc ?_|refine jd ?_|refine je ?_|refine jf ?_|refine jg ?_|refine jh ?_|refine ji ?_|refine jj ?_|refine jk ?_|refine jl ?_|refine jm ?_|refine jn ?_|refine jo ?_|refine jp ?_|refine jq ?_|refine jr ?_|refine js ?_|refine jt ?_|refine ju ?_|refine jv ?_|refine jw ?_|refine jx ?_|refine jy ?_|refine jz ?_|refine jA ?_|refine jB ?_|refine jC ?_|refine jD ?_|refine jE ?_|refine jF ?_|refine jG ?_|refine jH ?_|refine jI ?_|refine jJ ?_|refine jK ?_|refine jL ?_|refine jM (by assumption) ?_|refine jN (by assumption) rfl ?_|refine jO (by assumption) ?_|refine jP (by assumption) rfl ?_|refine jQ ?_|refine jR ?_|refine jS ?_|refine jT ?_|refine jU (by assumption) rfl ?_))
  refine M.toIntW_i ?_
  have eI : i.imm.toInt = (i.imm.toNat : Int) := by rw [BitVec.toInt_eq_toNat_cond]; rw [if_pos (by omega)]
  rw [eI]
  (repeat (first|refine ja ?_|refine jb ?_|refine jc ?_|refine jd ?_|refine je ?_|refine jf ?_|refine jg ?_|refine jh ?_|refine ji ?_|refine jj ?_|refine jk ?_|refine jl ?_|refine jm ?_|refine jn ?_|refine jo ?_|refine jp ?_|refine jq ?_|refine jr ?_|refine js ?_|refine jt ?_|refine ju ?_|refine jv ?_|refine jw ?_|refine jx ?_|refine jy ?_|refine jz ?_|refine jA ?_|refine jB ?_|refine jC ?_|refine jD ?_|refine jE ?_|refine jF ?_|refine jG ?_|refine jH ?_|refine jI ?_|refine jJ ?_|refine jK ?_|refine jL ?_|refine jM (by assumption) ?_|refine jN (by assumption) rfl ?_|refine jO (by assumption) ?_|refine jP (by assumption) rfl ?_|refine jQ ?_|refine jR ?_|refine jS ?_|refine jT ?_|refine jU (by assumption) rfl ?_))
  refine M.store_i b3 (by simp) rfl (fun w4 b4 k4 s4 => ?_)
  have b1 := b1.keep k4 hne
  have k04 : Keep w w4 No := k03.trans k4 (fun x hx e => by have e : x = w1.heap.size := e; omega)
  refine M.loadAll_i b4 rfl ?_
  exact fin_v b1 rfl rfl (one (Sy.at ⟨[r0, r1, r2, r3, r4, r5, r6, r7], cells, pc, steps, calls, en, code, value, ⟨disk, pend, ep⟩, conds⟩ i)) (fun w9 k9 => ⟨rfl, k04.trans k9 (fun x hx e => by have e : x = w.heap.size := e; omega)⟩)
theorem vals_set (h8 : s.regs.length = 8) {k : Nat} (hk : k < 8) (x : Int) : (s.vals c a b d).set k (vi x) = ({ s with regs := s.regs.set k x } : Sy).vals c a b d := by
  unfold Sy.vals
  rw [List.set_append_left _ _ (by simp; omega), ← List.map_set]
theorem vals_len (h8 : s.regs.length = 8) : (s.vals c a b d).length = 19 := by simp [Sy.vals, h8]
theorem set37_ret (h : Stp w F p pb N most s sv i inputs mw ov outs e) (hsv : sv = s.vals c a b d) (hb : 0 ≤ s.pc ∧ s.pc ≤ 1000000) (hA : 0 ≤ i.a ∧ i.a ≤ 7) (id : Int) :
    Ret Try.prog 26 #[ptr pb, vi id] w (fun r w' => r = .agg ⟨(s.set i id).vals c a b d⟩ ∧ Keep w w' No) := by
  obtain ⟨o1, o2, o3, o4⟩ := h.one4 hsv
  have h8 : s.next.regs.length = 8 := h.sy.1
  refine ok26 _ _ _ _ ?_
  unfold sh26
  refine M.new_i (l := zSy) (fun w1 b1 k1 s1 => ?_)
  have h1 := h.keepN k1
  refine M.call_i (next37_ret h1 hsv hb) ?_; rintro v w2 ⟨rfl, k2⟩
  have b1 := b1.keep k2 (fun h => h)
  have q2 := k2.size
  refine M.new_i (l := zSy) (fun w3 b3 k3 s3 => ?_)
  have b1 := b1.keep k3 (fun h => h)
  have k03 := (k1.trans k2 (fun _ _ h => h)).trans k3 (fun _ _ h => h)
  refine M.storeAll_i b3 (vals_len h8) rfl (vals_one o1 o2 o3 o4) (fun w4 b4 k4 s4 => ?_)
  have hne : w.heap.size ≠ w2.heap.size := by omega
  have b1 := b1.keep k4 hne
  have k04 : Keep w w4 No := k03.trans k4 (fun x hx e => by have e : x = w2.heap.size := e; omega)
  have hcA := (h.keepN k04).cA
  (repeat (first|refine ja ?_|refine jb ?_|refine jc ?_|refine jd ?_|refine je ?_|refine jf ?_|refine jg ?_|refine jh ?_|refine ji ?_|refine jj ?_|refine jk ?_|refine jl ?_|refine jm ?_|refine jn ?_|refine jo ?_|refine jp ?_|refine jq ?_|refine jr ?_|refine js ?_|refine jt ?_|refine ju ?_|refine jv ?_|refine jw ?_|refine jx ?_|refine jy ?_|refine jz ?_|refine jA ?_|refine jB ?_|refine jC ?_|refine jD ?_|refine jE ?_|refine jF ?_|refine jG ?_|refine jH ?_|refine jI ?_|refine jJ ?_|refine jK ?_|refine jL ?_|refine jM (by assumption) ?_|refine jN (by assumption) rfl ?_|refine jO (by assumption) ?_|refine jP (by assumption) rfl ?_|refine jQ ?_|refine jR ?_|refine jS ?_|refine jT ?_|refine jU (by assumption) rfl ?_))
  refine M.arr8_i hA.1 (by omega) ?_
  rw [Nat.zero_add]
  refine M.store_i b4 (by rw [vals_len h8]; omega) rfl (fun w5 b5 k5 s5 => ?_)
  have b1 := b1.keep k5 hne
  have k05 : Keep w w5 No := k04.trans k5 (fun x hx e => by have e : x = w2.heap.size := e; omega)
  rw [vals_set h8 (by omega)] at b5
  have h8' : (s.set i id).regs.length = 8 := by unfold Sy.set; simp; exact h8
  refine M.loadAll_i b5 (vals_len h8') ?_
  exact fin_v b1 rfl (vals_len h8') (vals_one o1 o2 o3 o4) (fun w9 k9 => ⟨rfl, k05.trans k9 (fun x hx e => by have e : x = w.heap.size := e; omega)⟩)
theorem call37_ret {a' b' : Value} {v : SDv} {D : Nat → Prop} (h : Stp w F p pb N most s sv i inputs mw ov outs e) (hsv : sv = s.vals c a b d) (hb : 0 ≤ s.pc ∧ s.pc ≤ 1000000) (hcl : 0 ≤ s.calls ∧ s.calls ≤ 1000000) (hv : SDvO w D a' b' v) :
    Ret Try.prog 63 #[ptr pb, .agg ⟨[a', b', vi v.ep]⟩] w (fun r w' => r = .agg ⟨(s.call v).vals c a' b' d⟩ ∧ Keep w w' No) := by
  obtain ⟨o1, o2, o3, o4⟩ := h.one4 hsv
  have p2 : a'.oneCell' = true := LV.one hv.1
  have p3 : b'.oneCell' = true := LN.one hv.2
  have h8 := h.sy.1
  refine ok63 _ _ _ _ ?_
  unfold sh63
  refine M.new_i (l := [a', b', vi v.ep]) (fun w0 b0 k0 s0 => ?_)
  refine M.new_i (l := zSy) (fun w1 b1 k1 s1 => ?_)
  have b0 := b0.keep k1 (fun h => h)
  have h1 := (h.keepN k0).keepN k1
  refine M.call_i (next37_ret h1 hsv hb) ?_; rintro v0 w2 ⟨rfl, k2⟩
  have b0 := b0.keep k2 (fun h => h)
  have b1 := b1.keep k2 (fun h => h)
  have q2 := k2.size
  refine M.new_i (l := zSy) (fun w3 b3 k3 s3 => ?_)
  have b0 := b0.keep k3 (fun h => h)
  have b1 := b1.keep k3 (fun h => h)
  have k03 := ((k0.trans k1 (fun _ _ h => h)).trans k2 (fun _ _ h => h)).trans k3 (fun _ _ h => h)
  obtain ⟨regs, cells, pc, steps, calls, en, code, value, ⟨disk, pend, ep⟩, conds⟩ := s
  obtain ⟨r0, r1, r2, r3, r4, r5, r6, r7, rfl⟩ := eight h8
  have hcl : 0 ≤ calls ∧ calls ≤ 1000000 := hcl
  refine M.storeAll_i b3 rfl rfl (vals_one o1 o2 o3 o4) (fun w4 b4 k4 s4 => ?_)
  have hne : w0.heap.size ≠ w2.heap.size := by omega
  have hne0 : w.heap.size ≠ w2.heap.size := by omega
  have b0 := b0.keep k4 hne0
  have b1 := b1.keep k4 hne
  have k04 : Keep w w4 No := k03.trans k4 (fun x hx e => by have e : x = w2.heap.size := e; omega)
  have b4 : Blk w4 w2.heap.size [vi r0, vi r1, vi r2, vi r3, vi r4, vi r5, vi r6, vi r7, c, vi (pc + 1), vi steps, vi calls, vi en, vi code, vi value, a, b, vi ep, d] := b4
  refine M.loadAll_i b0 rfl ?_
  (repeat (first|refine ja ?_|refine jb ?_|refine jc ?_|refine jd ?_|refine je ?_|refine jf ?_|refine jg ?_|refine jh ?_|refine ji ?_|refine jj ?_|refine jk ?_|refine jl ?_|refine jm ?_|refine jn ?_|refine jo ?_|refine jp ?_|refine jq ?_|refine jr ?_|refine js ?_|refine jt ?_|refine ju ?_|refine jv ?_|refine jw ?_|refine jx ?_|refine jy ?_|refine jz ?_|refine jA ?_|refine jB ?_|refine jC ?_|refine jD ?_|refine jE ?_|refine jF ?_|refine jG ?_|refine jH ?_|refine jI ?_|refine jJ ?_|refine jK ?_|refine jL ?_|refine jM (by assumption) ?_|refine jN (by assumption) rfl ?_|refine jO (by assumption) ?_|refine jP (by assumption) rfl ?_|refine jQ ?_|refine jR ?_|refine jS ?_|refine jT ?_|refine jU (by assumption) rfl ?_))
  refine M.storePart_i b4 rfl (by simp) (by
    simp only [List.mem_cons, List.not_mem_nil, or_false, forall_eq_or_imp, forall_eq]
    exact ⟨p2, p3, rfl⟩) (fun w5 b5 k5 s5 => ?_)
  have b5 : Blk w5 w2.heap.size [vi r0, vi r1, vi r2, vi r3, vi r4, vi r5, vi r6, vi r7, c, vi (pc + 1), vi steps, vi calls, vi en, vi code, vi value, a', b', vi v.ep, d] := b5
  have b1 := b1.keep k5 hne
  have k05 : Keep w w5 No := k04.trans k5 (fun x hx e => by have e : x = w2.heap.size := e; omega)
  (repeat (first|refine ja ?_|refine jb ?_|refine jc ?_|refine jd ?_|refine je ?_|refine jf ?_|refine jg ?_|refine jh ?_|refine ji ?_|refine jj ?_|refine jk ?_|refine jl ?_|refine jm ?_|refine jn ?_|refine jo ?_|refine jp ?_|refine jq ?_|refine jr ?_|refine js ?_|refine jt ?_|refine ju ?_|refine jv ?_|refine jw ?_|refine jx ?_|refine jy ?_|refine jz ?_|refine jA ?_|refine jB ?_|refine jC ?_|refine jD ?_|refine jE ?_|refine jF ?_|refine jG ?_|refine jH ?_|refine jI ?_|refine jJ ?_|refine jK ?_|refine jL ?_|refine jM (by assumption) ?_|refine jN (by assumption) rfl ?_|refine jO (by assumption) ?_|refine jP (by assumption) rfl ?_|refine jQ ?_|refine jR ?_|refine jS ?_|refine jT ?_|refine jU (by assumption) rfl ?_))
  refine M.store_i b5 (by simp) rfl (fun w6 b6 k6 s6 => ?_)
  have b1 := b1.keep k6 hne
  have k06 : Keep w w6 No := k05.trans k6 (fun x hx e => by have e : x = w2.heap.size := e; omega)
  refine M.loadAll_i b6 rfl ?_
  exact fin_v b1 rfl rfl (vals_one (s := Sy.call ⟨[r0, r1, r2, r3, r4, r5, r6, r7], cells, pc, steps, calls, en, code, value, ⟨disk, pend, ep⟩, conds⟩ v) o1 p2 p3 o4) (fun w9 k9 => ⟨rfl, k06.trans k9 (fun x hx e => by have e : x = w0.heap.size := e; omega)⟩)
end
end Go.Proofs.Ytanjlgafjgoaaaa
