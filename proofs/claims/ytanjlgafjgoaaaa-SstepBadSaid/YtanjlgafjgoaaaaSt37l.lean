import Derived.Test.YtanjlgafjgoaaaaSt37k
namespace Go.Proofs.Ytanjlgafjgoaaaa
open Go.Mw
set_option linter.unusedVariables false
set_option linter.unusedSimpArgs false
set_option maxRecDepth 100000
attribute [local irreducible] M.val M.unit M.next M.pick M.new M.nilCheck M.load1 M.loadA M.store M.fieldAddr M.indexSl M.indexArr M.slice M.makeSlice M.buildSlice M.len M.lenS M.cap M.append M.extract M.conv M.not M.neg M.bin M.shift M.eqB M.eqNil M.scat M.call M.callv M.gd M.share M.cond M.loop M.draw pureW readW Ret
section
variable {w : World} {F : Nat → Prop} {p : Nat} {N : List Nd} {most : Int} {s : Sy} {D : Nat → Prop}
def OutS (w : World) (D : Nat → Prop) (v : Value) (outs : List Sy) : Prop :=
  ∃ A cap, ∃ cs : List (List Value), v = .slice A outs.length cap ∧ Row w D A cs.flatten ∧ cs.length = outs.length ∧ outs.length ≤ cap ∧ ∀ (k : Nat) u t, cs[k]? = some u → outs[k]? = some t → SyO w D (.agg ⟨u⟩) t
theorem OutS.nil (w : World) (D : Nat → Prop) : OutS w D (.slice none 0 0) [] := ⟨none, 0, [], rfl, .inl rfl, rfl, Nat.le_refl _, fun k u t h => by simp at h⟩
def StepP (w : World) (F : Nat → Prop) (p : Nat) (most : Int) (R : Rp) (r : Value) (w' : World) : Prop :=
  ∃ F' v, r = .tuple #[v, vi R.2.1] ∧ DagO w' F' p R.1 most ∧ (∀ x, x < w.heap.size → F' x → F x) ∧ Keep w w' F ∧ OutS w' (fun x => ¬ F' x) v R.2.2
theorem Ins.cells_len (i : Ins) : i.cells.length = 5 := rfl
set_option maxHeartbeats 4000000 in
theorem Step37_ret {D1 : Nat → Prop} {code : List Ins} {cv v : Value} {inputs mw : Int} (hd : DagO w F p N most) (hcode : LN Ins.cells w D1 cv code) (hcl : code.length ≤ 1000000) (hs : SyO w D v s) (hD : ∀ x, D x → ¬ F x) (hB : Bnd s) (hst : 0 ≤ s.steps ∧ s.steps ≤ 1000000) (hin : inputs ≤ 1000000) :
    Ret Try.prog 10 #[ptr p, cv, v, vi inputs, vi mw] w (StepP w F p most (stepN most N code s inputs mw)) := by
  have hcode := hcode.mono (D' := fun x => x < w.heap.size) (fun x hx _ => hx)
  obtain ⟨C, cC, rfl, hrC, hcC⟩ := hcode
  have hs0 := hs.mono (D' := fun x => ¬ F x ∧ x < w.heap.size) (fun x hx hf => ⟨hD x hf, hx⟩)
  obtain ⟨h8, c, a, b, d, rfl, hc, hdv, hcd⟩ := id hs0
  obtain ⟨regs, cells, pc, steps, calls, en, cde, value, dev, conds⟩ := s
  obtain ⟨r0, r1, r2, r3, r4, r5, r6, r7, rfl⟩ := eight h8
  have hst : 0 ≤ steps ∧ steps ≤ 1000000 := hst
  have o1 := LV.one hc
  have o2 := LV.one hdv.1
  have o3 := LN.one hdv.2
  have o4 := LV.one hcd
  have hs0 : SyO w (fun x => ¬ F x ∧ x < w.heap.size) (.agg ⟨[vi r0, vi r1, vi r2, vi r3, vi r4, vi r5, vi r6, vi r7, c, vi pc, vi steps, vi calls, vi en, vi cde, vi value, a, b, vi dev.ep, d]⟩) ⟨[r0, r1, r2, r3, r4, r5, r6, r7], cells, pc, steps, calls, en, cde, value, dev, conds⟩ := hs0
  refine ok10 _ _ _ _ _ _ _ ?_
  unfold sh10
  refine M.new_i (l := [vi r0, vi r1, vi r2, vi r3, vi r4, vi r5, vi r6, vi r7, c, vi pc, vi steps, vi calls, vi en, vi cde, vi value, a, b, vi dev.ep, d]) (fun w1 b1 k1 s1 => ?_)
  have hlow : ∀ {w' : World}, Keep w w' No → ∀ x, x < w.heap.size → F x → F x := fun _ _ _ h => h
  by_cases hen : en = 0
  case neg =>
    have e : stepN most N code ⟨[r0, r1, r2, r3, r4, r5, r6, r7], cells, pc, steps, calls, en, cde, value, dev, conds⟩ inputs mw = (N, 0, []) := by unfold stepN; rw [if_pos hen]
    rw [e]
    (repeat (first|refine ja ?_|refine jb ?_|refine jc ?_|refine jd ?_|refine je ?_|refine jf ?_|refine jg ?_|refine jh ?_|refine ji ?_|refine jj ?_|refine jk ?_|refine jl ?_|refine jm ?_|refine jn ?_|refine jo ?_|refine jp ?_|refine jq ?_|refine jr ?_|refine js ?_|refine jt ?_|refine ju ?_|refine jv ?_|refine jw ?_|refine jx ?_|refine jy ?_|refine jz ?_|refine jA ?_|refine jB ?_|refine jC ?_|refine jD ?_|refine jE ?_|refine jF ?_|refine jG ?_|refine jH ?_|refine jI ?_|refine jJ ?_|refine jK ?_|refine jL ?_|refine jM (by assumption) ?_|refine jN (by assumption) rfl ?_|refine jO (by assumption) ?_|refine jP (by assumption) rfl ?_|refine jQ ?_|refine jR ?_|refine jS ?_|refine jT ?_|refine jU (by assumption) rfl ?_))
    exact ⟨F, _, rfl, hd.keepN k1, fun _ _ h => h, k1.mono (fun _ _ h => h.elim), OutS.nil _ _⟩
  (repeat (first|refine ja ?_|refine jb ?_|refine jc ?_|refine jd ?_|refine je ?_|refine jf ?_|refine jg ?_|refine jh ?_|refine ji ?_|refine jj ?_|refine jk ?_|refine jl ?_|refine jm ?_|refine jn ?_|refine jo ?_|refine jp ?_|refine jq ?_|refine jr ?_|refine js ?_|refine jt ?_|refine ju ?_|refine jv ?_|refine jw ?_|refine jx ?_|refine jy ?_|refine jz ?_|refine jA ?_|refine jB ?_|refine jC ?_|refine jD ?_|refine jE ?_|refine jF ?_|refine jG ?_|refine jH ?_|refine jI ?_|refine jJ ?_|refine jK ?_|refine jL ?_|refine jM (by assumption) ?_|refine jN (by assumption) rfl ?_|refine jO (by assumption) ?_|refine jP (by assumption) rfl ?_|refine jQ ?_|refine jR ?_|refine jS ?_|refine jT ?_|refine jU (by assumption) rfl ?_))
  refine M.loadAll_i b1 rfl ?_
  refine M.call_i (fine37_ret (hd.keepN k1) (hs0.keep k1 (fun _ _ _ h => h)) hB) ?_; rintro _ w2 ⟨rfl, k2⟩
  have b2 := b1.keep k2 (fun h => h)
  have k02 := k1.trans k2 (fun _ _ h => h)
  refine M.not_i ?_
  cases hfn : fineN N ⟨[r0, r1, r2, r3, r4, r5, r6, r7], cells, pc, steps, calls, en, cde, value, dev, conds⟩ with
  | false =>
    have e : stepN most N code ⟨[r0, r1, r2, r3, r4, r5, r6, r7], cells, pc, steps, calls, en, cde, value, dev, conds⟩ inputs mw = (N, 11, []) := by unfold stepN; rw [if_neg (fun h => h hen), if_pos hfn]
    rw [e]
    (repeat (first|refine ja ?_|refine jb ?_|refine jc ?_|refine jd ?_|refine je ?_|refine jf ?_|refine jg ?_|refine jh ?_|refine ji ?_|refine jj ?_|refine jk ?_|refine jl ?_|refine jm ?_|refine jn ?_|refine jo ?_|refine jp ?_|refine jq ?_|refine jr ?_|refine js ?_|refine jt ?_|refine ju ?_|refine jv ?_|refine jw ?_|refine jx ?_|refine jy ?_|refine jz ?_|refine jA ?_|refine jB ?_|refine jC ?_|refine jD ?_|refine jE ?_|refine jF ?_|refine jG ?_|refine jH ?_|refine jI ?_|refine jJ ?_|refine jK ?_|refine jL ?_|refine jM (by assumption) ?_|refine jN (by assumption) rfl ?_|refine jO (by assumption) ?_|refine jP (by assumption) rfl ?_|refine jQ ?_|refine jR ?_|refine jS ?_|refine jT ?_|refine jU (by assumption) rfl ?_))
    exact ⟨F, _, rfl, hd.keepN k02, fun _ _ h => h, k02.mono (fun _ _ h => h.elim), OutS.nil _ _⟩
  | true =>
  have eN : stepN most N code ⟨[r0, r1, r2, r3, r4, r5, r6, r7], cells, pc, steps, calls, en, cde, value, dev, conds⟩ inputs mw = (match insAt code pc with
    | none => (N, 0, [(⟨[r0, r1, r2, r3, r4, r5, r6, r7], cells, pc, steps + 1, calls, en, cde, value, dev, conds⟩ : Sy).trap 256])
    | some i => if (stepI most N ⟨[r0, r1, r2, r3, r4, r5, r6, r7], cells, pc, steps + 1, calls, en, cde, value, dev, conds⟩ i inputs mw).2.1 = 0 then stepI most N ⟨[r0, r1, r2, r3, r4, r5, r6, r7], cells, pc, steps + 1, calls, en, cde, value, dev, conds⟩ i inputs mw else ((stepI most N ⟨[r0, r1, r2, r3, r4, r5, r6, r7], cells, pc, steps + 1, calls, en, cde, value, dev, conds⟩ i inputs mw).1, (stepI most N ⟨[r0, r1, r2, r3, r4, r5, r6, r7], cells, pc, steps + 1, calls, en, cde, value, dev, conds⟩ i inputs mw).2.1, [])) := by
    unfold stepN; rw [if_neg (fun h => h hen), if_neg (by rw [hfn]; decide)]
    cases insAt code pc <;> rfl
  (repeat (first|refine ja ?_|refine jb ?_|refine jc ?_|refine jd ?_|refine je ?_|refine jf ?_|refine jg ?_|refine jh ?_|refine ji ?_|refine jj ?_|refine jk ?_|refine jl ?_|refine jm ?_|refine jn ?_|refine jo ?_|refine jp ?_|refine jq ?_|refine jr ?_|refine js ?_|refine jt ?_|refine ju ?_|refine jv ?_|refine jw ?_|refine jx ?_|refine jy ?_|refine jz ?_|refine jA ?_|refine jB ?_|refine jC ?_|refine jD ?_|refine jE ?_|refine jF ?_|refine jG ?_|refine jH ?_|refine jI ?_|refine jJ ?_|refine jK ?_|refine jL ?_|refine jM (by assumption) ?_|refine jN (by assumption) rfl ?_|refine jO (by assumption) ?_|refine jP (by assumption) rfl ?_|refine jQ ?_|refine jR ?_|refine jS ?_|refine jT ?_|refine jU (by assumption) rfl ?_))
  refine M.loadAll_i b2 rfl ?_
  refine M.pure_i (.agg ⟨[ptr p, vi r0, vi r1, vi r2, vi r3, vi r4, vi r5, vi r6, vi r7, c, vi pc, vi steps, vi calls, vi en, vi cde, vi value, a, b, vi dev.ep, d, vi 0, vi 0, vi 0, vi 0, vw 0, vi inputs, vi mw, .slice none 0 0, vi 0]⟩) (fun _ => by kernel_rfl) ?_
  refine M.new_i (l := [ptr p, vi r0, vi r1, vi r2, vi r3, vi r4, vi r5, vi r6, vi r7, c, vi pc, vi steps, vi calls, vi en, vi cde, vi value, a, b, vi dev.ep, d, vi 0, vi 0, vi 0, vi 0, vw 0, vi inputs, vi mw, .slice none 0 0, vi 0]) (fun w3 b3 k3 s3 => ?_)
  have b3t := b2.keep k3 (fun h => h)
  have k03 := k02.trans k3 (fun _ _ h => h)
  have q2 := k02.size
  have hb2 := b2.lt
  (repeat (first|refine ja ?_|refine jb ?_|refine jc ?_|refine jd ?_|refine je ?_|refine jf ?_|refine jg ?_|refine jh ?_|refine ji ?_|refine jj ?_|refine jk ?_|refine jl ?_|refine jm ?_|refine jn ?_|refine jo ?_|refine jp ?_|refine jq ?_|refine jr ?_|refine js ?_|refine jt ?_|refine ju ?_|refine jv ?_|refine jw ?_|refine jx ?_|refine jy ?_|refine jz ?_|refine jA ?_|refine jB ?_|refine jC ?_|refine jD ?_|refine jE ?_|refine jF ?_|refine jG ?_|refine jH ?_|refine jI ?_|refine jJ ?_|refine jK ?_|refine jL ?_|refine jM (by assumption) ?_|refine jN (by assumption) rfl ?_|refine jO (by assumption) ?_|refine jP (by assumption) rfl ?_|refine jQ ?_|refine jR ?_|refine jS ?_|refine jT ?_|refine jU (by assumption) rfl ?_))
  refine M.store_i b3 (by simp) rfl (fun w4 b4 k4 s4 => ?_)
  have b4 : Blk w4 w2.heap.size (stpL p [vi r0, vi r1, vi r2, vi r3, vi r4, vi r5, vi r6, vi r7, c, vi pc, vi (steps + 1), vi calls, vi en, vi cde, vi value, a, b, vi dev.ep, d] ⟨0, 0, 0, 0, 0⟩ inputs mw (.slice none 0 0) 0) := b4
  have b4t := b3t.keep k4 (fun e => by have e : w.heap.size = w2.heap.size := e; omega)
  have k04 : Keep w w4 No := k03.trans k4 (fun x hx e => by have e : x = w2.heap.size := e; omega)
  have hfr : ∀ x, (¬ F x ∧ x < w.heap.size) → Fr F w2.heap.size (.slice none 0 0) x := fun x hx => ⟨hx.1, by omega, fun ⟨n, c', h⟩ => by simp at h⟩
  have hs4 : SyO w4 (Fr F w2.heap.size (.slice none 0 0)) (.agg ⟨[vi r0, vi r1, vi r2, vi r3, vi r4, vi r5, vi r6, vi r7, c, vi pc, vi (steps + 1), vi calls, vi en, vi cde, vi value, a, b, vi dev.ep, d]⟩) ⟨[r0, r1, r2, r3, r4, r5, r6, r7], cells, pc, steps + 1, calls, en, cde, value, dev, conds⟩ :=
    ⟨rfl, c, a, b, d, rfl, (hc.keep k04 (fun _ _ _ h => h)).mono (fun x _ h => hfr x h), (hdv.keep k04 (fun _ _ _ h => h)).mono (fun x _ h => hfr x h), (hcd.keep k04 (fun _ _ _ h => h)).mono (fun x _ h => hfr x h)⟩
  have hnF : ¬ F w2.heap.size := fun h => by have := hd.lt h; omega
  have hoo : ∀ w', OutO w' (Fr F w2.heap.size (.slice none 0 0)) (.slice none 0 0) [] := fun w' => ⟨[], GC.nil _ _ _, rfl, fun k v s h => by simp at h⟩
  have hon : ∀ x, blkOf (.slice none 0 0) x → ¬ F x ∧ x ≠ w2.heap.size := fun x ⟨n, c', h⟩ => by simp at h
  have st4 : Stp w4 F p w2.heap.size N most ⟨[r0, r1, r2, r3, r4, r5, r6, r7], cells, pc, steps + 1, calls, en, cde, value, dev, conds⟩ [vi r0, vi r1, vi r2, vi r3, vi r4, vi r5, vi r6, vi r7, c, vi pc, vi (steps + 1), vi calls, vi en, vi cde, vi value, a, b, vi dev.ep, d] ⟨0, 0, 0, 0, 0⟩ inputs mw (.slice none 0 0) [] 0 := ⟨hd.keepN k04, hnF, b4, hoo _, hon, hs4⟩
  have hB' : Bnd ⟨[r0, r1, r2, r3, r4, r5, r6, r7], cells, pc, steps + 1, calls, en, cde, value, dev, conds⟩ := ⟨hB.pc, hB.calls, hB.ep, hB.cells, hB.disk, hB.pend, hB.conds⟩
  generalize hpb : w2.heap.size = pb at *
  have bad : ∀ w5, Keep w4 w5 No → insAt code pc = none → ∀ R : Kt, (∀ r w', StepP w F p most (stepN most N code ⟨[r0, r1, r2, r3, r4, r5, r6, r7], cells, pc, steps, calls, en, cde, value, dev, conds⟩ inputs mw) r w' → R r w') → M.call Try.prog 17 #[ptr pb, (Value.int IntKind.i64 256)] (fun t57 w =>
      M.buildSlice 42 19 #[.int .i64 0, .int .i64 0, .int .i64 0, .int .i64 0, .int .i64 0, .int .i64 0, .int .i64 0, .int .i64 0, .slice none 0 0, .int .i64 0, .int .i64 0, .int .i64 0, .int .i64 0, .int .i64 0, .int .i64 0, .slice none 0 0, .slice none 0 0, .int .i64 0, .slice none 0 0] 1 [(0, t57)] (fun t58 w =>
      R (.tuple #[t58, (Value.int IntKind.i64 0)]) w) w) w5 := by
    intro w5 k5 hno R hR
    have st5 := st4.keepN k5
    refine M.call_i (trap37_ret (c := c) (a := a) (b := b) (d := d) st5 rfl 256) ?_; rintro _ w6 ⟨rfl, k6⟩
    have st6 := st5.keepN k6
    refine M.buildSlice_i ((Sy.trap ⟨[r0, r1, r2, r3, r4, r5, r6, r7], cells, pc, steps + 1, calls, en, cde, value, dev, conds⟩ 256).vals c a b d) (by kernel_rfl) (fun w7 b7 k7 s7 => ?_)
    have st7 := st6.keepN k7
    have k07 := ((k04.trans k5 (fun _ _ h => h)).trans k6 (fun _ _ h => h)).trans k7 (fun _ _ h => h)
    refine hR _ _ ?_
    rw [eN, hno]
    have q6 := ((k04.trans k5 (fun _ _ h => h)).trans k6 (fun _ _ h => h)).size
    have hnew : ¬ F w6.heap.size := fun h => by have := hd.lt h; omega
    refine ⟨F, _, rfl, st7.dag, fun _ _ h => h, k07.mono (fun _ _ h => h.elim), _, _, [(Sy.trap ⟨[r0, r1, r2, r3, r4, r5, r6, r7], cells, pc, steps + 1, calls, en, cde, value, dev, conds⟩ 256).vals c a b d], rfl, ?_, rfl, Nat.le_refl _, fun k u t g1 g2 => ?_⟩
    · simpa using (Row.of_blk' (D := fun x => ¬ F x) b7 hnew)
    · match k, g1, g2 with
      | 0, g1, g2 =>
        simp only [List.getElem?_cons_zero, Option.some.injEq] at g1 g2
        subst g1 g2
        exact (SyO.of_vals (t := Sy.trap ⟨[r0, r1, r2, r3, r4, r5, r6, r7], cells, pc, steps + 1, calls, en, cde, value, dev, conds⟩ 256) rfl (st7.lists rfl)).mono (fun x _ h => h.1)
      | k + 1, g1, _ => simp at g1
  have good : ∀ w5 i, Keep w4 w5 No → insAt code pc = some i → True := fun _ _ _ _ => trivial
  by_cases hp0 : pc < 0
  · have hno : insAt code pc = none := by unfold insAt; rw [if_neg (by omega)]
    (repeat (first|refine ja ?_|refine jb ?_|refine jc ?_|refine jd ?_|refine je ?_|refine jf ?_|refine jg ?_|refine jh ?_|refine ji ?_|refine jj ?_|refine jk ?_|refine jl ?_|refine jm ?_|refine jn ?_|refine jo ?_|refine jp ?_|refine jq ?_|refine jr ?_|refine js ?_|refine jt ?_|refine ju ?_|refine jv ?_|refine jw ?_|refine jx ?_|refine jy ?_|refine jz ?_|refine jA ?_|refine jB ?_|refine jC ?_|refine jD ?_|refine jE ?_|refine jF ?_|refine jG ?_|refine jH ?_|refine jI ?_|refine jJ ?_|refine jK ?_|refine jL ?_|refine jM (by assumption) ?_|refine jN (by assumption) rfl ?_|refine jO (by assumption) ?_|refine jP (by assumption) rfl ?_|refine jQ ?_|refine jR ?_|refine jS ?_|refine jT ?_|refine jU (by assumption) rfl ?_))
    exact bad w4 (Keep.refl _ _) hno _ (fun _ _ h => h)
  by_cases hpl : (code.length : Int) ≤ pc
  · have hno : insAt code pc = none := by unfold insAt; rw [if_neg (by omega)]
    (repeat (first|refine ja ?_|refine jb ?_|refine jc ?_|refine jd ?_|refine je ?_|refine jf ?_|refine jg ?_|refine jh ?_|refine ji ?_|refine jj ?_|refine jk ?_|refine jl ?_|refine jm ?_|refine jn ?_|refine jo ?_|refine jp ?_|refine jq ?_|refine jr ?_|refine js ?_|refine jt ?_|refine ju ?_|refine jv ?_|refine jw ?_|refine jx ?_|refine jy ?_|refine jz ?_|refine jA ?_|refine jB ?_|refine jC ?_|refine jD ?_|refine jE ?_|refine jF ?_|refine jG ?_|refine jH ?_|refine jI ?_|refine jJ ?_|refine jK ?_|refine jL ?_|refine jM (by assumption) ?_|refine jN (by assumption) rfl ?_|refine jO (by assumption) ?_|refine jP (by assumption) rfl ?_|refine jQ ?_|refine jR ?_|refine jS ?_|refine jT ?_|refine jU (by assumption) rfl ?_))
    exact bad w4 (Keep.refl _ _) hno _ (fun _ _ h => h)
  obtain ⟨i, hi⟩ : ∃ i, code[pc.toNat]? = some i := ⟨_, List.getElem?_eq_getElem (by omega)⟩
  have hins : insAt code pc = if okI i code.length then some i else none := by
    unfold insAt
    rw [if_pos (by omega), hi]
  have hrC4 := hrC.keep k04 (fun _ _ _ h => h)
  (repeat (first|refine ja ?_|refine jb ?_|refine jc ?_|refine jd ?_|refine je ?_|refine jf ?_|refine jg ?_|refine jh ?_|refine ji ?_|refine jj ?_|refine jk ?_|refine jl ?_|refine jm ?_|refine jn ?_|refine jo ?_|refine jp ?_|refine jq ?_|refine jr ?_|refine js ?_|refine jt ?_|refine ju ?_|refine jv ?_|refine jw ?_|refine jx ?_|refine jy ?_|refine jz ?_|refine jA ?_|refine jB ?_|refine jC ?_|refine jD ?_|refine jE ?_|refine jF ?_|refine jG ?_|refine jH ?_|refine jI ?_|refine jJ ?_|refine jK ?_|refine jL ?_|refine jM (by assumption) ?_|refine jN (by assumption) rfl ?_|refine jO (by assumption) ?_|refine jP (by assumption) rfl ?_|refine jQ ?_|refine jR ?_|refine jS ?_|refine jT ?_|refine jU (by assumption) rfl ?_))
  refine M.idxF_i Ins.cells_len (by omega) hrC4 rfl (by omega) (x := i) hi (fun bb oo hcc => ?_)
  have hld : ∀ w', Keep w4 w' No → ∀ (kt : Kt), kt (encI i) w' → M.loadA 5 (.pointer (some ⟨bb, oo, none⟩)) kt w' := by
    intro w' k' kt hkt
    have hr5 : rdL w' ⟨bb, oo, none⟩ 5 0 = some (i.cells.drop 0) := rdL_cells 5 0 (fun j hj => k'.cell (fun h => h) (hcc j _ (List.getElem?_eq_getElem hj))) rfl
    unfold M.loadA
    simp only [hr5]
    exact hkt
  (repeat (first|refine ja ?_|refine jb ?_|refine jc ?_|refine jd ?_|refine je ?_|refine jf ?_|refine jg ?_|refine jh ?_|refine ji ?_|refine jj ?_|refine jk ?_|refine jl ?_|refine jm ?_|refine jn ?_|refine jo ?_|refine jp ?_|refine jq ?_|refine jr ?_|refine js ?_|refine jt ?_|refine ju ?_|refine jv ?_|refine jw ?_|refine jx ?_|refine jy ?_|refine jz ?_|refine jA ?_|refine jB ?_|refine jC ?_|refine jD ?_|refine jE ?_|refine jF ?_|refine jG ?_|refine jH ?_|refine jI ?_|refine jJ ?_|refine jK ?_|refine jL ?_|refine jM (by assumption) ?_|refine jN (by assumption) rfl ?_|refine jO (by assumption) ?_|refine jP (by assumption) rfl ?_|refine jQ ?_|refine jR ?_|refine jS ?_|refine jT ?_|refine jU (by assumption) rfl ?_))
  refine hld w4 (Keep.refl _ _) _ ?_
  (repeat (first|refine ja ?_|refine jb ?_|refine jc ?_|refine jd ?_|refine je ?_|refine jf ?_|refine jg ?_|refine jh ?_|refine ji ?_|refine jj ?_|refine jk ?_|refine jl ?_|refine jm ?_|refine jn ?_|refine jo ?_|refine jp ?_|refine jq ?_|refine jr ?_|refine js ?_|refine jt ?_|refine ju ?_|refine jv ?_|refine jw ?_|refine jx ?_|refine jy ?_|refine jz ?_|refine jA ?_|refine jB ?_|refine jC ?_|refine jD ?_|refine jE ?_|refine jF ?_|refine jG ?_|refine jH ?_|refine jI ?_|refine jJ ?_|refine jK ?_|refine jL ?_|refine jM (by assumption) ?_|refine jN (by assumption) rfl ?_|refine jO (by assumption) ?_|refine jP (by assumption) rfl ?_|refine jQ ?_|refine jR ?_|refine jS ?_|refine jT ?_|refine jU (by assumption) rfl ?_))
  refine M.call_i (icheck_ret i hcl w4) ?_
  rintro _ w5 ⟨e, rfl, he, k5⟩
  have st5 := st4.keepN k5
  have b5t := b4t.keep k5 (fun h => h)
  by_cases hok : okI i code.length = true
  case neg =>
    have hno : insAt code pc = none := by rw [hins, if_neg hok]
    have he0 : ¬ e = 0 := fun h => hok (he.1 h)
    (repeat (first|refine ja ?_|refine jb ?_|refine jc ?_|refine jd ?_|refine je ?_|refine jf ?_|refine jg ?_|refine jh ?_|refine ji ?_|refine jj ?_|refine jk ?_|refine jl ?_|refine jm ?_|refine jn ?_|refine jo ?_|refine jp ?_|refine jq ?_|refine jr ?_|refine js ?_|refine jt ?_|refine ju ?_|refine jv ?_|refine jw ?_|refine jx ?_|refine jy ?_|refine jz ?_|refine jA ?_|refine jB ?_|refine jC ?_|refine jD ?_|refine jE ?_|refine jF ?_|refine jG ?_|refine jH ?_|refine jI ?_|refine jJ ?_|refine jK ?_|refine jL ?_|refine jM (by assumption) ?_|refine jN (by assumption) rfl ?_|refine jO (by assumption) ?_|refine jP (by assumption) rfl ?_|refine jQ ?_|refine jR ?_|refine jS ?_|refine jT ?_|refine jU (by assumption) rfl ?_))
    exact bad w5 k5 hno _ (fun _ _ h => h)
  have hsome : insAt code pc = some i := by rw [hins, if_pos hok]
  have he0 : e = 0 := he.2 hok
  have k05 := k04.trans k5 (fun _ _ h => h)
  have hrC5 := hrC.keep k05 (fun _ _ _ h => h)
  (repeat (first|refine ja ?_|refine jb ?_|refine jc ?_|refine jd ?_|refine je ?_|refine jf ?_|refine jg ?_|refine jh ?_|refine ji ?_|refine jj ?_|refine jk ?_|refine jl ?_|refine jm ?_|refine jn ?_|refine jo ?_|refine jp ?_|refine jq ?_|refine jr ?_|refine js ?_|refine jt ?_|refine ju ?_|refine jv ?_|refine jw ?_|refine jx ?_|refine jy ?_|refine jz ?_|refine jA ?_|refine jB ?_|refine jC ?_|refine jD ?_|refine jE ?_|refine jF ?_|refine jG ?_|refine jH ?_|refine jI ?_|refine jJ ?_|refine jK ?_|refine jL ?_|refine jM (by assumption) ?_|refine jN (by assumption) rfl ?_|refine jO (by assumption) ?_|refine jP (by assumption) rfl ?_|refine jQ ?_|refine jR ?_|refine jS ?_|refine jT ?_|refine jU (by assumption) rfl ?_))
  refine M.idxF_i Ins.cells_len (by omega) hrC5 rfl (by omega) (x := i) hi (fun bb2 oo2 hcc2 => ?_)
  have hr5 : rdL w5 ⟨bb2, oo2, none⟩ 5 0 = some (i.cells.drop 0) := rdL_cells 5 0 (fun j hj => hcc2 j _ (List.getElem?_eq_getElem hj)) rfl
  have hld2 : ∀ (kt : Kt), kt (encI i) w5 → M.loadA 5 (.pointer (some ⟨bb2, oo2, none⟩)) kt w5 := fun kt hkt => by
    unfold M.loadA
    simp only [hr5]
    exact hkt
  refine hld2 _ ?_
  (repeat (first|refine ja ?_|refine jb ?_|refine jc ?_|refine jd ?_|refine je ?_|refine jf ?_|refine jg ?_|refine jh ?_|refine ji ?_|refine jj ?_|refine jk ?_|refine jl ?_|refine jm ?_|refine jn ?_|refine jo ?_|refine jp ?_|refine jq ?_|refine jr ?_|refine js ?_|refine jt ?_|refine ju ?_|refine jv ?_|refine jw ?_|refine jx ?_|refine jy ?_|refine jz ?_|refine jA ?_|refine jB ?_|refine jC ?_|refine jD ?_|refine jE ?_|refine jF ?_|refine jG ?_|refine jH ?_|refine jI ?_|refine jJ ?_|refine jK ?_|refine jL ?_|refine jM (by assumption) ?_|refine jN (by assumption) rfl ?_|refine jO (by assumption) ?_|refine jP (by assumption) rfl ?_|refine jQ ?_|refine jR ?_|refine jS ?_|refine jT ?_|refine jU (by assumption) rfl ?_))
  refine M.storePart_i st5.blk rfl (by rw [stpL_len rfl]; omega) (by
    simp only [Ins.cells, List.mem_cons, List.not_mem_nil, or_false, forall_eq_or_imp, forall_eq]
    exact ⟨rfl, rfl, rfl, rfl, rfl⟩) (fun w6 b6 k6 s6 => ?_)
  have b6 : Blk w6 pb (stpL p [vi r0, vi r1, vi r2, vi r3, vi r4, vi r5, vi r6, vi r7, c, vi pc, vi (steps + 1), vi calls, vi en, vi cde, vi value, a, b, vi dev.ep, d] i inputs mw (.slice none 0 0) 0) := b6
  have k06 : Keep w w6 No := k05.trans k6 (fun x hx e => by have e : x = pb := e; omega)
  have hs6 : SyO w6 (Fr F pb (.slice none 0 0)) (.agg ⟨[vi r0, vi r1, vi r2, vi r3, vi r4, vi r5, vi r6, vi r7, c, vi pc, vi (steps + 1), vi calls, vi en, vi cde, vi value, a, b, vi dev.ep, d]⟩) ⟨[r0, r1, r2, r3, r4, r5, r6, r7], cells, pc, steps + 1, calls, en, cde, value, dev, conds⟩ :=
    ⟨rfl, c, a, b, d, rfl, (hc.keep k06 (fun _ _ _ h => h)).mono (fun x _ h => hfr x h), (hdv.keep k06 (fun _ _ _ h => h)).mono (fun x _ h => hfr x h), (hcd.keep k06 (fun _ _ _ h => h)).mono (fun x _ h => hfr x h)⟩
  have st6 : Stp w6 F p pb N most ⟨[r0, r1, r2, r3, r4, r5, r6, r7], cells, pc, steps + 1, calls, en, cde, value, dev, conds⟩ [vi r0, vi r1, vi r2, vi r3, vi r4, vi r5, vi r6, vi r7, c, vi pc, vi (steps + 1), vi calls, vi en, vi cde, vi value, a, b, vi dev.ep, d] i inputs mw (.slice none 0 0) [] 0 := ⟨hd.keepN k06, hnF, b6, hoo _, hon, hs6⟩
  refine M.call_i (step37_ret (c := c) (a := a) (b := b) (d := d) st6 rfl hB' hcl hok hin) ?_
  rintro _ w7 ⟨rfl, F7, ov7, st7, m7⟩
  have hce7 := st7.ce
  have k07 : Keep w w7 F := (k06.mono (fun _ _ h => h.elim)).trans m7.keep (fun x hx e => by
    rcases e with e | e | ⟨n, c', e⟩
    · exact e
    · omega
    · simp at e)
  have hFF : ∀ x, x < w.heap.size → F7 x → F x := fun x hx h => m7.fF x (by have := k06.size; omega) h
  rw [eN, hsome]
  simp only []
  generalize stepI most N ⟨[r0, r1, r2, r3, r4, r5, r6, r7], cells, pc, steps + 1, calls, en, cde, value, dev, conds⟩ i inputs mw = R at st7 hce7 ⊢
  by_cases hR : R.2.1 = 0
  · rw [if_pos hR]
    have hco7 := st7.co
    (repeat (first|refine ja ?_|refine jb ?_|refine jc ?_|refine jd ?_|refine je ?_|refine jf ?_|refine jg ?_|refine jh ?_|refine ji ?_|refine jj ?_|refine jk ?_|refine jl ?_|refine jm ?_|refine jn ?_|refine jo ?_|refine jp ?_|refine jq ?_|refine jr ?_|refine js ?_|refine jt ?_|refine ju ?_|refine jv ?_|refine jw ?_|refine jx ?_|refine jy ?_|refine jz ?_|refine jA ?_|refine jB ?_|refine jC ?_|refine jD ?_|refine jE ?_|refine jF ?_|refine jG ?_|refine jH ?_|refine jI ?_|refine jJ ?_|refine jK ?_|refine jL ?_|refine jM (by assumption) ?_|refine jN (by assumption) rfl ?_|refine jO (by assumption) ?_|refine jP (by assumption) rfl ?_|refine jQ ?_|refine jR ?_|refine jS ?_|refine jT ?_|refine jU (by assumption) rfl ?_))
    obtain ⟨cs, g1, g2, g3⟩ := st7.oo
    obtain ⟨A, cap, eA, hrA, hcap⟩ := GC.row2 g1 (by omega)
    refine ⟨F7, ov7, by rw [hR], st7.dag, hFF, k07, A, cap, cs, eA, hrA.mono (fun x _ h => (st7.on x h).1), g2, hcap, fun k u t h1 h2 => (g3 k u t h1 h2).mono (fun x _ h => h.1)⟩
  · rw [if_neg hR]
    have kd := Keep.drew w7 No
    have st8 := st7.keepN kd
    have hce8 := st8.ce
    (repeat (first|refine ja ?_|refine jb ?_|refine jc ?_|refine jd ?_|refine je ?_|refine jf ?_|refine jg ?_|refine jh ?_|refine ji ?_|refine jj ?_|refine jk ?_|refine jl ?_|refine jm ?_|refine jn ?_|refine jo ?_|refine jp ?_|refine jq ?_|refine jr ?_|refine js ?_|refine jt ?_|refine ju ?_|refine jv ?_|refine jw ?_|refine jx ?_|refine jy ?_|refine jz ?_|refine jA ?_|refine jB ?_|refine jC ?_|refine jD ?_|refine jE ?_|refine jF ?_|refine jG ?_|refine jH ?_|refine jI ?_|refine jJ ?_|refine jK ?_|refine jL ?_|refine jM (by assumption) ?_|refine jN (by assumption) rfl ?_|refine jO (by assumption) ?_|refine jP (by assumption) rfl ?_|refine jQ ?_|refine jR ?_|refine jS ?_|refine jT ?_|refine jU (by assumption) rfl ?_))
    exact ⟨F7, _, rfl, st8.dag, hFF, k07.trans kd (fun _ _ h => h.elim), OutS.nil _ _⟩
end
end Go.Proofs.Ytanjlgafjgoaaaa
