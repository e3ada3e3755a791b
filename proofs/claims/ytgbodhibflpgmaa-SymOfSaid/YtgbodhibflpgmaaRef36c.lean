import Derived.Test.YtgbodhibflpgmaaRef36b
namespace Go.Proofs.Ytgbodhibflpgmaa
open Go.Mw Go.Maps Go.MapKept
set_option linter.unusedVariables false
set_option linter.unusedSimpArgs false
set_option maxRecDepth 100000
attribute [local irreducible] M.val M.unit M.next M.pick M.new M.nilCheck M.load1 M.loadA M.store M.fieldAddr M.indexSl M.indexArr M.slice M.makeSlice M.buildSlice M.len M.lenS M.cap M.append M.extract M.conv M.not M.neg M.bin M.shift M.eqB M.eqNil M.call M.callv M.gd M.share M.cond M.loop M.draw pureW readW Ret
section
variable {w : World} {D : Nat → Prop} {v : Value} {N : List Nd} {most : Int} {env : List W64}
set_option maxHeartbeats 4000000 in
theorem rof_ret {D1 De : Nat → Prop} {sv ev : Value} {s : Sy} (hd : RD w D v N most) (hN : N.length ≤ 1000000) (hG : GoodN N) (he : LV vw w De ev env) (hel : env.length ≤ 1000000) (hs : SyO w D1 sv s) (hf : s.few) :
    Ret Try.prog 22 #[v, sv, ev] w (fun r w' => ∃ v, r = .tuple #[v, .bool (if stBad N s then false else stHolds N env s), vi (if stBad N s then 11 else 0)] ∧ StO w' (w.heap.size ≤ ·) v (if stBad N s then St0 else stOf N env s) ∧ Keep w w' No) := by
  obtain ⟨hf1, hf2, hf3⟩ := hf
  obtain ⟨A, cA, rfl, hr⟩ := id hd
  obtain ⟨h8, c, a, b, cd, rfl, hc, hdv, hcd⟩ := hs
  obtain ⟨regs, cells, pc, steps, calls, en, code, value, dev, conds⟩ := s
  simp only at h8 hc hdv hcd hf1 hf2 hf3
  refine ok22 _ _ _ _ _ ?_
  unfold sh22
  obtain ⟨r0, r1, r2, r3, r4, r5, r6, r7, hrs⟩ := eight h8
  have hvals : Sy.vals ⟨regs, cells, pc, steps, calls, en, code, value, dev, conds⟩ c a b cd = [vi r0, vi r1, vi r2, vi r3, vi r4, vi r5, vi r6, vi r7, c, vi pc, vi steps, vi calls, vi en, vi code, vi value, a, b, vi dev.ep, cd] := by rw [hrs]; rfl
  rw [hvals]
  have hreg : ∀ (i : Nat) (h : i < 8), [vi r0, vi r1, vi r2, vi r3, vi r4, vi r5, vi r6, vi r7, c, vi pc, vi steps, vi calls, vi en, vi code, vi value, a, b, vi dev.ep, cd][i]? = some (vi (regs[i]'(by omega))) := fun i hi => by
    have e : [vi r0, vi r1, vi r2, vi r3, vi r4, vi r5, vi r6, vi r7, c, vi pc, vi steps, vi calls, vi en, vi code, vi value, a, b, vi dev.ep, cd] = regs.map vi ++ [c, vi pc, vi steps, vi calls, vi en, vi code, vi value, a, b, vi dev.ep, cd] := by rw [hrs]; rfl
    rw [e, List.getElem?_append_left (by simp; omega), List.getElem?_map, List.getElem?_eq_getElem (by omega)]; rfl
  refine M.new_i (l := [.slice A N.length cA, vi most]) (fun w1 b1 k1 s1 => ?_)
  refine M.new_i (l := [vi r0, vi r1, vi r2, vi r3, vi r4, vi r5, vi r6, vi r7, c, vi pc, vi steps, vi calls, vi en, vi code, vi value, a, b, vi dev.ep, cd]) (fun w2 b2 k2 s2 => ?_)
  refine M.new_i (l := zSt) (fun w3 b3 k3 s3 => ?_)
  have b1 := (b1.keep k2 (fun h => h)).keep k3 (fun h => h)
  have b2 := b2.keep k3 (fun h => h)
  have k03 := (k1.trans k2 (fun _ _ h => h)).trans k3 (fun _ _ h => h)
  have q03 := k03.size
  have d3 := hd.keep k03 (fun _ _ _ h => h)
  have c3 := hc.keep k03 (fun _ _ _ h => h)
  have v3 := hdv.keep k03 (fun _ _ _ h => h)
  have x3 := hcd.keep k03 (fun _ _ _ h => h)
  have e3 := he.keep k03 (fun _ _ _ h => h)
  clear he
  refine M.loadAll_i b1 rfl ?_
  refine M.call_i (rall_ret d3 hN hG e3 hel) ?_; rintro tv w4 ⟨l4, k4⟩
  have l4 := l4.mono (D' := fun b => w3.heap.size ≤ b ∧ b < w4.heap.size) (fun b hb h => ⟨h, hb⟩)
  have b1 := b1.keep k4 (fun h => h)
  have b2 := b2.keep k4 (fun h => h)
  have b3 := b3.keep k4 (fun h => h)
  have d3 := d3.keep k4 (fun _ _ _ h => h)
  have c3 := c3.keep k4 (fun _ _ _ h => h)
  have v3 := v3.keep k4 (fun _ _ _ h => h)
  have x3 := x3.keep k4 (fun _ _ _ h => h)
  have q4 := k4.size
  have k04 := k03.trans k4 (fun _ _ h => h)
  refine M.loop_i (σ := Nat) (fun m vals w' => ∃ (i : Nat) (sv : Value), m = 8 - i ∧ i ≤ 8 ∧ vals = [sv, vi i] ∧ GI w' (w4.heap.size ≤ ·) sv (regs.take i) ∧ Keep w4 w' No) id 8
    ⟨0, _, by omega, by omega, rfl, GC.nil _ _ _, Keep.refl _ _⟩ ?_
  rintro m vals w5 K ⟨i, rv, rfl, hi, rfl, g5, k5⟩ hK _
  simp only [List.getD_cons_zero, List.getD_cons_succ]
  have b1 := b1.keep k5 (fun h => h)
  have b2 := b2.keep k5 (fun h => h)
  have b3 := b3.keep k5 (fun h => h)
  have q5 := k5.size
  by_cases hlt : i < 8
  · (repeat (first|refine ja ?_|refine jb ?_|refine jc ?_|refine jd ?_|refine je ?_|refine jf ?_|refine jg ?_|refine jh ?_|refine ji ?_|refine jj ?_|refine jk ?_|refine jl ?_|refine jm ?_|refine jn ?_|refine jo ?_|refine jp ?_|refine jq ?_|refine jr ?_|refine js ?_|refine jt ?_|refine ju ?_|refine jv ?_|refine jw ?_|refine jx ?_|refine jy ?_|refine jz ?_|refine jA ?_|refine jB ?_|refine jC ?_|refine jD ?_|refine jE ?_|refine jF ?_|refine jG ?_|refine jH ?_|refine jI ?_|refine jJ ?_|refine jK ?_|refine jL ?_|refine jM (by assumption) ?_|refine jN (by assumption) rfl ?_|refine jO (by assumption) ?_|refine jP (by assumption) rfl ?_|refine jQ ?_|refine jR ?_|refine jS ?_|refine jT ?_|refine jU (by assumption) rfl ?_))
    refine M.arr_i (by omega) (by omega) ?_
    have e0 : 0 + 0 + (i : Int).toNat * 1 = i := by omega
    rw [e0]
    refine M.load_i (b2.cell (hreg i hlt)) ?_
    refine M.buildSlice_i [vi (regs[i]'(by omega))] (by kernel_rfl) (fun w6 b6 k6 s6 => ?_)
    have htl : (regs.take i).length ≤ 8 := by rw [List.length_take]; omega
    refine M.append1_i (g5.keep k6 (fun _ _ _ h => h)) (Row.of_blk' (D := fun _ => True) b6 trivial) rfl (by omega) (fun v7 w7 g7 k7 => ?_)
    (repeat (first|refine ja ?_|refine jb ?_|refine jc ?_|refine jd ?_|refine je ?_|refine jf ?_|refine jg ?_|refine jh ?_|refine ji ?_|refine jj ?_|refine jk ?_|refine jl ?_|refine jm ?_|refine jn ?_|refine jo ?_|refine jp ?_|refine jq ?_|refine jr ?_|refine js ?_|refine jt ?_|refine ju ?_|refine jv ?_|refine jw ?_|refine jx ?_|refine jy ?_|refine jz ?_|refine jA ?_|refine jB ?_|refine jC ?_|refine jD ?_|refine jE ?_|refine jF ?_|refine jG ?_|refine jH ?_|refine jI ?_|refine jJ ?_|refine jK ?_|refine jL ?_|refine jM (by assumption) ?_|refine jN (by assumption) rfl ?_|refine jO (by assumption) ?_|refine jP (by assumption) rfl ?_|refine jQ ?_|refine jR ?_|refine jS ?_|refine jT ?_|refine jU (by assumption) rfl ?_))
    refine hK (8 - (i + 1)) _ _ (by show 8 - (i + 1) < 8 - i; omega) ⟨i + 1, _, rfl, by omega, rfl, ?_, (k5.trans k6 (fun _ _ h => h)).trans k7 (fun b hb h => by have h : w4.heap.size ≤ b := h; omega)⟩
    rw [show regs.take (i + 1) = regs.take i ++ [regs[i]'(by omega)] from List.take_succ_eq_append_getElem (by omega)]
    exact GC.mono g7 (fun b hb h => by rcases h with h | h; exact h; (show w4.heap.size ≤ b); omega)
  · have : i = 8 := by omega
    subst this
    rw [show regs.take 8 = regs by rw [← h8, List.take_length]] at g5
    clear hK
    have d3 := d3.keep k5 (fun _ _ _ h => h)
    have c3 := c3.keep k5 (fun _ _ _ h => h)
    have v3 := v3.keep k5 (fun _ _ _ h => h)
    have x3 := x3.keep k5 (fun _ _ _ h => h)
    have l5 := l4.keep k5 (fun _ _ _ h => h)
    have k05 := k04.trans k5 (fun _ _ h => h)
    (repeat (first|refine ja ?_|refine jb ?_|refine jc ?_|refine jd ?_|refine je ?_|refine jf ?_|refine jg ?_|refine jh ?_|refine ji ?_|refine jj ?_|refine jk ?_|refine jl ?_|refine jm ?_|refine jn ?_|refine jo ?_|refine jp ?_|refine jq ?_|refine jr ?_|refine js ?_|refine jt ?_|refine ju ?_|refine jv ?_|refine jw ?_|refine jx ?_|refine jy ?_|refine jz ?_|refine jA ?_|refine jB ?_|refine jC ?_|refine jD ?_|refine jE ?_|refine jF ?_|refine jG ?_|refine jH ?_|refine jI ?_|refine jJ ?_|refine jK ?_|refine jL ?_|refine jM (by assumption) ?_|refine jN (by assumption) rfl ?_|refine jO (by assumption) ?_|refine jP (by assumption) rfl ?_|refine jQ ?_|refine jR ?_|refine jS ?_|refine jT ?_|refine jU (by assumption) rfl ?_))
    refine M.loadAll_i b1 rfl ?_
    refine M.call_i (rwords_ret d3 (GI.lv g5) l5 (by omega)) ?_; rintro _ w6 ⟨u1, rfl, lr, k6⟩
    have b1 := b1.keep k6 (fun h => h)
    have b2 := b2.keep k6 (fun h => h)
    have b3 := b3.keep k6 (fun h => h)
    have d3 := d3.keep k6 (fun _ _ _ h => h)
    have c3 := c3.keep k6 (fun _ _ _ h => h)
    have v3 := v3.keep k6 (fun _ _ _ h => h)
    have x3 := x3.keep k6 (fun _ _ _ h => h)
    have l5 := l5.keep k6 (fun _ _ _ h => h)
    refine M.extract_i (v := u1) rfl ?_
    refine M.extract_i (v := .bool (!regs.any (fun i => !isN N i))) rfl ?_
    refine M.loadAll_i b1 rfl ?_
    (repeat (first|refine ja ?_|refine jb ?_|refine jc ?_|refine jd ?_|refine je ?_|refine jf ?_|refine jg ?_|refine jh ?_|refine ji ?_|refine jj ?_|refine jk ?_|refine jl ?_|refine jm ?_|refine jn ?_|refine jo ?_|refine jp ?_|refine jq ?_|refine jr ?_|refine js ?_|refine jt ?_|refine ju ?_|refine jv ?_|refine jw ?_|refine jx ?_|refine jy ?_|refine jz ?_|refine jA ?_|refine jB ?_|refine jC ?_|refine jD ?_|refine jE ?_|refine jF ?_|refine jG ?_|refine jH ?_|refine jI ?_|refine jJ ?_|refine jK ?_|refine jL ?_|refine jM (by assumption) ?_|refine jN (by assumption) rfl ?_|refine jO (by assumption) ?_|refine jP (by assumption) rfl ?_|refine jQ ?_|refine jR ?_|refine jS ?_|refine jT ?_|refine jU (by assumption) rfl ?_))
    refine M.call_i (rwords_ret d3 c3 l5 hf1) ?_; rintro _ w7 ⟨u2, rfl, lc, k7⟩
    have b1 := b1.keep k7 (fun h => h)
    have b2 := b2.keep k7 (fun h => h)
    have b3 := b3.keep k7 (fun h => h)
    have d3 := d3.keep k7 (fun _ _ _ h => h)
    have v3 := v3.keep k7 (fun _ _ _ h => h)
    have x3 := x3.keep k7 (fun _ _ _ h => h)
    have l5 := l5.keep k7 (fun _ _ _ h => h)
    have lr := lr.keep k7 (fun _ _ _ h => h)
    refine M.extract_i (v := u2) rfl ?_
    refine M.extract_i (v := .bool (!cells.any (fun i => !isN N i))) rfl ?_
    refine M.loadAll_i b1 rfl ?_
    (repeat (first|refine ja ?_|refine jb ?_|refine jc ?_|refine jd ?_|refine je ?_|refine jf ?_|refine jg ?_|refine jh ?_|refine ji ?_|refine jj ?_|refine jk ?_|refine jl ?_|refine jm ?_|refine jn ?_|refine jo ?_|refine jp ?_|refine jq ?_|refine jr ?_|refine js ?_|refine jt ?_|refine ju ?_|refine jv ?_|refine jw ?_|refine jx ?_|refine jy ?_|refine jz ?_|refine jA ?_|refine jB ?_|refine jC ?_|refine jD ?_|refine jE ?_|refine jF ?_|refine jG ?_|refine jH ?_|refine jI ?_|refine jJ ?_|refine jK ?_|refine jL ?_|refine jM (by assumption) ?_|refine jN (by assumption) rfl ?_|refine jO (by assumption) ?_|refine jP (by assumption) rfl ?_|refine jQ ?_|refine jR ?_|refine jS ?_|refine jT ?_|refine jU (by assumption) rfl ?_))
    refine M.call_i (rwords_ret d3 x3 l5 hf3) ?_; rintro _ w8 ⟨u3, rfl, lk, k8⟩
    have b1 := b1.keep k8 (fun h => h)
    have b2 := b2.keep k8 (fun h => h)
    have b3 := b3.keep k8 (fun h => h)
    have d3 := d3.keep k8 (fun _ _ _ h => h)
    have v3 := v3.keep k8 (fun _ _ _ h => h)
    have l5 := l5.keep k8 (fun _ _ _ h => h)
    have lr := lr.keep k8 (fun _ _ _ h => h)
    have lc := lc.keep k8 (fun _ _ _ h => h)
    refine M.extract_i (v := u3) rfl ?_
    refine M.extract_i (v := .bool (!conds.any (fun i => !isN N i))) rfl ?_
    refine M.loadAll_i b1 rfl ?_
    refine M.field_i ?_
    refine M.loadP_i (r := [a, b, vi dev.ep]) b2 (by simp) rfl ?_
    refine M.call_i (rdev_ret d3 v3 l5 hf2) ?_; rintro _ w9 ⟨X, xn, xc, Y, yn, yc, ep, rfl, hdok, k9⟩
    have b1 := b1.keep k9 (fun h => h)
    have b2 := b2.keep k9 (fun h => h)
    have b3 := b3.keep k9 (fun h => h)
    have d3 := d3.keep k9 (fun _ _ _ h => h)
    have l5 := l5.keep k9 (fun _ _ _ h => h)
    have lr := lr.keep k9 (fun _ _ _ h => h)
    have lc := lc.keep k9 (fun _ _ _ h => h)
    have lk := lk.keep k9 (fun _ _ _ h => h)
    have k09 := (((k05.trans k6 (fun _ _ h => h)).trans k7 (fun _ _ h => h)).trans k8 (fun _ _ h => h)).trans k9 (fun _ _ h => h)
    have k59 := ((k6.trans k7 (fun _ _ h => h)).trans k8 (fun _ _ h => h)).trans k9 (fun _ _ h => h)
    have q59 := k59.size; have q6 := k6.size; have q7 := k7.size; have q8 := k8.size; have q9 := k9.size
    refine M.extract_i (v := .agg ⟨[.slice X xn xc, .slice Y yn yc, vi ep]⟩) rfl ?_
    refine M.extract_i (v := .bool (!devBad N dev)) rfl ?_
    refine M.new_i (l := [.slice none 0 0, .slice none 0 0, vi 0]) (fun w10 b10 k10 s10 => ?_)
    refine M.storeAll_i b10 rfl rfl (List.all_eq_true.1 rfl) (fun w11 b11 k11 s11 => ?_)
    have k911 : Keep w9 w11 No := k10.trans k11 (fun b hb h => by omega)
    have b1 := b1.keep k911 (fun h => h)
    have b2 := b2.keep k911 (fun h => h)
    have b3 := b3.keep k911 (fun h => h)
    have d3 := d3.keep k911 (fun _ _ _ h => h)
    have l5 := l5.keep k911 (fun _ _ _ h => h)
    have lr := lr.keep k911 (fun _ _ _ h => h)
    have lc := lc.keep k911 (fun _ _ _ h => h)
    have lk := lk.keep k911 (fun _ _ _ h => h)
    have k011 := k09.trans k911 (fun _ _ h => h)
    have hst : stBad N ⟨regs, cells, pc, steps, calls, en, code, value, dev, conds⟩ = ((((cells.any (fun i => !isN N i) || devBad N dev) || regs.any (fun i => !isN N i)) || (decide (en = 1) && !isN N value)) || conds.any (fun i => !isN N i)) := rfl
    refine M.not_i ?_
    cases h1 : regs.any (fun i => !isN N i) with
    | true =>
      have hbad : stBad N ⟨regs, cells, pc, steps, calls, en, code, value, dev, conds⟩ = true := by rw [hst, h1]; simp
      rw [hbad]
      (repeat (first|refine ja ?_|refine jb ?_|refine jc ?_|refine jd ?_|refine je ?_|refine jf ?_|refine jg ?_|refine jh ?_|refine ji ?_|refine jj ?_|refine jk ?_|refine jl ?_|refine jm ?_|refine jn ?_|refine jo ?_|refine jp ?_|refine jq ?_|refine jr ?_|refine js ?_|refine jt ?_|refine ju ?_|refine jv ?_|refine jw ?_|refine jx ?_|refine jy ?_|refine jz ?_|refine jA ?_|refine jB ?_|refine jC ?_|refine jD ?_|refine jE ?_|refine jF ?_|refine jG ?_|refine jH ?_|refine jI ?_|refine jJ ?_|refine jK ?_|refine jL ?_|refine jM (by assumption) ?_|refine jN (by assumption) rfl ?_|refine jO (by assumption) ?_|refine jP (by assumption) rfl ?_|refine jQ ?_|refine jR ?_|refine jS ?_|refine jT ?_|refine jU (by assumption) rfl ?_))
      refine M.pure_i (.agg ⟨zSt⟩) (fun _ => by kernel_rfl) ?_
      refine M.storeAll_i b3 rfl rfl (List.all_eq_true.1 rfl) (fun wz bz kz sz => ?_)
      refine M.loadAll_i bz rfl ?_
      exact ⟨_, rfl, st0_o _ _, k011.trans kz (fun b hb h => by omega)⟩
    | false =>
    cases h2 : cells.any (fun i => !isN N i) with
    | true =>
      have hbad : stBad N ⟨regs, cells, pc, steps, calls, en, code, value, dev, conds⟩ = true := by rw [hst, h2]; simp
      rw [hbad]
      (repeat (first|refine ja ?_|refine jb ?_|refine jc ?_|refine jd ?_|refine je ?_|refine jf ?_|refine jg ?_|refine jh ?_|refine ji ?_|refine jj ?_|refine jk ?_|refine jl ?_|refine jm ?_|refine jn ?_|refine jo ?_|refine jp ?_|refine jq ?_|refine jr ?_|refine js ?_|refine jt ?_|refine ju ?_|refine jv ?_|refine jw ?_|refine jx ?_|refine jy ?_|refine jz ?_|refine jA ?_|refine jB ?_|refine jC ?_|refine jD ?_|refine jE ?_|refine jF ?_|refine jG ?_|refine jH ?_|refine jI ?_|refine jJ ?_|refine jK ?_|refine jL ?_|refine jM (by assumption) ?_|refine jN (by assumption) rfl ?_|refine jO (by assumption) ?_|refine jP (by assumption) rfl ?_|refine jQ ?_|refine jR ?_|refine jS ?_|refine jT ?_|refine jU (by assumption) rfl ?_))
      refine M.pure_i (.agg ⟨zSt⟩) (fun _ => by kernel_rfl) ?_
      refine M.storeAll_i b3 rfl rfl (List.all_eq_true.1 rfl) (fun wz bz kz sz => ?_)
      refine M.loadAll_i bz rfl ?_
      exact ⟨_, rfl, st0_o _ _, k011.trans kz (fun b hb h => by omega)⟩
    | false =>
    cases h3 : conds.any (fun i => !isN N i) with
    | true =>
      have hbad : stBad N ⟨regs, cells, pc, steps, calls, en, code, value, dev, conds⟩ = true := by rw [hst, h3]; simp
      rw [hbad]
      (repeat (first|refine ja ?_|refine jb ?_|refine jc ?_|refine jd ?_|refine je ?_|refine jf ?_|refine jg ?_|refine jh ?_|refine ji ?_|refine jj ?_|refine jk ?_|refine jl ?_|refine jm ?_|refine jn ?_|refine jo ?_|refine jp ?_|refine jq ?_|refine jr ?_|refine js ?_|refine jt ?_|refine ju ?_|refine jv ?_|refine jw ?_|refine jx ?_|refine jy ?_|refine jz ?_|refine jA ?_|refine jB ?_|refine jC ?_|refine jD ?_|refine jE ?_|refine jF ?_|refine jG ?_|refine jH ?_|refine jI ?_|refine jJ ?_|refine jK ?_|refine jL ?_|refine jM (by assumption) ?_|refine jN (by assumption) rfl ?_|refine jO (by assumption) ?_|refine jP (by assumption) rfl ?_|refine jQ ?_|refine jR ?_|refine jS ?_|refine jT ?_|refine jU (by assumption) rfl ?_))
      refine M.pure_i (.agg ⟨zSt⟩) (fun _ => by kernel_rfl) ?_
      refine M.storeAll_i b3 rfl rfl (List.all_eq_true.1 rfl) (fun wz bz kz sz => ?_)
      refine M.loadAll_i bz rfl ?_
      exact ⟨_, rfl, st0_o _ _, k011.trans kz (fun b hb h => by omega)⟩
    | false =>
    cases h4 : devBad N dev with
    | true =>
      have hbad : stBad N ⟨regs, cells, pc, steps, calls, en, code, value, dev, conds⟩ = true := by rw [hst, h4]; simp
      rw [hbad]
      (repeat (first|refine ja ?_|refine jb ?_|refine jc ?_|refine jd ?_|refine je ?_|refine jf ?_|refine jg ?_|refine jh ?_|refine ji ?_|refine jj ?_|refine jk ?_|refine jl ?_|refine jm ?_|refine jn ?_|refine jo ?_|refine jp ?_|refine jq ?_|refine jr ?_|refine js ?_|refine jt ?_|refine ju ?_|refine jv ?_|refine jw ?_|refine jx ?_|refine jy ?_|refine jz ?_|refine jA ?_|refine jB ?_|refine jC ?_|refine jD ?_|refine jE ?_|refine jF ?_|refine jG ?_|refine jH ?_|refine jI ?_|refine jJ ?_|refine jK ?_|refine jL ?_|refine jM (by assumption) ?_|refine jN (by assumption) rfl ?_|refine jO (by assumption) ?_|refine jP (by assumption) rfl ?_|refine jQ ?_|refine jR ?_|refine jS ?_|refine jT ?_|refine jU (by assumption) rfl ?_))
      refine M.pure_i (.agg ⟨zSt⟩) (fun _ => by kernel_rfl) ?_
      refine M.storeAll_i b3 rfl rfl (List.all_eq_true.1 rfl) (fun wz bz kz sz => ?_)
      refine M.loadAll_i bz rfl ?_
      exact ⟨_, rfl, st0_o _ _, k011.trans kz (fun b hb h => by omega)⟩
    | false =>
    by_cases hen : en = 1
    · (repeat (first|refine ja ?_|refine jb ?_|refine jc ?_|refine jd ?_|refine je ?_|refine jf ?_|refine jg ?_|refine jh ?_|refine ji ?_|refine jj ?_|refine jk ?_|refine jl ?_|refine jm ?_|refine jn ?_|refine jo ?_|refine jp ?_|refine jq ?_|refine jr ?_|refine js ?_|refine jt ?_|refine ju ?_|refine jv ?_|refine jw ?_|refine jx ?_|refine jy ?_|refine jz ?_|refine jA ?_|refine jB ?_|refine jC ?_|refine jD ?_|refine jE ?_|refine jF ?_|refine jG ?_|refine jH ?_|refine jI ?_|refine jJ ?_|refine jK ?_|refine jL ?_|refine jM (by assumption) ?_|refine jN (by assumption) rfl ?_|refine jO (by assumption) ?_|refine jP (by assumption) rfl ?_|refine jQ ?_|refine jR ?_|refine jS ?_|refine jT ?_|refine jU (by assumption) rfl ?_))
      refine M.loadAll_i b1 rfl ?_
      (repeat (first|refine ja ?_|refine jb ?_|refine jc ?_|refine jd ?_|refine je ?_|refine jf ?_|refine jg ?_|refine jh ?_|refine ji ?_|refine jj ?_|refine jk ?_|refine jl ?_|refine jm ?_|refine jn ?_|refine jo ?_|refine jp ?_|refine jq ?_|refine jr ?_|refine js ?_|refine jt ?_|refine ju ?_|refine jv ?_|refine jw ?_|refine jx ?_|refine jy ?_|refine jz ?_|refine jA ?_|refine jB ?_|refine jC ?_|refine jD ?_|refine jE ?_|refine jF ?_|refine jG ?_|refine jH ?_|refine jI ?_|refine jJ ?_|refine jK ?_|refine jL ?_|refine jM (by assumption) ?_|refine jN (by assumption) rfl ?_|refine jO (by assumption) ?_|refine jP (by assumption) rfl ?_|refine jQ ?_|refine jR ?_|refine jS ?_|refine jT ?_|refine jU (by assumption) rfl ?_))
      refine M.call_i (ris_ret d3 value) ?_; rintro _ wq ⟨rfl, kq11⟩
      have b2 := b2.keep kq11 (fun h => h)
      have b3 := b3.keep kq11 (fun h => h)
      have b11 := b11.keep kq11 (fun h => h)
      have l5 := l5.keep kq11 (fun _ _ _ h => h)
      have lr := lr.keep kq11 (fun _ _ _ h => h)
      have lc := lc.keep kq11 (fun _ _ _ h => h)
      have lk := lk.keep kq11 (fun _ _ _ h => h)
      have kq := k011.trans kq11 (fun _ _ h => h)
      have kw := k911.trans kq11 (fun _ _ h => h)
      have qw := kw.size
      cases hval2 : isN N value with
      | false =>
        have hbad : stBad N ⟨regs, cells, pc, steps, calls, en, code, value, dev, conds⟩ = true := by rw [hst, hval2, decide_eq_true hen]; simp
        rw [hbad]
        (repeat (first|refine ja ?_|refine jb ?_|refine jc ?_|refine jd ?_|refine je ?_|refine jf ?_|refine jg ?_|refine jh ?_|refine ji ?_|refine jj ?_|refine jk ?_|refine jl ?_|refine jm ?_|refine jn ?_|refine jo ?_|refine jp ?_|refine jq ?_|refine jr ?_|refine js ?_|refine jt ?_|refine ju ?_|refine jv ?_|refine jw ?_|refine jx ?_|refine jy ?_|refine jz ?_|refine jA ?_|refine jB ?_|refine jC ?_|refine jD ?_|refine jE ?_|refine jF ?_|refine jG ?_|refine jH ?_|refine jI ?_|refine jJ ?_|refine jK ?_|refine jL ?_|refine jM (by assumption) ?_|refine jN (by assumption) rfl ?_|refine jO (by assumption) ?_|refine jP (by assumption) rfl ?_|refine jQ ?_|refine jR ?_|refine jS ?_|refine jT ?_|refine jU (by assumption) rfl ?_))
        refine M.pure_i (.agg ⟨zSt⟩) (fun _ => by kernel_rfl) ?_
        refine M.storeAll_i b3 rfl rfl (List.all_eq_true.1 rfl) (fun wz bz kz sz => ?_)
        refine M.loadAll_i bz rfl ?_
        exact ⟨_, rfl, st0_o _ _, kq.trans kz (fun b hb h => by omega)⟩
      | true =>
      have hvi := isN_iff.1 hval2
      have hval : (decide (en = 1) && !isN N value) = false := by rw [hval2]; simp
      have hbad : stBad N ⟨regs, cells, pc, steps, calls, en, code, value, dev, conds⟩ = false := by rw [hst, h1, h2, h3, h4, hval]; rfl
      rw [hbad]
      obtain ⟨rfl, hdO⟩ := hdok h4
      have hdO := hdO.keep kw (fun _ _ _ h => h)
      have lr : LV vw wq (w5.heap.size ≤ ·) u1 (regs.map (valW N env)) := by rw [h1] at lr; exact lr
      have lc : LV vw wq (w6.heap.size ≤ ·) u2 (cells.map (valW N env)) := by rw [h2] at lc; exact lc
      have lk : LV vw wq (w7.heap.size ≤ ·) u3 (conds.map (valW N env)) := by rw [h3] at lk; exact lk
      obtain ⟨U1, q1, rfl, lrr, _⟩ := id lr
      obtain ⟨U2, q2, rfl, _, _⟩ := id lc
      obtain ⟨U3, q3, rfl, lkr, _⟩ := id lk
      have l5 := l5.mono (D' := fun b => w3.heap.size ≤ b ∧ b < w4.heap.size) (fun b hb h => h)
      obtain ⟨U5, q5', rfl, l5r, _⟩ := id l5
      (repeat (first|refine ja ?_|refine jb ?_|refine jc ?_|refine jd ?_|refine je ?_|refine jf ?_|refine jg ?_|refine jh ?_|refine ji ?_|refine jj ?_|refine jk ?_|refine jl ?_|refine jm ?_|refine jn ?_|refine jo ?_|refine jp ?_|refine jq ?_|refine jr ?_|refine js ?_|refine jt ?_|refine ju ?_|refine jv ?_|refine jw ?_|refine jx ?_|refine jy ?_|refine jz ?_|refine jA ?_|refine jB ?_|refine jC ?_|refine jD ?_|refine jE ?_|refine jF ?_|refine jG ?_|refine jH ?_|refine jI ?_|refine jJ ?_|refine jK ?_|refine jL ?_|refine jM (by assumption) ?_|refine jN (by assumption) rfl ?_|refine jO (by assumption) ?_|refine jP (by assumption) rfl ?_|refine jQ ?_|refine jR ?_|refine jS ?_|refine jT ?_|refine jU (by assumption) rfl ?_))
      refine M.loadAll_i b11 rfl ?_
      refine M.pure_i (.agg ⟨[vw 0, vw 0, vw 0, vw 0, vw 0, vw 0, vw 0, vw 0, .slice U2 (cells.map (valW N env)).length q2, vi pc, vi steps, vi calls, vi en, vi code, vw 0, .slice X xn xc, .slice Y yn yc, vi dev.ep]⟩) (fun _ => by kernel_rfl) ?_
      refine M.new_i (l := zSt) (fun wr br kr sr => ?_)
      refine M.storeAll_i br rfl rfl (List.all_eq_true.1 rfl) (fun ws bs ks ss => ?_)
      have kqs : Keep wq ws No := kr.trans ks (fun b hb h => by omega)
      have qqs := kqs.size
      have b2 := b2.keep kqs (fun h => h)
      have b3 := b3.keep kqs (fun h => h)
      refine M.loop_i (σ := Nat) (fun m vals w' => ∃ i : Nat, m = 8 - i ∧ i ≤ 8 ∧ vals = [vi i] ∧ Blk w' wq.heap.size (((regs.map (valW N env)).map vw).take i ++ (List.replicate 8 (vw 0)).drop i ++ [.slice U2 (cells.map (valW N env)).length q2, vi pc, vi steps, vi calls, vi en, vi code, vw 0, .slice X xn xc, .slice Y yn yc, vi dev.ep]) ∧ Keep ws w' (· = wq.heap.size)) id 8
        ⟨0, rfl, by omega, rfl, bs, Keep.refl _ _⟩ ?_
      rintro m vals wt K ⟨i, rfl, hi, rfl, bt, kt⟩ hK _
      simp only [List.getD_cons_zero, List.getD_cons_succ]
      have kqt : Keep wq wt No := kqs.trans kt (fun b hb h => by omega)
      by_cases hlt : i < 8
      · have hil : i < (regs.map (valW N env)).length := by simp; omega
        (repeat (first|refine ja ?_|refine jb ?_|refine jc ?_|refine jd ?_|refine je ?_|refine jf ?_|refine jg ?_|refine jh ?_|refine ji ?_|refine jj ?_|refine jk ?_|refine jl ?_|refine jm ?_|refine jn ?_|refine jo ?_|refine jp ?_|refine jq ?_|refine jr ?_|refine js ?_|refine jt ?_|refine ju ?_|refine jv ?_|refine jw ?_|refine jx ?_|refine jy ?_|refine jz ?_|refine jA ?_|refine jB ?_|refine jC ?_|refine jD ?_|refine jE ?_|refine jF ?_|refine jG ?_|refine jH ?_|refine jI ?_|refine jJ ?_|refine jK ?_|refine jL ?_|refine jM (by assumption) ?_|refine jN (by assumption) rfl ?_|refine jO (by assumption) ?_|refine jP (by assumption) rfl ?_|refine jQ ?_|refine jR ?_|refine jS ?_|refine jT ?_|refine jU (by assumption) rfl ?_))
        refine M.idxLV_i (lrr.keep kqt (fun _ _ _ h => h)) rfl (by omega) (by simp; omega) (x := (regs.map (valW N env))[i]) (by rw [Int.toNat_natCast]; exact List.getElem?_eq_getElem hil) (fun bb oo hA hcc => ?_)
        refine M.load_i hcc ?_
        refine M.field_i ?_
        refine M.arr_i (by omega) (by omega) ?_
        have e0 : 0 + 0 + (i : Int).toNat * 1 = i := by omega
        rw [e0]
        refine M.store_i bt (by simp; omega) rfl (fun wu bu ku su => ?_)
        have hiW : i < ((regs.map (valW N env)).map vw).length := by simp; omega
        have fs := fill_set (tail := [.slice U2 (cells.map (valW N env)).length q2, vi pc, vi steps, vi calls, vi en, vi code, vw 0, .slice X xn xc, .slice Y yn yc, vi dev.ep]) (ys := List.replicate 8 (vw 0)) (by simp [h8]) hiW
        rw [show ((regs.map (valW N env)).map vw)[i] = vw (regs.map (valW N env))[i] from List.getElem_map _] at fs
        rw [fs] at bu
        (repeat (first|refine ja ?_|refine jb ?_|refine jc ?_|refine jd ?_|refine je ?_|refine jf ?_|refine jg ?_|refine jh ?_|refine ji ?_|refine jj ?_|refine jk ?_|refine jl ?_|refine jm ?_|refine jn ?_|refine jo ?_|refine jp ?_|refine jq ?_|refine jr ?_|refine js ?_|refine jt ?_|refine ju ?_|refine jv ?_|refine jw ?_|refine jx ?_|refine jy ?_|refine jz ?_|refine jA ?_|refine jB ?_|refine jC ?_|refine jD ?_|refine jE ?_|refine jF ?_|refine jG ?_|refine jH ?_|refine jI ?_|refine jJ ?_|refine jK ?_|refine jL ?_|refine jM (by assumption) ?_|refine jN (by assumption) rfl ?_|refine jO (by assumption) ?_|refine jP (by assumption) rfl ?_|refine jQ ?_|refine jR ?_|refine jS ?_|refine jT ?_|refine jU (by assumption) rfl ?_))
        exact hK (8 - (i + 1)) _ _ (by show 8 - (i + 1) < 8 - i; omega) ⟨i + 1, rfl, by omega, rfl, bu, kt.trans ku (fun _ _ h => h)⟩
      have : i = 8 := by omega
      subst this
      have bn : Blk wt wq.heap.size [vw (valW N env r0), vw (valW N env r1), vw (valW N env r2), vw (valW N env r3), vw (valW N env r4), vw (valW N env r5), vw (valW N env r6), vw (valW N env r7), .slice U2 (cells.map (valW N env)).length q2, vi pc, vi steps, vi calls, vi en, vi code, vw 0, .slice X xn xc, .slice Y yn yc, vi dev.ep] := by rw [hrs] at bt; exact bt
      have b2 := b2.keep kt (fun h => by omega)
      have b3 := b3.keep kt (fun h => by omega)
      clear hK
      have qt := kqt.size
      have kr2 := kqt
      refine M.lss_f (by omega) ?_
      refine M.cond_f ?_
      refine M.share_j (fun vals w' => Blk w' wq.heap.size [vw (valW N env r0), vw (valW N env r1), vw (valW N env r2), vw (valW N env r3), vw (valW N env r4), vw (valW N env r5), vw (valW N env r6), vw (valW N env r7), .slice U2 (cells.map (valW N env)).length q2, vi pc, vi steps, vi calls, vi en, vi code, vw (if en = 1 then valW N env value else 0), .slice X xn xc, .slice Y yn yc, vi dev.ep] ∧ Keep wt w' (· = wq.heap.size)) ?_ ?_
      · rintro vals wu ⟨bu, ku⟩ _
        have kqu : Keep wq wu No := kqt.trans ku (fun b hb h => by omega)
        have qu := kqu.size
        have b3 := b3.keep ku (fun h => by omega)
        refine M.loop_i (σ := Nat) (fun n vals w' => ∃ i : Nat, n = conds.length - i ∧ i ≤ conds.length ∧ vals = [.bool (((conds.map (valW N env)).take i).all (fun x => decide (x = 1))), vi i] ∧ w' = wu) id conds.length ⟨0, by omega, by omega, by simp, rfl⟩ ?_
        rintro n vals wv K ⟨i, rfl, hi, rfl, rfl⟩ hK _
        simp only [List.getD_cons_zero, List.getD_cons_succ]
        have elk : (conds.map (valW N env)).length = conds.length := List.length_map _
        by_cases hlt : i < conds.length
        · have hlt' : i < (conds.map (valW N env)).length := by simpa using hlt
          have et : (conds.map (valW N env)).take (i + 1) = (conds.map (valW N env)).take i ++ [(conds.map (valW N env))[i]] := List.take_succ_eq_append_getElem hlt'
          have fin : ∀ v, v = .bool (((conds.map (valW N env)).take (i + 1)).all (fun x => decide (x = 1))) → K [v, vi (i + 1)] wv := fun v hv => hK (conds.length - (i + 1)) _ _ (by show conds.length - (i + 1) < conds.length - i; omega) ⟨i + 1, rfl, by omega, by rw [hv]; rfl, rfl⟩
          rw [et, List.all_append, List.all_cons, List.all_nil, Bool.and_true] at fin
          (repeat (first|refine ja ?_|refine jb ?_|refine jc ?_|refine jd ?_|refine je ?_|refine jf ?_|refine jg ?_|refine jh ?_|refine ji ?_|refine jj ?_|refine jk ?_|refine jl ?_|refine jm ?_|refine jn ?_|refine jo ?_|refine jp ?_|refine jq ?_|refine jr ?_|refine js ?_|refine jt ?_|refine ju ?_|refine jv ?_|refine jw ?_|refine jx ?_|refine jy ?_|refine jz ?_|refine jA ?_|refine jB ?_|refine jC ?_|refine jD ?_|refine jE ?_|refine jF ?_|refine jG ?_|refine jH ?_|refine jI ?_|refine jJ ?_|refine jK ?_|refine jL ?_|refine jM (by assumption) ?_|refine jN (by assumption) rfl ?_|refine jO (by assumption) ?_|refine jP (by assumption) rfl ?_|refine jQ ?_|refine jR ?_|refine jS ?_|refine jT ?_|refine jU (by assumption) rfl ?_))
          cases hb : ((conds.map (valW N env)).take i).all (fun x => decide (x = 1)) with
          | true =>
            rw [hb] at fin
            (repeat (first|refine ja ?_|refine jb ?_|refine jc ?_|refine jd ?_|refine je ?_|refine jf ?_|refine jg ?_|refine jh ?_|refine ji ?_|refine jj ?_|refine jk ?_|refine jl ?_|refine jm ?_|refine jn ?_|refine jo ?_|refine jp ?_|refine jq ?_|refine jr ?_|refine js ?_|refine jt ?_|refine ju ?_|refine jv ?_|refine jw ?_|refine jx ?_|refine jy ?_|refine jz ?_|refine jA ?_|refine jB ?_|refine jC ?_|refine jD ?_|refine jE ?_|refine jF ?_|refine jG ?_|refine jH ?_|refine jI ?_|refine jJ ?_|refine jK ?_|refine jL ?_|refine jM (by assumption) ?_|refine jN (by assumption) rfl ?_|refine jO (by assumption) ?_|refine jP (by assumption) rfl ?_|refine jQ ?_|refine jR ?_|refine jS ?_|refine jT ?_|refine jU (by assumption) rfl ?_))
            refine M.idxLV_i (lkr.keep kqu (fun _ _ _ h => h)) rfl (by omega) (by omega) (x := (conds.map (valW N env))[i]) (by rw [Int.toNat_natCast]; exact List.getElem?_eq_getElem hlt') (fun bb oo hA hcc => ?_)
            (repeat (first|refine ja ?_|refine jb ?_|refine jc ?_|refine jd ?_|refine je ?_|refine jf ?_|refine jg ?_|refine jh ?_|refine ji ?_|refine jj ?_|refine jk ?_|refine jl ?_|refine jm ?_|refine jn ?_|refine jo ?_|refine jp ?_|refine jq ?_|refine jr ?_|refine js ?_|refine jt ?_|refine ju ?_|refine jv ?_|refine jw ?_|refine jx ?_|refine jy ?_|refine jz ?_|refine jA ?_|refine jB ?_|refine jC ?_|refine jD ?_|refine jE ?_|refine jF ?_|refine jG ?_|refine jH ?_|refine jI ?_|refine jJ ?_|refine jK ?_|refine jL ?_|refine jM (by assumption) ?_|refine jN (by assumption) rfl ?_|refine jO (by assumption) ?_|refine jP (by assumption) rfl ?_|refine jQ ?_|refine jR ?_|refine jS ?_|refine jT ?_|refine jU (by assumption) rfl ?_))
            change M.bin .eql (vw (conds.map (valW N env))[i]) (vw 1) _ _
            refine M.eqlW_i ?_
            (repeat (first|refine ja ?_|refine jb ?_|refine jc ?_|refine jd ?_|refine je ?_|refine jf ?_|refine jg ?_|refine jh ?_|refine ji ?_|refine jj ?_|refine jk ?_|refine jl ?_|refine jm ?_|refine jn ?_|refine jo ?_|refine jp ?_|refine jq ?_|refine jr ?_|refine js ?_|refine jt ?_|refine ju ?_|refine jv ?_|refine jw ?_|refine jx ?_|refine jy ?_|refine jz ?_|refine jA ?_|refine jB ?_|refine jC ?_|refine jD ?_|refine jE ?_|refine jF ?_|refine jG ?_|refine jH ?_|refine jI ?_|refine jJ ?_|refine jK ?_|refine jL ?_|refine jM (by assumption) ?_|refine jN (by assumption) rfl ?_|refine jO (by assumption) ?_|refine jP (by assumption) rfl ?_|refine jQ ?_|refine jR ?_|refine jS ?_|refine jT ?_|refine jU (by assumption) rfl ?_))
            exact fin _ (by simp)
          | false =>
            rw [hb] at fin
            (repeat (first|refine ja ?_|refine jb ?_|refine jc ?_|refine jd ?_|refine je ?_|refine jf ?_|refine jg ?_|refine jh ?_|refine ji ?_|refine jj ?_|refine jk ?_|refine jl ?_|refine jm ?_|refine jn ?_|refine jo ?_|refine jp ?_|refine jq ?_|refine jr ?_|refine js ?_|refine jt ?_|refine ju ?_|refine jv ?_|refine jw ?_|refine jx ?_|refine jy ?_|refine jz ?_|refine jA ?_|refine jB ?_|refine jC ?_|refine jD ?_|refine jE ?_|refine jF ?_|refine jG ?_|refine jH ?_|refine jI ?_|refine jJ ?_|refine jK ?_|refine jL ?_|refine jM (by assumption) ?_|refine jN (by assumption) rfl ?_|refine jO (by assumption) ?_|refine jP (by assumption) rfl ?_|refine jQ ?_|refine jR ?_|refine jS ?_|refine jT ?_|refine jU (by assumption) rfl ?_))
            exact fin _ (by simp)
        · have : i = conds.length := by omega
          subst this
          have ho : ((conds.map (valW N env)).take conds.length).all (fun x => decide (x = 1)) = stHolds N env ⟨regs, cells, pc, steps, calls, en, code, value, dev, conds⟩ := by
            unfold stHolds
            rw [List.take_of_length_le (by simp)]
          rw [ho]
          (repeat (first|refine ja ?_|refine jb ?_|refine jc ?_|refine jd ?_|refine je ?_|refine jf ?_|refine jg ?_|refine jh ?_|refine ji ?_|refine jj ?_|refine jk ?_|refine jl ?_|refine jm ?_|refine jn ?_|refine jo ?_|refine jp ?_|refine jq ?_|refine jr ?_|refine js ?_|refine jt ?_|refine ju ?_|refine jv ?_|refine jw ?_|refine jx ?_|refine jy ?_|refine jz ?_|refine jA ?_|refine jB ?_|refine jC ?_|refine jD ?_|refine jE ?_|refine jF ?_|refine jG ?_|refine jH ?_|refine jI ?_|refine jJ ?_|refine jK ?_|refine jL ?_|refine jM (by assumption) ?_|refine jN (by assumption) rfl ?_|refine jO (by assumption) ?_|refine jP (by assumption) rfl ?_|refine jQ ?_|refine jR ?_|refine jS ?_|refine jT ?_|refine jU (by assumption) rfl ?_))
          refine M.loadAll_i bu rfl ?_
          refine M.storeAll_i b3 rfl rfl (List.all_eq_true.1 rfl) (fun wz bz kz sz => ?_)
          refine M.loadAll_i bz rfl ?_
          refine ⟨_, rfl, ⟨by simp [stOf, h8], _, _, _, by subst hrs; rfl, ?_, ?_⟩, (kq.trans kqu (fun _ _ h => h)).trans kz (fun b hb h => by omega)⟩
          · exact ((lc.keep kqu (fun _ _ _ h => h)).keep kz (fun b hb h e => by have h : w6.heap.size ≤ b := h; omega)).mono (fun b hb h => by have h : w6.heap.size ≤ b := h; show w.heap.size ≤ b; omega)
          · exact ((hdO.keep kqu (fun _ _ _ h => h)).keep kz (fun b hb h e => by have h : w8.heap.size ≤ b := h; omega)).mono (fun b hb h => by have h : w8.heap.size ≤ b := h; show w.heap.size ≤ b; omega)
      · intro K3 hK3
        (repeat (first|refine ja ?_|refine jb ?_|refine jc ?_|refine jd ?_|refine je ?_|refine jf ?_|refine jg ?_|refine jh ?_|refine ji ?_|refine jj ?_|refine jk ?_|refine jl ?_|refine jm ?_|refine jn ?_|refine jo ?_|refine jp ?_|refine jq ?_|refine jr ?_|refine js ?_|refine jt ?_|refine ju ?_|refine jv ?_|refine jw ?_|refine jx ?_|refine jy ?_|refine jz ?_|refine jA ?_|refine jB ?_|refine jC ?_|refine jD ?_|refine jE ?_|refine jF ?_|refine jG ?_|refine jH ?_|refine jI ?_|refine jJ ?_|refine jK ?_|refine jL ?_|refine jM (by assumption) ?_|refine jN (by assumption) rfl ?_|refine jO (by assumption) ?_|refine jP (by assumption) rfl ?_|refine jQ ?_|refine jR ?_|refine jS ?_|refine jT ?_|refine jU (by assumption) rfl ?_))
        refine M.wat_i (l5r.keep kr2 (fun b hb h e => by have h : w3.heap.size ≤ b ∧ b < w4.heap.size := h; omega)) rfl hvi.1 (by rw [valsU_len]; exact hvi.2) (fun bb oo hcc => ?_)
        refine M.load_i hcc ?_
        rw [valW_at hval2]
        (repeat (first|refine ja ?_|refine jb ?_|refine jc ?_|refine jd ?_|refine je ?_|refine jf ?_|refine jg ?_|refine jh ?_|refine ji ?_|refine jj ?_|refine jk ?_|refine jl ?_|refine jm ?_|refine jn ?_|refine jo ?_|refine jp ?_|refine jq ?_|refine jr ?_|refine js ?_|refine jt ?_|refine ju ?_|refine jv ?_|refine jw ?_|refine jx ?_|refine jy ?_|refine jz ?_|refine jA ?_|refine jB ?_|refine jC ?_|refine jD ?_|refine jE ?_|refine jF ?_|refine jG ?_|refine jH ?_|refine jI ?_|refine jJ ?_|refine jK ?_|refine jL ?_|refine jM (by assumption) ?_|refine jN (by assumption) rfl ?_|refine jO (by assumption) ?_|refine jP (by assumption) rfl ?_|refine jQ ?_|refine jR ?_|refine jS ?_|refine jT ?_|refine jU (by assumption) rfl ?_))
        refine M.store_i bn (by simp) rfl (fun wy by_ ky sy => ?_)
        exact hK3 _ _ ⟨by rw [if_pos hen]; exact by_, ky⟩
    · have hval : (decide (en = 1) && !isN N value) = false := by rw [decide_eq_false hen]; rfl
      obtain ⟨wq, hwq⟩ : ∃ wq, wq = w11 := ⟨_, rfl⟩
      subst hwq
      have kq := k011
      have kw := k911
      have qw := kw.size
      have hbad : stBad N ⟨regs, cells, pc, steps, calls, en, code, value, dev, conds⟩ = false := by rw [hst, h1, h2, h3, h4, hval]; rfl
      rw [hbad]
      obtain ⟨rfl, hdO⟩ := hdok h4
      have hdO := hdO.keep kw (fun _ _ _ h => h)
      have lr : LV vw wq (w5.heap.size ≤ ·) u1 (regs.map (valW N env)) := by rw [h1] at lr; exact lr
      have lc : LV vw wq (w6.heap.size ≤ ·) u2 (cells.map (valW N env)) := by rw [h2] at lc; exact lc
      have lk : LV vw wq (w7.heap.size ≤ ·) u3 (conds.map (valW N env)) := by rw [h3] at lk; exact lk
      obtain ⟨U1, q1, rfl, lrr, _⟩ := id lr
      obtain ⟨U2, q2, rfl, _, _⟩ := id lc
      obtain ⟨U3, q3, rfl, lkr, _⟩ := id lk
      have l5 := l5.mono (D' := fun b => w3.heap.size ≤ b ∧ b < w4.heap.size) (fun b hb h => h)
      obtain ⟨U5, q5', rfl, l5r, _⟩ := id l5
      (repeat (first|refine ja ?_|refine jb ?_|refine jc ?_|refine jd ?_|refine je ?_|refine jf ?_|refine jg ?_|refine jh ?_|refine ji ?_|refine jj ?_|refine jk ?_|refine jl ?_|refine jm ?_|refine jn ?_|refine jo ?_|refine jp ?_|refine jq ?_|refine jr ?_|refine js ?_|refine jt ?_|refine ju ?_|refine jv ?_|refine jw ?_|refine jx ?_|refine jy ?_|refine jz ?_|refine jA ?_|refine jB ?_|refine jC ?_|refine jD ?_|refine jE ?_|refine jF ?_|refine jG ?_|refine jH ?_|refine jI ?_|refine jJ ?_|refine jK ?_|refine jL ?_|refine jM (by assumption) ?_|refine jN (by assumption) rfl ?_|refine jO (by assumption) ?_|refine jP (by assumption) rfl ?_|refine jQ ?_|refine jR ?_|refine jS ?_|refine jT ?_|refine jU (by assumption) rfl ?_))
      refine M.loadAll_i b11 rfl ?_
      refine M.pure_i (.agg ⟨[vw 0, vw 0, vw 0, vw 0, vw 0, vw 0, vw 0, vw 0, .slice U2 (cells.map (valW N env)).length q2, vi pc, vi steps, vi calls, vi en, vi code, vw 0, .slice X xn xc, .slice Y yn yc, vi dev.ep]⟩) (fun _ => by kernel_rfl) ?_
      refine M.new_i (l := zSt) (fun wr br kr sr => ?_)
      refine M.storeAll_i br rfl rfl (List.all_eq_true.1 rfl) (fun ws bs ks ss => ?_)
      have kqs : Keep wq ws No := kr.trans ks (fun b hb h => by omega)
      have qqs := kqs.size
      have b2 := b2.keep kqs (fun h => h)
      have b3 := b3.keep kqs (fun h => h)
      refine M.loop_i (σ := Nat) (fun m vals w' => ∃ i : Nat, m = 8 - i ∧ i ≤ 8 ∧ vals = [vi i] ∧ Blk w' wq.heap.size (((regs.map (valW N env)).map vw).take i ++ (List.replicate 8 (vw 0)).drop i ++ [.slice U2 (cells.map (valW N env)).length q2, vi pc, vi steps, vi calls, vi en, vi code, vw 0, .slice X xn xc, .slice Y yn yc, vi dev.ep]) ∧ Keep ws w' (· = wq.heap.size)) id 8
        ⟨0, rfl, by omega, rfl, bs, Keep.refl _ _⟩ ?_
      rintro m vals wt K ⟨i, rfl, hi, rfl, bt, kt⟩ hK _
      simp only [List.getD_cons_zero, List.getD_cons_succ]
      have kqt : Keep wq wt No := kqs.trans kt (fun b hb h => by omega)
      by_cases hlt : i < 8
      · have hil : i < (regs.map (valW N env)).length := by simp; omega
        (repeat (first|refine ja ?_|refine jb ?_|refine jc ?_|refine jd ?_|refine je ?_|refine jf ?_|refine jg ?_|refine jh ?_|refine ji ?_|refine jj ?_|refine jk ?_|refine jl ?_|refine jm ?_|refine jn ?_|refine jo ?_|refine jp ?_|refine jq ?_|refine jr ?_|refine js ?_|refine jt ?_|refine ju ?_|refine jv ?_|refine jw ?_|refine jx ?_|refine jy ?_|refine jz ?_|refine jA ?_|refine jB ?_|refine jC ?_|refine jD ?_|refine jE ?_|refine jF ?_|refine jG ?_|refine jH ?_|refine jI ?_|refine jJ ?_|refine jK ?_|refine jL ?_|refine jM (by assumption) ?_|refine jN (by assumption) rfl ?_|refine jO (by assumption) ?_|refine jP (by assumption) rfl ?_|refine jQ ?_|refine jR ?_|refine jS ?_|refine jT ?_|refine jU (by assumption) rfl ?_))
        refine M.idxLV_i (lrr.keep kqt (fun _ _ _ h => h)) rfl (by omega) (by simp; omega) (x := (regs.map (valW N env))[i]) (by rw [Int.toNat_natCast]; exact List.getElem?_eq_getElem hil) (fun bb oo hA hcc => ?_)
        refine M.load_i hcc ?_
        refine M.field_i ?_
        refine M.arr_i (by omega) (by omega) ?_
        have e0 : 0 + 0 + (i : Int).toNat * 1 = i := by omega
        rw [e0]
        refine M.store_i bt (by simp; omega) rfl (fun wu bu ku su => ?_)
        have hiW : i < ((regs.map (valW N env)).map vw).length := by simp; omega
        have fs := fill_set (tail := [.slice U2 (cells.map (valW N env)).length q2, vi pc, vi steps, vi calls, vi en, vi code, vw 0, .slice X xn xc, .slice Y yn yc, vi dev.ep]) (ys := List.replicate 8 (vw 0)) (by simp [h8]) hiW
        rw [show ((regs.map (valW N env)).map vw)[i] = vw (regs.map (valW N env))[i] from List.getElem_map _] at fs
        rw [fs] at bu
        (repeat (first|refine ja ?_|refine jb ?_|refine jc ?_|refine jd ?_|refine je ?_|refine jf ?_|refine jg ?_|refine jh ?_|refine ji ?_|refine jj ?_|refine jk ?_|refine jl ?_|refine jm ?_|refine jn ?_|refine jo ?_|refine jp ?_|refine jq ?_|refine jr ?_|refine js ?_|refine jt ?_|refine ju ?_|refine jv ?_|refine jw ?_|refine jx ?_|refine jy ?_|refine jz ?_|refine jA ?_|refine jB ?_|refine jC ?_|refine jD ?_|refine jE ?_|refine jF ?_|refine jG ?_|refine jH ?_|refine jI ?_|refine jJ ?_|refine jK ?_|refine jL ?_|refine jM (by assumption) ?_|refine jN (by assumption) rfl ?_|refine jO (by assumption) ?_|refine jP (by assumption) rfl ?_|refine jQ ?_|refine jR ?_|refine jS ?_|refine jT ?_|refine jU (by assumption) rfl ?_))
        exact hK (8 - (i + 1)) _ _ (by show 8 - (i + 1) < 8 - i; omega) ⟨i + 1, rfl, by omega, rfl, bu, kt.trans ku (fun _ _ h => h)⟩
      have : i = 8 := by omega
      subst this
      have bn : Blk wt wq.heap.size [vw (valW N env r0), vw (valW N env r1), vw (valW N env r2), vw (valW N env r3), vw (valW N env r4), vw (valW N env r5), vw (valW N env r6), vw (valW N env r7), .slice U2 (cells.map (valW N env)).length q2, vi pc, vi steps, vi calls, vi en, vi code, vw 0, .slice X xn xc, .slice Y yn yc, vi dev.ep] := by rw [hrs] at bt; exact bt
      have b2 := b2.keep kt (fun h => by omega)
      have b3 := b3.keep kt (fun h => by omega)
      clear hK
      have qt := kqt.size
      have kr2 := kqt
      refine M.lss_f (by omega) ?_
      refine M.cond_f ?_
      refine M.share_j (fun vals w' => Blk w' wq.heap.size [vw (valW N env r0), vw (valW N env r1), vw (valW N env r2), vw (valW N env r3), vw (valW N env r4), vw (valW N env r5), vw (valW N env r6), vw (valW N env r7), .slice U2 (cells.map (valW N env)).length q2, vi pc, vi steps, vi calls, vi en, vi code, vw (if en = 1 then valW N env value else 0), .slice X xn xc, .slice Y yn yc, vi dev.ep] ∧ Keep wt w' (· = wq.heap.size)) ?_ ?_
      · rintro vals wu ⟨bu, ku⟩ _
        have kqu : Keep wq wu No := kqt.trans ku (fun b hb h => by omega)
        have qu := kqu.size
        have b3 := b3.keep ku (fun h => by omega)
        refine M.loop_i (σ := Nat) (fun n vals w' => ∃ i : Nat, n = conds.length - i ∧ i ≤ conds.length ∧ vals = [.bool (((conds.map (valW N env)).take i).all (fun x => decide (x = 1))), vi i] ∧ w' = wu) id conds.length ⟨0, by omega, by omega, by simp, rfl⟩ ?_
        rintro n vals wv K ⟨i, rfl, hi, rfl, rfl⟩ hK _
        simp only [List.getD_cons_zero, List.getD_cons_succ]
        have elk : (conds.map (valW N env)).length = conds.length := List.length_map _
        by_cases hlt : i < conds.length
        · have hlt' : i < (conds.map (valW N env)).length := by simpa using hlt
          have et : (conds.map (valW N env)).take (i + 1) = (conds.map (valW N env)).take i ++ [(conds.map (valW N env))[i]] := List.take_succ_eq_append_getElem hlt'
          have fin : ∀ v, v = .bool (((conds.map (valW N env)).take (i + 1)).all (fun x => decide (x = 1))) → K [v, vi (i + 1)] wv := fun v hv => hK (conds.length - (i + 1)) _ _ (by show conds.length - (i + 1) < conds.length - i; omega) ⟨i + 1, rfl, by omega, by rw [hv]; rfl, rfl⟩
          rw [et, List.all_append, List.all_cons, List.all_nil, Bool.and_true] at fin
          (repeat (first|refine ja ?_|refine jb ?_|refine jc ?_|refine jd ?_|refine je ?_|refine jf ?_|refine jg ?_|refine jh ?_|refine ji ?_|refine jj ?_|refine jk ?_|refine jl ?_|refine jm ?_|refine jn ?_|refine jo ?_|refine jp ?_|refine jq ?_|refine jr ?_|refine js ?_|refine jt ?_|refine ju ?_|refine jv ?_|refine jw ?_|refine jx ?_|refine jy ?_|refine jz ?_|refine jA ?_|refine jB ?_|refine jC ?_|refine jD ?_|refine jE ?_|refine jF ?_|refine jG ?_|refine jH ?_|refine jI ?_|refine jJ ?_|refine jK ?_|refine jL ?_|refine jM (by assumption) ?_|refine jN (by assumption) rfl ?_|refine jO (by assumption) ?_|refine jP (by assumption) rfl ?_|refine jQ ?_|refine jR ?_|refine jS ?_|refine jT ?_|refine jU (by assumption) rfl ?_))
          cases hb : ((conds.map (valW N env)).take i).all (fun x => decide (x = 1)) with
          | true =>
            rw [hb] at fin
            (repeat (first|refine ja ?_|refine jb ?_|refine jc ?_|refine jd ?_|refine je ?_|refine jf ?_|refine jg ?_|refine jh ?_|refine ji ?_|refine jj ?_|refine jk ?_|refine jl ?_|refine jm ?_|refine jn ?_|refine jo ?_|refine jp ?_|refine jq ?_|refine jr ?_|refine js ?_|refine jt ?_|refine ju ?_|refine jv ?_|refine jw ?_|refine jx ?_|refine jy ?_|refine jz ?_|refine jA ?_|refine jB ?_|refine jC ?_|refine jD ?_|refine jE ?_|refine jF ?_|refine jG ?_|refine jH ?_|refine jI ?_|refine jJ ?_|refine jK ?_|refine jL ?_|refine jM (by assumption) ?_|refine jN (by assumption) rfl ?_|refine jO (by assumption) ?_|refine jP (by assumption) rfl ?_|refine jQ ?_|refine jR ?_|refine jS ?_|refine jT ?_|refine jU (by assumption) rfl ?_))
            refine M.idxLV_i (lkr.keep kqu (fun _ _ _ h => h)) rfl (by omega) (by omega) (x := (conds.map (valW N env))[i]) (by rw [Int.toNat_natCast]; exact List.getElem?_eq_getElem hlt') (fun bb oo hA hcc => ?_)
            (repeat (first|refine ja ?_|refine jb ?_|refine jc ?_|refine jd ?_|refine je ?_|refine jf ?_|refine jg ?_|refine jh ?_|refine ji ?_|refine jj ?_|refine jk ?_|refine jl ?_|refine jm ?_|refine jn ?_|refine jo ?_|refine jp ?_|refine jq ?_|refine jr ?_|refine js ?_|refine jt ?_|refine ju ?_|refine jv ?_|refine jw ?_|refine jx ?_|refine jy ?_|refine jz ?_|refine jA ?_|refine jB ?_|refine jC ?_|refine jD ?_|refine jE ?_|refine jF ?_|refine jG ?_|refine jH ?_|refine jI ?_|refine jJ ?_|refine jK ?_|refine jL ?_|refine jM (by assumption) ?_|refine jN (by assumption) rfl ?_|refine jO (by assumption) ?_|refine jP (by assumption) rfl ?_|refine jQ ?_|refine jR ?_|refine jS ?_|refine jT ?_|refine jU (by assumption) rfl ?_))
            change M.bin .eql (vw (conds.map (valW N env))[i]) (vw 1) _ _
            refine M.eqlW_i ?_
            (repeat (first|refine ja ?_|refine jb ?_|refine jc ?_|refine jd ?_|refine je ?_|refine jf ?_|refine jg ?_|refine jh ?_|refine ji ?_|refine jj ?_|refine jk ?_|refine jl ?_|refine jm ?_|refine jn ?_|refine jo ?_|refine jp ?_|refine jq ?_|refine jr ?_|refine js ?_|refine jt ?_|refine ju ?_|refine jv ?_|refine jw ?_|refine jx ?_|refine jy ?_|refine jz ?_|refine jA ?_|refine jB ?_|refine jC ?_|refine jD ?_|refine jE ?_|refine jF ?_|refine jG ?_|refine jH ?_|refine jI ?_|refine jJ ?_|refine jK ?_|refine jL ?_|refine jM (by assumption) ?_|refine jN (by assumption) rfl ?_|refine jO (by assumption) ?_|refine jP (by assumption) rfl ?_|refine jQ ?_|refine jR ?_|refine jS ?_|refine jT ?_|refine jU (by assumption) rfl ?_))
            exact fin _ (by simp)
          | false =>
            rw [hb] at fin
            (repeat (first|refine ja ?_|refine jb ?_|refine jc ?_|refine jd ?_|refine je ?_|refine jf ?_|refine jg ?_|refine jh ?_|refine ji ?_|refine jj ?_|refine jk ?_|refine jl ?_|refine jm ?_|refine jn ?_|refine jo ?_|refine jp ?_|refine jq ?_|refine jr ?_|refine js ?_|refine jt ?_|refine ju ?_|refine jv ?_|refine jw ?_|refine jx ?_|refine jy ?_|refine jz ?_|refine jA ?_|refine jB ?_|refine jC ?_|refine jD ?_|refine jE ?_|refine jF ?_|refine jG ?_|refine jH ?_|refine jI ?_|refine jJ ?_|refine jK ?_|refine jL ?_|refine jM (by assumption) ?_|refine jN (by assumption) rfl ?_|refine jO (by assumption) ?_|refine jP (by assumption) rfl ?_|refine jQ ?_|refine jR ?_|refine jS ?_|refine jT ?_|refine jU (by assumption) rfl ?_))
            exact fin _ (by simp)
        · have : i = conds.length := by omega
          subst this
          have ho : ((conds.map (valW N env)).take conds.length).all (fun x => decide (x = 1)) = stHolds N env ⟨regs, cells, pc, steps, calls, en, code, value, dev, conds⟩ := by
            unfold stHolds
            rw [List.take_of_length_le (by simp)]
          rw [ho]
          (repeat (first|refine ja ?_|refine jb ?_|refine jc ?_|refine jd ?_|refine je ?_|refine jf ?_|refine jg ?_|refine jh ?_|refine ji ?_|refine jj ?_|refine jk ?_|refine jl ?_|refine jm ?_|refine jn ?_|refine jo ?_|refine jp ?_|refine jq ?_|refine jr ?_|refine js ?_|refine jt ?_|refine ju ?_|refine jv ?_|refine jw ?_|refine jx ?_|refine jy ?_|refine jz ?_|refine jA ?_|refine jB ?_|refine jC ?_|refine jD ?_|refine jE ?_|refine jF ?_|refine jG ?_|refine jH ?_|refine jI ?_|refine jJ ?_|refine jK ?_|refine jL ?_|refine jM (by assumption) ?_|refine jN (by assumption) rfl ?_|refine jO (by assumption) ?_|refine jP (by assumption) rfl ?_|refine jQ ?_|refine jR ?_|refine jS ?_|refine jT ?_|refine jU (by assumption) rfl ?_))
          refine M.loadAll_i bu rfl ?_
          refine M.storeAll_i b3 rfl rfl (List.all_eq_true.1 rfl) (fun wz bz kz sz => ?_)
          refine M.loadAll_i bz rfl ?_
          refine ⟨_, rfl, ⟨by simp [stOf, h8], _, _, _, by subst hrs; rfl, ?_, ?_⟩, (kq.trans kqu (fun _ _ h => h)).trans kz (fun b hb h => by omega)⟩
          · exact ((lc.keep kqu (fun _ _ _ h => h)).keep kz (fun b hb h e => by have h : w6.heap.size ≤ b := h; omega)).mono (fun b hb h => by have h : w6.heap.size ≤ b := h; show w.heap.size ≤ b; omega)
          · exact ((hdO.keep kqu (fun _ _ _ h => h)).keep kz (fun b hb h e => by have h : w8.heap.size ≤ b := h; omega)).mono (fun b hb h => by have h : w8.heap.size ≤ b := h; show w.heap.size ≤ b; omega)
      · intro K3 hK3
        (repeat (first|refine ja ?_|refine jb ?_|refine jc ?_|refine jd ?_|refine je ?_|refine jf ?_|refine jg ?_|refine jh ?_|refine ji ?_|refine jj ?_|refine jk ?_|refine jl ?_|refine jm ?_|refine jn ?_|refine jo ?_|refine jp ?_|refine jq ?_|refine jr ?_|refine js ?_|refine jt ?_|refine ju ?_|refine jv ?_|refine jw ?_|refine jx ?_|refine jy ?_|refine jz ?_|refine jA ?_|refine jB ?_|refine jC ?_|refine jD ?_|refine jE ?_|refine jF ?_|refine jG ?_|refine jH ?_|refine jI ?_|refine jJ ?_|refine jK ?_|refine jL ?_|refine jM (by assumption) ?_|refine jN (by assumption) rfl ?_|refine jO (by assumption) ?_|refine jP (by assumption) rfl ?_|refine jQ ?_|refine jR ?_|refine jS ?_|refine jT ?_|refine jU (by assumption) rfl ?_))
        exact hK3 _ _ ⟨by rw [if_neg hen]; exact bn, Keep.refl _ _⟩
end
end Go.Proofs.Ytgbodhibflpgmaa
