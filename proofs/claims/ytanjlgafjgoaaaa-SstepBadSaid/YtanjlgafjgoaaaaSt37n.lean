import Derived.Test.YtanjlgafjgoaaaaSt37m
namespace Go.Proofs.Ytanjlgafjgoaaaa
open Go.Mw
set_option linter.unusedVariables false
set_option linter.unusedSimpArgs false
set_option maxRecDepth 100000
attribute [local irreducible] M.val M.unit M.next M.pick M.new M.nilCheck M.load1 M.loadA M.store M.fieldAddr M.indexSl M.indexArr M.slice M.makeSlice M.buildSlice M.len M.lenS M.cap M.append M.extract M.conv M.not M.neg M.bin M.shift M.eqB M.eqNil M.scat M.call M.callv M.gd M.share M.cond M.loop M.draw pureW readW Ret
attribute [local irreducible] stepN xR1 xR2 xR3 xR4 xS1 xM0 xM1 xT2
theorem vals_at {t : Sy} {c a b d : Value} (h8 : t.regs.length = 8) (k : Nat) : (t.vals c a b d)[8 + k]? = ([c, vi t.pc, vi t.steps, vi t.calls, vi t.en, vi t.code, vi t.value, a, b, vi t.dev.ep, d] : List Value)[k]? := by
  unfold Sy.vals
  rw [List.getElem?_append_right (by simp [h8])]
  simp [h8]
set_option maxHeartbeats 8000000 in
theorem awake37_ret (w : World) : Ret Try.prog 5 #[] w (fun v w' => v = .bool true ∧ Keep w w' No) := by
  have d1 : devN 200 [] [5, 6] [] = (xN2, [0, 1], 0) := by kernel_rfl
  have d2 : constN 200 xN2 64 0 = (xN3, 2, 0) := by kernel_rfl
  refine ok5 _ _ ?_
  unfold sh5
  refine M.call_i (new_ret 200 w) ?_; rintro _ w1 ⟨F1, p, rfl, hd1, hF1, k1⟩
  rw [if_neg (by omega)] at hd1
  (repeat (first|refine ja ?_|refine jb ?_|refine jc ?_|refine jd ?_|refine je ?_|refine jf ?_|refine jg ?_|refine jh ?_|refine ji ?_|refine jj ?_|refine jk ?_|refine jl ?_|refine jm ?_|refine jn ?_|refine jo ?_|refine jp ?_|refine jq ?_|refine jr ?_|refine js ?_|refine jt ?_|refine ju ?_|refine jv ?_|refine jw ?_|refine jx ?_|refine jy ?_|refine jz ?_|refine jA ?_|refine jB ?_|refine jC ?_|refine jD ?_|refine jE ?_|refine jF ?_|refine jG ?_|refine jH ?_|refine jI ?_|refine jJ ?_|refine jK ?_|refine jL ?_|refine jM (by assumption) ?_|refine jN (by assumption) rfl ?_|refine jO (by assumption) ?_|refine jP (by assumption) rfl ?_|refine jQ ?_|refine jR ?_|refine jS ?_|refine jT ?_|refine jU (by assumption) rfl ?_))
  refine M.buildSlice_i (([5, 6] : List W64).map vw) (by kernel_rfl) (fun w2 b2 k2 s2 => ?_)
  have hd2 := hd1.keepN k2
  have k02 := k1.trans k2 (fun _ _ h => h)
  have hnF : ∀ x, w.heap.size ≤ x → True := fun _ _ => trivial
  have hl2 : LV vw w2 (fun x => x = w1.heap.size) (.slice (some ⟨w1.heap.size, 0, none⟩) 2 2) ([5, 6] : List W64) := lvw37_of_blk b2 rfl rfl
  refine M.call_i (dev37_ok hd2 hl2 (by decide) (fun x hx hf => by have := hd1.lt hf; omega) d1) ?_; rintro _ w3 ⟨F3, A3, c3, rfl, hd3, hF3, k3, l3⟩
  refine M.extract_i (v := .agg ⟨[.slice A3 2 c3, .slice none 0 0, vi 0]⟩) rfl ?_
  refine M.extract_i (v := vi 0) rfl ?_
  refine M.new_i (l := [.slice none 0 0, .slice none 0 0, vi 0]) (fun w4 b4 k4 s4 => ?_)
  refine M.storeAll_i (vs := [.slice A3 2 c3, .slice none 0 0, vi 0]) b4 rfl rfl (by
    simp only [List.mem_cons, List.not_mem_nil, or_false, forall_eq_or_imp, forall_eq]
    exact ⟨rfl, rfl, rfl⟩) (fun w5 b5 k5 s5 => ?_)
  have k35 : Keep w3 w5 No := k4.trans k5 (fun x hx e => by have e : x = w3.heap.size := e; omega)
  have hd5 := hd3.keepN k35
  have l5 := l3.keep k35 (fun _ _ _ h => h)
  refine M.loadAll_i b5 rfl ?_
  have hv5 : SDvO w5 (fun x => ¬ F3 x) (.slice A3 2 c3) (.slice none 0 0) ⟨[0, 1], [], 0⟩ := ⟨l5, LN.nil _ _ _⟩
  refine M.call_i (start37_ok (d := ⟨[0, 1], [], 0⟩) hd5 hv5 (LV.nil vi w5 (fun x => ¬ F3 x)) (fun _ h => h) 0 d2) ?_; rintro _ w6 ⟨F6, v6, rfl, hd6, hF6, k6, hs6⟩
  refine M.extract_i (v := v6) rfl ?_
  refine M.extract_i (v := vi 0) rfl ?_
  have hlow : ∀ x, x < w.heap.size → ¬ F6 x := fun x hx h => by
    have q1 := k1.size; have q2 := k2.size; have q3 := k3.size; have q5 := k35.size
    have h1 := hF6 x (by omega) h
    have h2 := hF3 x (by omega) h1
    have := hF1 x h2
    omega
  have k06 : Keep w w6 No := by
    have q1 := k1.size; have q2 := k2.size; have q3 := k3.size; have q5 := k35.size
    refine ((k02.trans k3 (fun x hx h => ?_)).trans k35 (fun _ _ h => h)).trans k6 (fun x hx h => ?_)
    · have := hF1 x h; omega
    · have := hF1 x (hF3 x (by omega) h); omega
  obtain ⟨h8, c, a, b, d, rfl, hc, hdv, hcd⟩ := id hs6
  have o1 := LV.one hc
  have o2 := LV.one hdv.1
  have o3 := LN.one hdv.2
  have o4 := LV.one hcd
  refine M.new_i (l := zSy) (fun w7 b7 k7 s7 => ?_)
  refine M.storeAll_i (vs := [vi 2, vi 2, vi 2, vi 2, vi 2, vi 2, vi 2, vi 2, c, vi 0, vi 0, vi 0, vi 0, vi 0, vi (-1), a, b, vi 0, d]) b7 rfl rfl (vals_one (s := xS) o1 o2 o3 o4) (fun w8 b8 k8 s8 => ?_)
  have k68 : Keep w6 w8 No := k7.trans k8 (fun x hx e => by have e : x = w6.heap.size := e; omega)
  have hT : ¬ F6 w6.heap.size := fun h => by have := hd6.lt h; omega
  refine M.pure_i (.agg ⟨[vi 9, vi 0, vi 0, vi 0, vw 0]⟩) (fun _ => by kernel_rfl) ?_
  refine M.pure_i (.agg ⟨[vi 6, vi 0, vi 0, vi 0, vw 0]⟩) (fun _ => by kernel_rfl) ?_
  refine M.pure_i (.agg ⟨[vi 10, vi 1, vi 0, vi 0, vw 0]⟩) (fun _ => by kernel_rfl) ?_
  refine M.buildSlice_i (xCode.flatMap Ins.cells) (by kernel_rfl) (fun w9 b9 k9 s9 => ?_)
  have b8' := b8.keep k9 (fun h => h)
  have k69 := k68.trans k9 (fun _ _ h => h)
  have hd9 := hd6.keepN k69
  have q68 := k68.size
  have hCF : ¬ F6 w8.heap.size := fun h => by have := hd6.lt h; omega
  have hTl : w6.heap.size < w8.heap.size := b8.lt
  have hcode9 : LN Ins.cells w9 (fun x => ¬ F6 x ∧ x ≠ w6.heap.size) (.slice (some ⟨w8.heap.size, 0, none⟩) 3 3) xCode := ⟨_, _, rfl, Row.of_blk' b9 ⟨hCF, by omega⟩, Nat.le_refl _⟩
  have l6 : L3 w6 (fun x => ¬ F6 x ∧ x ≠ w6.heap.size) c a b d xS := L3.mono (D := fun x => ¬ F6 x) ⟨hc, hdv, hcd⟩ (fun x hx h => ⟨h, by omega⟩)
  have l9 := l6.keep k69 (fun _ _ _ h => h)
  have w3d : ∀ {w' : World} {F' : Nat → Prop} {xs : List Ins} {v : Value}, LN Ins.cells w' (fun x => ¬ F' x ∧ x ≠ w6.heap.size) v xs → LN Ins.cells w' (fun x => ¬ F' x) v xs := fun h => h.mono (fun x _ h => h.1)
  -- the first step
  refine M.loadAll_i b8' rfl ?_
  have hs9 : SyO w9 (fun x => ¬ F6 x) (.agg ⟨[vi 2, vi 2, vi 2, vi 2, vi 2, vi 2, vi 2, vi 2, c, vi 0, vi 0, vi 0, vi 0, vi 0, vi (-1), a, b, vi 0, d]⟩) xS := (SyO.of3 (t := xS) rfl l9 rfl rfl rfl).mono (fun x _ h => h.1)
  refine M.call_i (Step37_ok hd9 hcode9 (by decide) hs9 bxS.1 bxS.2 (by decide) eR1) ?_; rintro _ w10 ⟨F10, v10, rfl, hd10, hF10, k10, hO10⟩
  refine M.extract_i (v := v10) rfl ?_
  refine M.extract_i (v := vi xR1.2.1) rfl ?_
  rw [x1.1]
  obtain ⟨A10, cp10, cs10, e10, _⟩ := id hO10
  rw [x1.2.1] at e10
  rw [e10]
  (repeat (first|refine ja ?_|refine jb ?_|refine jc ?_|refine jd ?_|refine je ?_|refine jf ?_|refine jg ?_|refine jh ?_|refine ji ?_|refine jj ?_|refine jk ?_|refine jl ?_|refine jm ?_|refine jn ?_|refine jo ?_|refine jp ?_|refine jq ?_|refine jr ?_|refine js ?_|refine jt ?_|refine ju ?_|refine jv ?_|refine jw ?_|refine jx ?_|refine jy ?_|refine jz ?_|refine jA ?_|refine jB ?_|refine jC ?_|refine jD ?_|refine jE ?_|refine jF ?_|refine jG ?_|refine jH ?_|refine jI ?_|refine jJ ?_|refine jK ?_|refine jL ?_|refine jM (by assumption) ?_|refine jN (by assumption) rfl ?_|refine jO (by assumption) ?_|refine jP (by assumption) rfl ?_|refine jQ ?_|refine jR ?_|refine jS ?_|refine jT ?_|refine jU (by assumption) rfl ?_))
  rw [← e10]
  refine M.idxOut_i hO10 (by decide) x1.2.2 (fun bb oo L hL hsL => ?_)
  refine M.load19_i hsL.len19 hL ?_
  have hcode10 := hcode9.stepF k10 hF10
  have l10 := l9.stepF k10 hF10
  have n6 : ¬ F6 w6.heap.size := hT
  have q9 := k9.size; have q10 := k10.size
  have b10 := b8'.keep k10 n6
  have n10 : ¬ F10 w6.heap.size := fun h => n6 (hF10 _ (by omega) h)
  refine M.call_i (Step37_ok hd10 hcode10 (by decide) hsL bxS1.1 bxS1.2 (by decide) eR2) ?_; rintro _ w11 ⟨F11, v11, rfl, hd11, hF11, k11, hO11⟩
  refine M.extract_i (v := v11) rfl ?_
  refine M.extract_i (v := vi xR2.2.1) rfl ?_
  rw [x2.1]
  obtain ⟨A11, cp11, cs11, e11, _⟩ := id hO11
  rw [x2.2.1] at e11
  rw [e11]
  (repeat (first|refine ja ?_|refine jb ?_|refine jc ?_|refine jd ?_|refine je ?_|refine jf ?_|refine jg ?_|refine jh ?_|refine ji ?_|refine jj ?_|refine jk ?_|refine jl ?_|refine jm ?_|refine jn ?_|refine jo ?_|refine jp ?_|refine jq ?_|refine jr ?_|refine js ?_|refine jt ?_|refine ju ?_|refine jv ?_|refine jw ?_|refine jx ?_|refine jy ?_|refine jz ?_|refine jA ?_|refine jB ?_|refine jC ?_|refine jD ?_|refine jE ?_|refine jF ?_|refine jG ?_|refine jH ?_|refine jI ?_|refine jJ ?_|refine jK ?_|refine jL ?_|refine jM (by assumption) ?_|refine jN (by assumption) rfl ?_|refine jO (by assumption) ?_|refine jP (by assumption) rfl ?_|refine jQ ?_|refine jR ?_|refine jS ?_|refine jT ?_|refine jU (by assumption) rfl ?_))
  rw [← e11]
  refine M.idxOut_i hO11 (by decide) x2.2.2.2 (fun bb1 oo1 L1 hL1 hsL1 => ?_)
  refine M.load19_i hsL1.len19 hL1 ?_
  have hcode11 := hcode10.stepF k11 hF11
  have l11 := l10.stepF k11 hF11
  have q11 := k11.size
  have b11 := b10.keep k11 n10
  have n11 : ¬ F11 w6.heap.size := fun h => n10 (hF11 _ (by omega) h)
  have r11 := (hO11.r).off b11 rfl (by rw [x2.2.1]; decide)
  refine M.call_i (Step37_ok hd11 hcode11 (by decide) hsL1 bxM1.1 bxM1.2 (by decide) eR3) ?_; rintro _ w12 ⟨F12, v12, rfl, hd12, hF12, k12, hO12⟩
  refine M.extract_i (v := v12) rfl ?_
  refine M.extract_i (v := vi xR3.2.1) rfl ?_
  rw [x3.1]
  obtain ⟨A12, cp12, cs12, e12, _⟩ := id hO12
  rw [x3.2.1] at e12
  have hcode12 := hcode11.stepF k12 hF12
  have l12 := l11.stepF k12 hF12
  have r12 := r11.stepF k12 hF12
  have q12 := k12.size
  have b12 := b11.keep k12 n11
  have n12 : ¬ F12 w6.heap.size := fun h => n11 (hF12 _ (by omega) h)
  have r12n := (hO12.r).off b12 rfl (by rw [x3.2.1]; decide)
  -- the start again
  have b12 : Blk w12 w6.heap.size [vi 2, vi 2, vi 2, vi 2, vi 2, vi 2, vi 2, vi 2, c, vi 0, vi 0, vi 0, vi 0, vi 0, vi (-1), a, b, vi 0, d] := b12
  (repeat (first|refine ja ?_|refine jb ?_|refine jc ?_|refine jd ?_|refine je ?_|refine jf ?_|refine jg ?_|refine jh ?_|refine ji ?_|refine jj ?_|refine jk ?_|refine jl ?_|refine jm ?_|refine jn ?_|refine jo ?_|refine jp ?_|refine jq ?_|refine jr ?_|refine js ?_|refine jt ?_|refine ju ?_|refine jv ?_|refine jw ?_|refine jx ?_|refine jy ?_|refine jz ?_|refine jA ?_|refine jB ?_|refine jC ?_|refine jD ?_|refine jE ?_|refine jF ?_|refine jG ?_|refine jH ?_|refine jI ?_|refine jJ ?_|refine jK ?_|refine jL ?_|refine jM (by assumption) ?_|refine jN (by assumption) rfl ?_|refine jO (by assumption) ?_|refine jP (by assumption) rfl ?_|refine jQ ?_|refine jR ?_|refine jS ?_|refine jT ?_|refine jU (by assumption) rfl ?_))
  refine M.store_i b12 (by simp) rfl (fun w13 b13 k13 s13 => ?_)
  have b13 : Blk w13 w6.heap.size [vi 2, vi 2, vi 2, vi 2, vi 2, vi 2, vi 2, vi 2, c, vi 2, vi 0, vi 0, vi 0, vi 0, vi (-1), a, b, vi 0, d] := b13
  have hd13 := hd12.keep k13 (fun x hf e => n12 (by have e : x = w6.heap.size := e; rw [← e]; exact hf))
  have l13 := l12.keep k13 (fun x _ h e => h.2 e)
  have r13 := r12.keep k13 (fun x _ h e => h.2 e)
  have r13n := r12n.keep k13 (fun x _ h e => h.2 e)
  have hcode13 := hcode12.keep k13 (fun x _ h e => h.2 e)
  refine M.loadAll_i b13 rfl ?_
  have hs13 : SyO w13 (fun x => ¬ F12 x) (.agg ⟨[vi 2, vi 2, vi 2, vi 2, vi 2, vi 2, vi 2, vi 2, c, vi 2, vi 0, vi 0, vi 0, vi 0, vi (-1), a, b, vi 0, d]⟩) xSo := (SyO.of3 (t := xSo) rfl l13 rfl rfl rfl).mono (fun x _ h => h.1)
  refine M.call_i (Step37_ok hd13 hcode13 (by decide) hs13 bxSo.1 bxSo.2 (by decide) eR4) ?_; rintro _ w14 ⟨F14, v14, rfl, hd14, hF14, k14, hO14⟩
  refine M.extract_i (v := v14) rfl ?_
  refine M.extract_i (v := vi xR4.2.1) rfl ?_
  rw [x4.1]
  obtain ⟨A14, cp14, cs14, e14, _⟩ := id hO14
  rw [x4.2] at e14
  have hcode14 := hcode13.stepF k14 hF14
  have l14 := l13.stepF k14 hF14
  have r14 := r13.stepF k14 hF14
  have r14n := r13n.stepF k14 hF14
  have q13 := k13.size
  have q14 := k14.size
  have b14 := b13.keep k14 n12
  have n14 : ¬ F14 w6.heap.size := fun h => n12 (hF14 _ (by omega) h)
  (repeat (first|refine ja ?_|refine jb ?_|refine jc ?_|refine jd ?_|refine je ?_|refine jf ?_|refine jg ?_|refine jh ?_|refine ji ?_|refine jj ?_|refine jk ?_|refine jl ?_|refine jm ?_|refine jn ?_|refine jo ?_|refine jp ?_|refine jq ?_|refine jr ?_|refine js ?_|refine jt ?_|refine ju ?_|refine jv ?_|refine jw ?_|refine jx ?_|refine jy ?_|refine jz ?_|refine jA ?_|refine jB ?_|refine jC ?_|refine jD ?_|refine jE ?_|refine jF ?_|refine jG ?_|refine jH ?_|refine jI ?_|refine jJ ?_|refine jK ?_|refine jL ?_|refine jM (by assumption) ?_|refine jN (by assumption) rfl ?_|refine jO (by assumption) ?_|refine jP (by assumption) rfl ?_|refine jQ ?_|refine jR ?_|refine jS ?_|refine jT ?_|refine jU (by assumption) rfl ?_))
  refine M.arr8_i (by omega) (by omega) ?_
  refine M.store_i b14 (by simp) rfl (fun w15 b15 k15 s15 => ?_)
  have b15 : Blk w15 w6.heap.size [vi 2, vi 2, vi 2, vi 999, vi 2, vi 2, vi 2, vi 2, c, vi 2, vi 0, vi 0, vi 0, vi 0, vi (-1), a, b, vi 0, d] := b15
  have hd15 := hd14.keep k15 (fun x hf e => n14 (by have e : x = w6.heap.size := e; rw [← e]; exact hf))
  have l15 := l14.keep k15 (fun x _ h e => h.2 e)
  have r15 := r14.keep k15 (fun x _ h e => h.2 e)
  have r15n := r14n.keep k15 (fun x _ h e => h.2 e)
  have hcode15 := hcode14.keep k15 (fun x _ h e => h.2 e)
  refine M.loadAll_i b15 rfl ?_
  have hs15 : SyO w15 (fun x => ¬ F14 x) (.agg ⟨[vi 2, vi 2, vi 2, vi 999, vi 2, vi 2, vi 2, vi 2, c, vi 2, vi 0, vi 0, vi 0, vi 0, vi (-1), a, b, vi 0, d]⟩) xSi := (SyO.of3 (t := xSi) rfl l15 rfl rfl rfl).mono (fun x _ h => h.1)
  refine M.call_i (Step37_ok hd15 hcode15 (by decide) hs15 bxSi.1 bxSi.2 (by decide) x5) ?_; rintro _ w16 ⟨F16, v16, rfl, hd16, hF16, k16, hO16⟩
  refine M.extract_i (v := v16) rfl ?_
  refine M.extract_i (v := vi 11) rfl ?_
  have hcode16 := hcode15.stepF k16 hF16
  have l16 := l15.stepF k16 hF16
  have r16 := r15.stepF k16 hF16
  have r16n := r15n.stepF k16 hF16
  have q15 := k15.size
  have q16 := k16.size
  have b16 := b15.keep k16 n14
  have n16 : ¬ F16 w6.heap.size := fun h => n14 (hF16 _ (by omega) h)
  (repeat (first|refine ja ?_|refine jb ?_|refine jc ?_|refine jd ?_|refine je ?_|refine jf ?_|refine jg ?_|refine jh ?_|refine ji ?_|refine jj ?_|refine jk ?_|refine jl ?_|refine jm ?_|refine jn ?_|refine jo ?_|refine jp ?_|refine jq ?_|refine jr ?_|refine js ?_|refine jt ?_|refine ju ?_|refine jv ?_|refine jw ?_|refine jx ?_|refine jy ?_|refine jz ?_|refine jA ?_|refine jB ?_|refine jC ?_|refine jD ?_|refine jE ?_|refine jF ?_|refine jG ?_|refine jH ?_|refine jI ?_|refine jJ ?_|refine jK ?_|refine jL ?_|refine jM (by assumption) ?_|refine jN (by assumption) rfl ?_|refine jO (by assumption) ?_|refine jP (by assumption) rfl ?_|refine jQ ?_|refine jR ?_|refine jS ?_|refine jT ?_|refine jU (by assumption) rfl ?_))
  refine M.store_i b16 (by simp) rfl (fun w17 b17 k17 s17 => ?_)
  have b17 : Blk w17 w6.heap.size [vi 2, vi 2, vi 2, vi 999, vi 2, vi 2, vi 2, vi 2, c, vi 2, vi 0, vi 0, vi 1, vi 0, vi (-1), a, b, vi 0, d] := b17
  have hd17 := hd16.keep k17 (fun x hf e => n16 (by have e : x = w6.heap.size := e; rw [← e]; exact hf))
  have l17 := l16.keep k17 (fun x _ h e => h.2 e)
  have r17 := r16.keep k17 (fun x _ h e => h.2 e)
  have r17n := r16n.keep k17 (fun x _ h e => h.2 e)
  have hcode17 := hcode16.keep k17 (fun x _ h e => h.2 e)
  refine M.loadAll_i b17 rfl ?_
  have hs17 : SyO w17 (fun x => ¬ F16 x) (.agg ⟨[vi 2, vi 2, vi 2, vi 999, vi 2, vi 2, vi 2, vi 2, c, vi 2, vi 0, vi 0, vi 1, vi 0, vi (-1), a, b, vi 0, d]⟩) xSp := (SyO.of3 (t := xSp) rfl l17 rfl rfl rfl).mono (fun x _ h => h.1)
  refine M.call_i (Step37_ok hd17 hcode17 (by decide) hs17 bxSp.1 bxSp.2 (by decide) x6) ?_; rintro _ w18 ⟨F18, v18, rfl, hd18, hF18, k18, hO18⟩
  refine M.extract_i (v := v18) rfl ?_
  refine M.extract_i (v := vi 0) rfl ?_
  have r18 := r17.stepF k18 hF18
  have r18n := r17n.stepF k18 hF18
  obtain ⟨A18, cp18, cs18, e18, _⟩ := id hO18
  -- what is compared
  have kend : Keep w w18 No := by
    have q1 := k06.size
    have q17 := k17.size
    have low : ∀ x, x < w.heap.size → ¬ F6 x ∧ ¬ F10 x ∧ ¬ F11 x ∧ ¬ F12 x ∧ ¬ F14 x ∧ ¬ F16 x := fun x hx => by
      have a0 := hlow x hx
      have a1 : ¬ F10 x := fun h => a0 (hF10 _ (by omega) h)
      have a2 : ¬ F11 x := fun h => a1 (hF11 _ (by omega) h)
      have a3 : ¬ F12 x := fun h => a2 (hF12 _ (by omega) h)
      have a4 : ¬ F14 x := fun h => a3 (hF14 _ (by omega) h)
      exact ⟨a0, a1, a2, a3, a4, fun h => a4 (hF16 _ (by omega) h)⟩
    have k09 := k06.trans k69 (fun _ _ h => h)
    have k010 : Keep w w10 No := k09.trans k10 (fun x hx h => (low x hx).1 h)
    have k011 : Keep w w11 No := k010.trans k11 (fun x hx h => (low x hx).2.1 h)
    have k012 : Keep w w12 No := k011.trans k12 (fun x hx h => (low x hx).2.2.1 h)
    have k013 : Keep w w13 No := k012.trans k13 (fun x hx h => by have h : x = w6.heap.size := h; omega)
    have k014 : Keep w w14 No := k013.trans k14 (fun x hx h => (low x hx).2.2.2.1 h)
    have k015 : Keep w w15 No := k014.trans k15 (fun x hx h => by have h : x = w6.heap.size := h; omega)
    have k016 : Keep w w16 No := k015.trans k16 (fun x hx h => (low x hx).2.2.2.2.1 h)
    have k017 : Keep w w17 No := k016.trans k17 (fun x hx h => by have h : x = w6.heap.size := h; omega)
    exact k017.trans k18 (fun x hx h => (low x hx).2.2.2.2.2 h)
  obtain ⟨y1, y2, y3, y4, y5⟩ := x7
  refine M.idxOutR_i r18 (by decide) x2.2.2.1 (fun ba oa ca aa ab ad h8a hda hca => ?_)
  have hpc0 := hca 9 (vi xM0.pc) (vals_at h8a 1)
  rw [y1] at hpc0
  (repeat (first|refine ja ?_|refine jb ?_|refine jc ?_|refine jd ?_|refine je ?_|refine jf ?_|refine jg ?_|refine jh ?_|refine ji ?_|refine jj ?_|refine jk ?_|refine jl ?_|refine jm ?_|refine jn ?_|refine jo ?_|refine jp ?_|refine jq ?_|refine jr ?_|refine js ?_|refine jt ?_|refine ju ?_|refine jv ?_|refine jw ?_|refine jx ?_|refine jy ?_|refine jz ?_|refine jA ?_|refine jB ?_|refine jC ?_|refine jD ?_|refine jE ?_|refine jF ?_|refine jG ?_|refine jH ?_|refine jI ?_|refine jJ ?_|refine jK ?_|refine jL ?_|refine jM (by assumption) ?_|refine jN (by assumption) rfl ?_|refine jO (by assumption) ?_|refine jP (by assumption) rfl ?_|refine jQ ?_|refine jR ?_|refine jS ?_|refine jT ?_|refine jU (by assumption) rfl ?_))
  refine M.idxOutR_i r18 (by decide) x2.2.2.2 (fun bb2 ob cb2 ab2 bb3 db2 h8b hdb hcb => ?_)
  have hpc1 := hcb 9 (vi xM1.pc) (vals_at h8b 1)
  rw [y2] at hpc1
  (repeat (first|refine ja ?_|refine jb ?_|refine jc ?_|refine jd ?_|refine je ?_|refine jf ?_|refine jg ?_|refine jh ?_|refine ji ?_|refine jj ?_|refine jk ?_|refine jl ?_|refine jm ?_|refine jn ?_|refine jo ?_|refine jp ?_|refine jq ?_|refine jr ?_|refine js ?_|refine jt ?_|refine ju ?_|refine jv ?_|refine jw ?_|refine jx ?_|refine jy ?_|refine jz ?_|refine jA ?_|refine jB ?_|refine jC ?_|refine jD ?_|refine jE ?_|refine jF ?_|refine jG ?_|refine jH ?_|refine jI ?_|refine jJ ?_|refine jK ?_|refine jL ?_|refine jM (by assumption) ?_|refine jN (by assumption) rfl ?_|refine jO (by assumption) ?_|refine jP (by assumption) rfl ?_|refine jQ ?_|refine jR ?_|refine jS ?_|refine jT ?_|refine jU (by assumption) rfl ?_))
  refine M.idxOutR_i r18 (by decide) x2.2.2.1 (fun ba3 oa3 ca3 aa3 ab3 ad3 h8a3 hda3 hca3 => ?_)
  obtain ⟨A', cp', hd3⟩ := hda3
  rw [y3] at hd3
  have hcn := hca3 18 ad3 (vals_at h8a3 10)
  rw [hd3] at hcn
  (repeat (first|refine ja ?_|refine jb ?_|refine jc ?_|refine jd ?_|refine je ?_|refine jf ?_|refine jg ?_|refine jh ?_|refine ji ?_|refine jj ?_|refine jk ?_|refine jl ?_|refine jm ?_|refine jn ?_|refine jo ?_|refine jp ?_|refine jq ?_|refine jr ?_|refine js ?_|refine jt ?_|refine ju ?_|refine jv ?_|refine jw ?_|refine jx ?_|refine jy ?_|refine jz ?_|refine jA ?_|refine jB ?_|refine jC ?_|refine jD ?_|refine jE ?_|refine jF ?_|refine jG ?_|refine jH ?_|refine jI ?_|refine jJ ?_|refine jK ?_|refine jL ?_|refine jM (by assumption) ?_|refine jN (by assumption) rfl ?_|refine jO (by assumption) ?_|refine jP (by assumption) rfl ?_|refine jQ ?_|refine jR ?_|refine jS ?_|refine jT ?_|refine jU (by assumption) rfl ?_))
  rw [e12]
  (repeat (first|refine ja ?_|refine jb ?_|refine jc ?_|refine jd ?_|refine je ?_|refine jf ?_|refine jg ?_|refine jh ?_|refine ji ?_|refine jj ?_|refine jk ?_|refine jl ?_|refine jm ?_|refine jn ?_|refine jo ?_|refine jp ?_|refine jq ?_|refine jr ?_|refine js ?_|refine jt ?_|refine ju ?_|refine jv ?_|refine jw ?_|refine jx ?_|refine jy ?_|refine jz ?_|refine jA ?_|refine jB ?_|refine jC ?_|refine jD ?_|refine jE ?_|refine jF ?_|refine jG ?_|refine jH ?_|refine jI ?_|refine jJ ?_|refine jK ?_|refine jL ?_|refine jM (by assumption) ?_|refine jN (by assumption) rfl ?_|refine jO (by assumption) ?_|refine jP (by assumption) rfl ?_|refine jQ ?_|refine jR ?_|refine jS ?_|refine jT ?_|refine jU (by assumption) rfl ?_))
  rw [← e12]
  refine M.idxOutR_i r18n (by decide) x3.2.2 (fun bn on cn an bn2 dn h8n hdn hcn2 => ?_)
  have hen := hcn2 12 (vi xT2.en) (vals_at h8n 4)
  rw [y4] at hen
  (repeat (first|refine ja ?_|refine jb ?_|refine jc ?_|refine jd ?_|refine je ?_|refine jf ?_|refine jg ?_|refine jh ?_|refine ji ?_|refine jj ?_|refine jk ?_|refine jl ?_|refine jm ?_|refine jn ?_|refine jo ?_|refine jp ?_|refine jq ?_|refine jr ?_|refine js ?_|refine jt ?_|refine ju ?_|refine jv ?_|refine jw ?_|refine jx ?_|refine jy ?_|refine jz ?_|refine jA ?_|refine jB ?_|refine jC ?_|refine jD ?_|refine jE ?_|refine jF ?_|refine jG ?_|refine jH ?_|refine jI ?_|refine jJ ?_|refine jK ?_|refine jL ?_|refine jM (by assumption) ?_|refine jN (by assumption) rfl ?_|refine jO (by assumption) ?_|refine jP (by assumption) rfl ?_|refine jQ ?_|refine jR ?_|refine jS ?_|refine jT ?_|refine jU (by assumption) rfl ?_))
  refine M.idxOutR_i r18n (by decide) x3.2.2 (fun bn3 on3 cn3 an3 bn23 dn3 h8n3 hdn3 hcn3 => ?_)
  have hec := hcn3 13 (vi xT2.code) (vals_at h8n3 5)
  rw [y5] at hec
  (repeat (first|refine ja ?_|refine jb ?_|refine jc ?_|refine jd ?_|refine je ?_|refine jf ?_|refine jg ?_|refine jh ?_|refine ji ?_|refine jj ?_|refine jk ?_|refine jl ?_|refine jm ?_|refine jn ?_|refine jo ?_|refine jp ?_|refine jq ?_|refine jr ?_|refine js ?_|refine jt ?_|refine ju ?_|refine jv ?_|refine jw ?_|refine jx ?_|refine jy ?_|refine jz ?_|refine jA ?_|refine jB ?_|refine jC ?_|refine jD ?_|refine jE ?_|refine jF ?_|refine jG ?_|refine jH ?_|refine jI ?_|refine jJ ?_|refine jK ?_|refine jL ?_|refine jM (by assumption) ?_|refine jN (by assumption) rfl ?_|refine jO (by assumption) ?_|refine jP (by assumption) rfl ?_|refine jQ ?_|refine jR ?_|refine jS ?_|refine jT ?_|refine jU (by assumption) rfl ?_))
  rw [e14]
  (repeat (first|refine ja ?_|refine jb ?_|refine jc ?_|refine jd ?_|refine je ?_|refine jf ?_|refine jg ?_|refine jh ?_|refine ji ?_|refine jj ?_|refine jk ?_|refine jl ?_|refine jm ?_|refine jn ?_|refine jo ?_|refine jp ?_|refine jq ?_|refine jr ?_|refine js ?_|refine jt ?_|refine ju ?_|refine jv ?_|refine jw ?_|refine jx ?_|refine jy ?_|refine jz ?_|refine jA ?_|refine jB ?_|refine jC ?_|refine jD ?_|refine jE ?_|refine jF ?_|refine jG ?_|refine jH ?_|refine jI ?_|refine jJ ?_|refine jK ?_|refine jL ?_|refine jM (by assumption) ?_|refine jN (by assumption) rfl ?_|refine jO (by assumption) ?_|refine jP (by assumption) rfl ?_|refine jQ ?_|refine jR ?_|refine jS ?_|refine jT ?_|refine jU (by assumption) rfl ?_))
  have e18 : v18 = .slice A18 0 cp18 := e18
  rw [e18]
  (repeat (first|refine ja ?_|refine jb ?_|refine jc ?_|refine jd ?_|refine je ?_|refine jf ?_|refine jg ?_|refine jh ?_|refine ji ?_|refine jj ?_|refine jk ?_|refine jl ?_|refine jm ?_|refine jn ?_|refine jo ?_|refine jp ?_|refine jq ?_|refine jr ?_|refine js ?_|refine jt ?_|refine ju ?_|refine jv ?_|refine jw ?_|refine jx ?_|refine jy ?_|refine jz ?_|refine jA ?_|refine jB ?_|refine jC ?_|refine jD ?_|refine jE ?_|refine jF ?_|refine jG ?_|refine jH ?_|refine jI ?_|refine jJ ?_|refine jK ?_|refine jL ?_|refine jM (by assumption) ?_|refine jN (by assumption) rfl ?_|refine jO (by assumption) ?_|refine jP (by assumption) rfl ?_|refine jQ ?_|refine jR ?_|refine jS ?_|refine jT ?_|refine jU (by assumption) rfl ?_))
  exact ⟨rfl, kend⟩
end Go.Proofs.Ytanjlgafjgoaaaa
