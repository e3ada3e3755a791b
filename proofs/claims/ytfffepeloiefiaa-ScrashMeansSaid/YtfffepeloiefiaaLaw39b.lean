import Derived.Test.YtfffepeloiefiaaLaw39
namespace Go.Proofs.Ytfffepeloiefiaa
open Go.Mw
set_option linter.unusedVariables false
set_option linter.unusedSimpArgs false
set_option maxRecDepth 100000
attribute [local irreducible] M.val M.unit M.next M.pick M.new M.nilCheck M.load1 M.loadA M.store M.fieldAddr M.indexSl M.indexArr M.slice M.makeSlice M.buildSlice M.len M.lenS M.cap M.append M.extract M.conv M.not M.neg M.bin M.shift M.eqB M.eqNil M.call M.callv M.gd M.share M.cond M.loop M.draw pureW readW Ret
def aSD : SDv := ⟨[7, 8], [⟨0, 3, 0⟩, ⟨0, 4, 1⟩], 1⟩
theorem aMasks : masksL (epsS aSD.pend) = [0, 1, 3] := by
  have e : epsS aSD.pend = [0, 1] := rfl
  rw [e]
  have h0 : allowB [0, 1] ((0 : Nat) : Int) = true := allowB_iff.2 ⟨by decide, by decide, by decide, fun j k hj hk => (by decide : ∀ j < 2, ∀ k < 2, bitZ ((0 : Nat) : Int) j = true → bitZ ((0 : Nat) : Int) k = false → [(0 : Int), 1].getD j 0 ≤ [(0 : Int), 1].getD k 0) j hj k hk⟩
  have h1 : allowB [0, 1] ((1 : Nat) : Int) = true := allowB_iff.2 ⟨by decide, by decide, by decide, fun j k hj hk => (by decide : ∀ j < 2, ∀ k < 2, bitZ ((1 : Nat) : Int) j = true → bitZ ((1 : Nat) : Int) k = false → [(0 : Int), 1].getD j 0 ≤ [(0 : Int), 1].getD k 0) j hj k hk⟩
  have h2 : allowB [0, 1] ((2 : Nat) : Int) = false := allowB_no (fun h => absurd (h.2.2.2 1 0 (by decide) (by decide) (by decide) (by decide)) (by decide))
  have h3 : allowB [0, 1] ((3 : Nat) : Int) = true := allowB_iff.2 ⟨by decide, by decide, by decide, fun j k hj hk => (by decide : ∀ j < 2, ∀ k < 2, bitZ ((3 : Nat) : Int) j = true → bitZ ((3 : Nat) : Int) k = false → [(0 : Int), 1].getD j 0 ≤ [(0 : Int), 1].getD k 0) j hj k hk⟩
  have e4 : masksL [0, 1] = masksN [0, 1] (3 + 1) := rfl
  rw [e4, masksN_succ, masksN_succ, masksN_succ, masksN_succ, h0, h1, h2, h3]
  rfl
theorem lvi_blk {w : World} {b n : Nat} {xs : List Int} (h : Blk w b (xs.map vi)) (hn : n = xs.length) {D : Nat → Prop} (hD : D b) : LV vi w D (.slice (some ⟨b, 0, none⟩) n n) xs := by
  subst hn
  exact ⟨_, _, rfl, Row.of_blk' h hD, Nat.le_refl _⟩
set_option maxHeartbeats 1000000 in
theorem awake39_ret (w : World) : Ret Try.prog 6 #[] w (fun v w' => v = .bool true ∧ Keep w w' No) := by
  refine ok6 _ _ ?_
  unfold sh6
  refine M.buildSlice_i ([7, 8].map vi) (by kernel_rfl) (fun w1 b1 k1 s1 => ?_)
  refine M.pure_i (.agg #[vi 0, vi 3, vi 0]) (fun _ => by kernel_rfl) ?_
  refine M.pure_i (.agg #[vi 0, vi 4, vi 1]) (fun _ => by kernel_rfl) ?_
  refine M.buildSlice_i (aSD.pend.flatMap SP.cells) (by kernel_rfl) (fun w2 b2 k2 s2 => ?_)
  have b1 := b1.keep k2 (fun h => h)
  refine M.pure_i (.agg ⟨[.slice (some ⟨w.heap.size, 0, none⟩) 2 2, .slice (some ⟨w1.heap.size, 0, none⟩) 2 2, vi 1]⟩) (fun _ => by kernel_rfl) ?_
  refine M.new_i (l := [.slice none 0 0, .slice none 0 0, vi 0]) (fun w3 b3 k3 s3 => ?_)
  refine M.storeAll_i b3 rfl rfl (List.all_eq_true.1 rfl) (fun w4 b4 k4 s4 => ?_)
  have k24 : Keep w2 w4 No := k3.trans k4 (fun b hb h => by omega)
  have hd : SDvO w4 (fun _ => True) (.slice (some ⟨w.heap.size, 0, none⟩) 2 2) (.slice (some ⟨w1.heap.size, 0, none⟩) 2 2) aSD :=
    ⟨lvi_blk (b1.keep k24 (fun h => h)) rfl trivial, _, _, rfl, Row.of_blk' (b2.keep k24 (fun h => h)) trivial, Nat.le_refl _⟩
  have hfew : aSD.few := ⟨by decide, by decide⟩
  have hI : ∀ p ∈ aSD.pend, I64 p.e := by
    intro p hp
    simp only [aSD, List.mem_cons, List.not_mem_nil, or_false] at hp
    rcases hp with rfl | rfl
    · exact ⟨by decide, by decide⟩
    · exact ⟨by decide, by decide⟩
  have z4 : Keep w w4 No := (k1.trans k2 (fun _ _ h => h)).trans k24 (fun _ _ h => h)
  refine M.buildSlice_i ([5].map vi) (by kernel_rfl) (fun w5 b5 k5 s5 => ?_)
  refine M.call_i (fresh_ret (lvi_blk (xs := [5]) (D := fun _ => True) b5 rfl trivial) (by decide)) ?_; rintro _ w6 ⟨u, rfl, g6, k6⟩
  obtain ⟨A6, c6, rfl, r6, q6⟩ := GC.row2 g6 (by omega)
  refine M.new_i (l := [.slice none 0 0, .slice none 0 0, vi 0]) (fun w7 b7 k7 s7 => ?_)
  refine M.storeAll_i b7 rfl rfl (List.all_eq_true.1 rfl) (fun w8 b8 k8 s8 => ?_)
  have k68 : Keep w6 w8 No := k7.trans k8 (fun b hb h => by omega)
  have k48 : Keep w4 w8 No := (k5.trans k6 (fun _ _ h => h)).trans k68 (fun _ _ h => h)
  have b4 := b4.keep k48 (fun h => h)
  have hd := hd.keep k48 (fun _ _ _ h => h)
  have l8 : LV vi w8 (fun _ => True) (.slice A6 1 c6) [5] := (LV.mono ⟨A6, c6, rfl, r6, q6⟩ (fun _ _ _ => trivial)).keep k68 (fun _ _ _ h => h)
  have z8 := z4.trans k48 (fun _ _ h => h)
  refine M.loadAll_i b4 rfl ?_
  refine M.call_i (smasks_ret (d := aSD) hd hfew hI) ?_; rintro mv w9 ⟨g9, k9⟩
  rw [aMasks] at g9
  refine M.buildSlice_i ([0, 1, 3].map vi) (by kernel_rfl) (fun w10 b10 k10 s10 => ?_)
  refine M.call_i (same_ret (GI.lv (g9.keep k10 (fun _ _ _ h => h))) (lvi_blk (D := fun _ => True) b10 rfl trivial) (by decide)) ?_; rintro _ w11 ⟨rfl, k11⟩
  have k811 : Keep w8 w11 No := (k9.trans k10 (fun _ _ h => h)).trans k11 (fun _ _ h => h)
  have b4 := b4.keep k811 (fun h => h)
  have b8 := b8.keep k811 (fun h => h)
  have hd := hd.keep k811 (fun _ _ _ h => h)
  have l8 := l8.keep k811 (fun _ _ _ h => h)
  have z11 := z8.trans k811 (fun _ _ h => h)
  rw [decide_eq_true rfl]
  (repeat (first|refine ja ?_|refine jb ?_|refine jc ?_|refine jd ?_|refine je ?_|refine jf ?_|refine jg ?_|refine jh ?_|refine ji ?_|refine jj ?_|refine jk ?_|refine jl ?_|refine jm ?_|refine jn ?_|refine jo ?_|refine jp ?_|refine jq ?_|refine jr ?_|refine js ?_|refine jt ?_|refine ju ?_|refine jv ?_|refine jw ?_|refine jx ?_|refine jy ?_|refine jz ?_|refine jA ?_|refine jB ?_|refine jC ?_|refine jD ?_|refine jE ?_|refine jF ?_|refine jG ?_|refine jH ?_|refine jI ?_|refine jJ ?_|refine jK ?_|refine jL ?_|refine jM (by assumption) ?_|refine jN (by assumption) rfl ?_|refine jO (by assumption) ?_|refine jP (by assumption) rfl ?_|refine jQ ?_|refine jR ?_|refine jS ?_|refine jT ?_|refine jU (by assumption) rfl ?_))
  refine M.loadAll_i b4 rfl ?_
  (repeat (first|refine ja ?_|refine jb ?_|refine jc ?_|refine jd ?_|refine je ?_|refine jf ?_|refine jg ?_|refine jh ?_|refine ji ?_|refine jj ?_|refine jk ?_|refine jl ?_|refine jm ?_|refine jn ?_|refine jo ?_|refine jp ?_|refine jq ?_|refine jr ?_|refine js ?_|refine jt ?_|refine ju ?_|refine jv ?_|refine jw ?_|refine jx ?_|refine jy ?_|refine jz ?_|refine jA ?_|refine jB ?_|refine jC ?_|refine jD ?_|refine jE ?_|refine jF ?_|refine jG ?_|refine jH ?_|refine jI ?_|refine jJ ?_|refine jK ?_|refine jL ?_|refine jM (by assumption) ?_|refine jN (by assumption) rfl ?_|refine jO (by assumption) ?_|refine jP (by assumption) rfl ?_|refine jQ ?_|refine jR ?_|refine jS ?_|refine jT ?_|refine jU (by assumption) rfl ?_))
  refine M.call_i (simage_ret (d := aSD) hd hfew 3) ?_; rintro iv w12 ⟨g12, k12⟩
  rw [(by rfl : imgL aSD.disk (spairs aSD.pend) 3 = [4, 8])] at g12
  (repeat (first|refine ja ?_|refine jb ?_|refine jc ?_|refine jd ?_|refine je ?_|refine jf ?_|refine jg ?_|refine jh ?_|refine ji ?_|refine jj ?_|refine jk ?_|refine jl ?_|refine jm ?_|refine jn ?_|refine jo ?_|refine jp ?_|refine jq ?_|refine jr ?_|refine js ?_|refine jt ?_|refine ju ?_|refine jv ?_|refine jw ?_|refine jx ?_|refine jy ?_|refine jz ?_|refine jA ?_|refine jB ?_|refine jC ?_|refine jD ?_|refine jE ?_|refine jF ?_|refine jG ?_|refine jH ?_|refine jI ?_|refine jJ ?_|refine jK ?_|refine jL ?_|refine jM (by assumption) ?_|refine jN (by assumption) rfl ?_|refine jO (by assumption) ?_|refine jP (by assumption) rfl ?_|refine jQ ?_|refine jR ?_|refine jS ?_|refine jT ?_|refine jU (by assumption) rfl ?_))
  refine M.buildSlice_i ([4, 8].map vi) (by kernel_rfl) (fun w13 b13 k13 s13 => ?_)
  (repeat (first|refine ja ?_|refine jb ?_|refine jc ?_|refine jd ?_|refine je ?_|refine jf ?_|refine jg ?_|refine jh ?_|refine ji ?_|refine jj ?_|refine jk ?_|refine jl ?_|refine jm ?_|refine jn ?_|refine jo ?_|refine jp ?_|refine jq ?_|refine jr ?_|refine js ?_|refine jt ?_|refine ju ?_|refine jv ?_|refine jw ?_|refine jx ?_|refine jy ?_|refine jz ?_|refine jA ?_|refine jB ?_|refine jC ?_|refine jD ?_|refine jE ?_|refine jF ?_|refine jG ?_|refine jH ?_|refine jI ?_|refine jJ ?_|refine jK ?_|refine jL ?_|refine jM (by assumption) ?_|refine jN (by assumption) rfl ?_|refine jO (by assumption) ?_|refine jP (by assumption) rfl ?_|refine jQ ?_|refine jR ?_|refine jS ?_|refine jT ?_|refine jU (by assumption) rfl ?_))
  refine M.call_i (same_ret (GI.lv (g12.keep k13 (fun _ _ _ h => h))) (lvi_blk (D := fun _ => True) b13 rfl trivial) (by decide)) ?_; rintro _ w14 ⟨rfl, k14⟩
  have k1114 : Keep w11 w14 No := (k12.trans k13 (fun _ _ h => h)).trans k14 (fun _ _ h => h)
  have b4 := b4.keep k1114 (fun h => h)
  have b8 := b8.keep k1114 (fun h => h)
  have hd := hd.keep k1114 (fun _ _ _ h => h)
  have l8 := l8.keep k1114 (fun _ _ _ h => h)
  have z14 := z11.trans k1114 (fun _ _ h => h)
  rw [decide_eq_true rfl]
  (repeat (first|refine ja ?_|refine jb ?_|refine jc ?_|refine jd ?_|refine je ?_|refine jf ?_|refine jg ?_|refine jh ?_|refine ji ?_|refine jj ?_|refine jk ?_|refine jl ?_|refine jm ?_|refine jn ?_|refine jo ?_|refine jp ?_|refine jq ?_|refine jr ?_|refine js ?_|refine jt ?_|refine ju ?_|refine jv ?_|refine jw ?_|refine jx ?_|refine jy ?_|refine jz ?_|refine jA ?_|refine jB ?_|refine jC ?_|refine jD ?_|refine jE ?_|refine jF ?_|refine jG ?_|refine jH ?_|refine jI ?_|refine jJ ?_|refine jK ?_|refine jL ?_|refine jM (by assumption) ?_|refine jN (by assumption) rfl ?_|refine jO (by assumption) ?_|refine jP (by assumption) rfl ?_|refine jQ ?_|refine jR ?_|refine jS ?_|refine jT ?_|refine jU (by assumption) rfl ?_))
  refine M.loadAll_i b4 rfl ?_
  (repeat (first|refine ja ?_|refine jb ?_|refine jc ?_|refine jd ?_|refine je ?_|refine jf ?_|refine jg ?_|refine jh ?_|refine ji ?_|refine jj ?_|refine jk ?_|refine jl ?_|refine jm ?_|refine jn ?_|refine jo ?_|refine jp ?_|refine jq ?_|refine jr ?_|refine js ?_|refine jt ?_|refine ju ?_|refine jv ?_|refine jw ?_|refine jx ?_|refine jy ?_|refine jz ?_|refine jA ?_|refine jB ?_|refine jC ?_|refine jD ?_|refine jE ?_|refine jF ?_|refine jG ?_|refine jH ?_|refine jI ?_|refine jJ ?_|refine jK ?_|refine jL ?_|refine jM (by assumption) ?_|refine jN (by assumption) rfl ?_|refine jO (by assumption) ?_|refine jP (by assumption) rfl ?_|refine jQ ?_|refine jR ?_|refine jS ?_|refine jT ?_|refine jU (by assumption) rfl ?_))
  refine M.call_i (simage_ret (d := aSD) hd hfew 1) ?_; rintro iv w15 ⟨g15, k15⟩
  rw [(by rfl : imgL aSD.disk (spairs aSD.pend) 1 = [3, 8])] at g15
  (repeat (first|refine ja ?_|refine jb ?_|refine jc ?_|refine jd ?_|refine je ?_|refine jf ?_|refine jg ?_|refine jh ?_|refine ji ?_|refine jj ?_|refine jk ?_|refine jl ?_|refine jm ?_|refine jn ?_|refine jo ?_|refine jp ?_|refine jq ?_|refine jr ?_|refine js ?_|refine jt ?_|refine ju ?_|refine jv ?_|refine jw ?_|refine jx ?_|refine jy ?_|refine jz ?_|refine jA ?_|refine jB ?_|refine jC ?_|refine jD ?_|refine jE ?_|refine jF ?_|refine jG ?_|refine jH ?_|refine jI ?_|refine jJ ?_|refine jK ?_|refine jL ?_|refine jM (by assumption) ?_|refine jN (by assumption) rfl ?_|refine jO (by assumption) ?_|refine jP (by assumption) rfl ?_|refine jQ ?_|refine jR ?_|refine jS ?_|refine jT ?_|refine jU (by assumption) rfl ?_))
  refine M.buildSlice_i ([3, 8].map vi) (by kernel_rfl) (fun w16 b16 k16 s16 => ?_)
  (repeat (first|refine ja ?_|refine jb ?_|refine jc ?_|refine jd ?_|refine je ?_|refine jf ?_|refine jg ?_|refine jh ?_|refine ji ?_|refine jj ?_|refine jk ?_|refine jl ?_|refine jm ?_|refine jn ?_|refine jo ?_|refine jp ?_|refine jq ?_|refine jr ?_|refine js ?_|refine jt ?_|refine ju ?_|refine jv ?_|refine jw ?_|refine jx ?_|refine jy ?_|refine jz ?_|refine jA ?_|refine jB ?_|refine jC ?_|refine jD ?_|refine jE ?_|refine jF ?_|refine jG ?_|refine jH ?_|refine jI ?_|refine jJ ?_|refine jK ?_|refine jL ?_|refine jM (by assumption) ?_|refine jN (by assumption) rfl ?_|refine jO (by assumption) ?_|refine jP (by assumption) rfl ?_|refine jQ ?_|refine jR ?_|refine jS ?_|refine jT ?_|refine jU (by assumption) rfl ?_))
  refine M.call_i (same_ret (GI.lv (g15.keep k16 (fun _ _ _ h => h))) (lvi_blk (D := fun _ => True) b16 rfl trivial) (by decide)) ?_; rintro _ w17 ⟨rfl, k17⟩
  have k1417 : Keep w14 w17 No := (k15.trans k16 (fun _ _ h => h)).trans k17 (fun _ _ h => h)
  have b8 := b8.keep k1417 (fun h => h)
  have l8 := l8.keep k1417 (fun _ _ _ h => h)
  have z17 := z14.trans k1417 (fun _ _ h => h)
  rw [decide_eq_true rfl]
  (repeat (first|refine ja ?_|refine jb ?_|refine jc ?_|refine jd ?_|refine je ?_|refine jf ?_|refine jg ?_|refine jh ?_|refine ji ?_|refine jj ?_|refine jk ?_|refine jl ?_|refine jm ?_|refine jn ?_|refine jo ?_|refine jp ?_|refine jq ?_|refine jr ?_|refine js ?_|refine jt ?_|refine ju ?_|refine jv ?_|refine jw ?_|refine jx ?_|refine jy ?_|refine jz ?_|refine jA ?_|refine jB ?_|refine jC ?_|refine jD ?_|refine jE ?_|refine jF ?_|refine jG ?_|refine jH ?_|refine jI ?_|refine jJ ?_|refine jK ?_|refine jL ?_|refine jM (by assumption) ?_|refine jN (by assumption) rfl ?_|refine jO (by assumption) ?_|refine jP (by assumption) rfl ?_|refine jQ ?_|refine jR ?_|refine jS ?_|refine jT ?_|refine jU (by assumption) rfl ?_))
  refine M.buildSlice_i ([5].map vi) (by kernel_rfl) (fun w18 b18 k18 s18 => ?_)
  (repeat (first|refine ja ?_|refine jb ?_|refine jc ?_|refine jd ?_|refine je ?_|refine jf ?_|refine jg ?_|refine jh ?_|refine ji ?_|refine jj ?_|refine jk ?_|refine jl ?_|refine jm ?_|refine jn ?_|refine jo ?_|refine jp ?_|refine jq ?_|refine jr ?_|refine js ?_|refine jt ?_|refine ju ?_|refine jv ?_|refine jw ?_|refine jx ?_|refine jy ?_|refine jz ?_|refine jA ?_|refine jB ?_|refine jC ?_|refine jD ?_|refine jE ?_|refine jF ?_|refine jG ?_|refine jH ?_|refine jI ?_|refine jJ ?_|refine jK ?_|refine jL ?_|refine jM (by assumption) ?_|refine jN (by assumption) rfl ?_|refine jO (by assumption) ?_|refine jP (by assumption) rfl ?_|refine jQ ?_|refine jR ?_|refine jS ?_|refine jT ?_|refine jU (by assumption) rfl ?_))
  refine M.call_i (same_ret (l8.keep k18 (fun _ _ _ h => h)) (lvi_blk (D := fun _ => True) b18 rfl trivial) (by decide)) ?_; rintro _ w19 ⟨rfl, k19⟩
  have k1719 : Keep w17 w19 No := k18.trans k19 (fun _ _ h => h)
  have b8 := b8.keep k1719 (fun h => h)
  have z19 := z17.trans k1719 (fun _ _ h => h)
  rw [decide_eq_true rfl]
  (repeat (first|refine ja ?_|refine jb ?_|refine jc ?_|refine jd ?_|refine je ?_|refine jf ?_|refine jg ?_|refine jh ?_|refine ji ?_|refine jj ?_|refine jk ?_|refine jl ?_|refine jm ?_|refine jn ?_|refine jo ?_|refine jp ?_|refine jq ?_|refine jr ?_|refine js ?_|refine jt ?_|refine ju ?_|refine jv ?_|refine jw ?_|refine jx ?_|refine jy ?_|refine jz ?_|refine jA ?_|refine jB ?_|refine jC ?_|refine jD ?_|refine jE ?_|refine jF ?_|refine jG ?_|refine jH ?_|refine jI ?_|refine jJ ?_|refine jK ?_|refine jL ?_|refine jM (by assumption) ?_|refine jN (by assumption) rfl ?_|refine jO (by assumption) ?_|refine jP (by assumption) rfl ?_|refine jQ ?_|refine jR ?_|refine jS ?_|refine jT ?_|refine jU (by assumption) rfl ?_))
  exact ⟨rfl, z19⟩
theorem epsS_plain (d : SDv) : epsP (plainD d).pend = epsS d.pend := by
  simp [epsP, epsS, plainD]
theorem pairs_plain (d : SDv) : pairs (plainD d).pend = (spairs d.pend).map (fun p => (p.1, BitVec.ofInt 64 p.2)) := by
  simp [pairs, spairs, plainD]
theorem fewS_few {d : SDv} (h : fewS d = true) : d.disk.length ≤ 60 ∧ d.pend.length ≤ 40 ∧ d.few := by
  unfold fewS at h
  simp only [Bool.and_eq_true, decide_eq_true_eq] at h
  exact ⟨h.1.1, h.1.2, by have := h.1.1; omega, by have := h.1.2; omega⟩
set_option maxHeartbeats 1000000 in
theorem scrashLooks_ret {w : World} {D : Nat → Prop} {a b : Value} {d : SDv} (h : SDvO w D a b d) (hI : ∀ p ∈ d.pend, I64 p.e) (m : Int) :
    Ret Try.prog 3 #[.agg ⟨[a, b, vi d.ep]⟩, vi m] w (fun r w' => r = .bool true ∧ Keep w w' No) := by
  have h := h.mono (D' := fun b => b < w.heap.size) (fun b hb _ => hb)
  obtain ⟨⟨B, cb, rfl, hrb, hcb⟩, A, c, rfl, hr, hc⟩ := id h
  have hl0 : LV vi w (fun b => b < w.heap.size) (.slice B d.disk.length cb) d.disk := h.1
  refine ok3 _ _ _ _ ?_
  unfold sh3
  refine M.new_i (l := [.slice B d.disk.length cb, .slice A d.pend.length c, vi d.ep]) (fun w1 b1 k1 s1 => ?_)
  refine M.loadAll_i b1 rfl ?_
  refine M.call_i (few39_ret (h.keep k1 (fun _ _ _ h => h))) ?_; rintro _ w2 ⟨rfl, k2⟩
  have k02 := k1.trans k2 (fun _ _ h => h)
  have b2 := b1.keep k2 (fun h => h)
  by_cases hfew : fewS d = true
  · rw [hfew]
    obtain ⟨hd60, hp40, hf⟩ := fewS_few hfew
    (repeat (first|refine ja ?_|refine jb ?_|refine jc ?_|refine jd ?_|refine je ?_|refine jf ?_|refine jg ?_|refine jh ?_|refine ji ?_|refine jj ?_|refine jk ?_|refine jl ?_|refine jm ?_|refine jn ?_|refine jo ?_|refine jp ?_|refine jq ?_|refine jr ?_|refine js ?_|refine jt ?_|refine ju ?_|refine jv ?_|refine jw ?_|refine jx ?_|refine jy ?_|refine jz ?_|refine jA ?_|refine jB ?_|refine jC ?_|refine jD ?_|refine jE ?_|refine jF ?_|refine jG ?_|refine jH ?_|refine jI ?_|refine jJ ?_|refine jK ?_|refine jL ?_|refine jM (by assumption) ?_|refine jN (by assumption) rfl ?_|refine jO (by assumption) ?_|refine jP (by assumption) rfl ?_|refine jQ ?_|refine jR ?_|refine jS ?_|refine jT ?_|refine jU (by assumption) rfl ?_))
    refine M.loadAll_i b2 rfl ?_
    refine M.call_i (simage_ret (h.keep k02 (fun _ _ _ h => h)) hf m) ?_; rintro iv w3 ⟨g3, k3⟩
    have b3 := b2.keep k3 (fun h => h)
    have k03 := k02.trans k3 (fun _ _ h => h)
    have himl : (imgL d.disk (spairs d.pend) m).length = d.disk.length := imgN_len _ _ _ _
    generalize himg : imgL d.disk (spairs d.pend) m = I at g3 himl
    obtain ⟨A3, c3, rfl, hr3, hc3⟩ := GI.lv g3
    refine M.loop_i (σ := Nat) (fun i vals w' => ∃ sv, vals = [sv, vi i] ∧ i ≤ I.length ∧ GW w' (w3.heap.size ≤ ·) sv ((I.map (fun x => BitVec.ofInt 64 x)).take i) ∧ Keep w3 w' No) (fun i => I.length - i) 0
      ⟨_, rfl, by omega, GC.nil _ _ _, Keep.refl _ _⟩ ?_
    rintro i vals w4 K ⟨sv, rfl, hi, g4, k4⟩ hK _
    simp only [List.getD_cons_zero, List.getD_cons_succ]
    by_cases hlt : i < I.length
    · obtain ⟨x, hx⟩ : ∃ x, I[i]? = some x := ⟨_, List.getElem?_eq_getElem hlt⟩
      have hr4 := hr3.keep k4 (fun _ _ _ h => h)
      (repeat (first|refine ja ?_|refine jb ?_|refine jc ?_|refine jd ?_|refine je ?_|refine jf ?_|refine jg ?_|refine jh ?_|refine ji ?_|refine jj ?_|refine jk ?_|refine jl ?_|refine jm ?_|refine jn ?_|refine jo ?_|refine jp ?_|refine jq ?_|refine jr ?_|refine js ?_|refine jt ?_|refine ju ?_|refine jv ?_|refine jw ?_|refine jx ?_|refine jy ?_|refine jz ?_|refine jA ?_|refine jB ?_|refine jC ?_|refine jD ?_|refine jE ?_|refine jF ?_|refine jG ?_|refine jH ?_|refine jI ?_|refine jJ ?_|refine jK ?_|refine jL ?_|refine jM (by assumption) ?_|refine jN (by assumption) rfl ?_|refine jO (by assumption) ?_|refine jP (by assumption) rfl ?_|refine jQ ?_|refine jR ?_|refine jS ?_|refine jT ?_|refine jU (by assumption) rfl ?_))
      refine M.idxLV_i hr4 rfl (by omega) (by omega) (x := x) (by simpa using hx) (fun bb oo hA hcc => ?_)
      (repeat (first|refine ja ?_|refine jb ?_|refine jc ?_|refine jd ?_|refine je ?_|refine jf ?_|refine jg ?_|refine jh ?_|refine ji ?_|refine jj ?_|refine jk ?_|refine jl ?_|refine jm ?_|refine jn ?_|refine jo ?_|refine jp ?_|refine jq ?_|refine jr ?_|refine js ?_|refine jt ?_|refine ju ?_|refine jv ?_|refine jw ?_|refine jx ?_|refine jy ?_|refine jz ?_|refine jA ?_|refine jB ?_|refine jC ?_|refine jD ?_|refine jE ?_|refine jF ?_|refine jG ?_|refine jH ?_|refine jI ?_|refine jJ ?_|refine jK ?_|refine jL ?_|refine jM (by assumption) ?_|refine jN (by assumption) rfl ?_|refine jO (by assumption) ?_|refine jP (by assumption) rfl ?_|refine jQ ?_|refine jR ?_|refine jS ?_|refine jT ?_|refine jU (by assumption) rfl ?_))
      refine M.toWord_i ?_
      refine M.buildSlice_i [vw (BitVec.ofInt 64 x)] (by kernel_rfl) (fun w6 b6 k6 s6 => ?_)
      have hgl : ((I.map (fun x => BitVec.ofInt 64 x)).take i).length = i := by rw [List.length_take, List.length_map]; omega
      refine M.append_i (g4.keep k6 (fun _ _ _ h => h)) (Row.of_blk' (D := fun _ => True) b6 trivial) rfl (by simp; rfl) rfl (by omega) (by omega) (fun v7 w7 g7 k7 => ?_)
      have q6 := k6.size
      have q4 := k4.size
      (repeat (first|refine ja ?_|refine jb ?_|refine jc ?_|refine jd ?_|refine je ?_|refine jf ?_|refine jg ?_|refine jh ?_|refine ji ?_|refine jj ?_|refine jk ?_|refine jl ?_|refine jm ?_|refine jn ?_|refine jo ?_|refine jp ?_|refine jq ?_|refine jr ?_|refine js ?_|refine jt ?_|refine ju ?_|refine jv ?_|refine jw ?_|refine jx ?_|refine jy ?_|refine jz ?_|refine jA ?_|refine jB ?_|refine jC ?_|refine jD ?_|refine jE ?_|refine jF ?_|refine jG ?_|refine jH ?_|refine jI ?_|refine jJ ?_|refine jK ?_|refine jL ?_|refine jM (by assumption) ?_|refine jN (by assumption) rfl ?_|refine jO (by assumption) ?_|refine jP (by assumption) rfl ?_|refine jQ ?_|refine jR ?_|refine jS ?_|refine jT ?_|refine jU (by assumption) rfl ?_))
      refine hK (i + 1) _ _ (by omega) ⟨v7, rfl, by omega, ?_, (k4.trans k6 (fun _ _ h => h)).trans k7 (fun b hb h => by have h : w3.heap.size ≤ b := h; omega)⟩
      have e1 : (I.map (fun x => BitVec.ofInt 64 x)).take (i + 1) = (I.map (fun x => BitVec.ofInt 64 x)).take i ++ [BitVec.ofInt 64 x] := by
        rw [List.take_add_one]
        simp [hx]
      rw [e1]
      have g8 := g7.mono (L' := (w3.heap.size ≤ ·)) (fun b hb h => by
        rcases h with h | h
        · exact h
        · show w3.heap.size ≤ b; omega)
      simpa [GW] using g8
    · have e : i = I.length := by omega
      subst e
      rw [List.take_of_length_le (by rw [List.length_map]; exact Nat.le_refl _)] at g4
      have k04 := k03.trans k4 (fun _ _ h => h)
      have b4 := b3.keep k4 (fun h => h)
      (repeat (first|refine ja ?_|refine jb ?_|refine jc ?_|refine jd ?_|refine je ?_|refine jf ?_|refine jg ?_|refine jh ?_|refine ji ?_|refine jj ?_|refine jk ?_|refine jl ?_|refine jm ?_|refine jn ?_|refine jo ?_|refine jp ?_|refine jq ?_|refine jr ?_|refine js ?_|refine jt ?_|refine ju ?_|refine jv ?_|refine jw ?_|refine jx ?_|refine jy ?_|refine jz ?_|refine jA ?_|refine jB ?_|refine jC ?_|refine jD ?_|refine jE ?_|refine jF ?_|refine jG ?_|refine jH ?_|refine jI ?_|refine jJ ?_|refine jK ?_|refine jL ?_|refine jM (by assumption) ?_|refine jN (by assumption) rfl ?_|refine jO (by assumption) ?_|refine jP (by assumption) rfl ?_|refine jQ ?_|refine jR ?_|refine jS ?_|refine jT ?_|refine jU (by assumption) rfl ?_))
      refine M.call_i (fresh_ret (LV.keep hl0 k04 (fun _ _ _ h => h)) (by omega)) ?_; rintro _ w5 ⟨u, rfl, g5, k5⟩
      obtain ⟨A5, c5, rfl, r5, q5⟩ := GC.row2 g5 (by omega)
      refine M.new_i (l := [.slice none 0 0, .slice none 0 0, vi 0]) (fun w6 b6 k6 s6 => ?_)
      refine M.storeAll_i b6 rfl rfl (List.all_eq_true.1 rfl) (fun w7 b7 k7 s7 => ?_)
      have k57 : Keep w5 w7 No := k6.trans k7 (fun b hb h => by omega)
      have k47 := k5.trans k57 (fun _ _ h => h)
      have k07 := k04.trans k47 (fun _ _ h => h)
      have g7 := g4.keep k47 (fun _ _ _ h => h)
      have b17 := b4.keep k47 (fun h => h)
      have l7 : LV vi w7 (fun _ => True) (.slice A5 d.disk.length c5) d.disk := (LV.mono ⟨A5, c5, rfl, r5, q5⟩ (fun _ _ _ => trivial)).keep k57 (fun _ _ _ h => h)
      have kd := Keep.drew w7 No
      (repeat (first|refine ja ?_|refine jb ?_|refine jc ?_|refine jd ?_|refine je ?_|refine jf ?_|refine jg ?_|refine jh ?_|refine ji ?_|refine jj ?_|refine jk ?_|refine jl ?_|refine jm ?_|refine jn ?_|refine jo ?_|refine jp ?_|refine jq ?_|refine jr ?_|refine js ?_|refine jt ?_|refine ju ?_|refine jv ?_|refine jw ?_|refine jx ?_|refine jy ?_|refine jz ?_|refine jA ?_|refine jB ?_|refine jC ?_|refine jD ?_|refine jE ?_|refine jF ?_|refine jG ?_|refine jH ?_|refine jI ?_|refine jJ ?_|refine jK ?_|refine jL ?_|refine jM (by assumption) ?_|refine jN (by assumption) rfl ?_|refine jO (by assumption) ?_|refine jP (by assumption) rfl ?_|refine jQ ?_|refine jR ?_|refine jS ?_|refine jT ?_|refine jU (by assumption) rfl ?_))
      have b17 := b17.keep kd (fun h => h)
      have b7 := b7.keep kd (fun h => h)
      have k07 := k07.trans kd (fun _ _ h => h)
      have g7 := g7.keep kd (fun _ _ _ h => h)
      have l7 := l7.keep kd (fun _ _ _ h => h)
      generalize w7.drew = w8 at *
      refine M.loadAll_i b17 rfl ?_
      refine M.loadAll_i b17 rfl ?_
      refine M.call_i (smasks_ret (h.keep k07 (fun _ _ _ h => h)) hf hI) ?_; rintro mv w9 ⟨g9, k9⟩
      have b19 := b17.keep k9 (fun h => h)
      have k09 := k07.trans k9 (fun _ _ h => h)
      refine M.stAll_i b19 rfl ?_
      refine M.call_i (plain_ret (h.keep k09 (fun _ _ _ h => h)) hf) ?_; rintro _ w10 ⟨p1, p2, rfl, dv10, k10⟩
      have hpl : (plainD d).pend.length = d.pend.length := by simp [plainD]
      have hdl : (plainD d).disk.length = d.disk.length := by simp [plainD]
      refine M.call_i (rmasks_ret dv10 (by omega)) ?_; rintro rv w11 ⟨g11, k11⟩
      have hml := masksL_len (epsS d.pend)
      rw [epsS_plain] at g11
      refine M.call_i (same_ret (GI.lv (g9.keep (k10.trans k11 (fun _ _ h => h)) (fun _ _ _ h => h))) (GI.lv g11) (by show _ ≤ _; omega)) ?_; rintro _ w12 ⟨rfl, k12⟩
      rw [decide_eq_true rfl]
      have k812 : Keep w8 w12 No := ((k9.trans k10 (fun _ _ h => h)).trans k11 (fun _ _ h => h)).trans k12 (fun _ _ h => h)
      have b112 := b17.keep k812 (fun h => h)
      have b712 := b7.keep k812 (fun h => h)
      have g12 := g7.keep k812 (fun _ _ _ h => h)
      have l12 := l7.keep k812 (fun _ _ _ h => h)
      have k012 := k07.trans k812 (fun _ _ h => h)
      (repeat (first|refine ja ?_|refine jb ?_|refine jc ?_|refine jd ?_|refine je ?_|refine jf ?_|refine jg ?_|refine jh ?_|refine ji ?_|refine jj ?_|refine jk ?_|refine jl ?_|refine jm ?_|refine jn ?_|refine jo ?_|refine jp ?_|refine jq ?_|refine jr ?_|refine js ?_|refine jt ?_|refine ju ?_|refine jv ?_|refine jw ?_|refine jx ?_|refine jy ?_|refine jz ?_|refine jA ?_|refine jB ?_|refine jC ?_|refine jD ?_|refine jE ?_|refine jF ?_|refine jG ?_|refine jH ?_|refine jI ?_|refine jJ ?_|refine jK ?_|refine jL ?_|refine jM (by assumption) ?_|refine jN (by assumption) rfl ?_|refine jO (by assumption) ?_|refine jP (by assumption) rfl ?_|refine jQ ?_|refine jR ?_|refine jS ?_|refine jT ?_|refine jU (by assumption) rfl ?_))
      refine M.loadAll_i b112 rfl ?_
      (repeat (first|refine ja ?_|refine jb ?_|refine jc ?_|refine jd ?_|refine je ?_|refine jf ?_|refine jg ?_|refine jh ?_|refine ji ?_|refine jj ?_|refine jk ?_|refine jl ?_|refine jm ?_|refine jn ?_|refine jo ?_|refine jp ?_|refine jq ?_|refine jr ?_|refine js ?_|refine jt ?_|refine ju ?_|refine jv ?_|refine jw ?_|refine jx ?_|refine jy ?_|refine jz ?_|refine jA ?_|refine jB ?_|refine jC ?_|refine jD ?_|refine jE ?_|refine jF ?_|refine jG ?_|refine jH ?_|refine jI ?_|refine jJ ?_|refine jK ?_|refine jL ?_|refine jM (by assumption) ?_|refine jN (by assumption) rfl ?_|refine jO (by assumption) ?_|refine jP (by assumption) rfl ?_|refine jQ ?_|refine jR ?_|refine jS ?_|refine jT ?_|refine jU (by assumption) rfl ?_))
      refine M.call_i (plain_ret (h.keep k012 (fun _ _ _ h => h)) hf) ?_; rintro _ w13 ⟨p3, p4, rfl, dv13, k13⟩
      (repeat (first|refine ja ?_|refine jb ?_|refine jc ?_|refine jd ?_|refine je ?_|refine jf ?_|refine jg ?_|refine jh ?_|refine ji ?_|refine jj ?_|refine jk ?_|refine jl ?_|refine jm ?_|refine jn ?_|refine jo ?_|refine jp ?_|refine jq ?_|refine jr ?_|refine js ?_|refine jt ?_|refine ju ?_|refine jv ?_|refine jw ?_|refine jx ?_|refine jy ?_|refine jz ?_|refine jA ?_|refine jB ?_|refine jC ?_|refine jD ?_|refine jE ?_|refine jF ?_|refine jG ?_|refine jH ?_|refine jI ?_|refine jJ ?_|refine jK ?_|refine jL ?_|refine jM (by assumption) ?_|refine jN (by assumption) rfl ?_|refine jO (by assumption) ?_|refine jP (by assumption) rfl ?_|refine jQ ?_|refine jR ?_|refine jS ?_|refine jT ?_|refine jU (by assumption) rfl ?_))
      refine M.call_i (rimage_ret dv13 (by omega) (by omega) m) ?_; rintro rv w14 ⟨g14, k14⟩
      (repeat (first|refine ja ?_|refine jb ?_|refine jc ?_|refine jd ?_|refine je ?_|refine jf ?_|refine jg ?_|refine jh ?_|refine ji ?_|refine jj ?_|refine jk ?_|refine jl ?_|refine jm ?_|refine jn ?_|refine jo ?_|refine jp ?_|refine jq ?_|refine jr ?_|refine js ?_|refine jt ?_|refine ju ?_|refine jv ?_|refine jw ?_|refine jx ?_|refine jy ?_|refine jz ?_|refine jA ?_|refine jB ?_|refine jC ?_|refine jD ?_|refine jE ?_|refine jF ?_|refine jG ?_|refine jH ?_|refine jI ?_|refine jJ ?_|refine jK ?_|refine jL ?_|refine jM (by assumption) ?_|refine jN (by assumption) rfl ?_|refine jO (by assumption) ?_|refine jP (by assumption) rfl ?_|refine jQ ?_|refine jR ?_|refine jS ?_|refine jT ?_|refine jU (by assumption) rfl ?_))
      have k1214 := k13.trans k14 (fun _ _ h => h)
      have hil2 : (I.map (fun x => BitVec.ofInt 64 x)).length ≤ 1000000 := by rw [List.length_map]; omega
      refine M.call_i (words_ret (GW.lv (g12.keep k1214 (fun _ _ _ h => h))) (GW.lv g14) hil2) ?_; rintro _ w15 ⟨rfl, k15⟩
      have e1 : I.map (fun x => BitVec.ofInt 64 x) = imgL (plainD d).disk (pairs (plainD d).pend) m := by
        rw [← himg, imgL_map, pairs_plain]
        rfl
      rw [decide_eq_true e1]
      have k1215 := k1214.trans k15 (fun _ _ h => h)
      have b112 := b112.keep k1215 (fun h => h)
      have b712 := b712.keep k1215 (fun h => h)
      have l12 := l12.keep k1215 (fun _ _ _ h => h)
      have k015 := k012.trans k1215 (fun _ _ h => h)
      (repeat (first|refine ja ?_|refine jb ?_|refine jc ?_|refine jd ?_|refine je ?_|refine jf ?_|refine jg ?_|refine jh ?_|refine ji ?_|refine jj ?_|refine jk ?_|refine jl ?_|refine jm ?_|refine jn ?_|refine jo ?_|refine jp ?_|refine jq ?_|refine jr ?_|refine js ?_|refine jt ?_|refine ju ?_|refine jv ?_|refine jw ?_|refine jx ?_|refine jy ?_|refine jz ?_|refine jA ?_|refine jB ?_|refine jC ?_|refine jD ?_|refine jE ?_|refine jF ?_|refine jG ?_|refine jH ?_|refine jI ?_|refine jJ ?_|refine jK ?_|refine jL ?_|refine jM (by assumption) ?_|refine jN (by assumption) rfl ?_|refine jO (by assumption) ?_|refine jP (by assumption) rfl ?_|refine jQ ?_|refine jR ?_|refine jS ?_|refine jT ?_|refine jU (by assumption) rfl ?_))
      refine M.call_i (same_ret l12 (LV.keep hl0 k015 (fun _ _ _ h => h)) (by show _ ≤ _; omega)) ?_; rintro _ w16 ⟨rfl, k16⟩
      rw [decide_eq_true rfl]
      have b112 := b112.keep k16 (fun h => h)
      have b712 := b712.keep k16 (fun h => h)
      have k016 := k015.trans k16 (fun _ _ h => h)
      (repeat (first|refine ja ?_|refine jb ?_|refine jc ?_|refine jd ?_|refine je ?_|refine jf ?_|refine jg ?_|refine jh ?_|refine ji ?_|refine jj ?_|refine jk ?_|refine jl ?_|refine jm ?_|refine jn ?_|refine jo ?_|refine jp ?_|refine jq ?_|refine jr ?_|refine js ?_|refine jt ?_|refine ju ?_|refine jv ?_|refine jw ?_|refine jx ?_|refine jy ?_|refine jz ?_|refine jA ?_|refine jB ?_|refine jC ?_|refine jD ?_|refine jE ?_|refine jF ?_|refine jG ?_|refine jH ?_|refine jI ?_|refine jJ ?_|refine jK ?_|refine jL ?_|refine jM (by assumption) ?_|refine jN (by assumption) rfl ?_|refine jO (by assumption) ?_|refine jP (by assumption) rfl ?_|refine jQ ?_|refine jR ?_|refine jS ?_|refine jT ?_|refine jU (by assumption) rfl ?_))
      refine M.call_i (awake39_ret w16) ?_; rintro _ w17 ⟨rfl, k17⟩
      have b712 := b712.keep k17 (fun h => h)
      (repeat (first|refine ja ?_|refine jb ?_|refine jc ?_|refine jd ?_|refine je ?_|refine jf ?_|refine jg ?_|refine jh ?_|refine ji ?_|refine jj ?_|refine jk ?_|refine jl ?_|refine jm ?_|refine jn ?_|refine jo ?_|refine jp ?_|refine jq ?_|refine jr ?_|refine js ?_|refine jt ?_|refine ju ?_|refine jv ?_|refine jw ?_|refine jx ?_|refine jy ?_|refine jz ?_|refine jA ?_|refine jB ?_|refine jC ?_|refine jD ?_|refine jE ?_|refine jF ?_|refine jG ?_|refine jH ?_|refine jI ?_|refine jJ ?_|refine jK ?_|refine jL ?_|refine jM (by assumption) ?_|refine jN (by assumption) rfl ?_|refine jO (by assumption) ?_|refine jP (by assumption) rfl ?_|refine jQ ?_|refine jR ?_|refine jS ?_|refine jT ?_|refine jU (by assumption) rfl ?_))
      exact ⟨rfl, k016.trans k17 (fun _ _ h => h)⟩
  · have hff : fewS d = false := by simpa using hfew
    rw [hff]
    (repeat (first|refine ja ?_|refine jb ?_|refine jc ?_|refine jd ?_|refine je ?_|refine jf ?_|refine jg ?_|refine jh ?_|refine ji ?_|refine jj ?_|refine jk ?_|refine jl ?_|refine jm ?_|refine jn ?_|refine jo ?_|refine jp ?_|refine jq ?_|refine jr ?_|refine js ?_|refine jt ?_|refine ju ?_|refine jv ?_|refine jw ?_|refine jx ?_|refine jy ?_|refine jz ?_|refine jA ?_|refine jB ?_|refine jC ?_|refine jD ?_|refine jE ?_|refine jF ?_|refine jG ?_|refine jH ?_|refine jI ?_|refine jJ ?_|refine jK ?_|refine jL ?_|refine jM (by assumption) ?_|refine jN (by assumption) rfl ?_|refine jO (by assumption) ?_|refine jP (by assumption) rfl ?_|refine jQ ?_|refine jR ?_|refine jS ?_|refine jT ?_|refine jU (by assumption) rfl ?_))
    refine M.call_i (awake39_ret w2) ?_; rintro _ w3 ⟨rfl, k3⟩
    exact ⟨rfl, k02.trans k3 (fun _ _ h => h)⟩
end Go.Proofs.Ytfffepeloiefiaa
