import Derived.Test.YtanjlgafjgoaaaaSt37h
namespace Go.Proofs.Ytanjlgafjgoaaaa
open Go.Mw
set_option linter.unusedVariables false
set_option linter.unusedSimpArgs false
set_option maxRecDepth 100000
attribute [local irreducible] M.val M.unit M.next M.pick M.new M.nilCheck M.load1 M.loadA M.store M.fieldAddr M.indexSl M.indexArr M.slice M.makeSlice M.buildSlice M.len M.lenS M.cap M.append M.extract M.conv M.not M.neg M.bin M.shift M.eqB M.eqNil M.scat M.call M.callv M.gd M.share M.cond M.loop M.draw pureW readW Ret
section
variable {w : World} {F : Nat → Prop} {p pb : Nat} {N : List Nd} {most : Int} {s : Sy} {sv : List Value} {i : Ins} {inputs mw : Int} {ov : Value} {outs : List Sy} {e : Int} {c a b d : Value}
theorem barrier1_ret {t : Nat} {x y : Value} {ep : Int} (hb : Blk w t [x, y, vi ep]) (z : SP) : Ret Try.prog 65 #[.agg ⟨z.cells⟩, ptr t] w (fun r w' => r = .bool (decide (z.e = ep)) ∧ Keep w w' No) := by
  refine ok65 _ _ _ _ ?_
  unfold sh65
  refine M.new_i (l := [vi z.b, vi z.v, vi z.e]) (fun w1 b1 k1 s1 => ?_)
  have hb1 := hb.keep k1 (fun h => h)
  by_cases hz : z.e = ep
  · (repeat (first|refine ja ?_|refine jb ?_|refine jc ?_|refine jd ?_|refine je ?_|refine jf ?_|refine jg ?_|refine jh ?_|refine ji ?_|refine jj ?_|refine jk ?_|refine jl ?_|refine jm ?_|refine jn ?_|refine jo ?_|refine jp ?_|refine jq ?_|refine jr ?_|refine js ?_|refine jt ?_|refine ju ?_|refine jv ?_|refine jw ?_|refine jx ?_|refine jy ?_|refine jz ?_|refine jA ?_|refine jB ?_|refine jC ?_|refine jD ?_|refine jE ?_|refine jF ?_|refine jG ?_|refine jH ?_|refine jI ?_|refine jJ ?_|refine jK ?_|refine jL ?_|refine jM (by assumption) ?_|refine jN (by assumption) rfl ?_|refine jO (by assumption) ?_|refine jP (by assumption) rfl ?_|refine jQ ?_|refine jR ?_|refine jS ?_|refine jT ?_|refine jU (by assumption) rfl ?_))
    exact ⟨by rw [decide_eq_true hz], k1⟩
  · (repeat (first|refine ja ?_|refine jb ?_|refine jc ?_|refine jd ?_|refine je ?_|refine jf ?_|refine jg ?_|refine jh ?_|refine ji ?_|refine jj ?_|refine jk ?_|refine jl ?_|refine jm ?_|refine jn ?_|refine jo ?_|refine jp ?_|refine jq ?_|refine jr ?_|refine js ?_|refine jt ?_|refine ju ?_|refine jv ?_|refine jw ?_|refine jx ?_|refine jy ?_|refine jz ?_|refine jA ?_|refine jB ?_|refine jC ?_|refine jD ?_|refine jE ?_|refine jF ?_|refine jG ?_|refine jH ?_|refine jI ?_|refine jJ ?_|refine jK ?_|refine jL ?_|refine jM (by assumption) ?_|refine jN (by assumption) rfl ?_|refine jO (by assumption) ?_|refine jP (by assumption) rfl ?_|refine jQ ?_|refine jR ?_|refine jS ?_|refine jT ?_|refine jU (by assumption) rfl ?_))
    exact ⟨by rw [decide_eq_false hz], k1⟩
theorem indexP_ret {D : Nat → Prop} {t : Nat} {x y v : Value} {ep : Int} {xs : List SP} (hb : Blk w t [x, y, vi ep]) (hl : LN SP.cells w D v xs) (hf : xs.length ≤ 100000) :
    Ret Try.prog 64 #[v, .func (.func 65) #[] #[ptr t]] w (fun r w' => r = .bool (xs.any (fun z => decide (z.e = ep))) ∧ Keep w w' No) := by
  obtain ⟨A, cA, rfl, hr, _⟩ := hl
  refine ok64 _ _ _ _ ?_
  unfold sh64
  refine M.call_i (Q := fun r w' => ∃ z : Int, r = vi z ∧ (0 ≤ z ↔ xs.any (fun z => decide (z.e = ep)) = true) ∧ Keep w w' No) ?_ ?_
  · refine ok76 _ _ _ _ ?_
    unfold sh76
    (repeat (first|refine ja ?_|refine jb ?_|refine jc ?_|refine jd ?_|refine je ?_|refine jf ?_|refine jg ?_|refine jh ?_|refine ji ?_|refine jj ?_|refine jk ?_|refine jl ?_|refine jm ?_|refine jn ?_|refine jo ?_|refine jp ?_|refine jq ?_|refine jr ?_|refine js ?_|refine jt ?_|refine ju ?_|refine jv ?_|refine jw ?_|refine jx ?_|refine jy ?_|refine jz ?_|refine jA ?_|refine jB ?_|refine jC ?_|refine jD ?_|refine jE ?_|refine jF ?_|refine jG ?_|refine jH ?_|refine jI ?_|refine jJ ?_|refine jK ?_|refine jL ?_|refine jM (by assumption) ?_|refine jN (by assumption) rfl ?_|refine jO (by assumption) ?_|refine jP (by assumption) rfl ?_|refine jQ ?_|refine jR ?_|refine jS ?_|refine jT ?_|refine jU (by assumption) rfl ?_))
    refine M.loop_i (σ := Nat) (fun j vals w' => vals = [vi j] ∧ j ≤ xs.length ∧ (xs.take j).any (fun z => decide (z.e = ep)) = false ∧ Keep w w' No) (fun j => xs.length - j) 0 ⟨rfl, by omega, by simp, Keep.refl _ _⟩ ?_
    rintro j vals w1 K ⟨rfl, hj, hno, k1⟩ hK _
    simp only [List.getD_cons_zero, List.getD_cons_succ]
    by_cases hlt : j < xs.length
    · obtain ⟨z, hz⟩ : ∃ z, xs[j]? = some z := ⟨_, List.getElem?_eq_getElem hlt⟩
      have et : xs.take (j + 1) = xs.take j ++ [z] := by rw [List.take_add_one, hz]; rfl
      (repeat (first|refine ja ?_|refine jb ?_|refine jc ?_|refine jd ?_|refine je ?_|refine jf ?_|refine jg ?_|refine jh ?_|refine ji ?_|refine jj ?_|refine jk ?_|refine jl ?_|refine jm ?_|refine jn ?_|refine jo ?_|refine jp ?_|refine jq ?_|refine jr ?_|refine js ?_|refine jt ?_|refine ju ?_|refine jv ?_|refine jw ?_|refine jx ?_|refine jy ?_|refine jz ?_|refine jA ?_|refine jB ?_|refine jC ?_|refine jD ?_|refine jE ?_|refine jF ?_|refine jG ?_|refine jH ?_|refine jI ?_|refine jJ ?_|refine jK ?_|refine jL ?_|refine jM (by assumption) ?_|refine jN (by assumption) rfl ?_|refine jO (by assumption) ?_|refine jP (by assumption) rfl ?_|refine jQ ?_|refine jR ?_|refine jS ?_|refine jT ?_|refine jU (by assumption) rfl ?_))
      refine M.idxF_i sp_len (by omega) (hr.keep k1 (fun _ _ _ h => h)) rfl (by omega) (x := z) (by rw [Int.toNat_natCast]; exact hz) (fun bb oo hcc => ?_)
      refine M.load3_i (hcc 0 (vi z.b) rfl) (hcc 1 (vi z.v) rfl) (hcc 2 (vi z.e) rfl) ?_
      refine M.callv_i (fun _ _ => rfl) (barrier1_ret (hb.keep k1 (fun h => h)) z) ?_
      rintro _ w2 ⟨rfl, k2⟩
      have k02 := k1.trans k2 (fun _ _ h => h)
      by_cases hze : z.e = ep
      · rw [decide_eq_true hze]
        (repeat (first|refine ja ?_|refine jb ?_|refine jc ?_|refine jd ?_|refine je ?_|refine jf ?_|refine jg ?_|refine jh ?_|refine ji ?_|refine jj ?_|refine jk ?_|refine jl ?_|refine jm ?_|refine jn ?_|refine jo ?_|refine jp ?_|refine jq ?_|refine jr ?_|refine js ?_|refine jt ?_|refine ju ?_|refine jv ?_|refine jw ?_|refine jx ?_|refine jy ?_|refine jz ?_|refine jA ?_|refine jB ?_|refine jC ?_|refine jD ?_|refine jE ?_|refine jF ?_|refine jG ?_|refine jH ?_|refine jI ?_|refine jJ ?_|refine jK ?_|refine jL ?_|refine jM (by assumption) ?_|refine jN (by assumption) rfl ?_|refine jO (by assumption) ?_|refine jP (by assumption) rfl ?_|refine jQ ?_|refine jR ?_|refine jS ?_|refine jT ?_|refine jU (by assumption) rfl ?_))
        refine ⟨(j : Nat), rfl, ⟨fun _ => ?_, fun _ => by omega⟩, k02⟩
        exact List.any_eq_true.2 ⟨z, List.mem_of_getElem? hz, by simpa using hze⟩
      · rw [decide_eq_false hze]
        (repeat (first|refine ja ?_|refine jb ?_|refine jc ?_|refine jd ?_|refine je ?_|refine jf ?_|refine jg ?_|refine jh ?_|refine ji ?_|refine jj ?_|refine jk ?_|refine jl ?_|refine jm ?_|refine jn ?_|refine jo ?_|refine jp ?_|refine jq ?_|refine jr ?_|refine js ?_|refine jt ?_|refine ju ?_|refine jv ?_|refine jw ?_|refine jx ?_|refine jy ?_|refine jz ?_|refine jA ?_|refine jB ?_|refine jC ?_|refine jD ?_|refine jE ?_|refine jF ?_|refine jG ?_|refine jH ?_|refine jI ?_|refine jJ ?_|refine jK ?_|refine jL ?_|refine jM (by assumption) ?_|refine jN (by assumption) rfl ?_|refine jO (by assumption) ?_|refine jP (by assumption) rfl ?_|refine jQ ?_|refine jR ?_|refine jS ?_|refine jT ?_|refine jU (by assumption) rfl ?_))
        exact hK (j + 1) _ _ (by omega) ⟨rfl, by omega, by rw [et, List.any_append, hno]; simp [hze], k02⟩
    · have e : j = xs.length := by omega
      subst e
      rw [List.take_length] at hno
      (repeat (first|refine ja ?_|refine jb ?_|refine jc ?_|refine jd ?_|refine je ?_|refine jf ?_|refine jg ?_|refine jh ?_|refine ji ?_|refine jj ?_|refine jk ?_|refine jl ?_|refine jm ?_|refine jn ?_|refine jo ?_|refine jp ?_|refine jq ?_|refine jr ?_|refine js ?_|refine jt ?_|refine ju ?_|refine jv ?_|refine jw ?_|refine jx ?_|refine jy ?_|refine jz ?_|refine jA ?_|refine jB ?_|refine jC ?_|refine jD ?_|refine jE ?_|refine jF ?_|refine jG ?_|refine jH ?_|refine jI ?_|refine jJ ?_|refine jK ?_|refine jL ?_|refine jM (by assumption) ?_|refine jN (by assumption) rfl ?_|refine jO (by assumption) ?_|refine jP (by assumption) rfl ?_|refine jQ ?_|refine jR ?_|refine jS ?_|refine jT ?_|refine jU (by assumption) rfl ?_))
      exact ⟨-1, rfl, ⟨fun h => absurd h (by decide), fun h => by rw [hno] at h; cases h⟩, k1⟩
  · rintro _ w1 ⟨z, rfl, hz, k1⟩
    cases hany : xs.any (fun z => decide (z.e = ep)) with
    | true =>
      have := hz.2 hany
      (repeat (first|refine ja ?_|refine jb ?_|refine jc ?_|refine jd ?_|refine je ?_|refine jf ?_|refine jg ?_|refine jh ?_|refine ji ?_|refine jj ?_|refine jk ?_|refine jl ?_|refine jm ?_|refine jn ?_|refine jo ?_|refine jp ?_|refine jq ?_|refine jr ?_|refine js ?_|refine jt ?_|refine ju ?_|refine jv ?_|refine jw ?_|refine jx ?_|refine jy ?_|refine jz ?_|refine jA ?_|refine jB ?_|refine jC ?_|refine jD ?_|refine jE ?_|refine jF ?_|refine jG ?_|refine jH ?_|refine jI ?_|refine jJ ?_|refine jK ?_|refine jL ?_|refine jM (by assumption) ?_|refine jN (by assumption) rfl ?_|refine jO (by assumption) ?_|refine jP (by assumption) rfl ?_|refine jQ ?_|refine jR ?_|refine jS ?_|refine jT ?_|refine jU (by assumption) rfl ?_))
      exact ⟨rfl, k1⟩
    | false =>
      have : ¬ 0 ≤ z := fun h => by have := hz.1 h; rw [hany] at this; cases this
      (repeat (first|refine ja ?_|refine jb ?_|refine jc ?_|refine jd ?_|refine je ?_|refine jf ?_|refine jg ?_|refine jh ?_|refine ji ?_|refine jj ?_|refine jk ?_|refine jl ?_|refine jm ?_|refine jn ?_|refine jo ?_|refine jp ?_|refine jq ?_|refine jr ?_|refine js ?_|refine jt ?_|refine ju ?_|refine jv ?_|refine jw ?_|refine jx ?_|refine jy ?_|refine jz ?_|refine jA ?_|refine jB ?_|refine jC ?_|refine jD ?_|refine jE ?_|refine jF ?_|refine jG ?_|refine jH ?_|refine jI ?_|refine jJ ?_|refine jK ?_|refine jL ?_|refine jM (by assumption) ?_|refine jN (by assumption) rfl ?_|refine jO (by assumption) ?_|refine jP (by assumption) rfl ?_|refine jQ ?_|refine jR ?_|refine jS ?_|refine jT ?_|refine jU (by assumption) rfl ?_))
      exact ⟨rfl, k1⟩
theorem barrier37_ret (h : Stp w F p pb N most s sv i inputs mw ov [] e) (hsv : sv = s.vals c a b d) (hB : Bnd s) :
    Ret Try.prog 39 #[ptr pb] w (Adds w F p pb most s sv i inputs mw ov (plainR N e (s.call (barN s.dev)))) := by
  obtain ⟨o1, o2, o3, o4⟩ := h.one4 hsv
  have hep := hB.ep
  refine ok39 _ _ _ ?_
  unfold sh39
  have c1 := h.ca hsv
  have c2 := h.cb hsv
  have c3 := h.cep hsv
  (repeat (first|refine ja ?_|refine jb ?_|refine jc ?_|refine jd ?_|refine je ?_|refine jf ?_|refine jg ?_|refine jh ?_|refine ji ?_|refine jj ?_|refine jk ?_|refine jl ?_|refine jm ?_|refine jn ?_|refine jo ?_|refine jp ?_|refine jq ?_|refine jr ?_|refine js ?_|refine jt ?_|refine ju ?_|refine jv ?_|refine jw ?_|refine jx ?_|refine jy ?_|refine jz ?_|refine jA ?_|refine jB ?_|refine jC ?_|refine jD ?_|refine jE ?_|refine jF ?_|refine jG ?_|refine jH ?_|refine jI ?_|refine jJ ?_|refine jK ?_|refine jL ?_|refine jM (by assumption) ?_|refine jN (by assumption) rfl ?_|refine jO (by assumption) ?_|refine jP (by assumption) rfl ?_|refine jQ ?_|refine jR ?_|refine jS ?_|refine jT ?_|refine jU (by assumption) rfl ?_))
  refine M.load3_i c1 c2 c3 ?_
  refine M.new_i (l := [.slice none 0 0, .slice none 0 0, vi 0]) (fun w1 b1 k1 s1 => ?_)
  refine M.storeAll_i (vs := [a, b, vi s.dev.ep]) b1 rfl rfl (by
    simp only [List.mem_cons, List.not_mem_nil, or_false, forall_eq_or_imp, forall_eq]
    exact ⟨o2, o3, rfl⟩) (fun w2 b2 k2 s2 => ?_)
  have k02 : Keep w w2 No := k1.trans k2 (fun x hx e => by have e : x = w.heap.size := e; omega)
  have h2 := h.keepN k02
  refine M.share_j (fun vals w' => vals = [] ∧ Blk w' w.heap.size [a, b, vi (barN s.dev).ep] ∧ Keep w w' No) ?_ ?_
  · rintro vals w3 ⟨rfl, b3, k3⟩ _
    refine M.loadAll_i b3 rfl ?_
    have h3 := h.keepN k3
    have hd1 : (barN s.dev).disk = s.dev.disk := by unfold barN; split <;> rfl
    have hd2 : (barN s.dev).pend = s.dev.pend := by unfold barN; split <;> rfl
    have hv : SDvO w3 (Fr F pb ov) a b (barN s.dev) := SDvO.ep' (h3.lists hsv).2.1 hd1 hd2
    refine M.call_i (call37_ret h3 hsv hB.pc hB.calls hv) ?_; rintro _ w4 ⟨rfl, k4⟩
    have h4 := h3.keepN k4
    have h8' : (s.call (barN s.dev)).regs.length = 8 := h.sy.1
    have hs4 : SyO w4 (Fr F pb ov) (.agg ⟨(s.call (barN s.dev)).vals c a b d⟩) (s.call (barN s.dev)) := SyO.of_vals h8' ⟨(h4.lists hsv).1, hv.keep k4 (fun _ _ _ h => h), (h4.lists hsv).2.2⟩
    refine M.call_i (add37_ret h4 hs4 hB.conds (by simp) (-1)) ?_
    rintro _ w5 ⟨rfl, ov5, h5, m5⟩
    exact ⟨rfl, F, ov5, h5, (Mv.none (k3.trans k4 (fun _ _ h => h))).trans m5⟩
  · intro K hK
    (repeat (first|refine ja ?_|refine jb ?_|refine jc ?_|refine jd ?_|refine je ?_|refine jf ?_|refine jg ?_|refine jh ?_|refine ji ?_|refine jj ?_|refine jk ?_|refine jl ?_|refine jm ?_|refine jn ?_|refine jo ?_|refine jp ?_|refine jq ?_|refine jr ?_|refine js ?_|refine jt ?_|refine ju ?_|refine jv ?_|refine jw ?_|refine jx ?_|refine jy ?_|refine jz ?_|refine jA ?_|refine jB ?_|refine jC ?_|refine jD ?_|refine jE ?_|refine jF ?_|refine jG ?_|refine jH ?_|refine jI ?_|refine jJ ?_|refine jK ?_|refine jL ?_|refine jM (by assumption) ?_|refine jN (by assumption) rfl ?_|refine jO (by assumption) ?_|refine jP (by assumption) rfl ?_|refine jQ ?_|refine jR ?_|refine jS ?_|refine jT ?_|refine jU (by assumption) rfl ?_))
    refine M.call_i (indexP_ret b2 (h2.lists hsv).2.1.2 hB.pend) ?_; rintro _ w3 ⟨rfl, k3⟩
    have b3 := b2.keep k3 (fun h => h)
    have k03 := k02.trans k3 (fun _ _ h => h)
    have eb : (barN s.dev).ep = if s.dev.pend.any (fun w => decide (w.e = s.dev.ep)) then s.dev.ep + 1 else s.dev.ep := by unfold barN; split <;> rfl
    cases hany : s.dev.pend.any (fun w => decide (w.e = s.dev.ep)) with
    | true =>
      rw [hany, if_pos rfl] at eb
      (repeat (first|refine ja ?_|refine jb ?_|refine jc ?_|refine jd ?_|refine je ?_|refine jf ?_|refine jg ?_|refine jh ?_|refine ji ?_|refine jj ?_|refine jk ?_|refine jl ?_|refine jm ?_|refine jn ?_|refine jo ?_|refine jp ?_|refine jq ?_|refine jr ?_|refine js ?_|refine jt ?_|refine ju ?_|refine jv ?_|refine jw ?_|refine jx ?_|refine jy ?_|refine jz ?_|refine jA ?_|refine jB ?_|refine jC ?_|refine jD ?_|refine jE ?_|refine jF ?_|refine jG ?_|refine jH ?_|refine jI ?_|refine jJ ?_|refine jK ?_|refine jL ?_|refine jM (by assumption) ?_|refine jN (by assumption) rfl ?_|refine jO (by assumption) ?_|refine jP (by assumption) rfl ?_|refine jQ ?_|refine jR ?_|refine jS ?_|refine jT ?_|refine jU (by assumption) rfl ?_))
      refine M.store_i b3 (by simp) rfl (fun w4 b4 k4 s4 => ?_)
      exact hK [] w4 ⟨rfl, by rw [eb]; exact b4, k03.trans k4 (fun x hx e => by have e : x = w.heap.size := e; omega)⟩
    | false =>
      rw [hany, if_neg (by decide)] at eb
      (repeat (first|refine ja ?_|refine jb ?_|refine jc ?_|refine jd ?_|refine je ?_|refine jf ?_|refine jg ?_|refine jh ?_|refine ji ?_|refine jj ?_|refine jk ?_|refine jl ?_|refine jm ?_|refine jn ?_|refine jo ?_|refine jp ?_|refine jq ?_|refine jr ?_|refine js ?_|refine jt ?_|refine ju ?_|refine jv ?_|refine jw ?_|refine jx ?_|refine jy ?_|refine jz ?_|refine jA ?_|refine jB ?_|refine jC ?_|refine jD ?_|refine jE ?_|refine jF ?_|refine jG ?_|refine jH ?_|refine jI ?_|refine jJ ?_|refine jK ?_|refine jL ?_|refine jM (by assumption) ?_|refine jN (by assumption) rfl ?_|refine jO (by assumption) ?_|refine jP (by assumption) rfl ?_|refine jQ ?_|refine jR ?_|refine jS ?_|refine jT ?_|refine jU (by assumption) rfl ?_))
      exact hK [] w3 ⟨rfl, by rw [eb]; exact b3, k03⟩
theorem input37_ret (h : Stp w F p pb N most s sv i inputs mw ov outs e) (hin : inputs ≤ 1000000) (hI : inputs < 0 ∨ i.imm.toNat < 1000000) :
    Ret Try.prog 35 #[ptr pb] w (Idd w F p pb most s sv i inputs mw ov outs (inputP most N e i inputs)) := by
  refine ok35 _ _ _ ?_
  unfold sh35
  have kd := Keep.drew w No
  have hd := h.keepN kd
  have hcin := hd.cin
  have hcI := hd.cI
  unfold inputP
  by_cases h0 : inputs < 0
  · rw [if_pos (.inl h0)]
    (repeat (first|refine ja ?_|refine jb ?_|refine jc ?_|refine jd ?_|refine je ?_|refine jf ?_|refine jg ?_|refine jh ?_|refine ji ?_|refine jj ?_|refine jk ?_|refine jl ?_|refine jm ?_|refine jn ?_|refine jo ?_|refine jp ?_|refine jq ?_|refine jr ?_|refine js ?_|refine jt ?_|refine ju ?_|refine jv ?_|refine jw ?_|refine jx ?_|refine jy ?_|refine jz ?_|refine jA ?_|refine jB ?_|refine jC ?_|refine jD ?_|refine jE ?_|refine jF ?_|refine jG ?_|refine jH ?_|refine jI ?_|refine jJ ?_|refine jK ?_|refine jL ?_|refine jM (by assumption) ?_|refine jN (by assumption) rfl ?_|refine jO (by assumption) ?_|refine jP (by assumption) rfl ?_|refine jQ ?_|refine jR ?_|refine jS ?_|refine jT ?_|refine jU (by assumption) rfl ?_))
    refine M.call_i (word37_ret hd 0) ?_
    exact fun v w' hv => hv.pre (Mv.none kd)
  · obtain ⟨n, rfl⟩ : ∃ n : Nat, inputs = (n : Int) := ⟨inputs.toNat, by omega⟩
    by_cases h1 : (n : Int) ≤ (i.imm.toNat : Int)
    · rw [if_pos (.inr h1)]
      (repeat (first|refine ja ?_|refine jb ?_|refine jc ?_|refine jd ?_|refine je ?_|refine jf ?_|refine jg ?_|refine jh ?_|refine ji ?_|refine jj ?_|refine jk ?_|refine jl ?_|refine jm ?_|refine jn ?_|refine jo ?_|refine jp ?_|refine jq ?_|refine jr ?_|refine js ?_|refine jt ?_|refine ju ?_|refine jv ?_|refine jw ?_|refine jx ?_|refine jy ?_|refine jz ?_|refine jA ?_|refine jB ?_|refine jC ?_|refine jD ?_|refine jE ?_|refine jF ?_|refine jG ?_|refine jH ?_|refine jI ?_|refine jJ ?_|refine jK ?_|refine jL ?_|refine jM (by assumption) ?_|refine jN (by assumption) rfl ?_|refine jO (by assumption) ?_|refine jP (by assumption) rfl ?_|refine jQ ?_|refine jR ?_|refine jS ?_|refine jT ?_|refine jU (by assumption) rfl ?_))
      refine M.u64_i (by omega) ?_
      (repeat (first|refine ja ?_|refine jb ?_|refine jc ?_|refine jd ?_|refine je ?_|refine jf ?_|refine jg ?_|refine jh ?_|refine ji ?_|refine jj ?_|refine jk ?_|refine jl ?_|refine jm ?_|refine jn ?_|refine jo ?_|refine jp ?_|refine jq ?_|refine jr ?_|refine js ?_|refine jt ?_|refine ju ?_|refine jv ?_|refine jw ?_|refine jx ?_|refine jy ?_|refine jz ?_|refine jA ?_|refine jB ?_|refine jC ?_|refine jD ?_|refine jE ?_|refine jF ?_|refine jG ?_|refine jH ?_|refine jI ?_|refine jJ ?_|refine jK ?_|refine jL ?_|refine jM (by assumption) ?_|refine jN (by assumption) rfl ?_|refine jO (by assumption) ?_|refine jP (by assumption) rfl ?_|refine jQ ?_|refine jR ?_|refine jS ?_|refine jT ?_|refine jU (by assumption) rfl ?_))
      refine M.call_i (word37_ret hd 0) ?_
      exact fun v w' hv => hv.pre (Mv.none kd)
    · rw [if_neg (by omega)]
      (repeat (first|refine ja ?_|refine jb ?_|refine jc ?_|refine jd ?_|refine je ?_|refine jf ?_|refine jg ?_|refine jh ?_|refine ji ?_|refine jj ?_|refine jk ?_|refine jl ?_|refine jm ?_|refine jn ?_|refine jo ?_|refine jp ?_|refine jq ?_|refine jr ?_|refine js ?_|refine jt ?_|refine ju ?_|refine jv ?_|refine jw ?_|refine jx ?_|refine jy ?_|refine jz ?_|refine jA ?_|refine jB ?_|refine jC ?_|refine jD ?_|refine jE ?_|refine jF ?_|refine jG ?_|refine jH ?_|refine jI ?_|refine jJ ?_|refine jK ?_|refine jL ?_|refine jM (by assumption) ?_|refine jN (by assumption) rfl ?_|refine jO (by assumption) ?_|refine jP (by assumption) rfl ?_|refine jQ ?_|refine jR ?_|refine jS ?_|refine jT ?_|refine jU (by assumption) rfl ?_))
      refine M.u64_i (by omega) ?_
      have kd2 := Keep.drew w.drew No
      have h2 := hd.keepN kd2
      have hcp := h2.cp
      have hcI2 := h2.cI
      (repeat (first|refine ja ?_|refine jb ?_|refine jc ?_|refine jd ?_|refine je ?_|refine jf ?_|refine jg ?_|refine jh ?_|refine ji ?_|refine jj ?_|refine jk ?_|refine jl ?_|refine jm ?_|refine jn ?_|refine jo ?_|refine jp ?_|refine jq ?_|refine jr ?_|refine js ?_|refine jt ?_|refine ju ?_|refine jv ?_|refine jw ?_|refine jx ?_|refine jy ?_|refine jz ?_|refine jA ?_|refine jB ?_|refine jC ?_|refine jD ?_|refine jE ?_|refine jF ?_|refine jG ?_|refine jH ?_|refine jI ?_|refine jJ ?_|refine jK ?_|refine jL ?_|refine jM (by assumption) ?_|refine jN (by assumption) rfl ?_|refine jO (by assumption) ?_|refine jP (by assumption) rfl ?_|refine jQ ?_|refine jR ?_|refine jS ?_|refine jT ?_|refine jU (by assumption) rfl ?_))
      refine M.toIntW_i ?_
      have eI : i.imm.toInt = (i.imm.toNat : Int) := by rw [BitVec.toInt_eq_toNat_cond]; rw [if_pos (by omega)]
      rw [eI]
      refine M.call_i (var_ret h2.dag 8 (i.imm.toNat : Int)) ?_; rintro _ w3 ⟨F3, rfl, d3, f3, k3⟩
      obtain ⟨h3, m3⟩ := h2.ask d3 f3 k3
      have hcI3 := h3.cI
      (repeat (first|refine ja ?_|refine jb ?_|refine jc ?_|refine jd ?_|refine je ?_|refine jf ?_|refine jg ?_|refine jh ?_|refine ji ?_|refine jj ?_|refine jk ?_|refine jl ?_|refine jm ?_|refine jn ?_|refine jo ?_|refine jp ?_|refine jq ?_|refine jr ?_|refine js ?_|refine jt ?_|refine ju ?_|refine jv ?_|refine jw ?_|refine jx ?_|refine jy ?_|refine jz ?_|refine jA ?_|refine jB ?_|refine jC ?_|refine jD ?_|refine jE ?_|refine jF ?_|refine jG ?_|refine jH ?_|refine jI ?_|refine jJ ?_|refine jK ?_|refine jL ?_|refine jM (by assumption) ?_|refine jN (by assumption) rfl ?_|refine jO (by assumption) ?_|refine jP (by assumption) rfl ?_|refine jQ ?_|refine jR ?_|refine jS ?_|refine jT ?_|refine jU (by assumption) rfl ?_))
      refine M.extract_i rfl ?_
      refine M.extract_i rfl ?_
      refine M.call_i (keep37_ret h3 _ _) ?_
      rintro _ w4 ⟨rfl, F4, h4, m4⟩
      have hcI4 := h4.cI
      have hce4 := h4.ce
      have m04 : Mv w F pb ov w4 F4 ov := (Mv.none (kd.trans kd2 (fun _ _ h => h))).trans (m3.trans m4)
      by_cases hx : (kp e (varN most N 8 (i.imm.toNat : Int))).2.2 = 0
      · have hx' : (kp e ((varN most N 8 (i.imm.toNat : Int)).1, (varN most N 8 (i.imm.toNat : Int)).2.1, (varN most N 8 (i.imm.toNat : Int)).2.2)).2.2 = 0 := hx
        have hcp4 := h4.cp
        (repeat (first|refine ja ?_|refine jb ?_|refine jc ?_|refine jd ?_|refine je ?_|refine jf ?_|refine jg ?_|refine jh ?_|refine ji ?_|refine jj ?_|refine jk ?_|refine jl ?_|refine jm ?_|refine jn ?_|refine jo ?_|refine jp ?_|refine jq ?_|refine jr ?_|refine js ?_|refine jt ?_|refine ju ?_|refine jv ?_|refine jw ?_|refine jx ?_|refine jy ?_|refine jz ?_|refine jA ?_|refine jB ?_|refine jC ?_|refine jD ?_|refine jE ?_|refine jF ?_|refine jG ?_|refine jH ?_|refine jI ?_|refine jJ ?_|refine jK ?_|refine jL ?_|refine jM (by assumption) ?_|refine jN (by assumption) rfl ?_|refine jO (by assumption) ?_|refine jP (by assumption) rfl ?_|refine jQ ?_|refine jR ?_|refine jS ?_|refine jT ?_|refine jU (by assumption) rfl ?_))
        simp only [hx, ne_eq, not_true_eq_false, if_false]
        refine M.call_i (foldExt_ret h4.dag _ 64) ?_; rintro _ w5 ⟨F5, rfl, d5, f5, k5⟩
        refine M.extract_i rfl ?_
        refine M.extract_i rfl ?_
        obtain ⟨h5, m5⟩ := h4.ask d5 f5 k5
        refine M.call_i (keep37_ret h5 _ _) ?_
        intro v w6 hv
        have := hv.pre (m04.trans m5)
        rw [hx'] at this
        exact this
      · have hx' : ¬ (kp e ((varN most N 8 (i.imm.toNat : Int)).1, (varN most N 8 (i.imm.toNat : Int)).2.1, (varN most N 8 (i.imm.toNat : Int)).2.2)).2.2 = 0 := hx
        (repeat (first|refine ja ?_|refine jb ?_|refine jc ?_|refine jd ?_|refine je ?_|refine jf ?_|refine jg ?_|refine jh ?_|refine ji ?_|refine jj ?_|refine jk ?_|refine jl ?_|refine jm ?_|refine jn ?_|refine jo ?_|refine jp ?_|refine jq ?_|refine jr ?_|refine js ?_|refine jt ?_|refine ju ?_|refine jv ?_|refine jw ?_|refine jx ?_|refine jy ?_|refine jz ?_|refine jA ?_|refine jB ?_|refine jC ?_|refine jD ?_|refine jE ?_|refine jF ?_|refine jG ?_|refine jH ?_|refine jI ?_|refine jJ ?_|refine jK ?_|refine jL ?_|refine jM (by assumption) ?_|refine jN (by assumption) rfl ?_|refine jO (by assumption) ?_|refine jP (by assumption) rfl ?_|refine jQ ?_|refine jR ?_|refine jS ?_|refine jT ?_|refine jU (by assumption) rfl ?_))
        simp only [hx, ne_eq, not_false_eq_true, if_true]
        exact ⟨rfl, F4, h4, m04⟩
theorem binary37_ret (h : Stp w F p pb N most s sv i inputs mw ov outs e) (hR : RegsOk i) (hI : i.imm.toNat < 1000000) :
    Ret Try.prog 28 #[ptr pb] w (Idd w F p pb most s sv i inputs mw ov outs (binP most N e s i)) := by
  refine ok28 _ _ _ ?_
  unfold sh28
  have hcI := h.cI
  (repeat (first|refine ja ?_|refine jb ?_|refine jc ?_|refine jd ?_|refine je ?_|refine jf ?_|refine jg ?_|refine jh ?_|refine ji ?_|refine jj ?_|refine jk ?_|refine jl ?_|refine jm ?_|refine jn ?_|refine jo ?_|refine jp ?_|refine jq ?_|refine jr ?_|refine js ?_|refine jt ?_|refine ju ?_|refine jv ?_|refine jw ?_|refine jx ?_|refine jy ?_|refine jz ?_|refine jA ?_|refine jB ?_|refine jC ?_|refine jD ?_|refine jE ?_|refine jF ?_|refine jG ?_|refine jH ?_|refine jI ?_|refine jJ ?_|refine jK ?_|refine jL ?_|refine jM (by assumption) ?_|refine jN (by assumption) rfl ?_|refine jO (by assumption) ?_|refine jP (by assumption) rfl ?_|refine jQ ?_|refine jR ?_|refine jS ?_|refine jT ?_|refine jU (by assumption) rfl ?_))
  refine M.toIntW_i ?_
  have eI : i.imm.toInt = (i.imm.toNat : Int) := by rw [BitVec.toInt_eq_toNat_cond]; rw [if_pos (by omega)]
  rw [eI]
  have kd := Keep.drew w No
  have hd := h.keepN kd
  have hcp := hd.cp
  have hcB := hd.cB
  have hcC := hd.cC
  have hrB := hd.creg hR.2.1.1 hR.2.1.2
  have hrC := hd.creg hR.2.2.1 hR.2.2.2
  (repeat (first|refine ja ?_|refine jb ?_|refine jc ?_|refine jd ?_|refine je ?_|refine jf ?_|refine jg ?_|refine jh ?_|refine ji ?_|refine jj ?_|refine jk ?_|refine jl ?_|refine jm ?_|refine jn ?_|refine jo ?_|refine jp ?_|refine jq ?_|refine jr ?_|refine js ?_|refine jt ?_|refine ju ?_|refine jv ?_|refine jw ?_|refine jx ?_|refine jy ?_|refine jz ?_|refine jA ?_|refine jB ?_|refine jC ?_|refine jD ?_|refine jE ?_|refine jF ?_|refine jG ?_|refine jH ?_|refine jI ?_|refine jJ ?_|refine jK ?_|refine jL ?_|refine jM (by assumption) ?_|refine jN (by assumption) rfl ?_|refine jO (by assumption) ?_|refine jP (by assumption) rfl ?_|refine jQ ?_|refine jR ?_|refine jS ?_|refine jT ?_|refine jU (by assumption) rfl ?_))
  refine M.arr8_i hR.2.1.1 (by have := hR.2.1.2; omega) ?_
  (repeat (first|refine ja ?_|refine jb ?_|refine jc ?_|refine jd ?_|refine je ?_|refine jf ?_|refine jg ?_|refine jh ?_|refine ji ?_|refine jj ?_|refine jk ?_|refine jl ?_|refine jm ?_|refine jn ?_|refine jo ?_|refine jp ?_|refine jq ?_|refine jr ?_|refine js ?_|refine jt ?_|refine ju ?_|refine jv ?_|refine jw ?_|refine jx ?_|refine jy ?_|refine jz ?_|refine jA ?_|refine jB ?_|refine jC ?_|refine jD ?_|refine jE ?_|refine jF ?_|refine jG ?_|refine jH ?_|refine jI ?_|refine jJ ?_|refine jK ?_|refine jL ?_|refine jM (by assumption) ?_|refine jN (by assumption) rfl ?_|refine jO (by assumption) ?_|refine jP (by assumption) rfl ?_|refine jQ ?_|refine jR ?_|refine jS ?_|refine jT ?_|refine jU (by assumption) rfl ?_))
  refine M.arr8_i hR.2.2.1 (by have := hR.2.2.2; omega) ?_
  (repeat (first|refine ja ?_|refine jb ?_|refine jc ?_|refine jd ?_|refine je ?_|refine jf ?_|refine jg ?_|refine jh ?_|refine ji ?_|refine jj ?_|refine jk ?_|refine jl ?_|refine jm ?_|refine jn ?_|refine jo ?_|refine jp ?_|refine jq ?_|refine jr ?_|refine js ?_|refine jt ?_|refine ju ?_|refine jv ?_|refine jw ?_|refine jx ?_|refine jy ?_|refine jz ?_|refine jA ?_|refine jB ?_|refine jC ?_|refine jD ?_|refine jE ?_|refine jF ?_|refine jG ?_|refine jH ?_|refine jI ?_|refine jJ ?_|refine jK ?_|refine jL ?_|refine jM (by assumption) ?_|refine jN (by assumption) rfl ?_|refine jO (by assumption) ?_|refine jP (by assumption) rfl ?_|refine jQ ?_|refine jR ?_|refine jS ?_|refine jT ?_|refine jU (by assumption) rfl ?_))
  refine M.call_i (foldBin_ret hd.dag (i.imm.toNat : Int) (s.reg i.b) (s.reg i.c)) ?_; rintro _ w1 ⟨F1, rfl, d1, f1, k1⟩
  obtain ⟨h1, m1⟩ := hd.ask d1 f1 k1
  have hcB1 := h1.cB
  have hcC1 := h1.cC
  (repeat (first|refine ja ?_|refine jb ?_|refine jc ?_|refine jd ?_|refine je ?_|refine jf ?_|refine jg ?_|refine jh ?_|refine ji ?_|refine jj ?_|refine jk ?_|refine jl ?_|refine jm ?_|refine jn ?_|refine jo ?_|refine jp ?_|refine jq ?_|refine jr ?_|refine js ?_|refine jt ?_|refine ju ?_|refine jv ?_|refine jw ?_|refine jx ?_|refine jy ?_|refine jz ?_|refine jA ?_|refine jB ?_|refine jC ?_|refine jD ?_|refine jE ?_|refine jF ?_|refine jG ?_|refine jH ?_|refine jI ?_|refine jJ ?_|refine jK ?_|refine jL ?_|refine jM (by assumption) ?_|refine jN (by assumption) rfl ?_|refine jO (by assumption) ?_|refine jP (by assumption) rfl ?_|refine jQ ?_|refine jR ?_|refine jS ?_|refine jT ?_|refine jU (by assumption) rfl ?_))
  refine M.extract_i rfl ?_
  refine M.extract_i rfl ?_
  refine M.call_i (keep37_ret h1 _ _) ?_
  rintro _ w2 ⟨rfl, F2, h2, m2⟩
  have hcB2 := h2.cB
  have hcC2 := h2.cC
  have hce2 := h2.ce
  have hcp2 := h2.cp
  have m02 : Mv w F pb ov w2 F2 ov := (Mv.none kd).trans (m1.trans m2)
  unfold binP
  have hX : kp e ((foldBin most N (i.imm.toNat : Int) (s.reg i.b) (s.reg i.c)).1, (foldBin most N (i.imm.toNat : Int) (s.reg i.b) (s.reg i.c)).2.1, (foldBin most N (i.imm.toNat : Int) (s.reg i.b) (s.reg i.c)).2.2) = kp e (foldBin most N (i.imm.toNat : Int) (s.reg i.b) (s.reg i.c)) := rfl
  rw [hX] at h2 hce2 ⊢
  generalize kp e (foldBin most N (i.imm.toNat : Int) (s.reg i.b) (s.reg i.c)) = X at h2 hce2 ⊢
  (repeat (first|refine ja ?_|refine jb ?_|refine jc ?_|refine jd ?_|refine je ?_|refine jf ?_|refine jg ?_|refine jh ?_|refine ji ?_|refine jj ?_|refine jk ?_|refine jl ?_|refine jm ?_|refine jn ?_|refine jo ?_|refine jp ?_|refine jq ?_|refine jr ?_|refine js ?_|refine jt ?_|refine ju ?_|refine jv ?_|refine jw ?_|refine jx ?_|refine jy ?_|refine jz ?_|refine jA ?_|refine jB ?_|refine jC ?_|refine jD ?_|refine jE ?_|refine jF ?_|refine jG ?_|refine jH ?_|refine jI ?_|refine jJ ?_|refine jK ?_|refine jL ?_|refine jM (by assumption) ?_|refine jN (by assumption) rfl ?_|refine jO (by assumption) ?_|refine jP (by assumption) rfl ?_|refine jQ ?_|refine jR ?_|refine jS ?_|refine jT ?_|refine jU (by assumption) rfl ?_))
  by_cases h0 : X.2.2 = 0
  · by_cases hop : i.imm.toNat = 12 ∨ i.imm.toNat = 13 ∨ i.imm.toNat = 14
    · rw [if_pos ⟨h0, hop⟩]
      refine M.share_j (fun vals w' => ∃ F', vals = [vi (kp X.2.2 (foldExt most X.1 X.2.1 64)).2.1] ∧ Stp w' F' p pb (kp X.2.2 (foldExt most X.1 X.2.1 64)).1 most s sv i inputs mw ov outs (kp X.2.2 (foldExt most X.1 X.2.1 64)).2.2 ∧ Mv w2 F2 pb ov w' F' ov) ?_ ?_
      · rintro vals w' ⟨F', rfl, h', m'⟩ _
        exact ⟨rfl, F', h', m02.trans m'⟩
      · intro K hK
        have go : ∀ w' (R : Prop), w' = w2 → True := fun _ _ _ => trivial
        clear go
        rcases hop with o | o | o
        all_goals
          (repeat (first|refine ja ?_|refine jb ?_|refine jc ?_|refine jd ?_|refine je ?_|refine jf ?_|refine jg ?_|refine jh ?_|refine ji ?_|refine jj ?_|refine jk ?_|refine jl ?_|refine jm ?_|refine jn ?_|refine jo ?_|refine jp ?_|refine jq ?_|refine jr ?_|refine js ?_|refine jt ?_|refine ju ?_|refine jv ?_|refine jw ?_|refine jx ?_|refine jy ?_|refine jz ?_|refine jA ?_|refine jB ?_|refine jC ?_|refine jD ?_|refine jE ?_|refine jF ?_|refine jG ?_|refine jH ?_|refine jI ?_|refine jJ ?_|refine jK ?_|refine jL ?_|refine jM (by assumption) ?_|refine jN (by assumption) rfl ?_|refine jO (by assumption) ?_|refine jP (by assumption) rfl ?_|refine jQ ?_|refine jR ?_|refine jS ?_|refine jT ?_|refine jU (by assumption) rfl ?_))
          refine M.call_i (foldExt_ret h2.dag X.2.1 64) ?_; rintro _ w3 ⟨F3, rfl, d3, f3, k3⟩
          refine M.extract_i rfl ?_
          refine M.extract_i rfl ?_
          obtain ⟨h3, m3⟩ := h2.ask d3 f3 k3
          refine M.call_i (keep37_ret h3 _ _) ?_
          rintro _ w4 ⟨rfl, F4, h4, m4⟩
          exact hK _ _ ⟨F4, rfl, h4, m3.trans m4⟩
    · rw [if_neg (fun h => hop h.2)]
      refine M.share_j (fun vals w' => vals = [vi X.2.1] ∧ w2 = w') ?_ ?_
      · rintro vals w' ⟨rfl, rfl⟩ _
        exact ⟨rfl, F2, h2, m02⟩
      · intro K hK
        (repeat (first|refine ja ?_|refine jb ?_|refine jc ?_|refine jd ?_|refine je ?_|refine jf ?_|refine jg ?_|refine jh ?_|refine ji ?_|refine jj ?_|refine jk ?_|refine jl ?_|refine jm ?_|refine jn ?_|refine jo ?_|refine jp ?_|refine jq ?_|refine jr ?_|refine js ?_|refine jt ?_|refine ju ?_|refine jv ?_|refine jw ?_|refine jx ?_|refine jy ?_|refine jz ?_|refine jA ?_|refine jB ?_|refine jC ?_|refine jD ?_|refine jE ?_|refine jF ?_|refine jG ?_|refine jH ?_|refine jI ?_|refine jJ ?_|refine jK ?_|refine jL ?_|refine jM (by assumption) ?_|refine jN (by assumption) rfl ?_|refine jO (by assumption) ?_|refine jP (by assumption) rfl ?_|refine jQ ?_|refine jR ?_|refine jS ?_|refine jT ?_|refine jU (by assumption) rfl ?_))
        exact hK _ _ ⟨rfl, rfl⟩
  · rw [if_neg (fun h => h0 h.1)]
    refine M.share_j (fun vals w' => vals = [vi X.2.1] ∧ w2 = w') ?_ ?_
    · rintro vals w' ⟨rfl, rfl⟩ _
      exact ⟨rfl, F2, h2, m02⟩
    · intro K hK
      (repeat (first|refine ja ?_|refine jb ?_|refine jc ?_|refine jd ?_|refine je ?_|refine jf ?_|refine jg ?_|refine jh ?_|refine ji ?_|refine jj ?_|refine jk ?_|refine jl ?_|refine jm ?_|refine jn ?_|refine jo ?_|refine jp ?_|refine jq ?_|refine jr ?_|refine js ?_|refine jt ?_|refine ju ?_|refine jv ?_|refine jw ?_|refine jx ?_|refine jy ?_|refine jz ?_|refine jA ?_|refine jB ?_|refine jC ?_|refine jD ?_|refine jE ?_|refine jF ?_|refine jG ?_|refine jH ?_|refine jI ?_|refine jJ ?_|refine jK ?_|refine jL ?_|refine jM (by assumption) ?_|refine jN (by assumption) rfl ?_|refine jO (by assumption) ?_|refine jP (by assumption) rfl ?_|refine jQ ?_|refine jR ?_|refine jS ?_|refine jT ?_|refine jU (by assumption) rfl ?_))
      exact hK _ _ ⟨rfl, rfl⟩
theorem branch37_ret (h : Stp w F p pb N most s sv i inputs mw ov [] e) (hsv : sv = s.vals c a b d) (hB : Bnd s) (hR : RegsOk i) (hI : i.imm.toNat < 1000000) :
    Ret Try.prog 32 #[ptr pb] w (Adds w F p pb most s sv i inputs mw ov (branchP most N e s i)) := by
  refine ok32 _ _ _ ?_
  unfold sh32
  have kd := Keep.drew w No
  have hd := h.keepN kd
  have hcA := hd.cA
  have hrA := hd.creg hR.1.1 hR.1.2
  (repeat (first|refine ja ?_|refine jb ?_|refine jc ?_|refine jd ?_|refine je ?_|refine jf ?_|refine jg ?_|refine jh ?_|refine ji ?_|refine jj ?_|refine jk ?_|refine jl ?_|refine jm ?_|refine jn ?_|refine jo ?_|refine jp ?_|refine jq ?_|refine jr ?_|refine js ?_|refine jt ?_|refine ju ?_|refine jv ?_|refine jw ?_|refine jx ?_|refine jy ?_|refine jz ?_|refine jA ?_|refine jB ?_|refine jC ?_|refine jD ?_|refine jE ?_|refine jF ?_|refine jG ?_|refine jH ?_|refine jI ?_|refine jJ ?_|refine jK ?_|refine jL ?_|refine jM (by assumption) ?_|refine jN (by assumption) rfl ?_|refine jO (by assumption) ?_|refine jP (by assumption) rfl ?_|refine jQ ?_|refine jR ?_|refine jS ?_|refine jT ?_|refine jU (by assumption) rfl ?_))
  refine M.arr8_i hR.1.1 (by have := hR.1.2; omega) ?_
  (repeat (first|refine ja ?_|refine jb ?_|refine jc ?_|refine jd ?_|refine je ?_|refine jf ?_|refine jg ?_|refine jh ?_|refine ji ?_|refine jj ?_|refine jk ?_|refine jl ?_|refine jm ?_|refine jn ?_|refine jo ?_|refine jp ?_|refine jq ?_|refine jr ?_|refine js ?_|refine jt ?_|refine ju ?_|refine jv ?_|refine jw ?_|refine jx ?_|refine jy ?_|refine jz ?_|refine jA ?_|refine jB ?_|refine jC ?_|refine jD ?_|refine jE ?_|refine jF ?_|refine jG ?_|refine jH ?_|refine jI ?_|refine jJ ?_|refine jK ?_|refine jL ?_|refine jM (by assumption) ?_|refine jN (by assumption) rfl ?_|refine jO (by assumption) ?_|refine jP (by assumption) rfl ?_|refine jQ ?_|refine jR ?_|refine jS ?_|refine jT ?_|refine jU (by assumption) rfl ?_))
  refine M.call_i (is37_ret hd (s.reg i.a) 0) ?_
  rintro _ w1 ⟨rfl, F1, h1, m1⟩
  have hcA1 := h1.cA
  (repeat (first|refine ja ?_|refine jb ?_|refine jc ?_|refine jd ?_|refine je ?_|refine jf ?_|refine jg ?_|refine jh ?_|refine ji ?_|refine jj ?_|refine jk ?_|refine jl ?_|refine jm ?_|refine jn ?_|refine jo ?_|refine jp ?_|refine jq ?_|refine jr ?_|refine js ?_|refine jt ?_|refine ju ?_|refine jv ?_|refine jw ?_|refine jx ?_|refine jy ?_|refine jz ?_|refine jA ?_|refine jB ?_|refine jC ?_|refine jD ?_|refine jE ?_|refine jF ?_|refine jG ?_|refine jH ?_|refine jI ?_|refine jJ ?_|refine jK ?_|refine jL ?_|refine jM (by assumption) ?_|refine jN (by assumption) rfl ?_|refine jO (by assumption) ?_|refine jP (by assumption) rfl ?_|refine jQ ?_|refine jR ?_|refine jS ?_|refine jT ?_|refine jU (by assumption) rfl ?_))
  refine M.call_i (at37_ret h1 hsv (by omega)) ?_; rintro _ w2 ⟨rfl, k2⟩
  have h2 := h1.keepN k2
  refine M.call_i (not37_ret h2 _) ?_
  rintro _ w3 ⟨rfl, F3, h3, m3⟩
  have ha3 : SyO w3 (Fr F3 pb ov) (.agg ⟨(s.at i).vals c a b d⟩) (s.at i) := SyO.of_vals (t := s.at i) h.sy.1 (h3.lists hsv)
  refine M.call_i (add37_ret h3 ha3 hB.conds (by simp) _) ?_
  rintro _ w4 ⟨rfl, ov4, h4, m4⟩
  refine M.call_i (next37_ret h4 hsv hB.pc) ?_; rintro _ w5 ⟨rfl, k5⟩
  have h5 := h4.keepN k5
  have hn5 : SyO w5 (Fr F3 pb ov4) (.agg ⟨s.next.vals c a b d⟩) s.next := SyO.of_vals (t := s.next) h.sy.1 (h5.lists hsv)
  refine M.call_i (add37_ret h5 hn5 hB.conds (Nat.le_trans addP_len (by simp)) _) ?_
  rintro _ w6 ⟨rfl, ov6, h6, m6⟩
  exact ⟨rfl, F3, ov6, h6, (Mv.none kd).trans (m1.trans ((Mv.none k2).trans (m3.trans (m4.trans ((Mv.none k5).trans m6)))))⟩
end
end Go.Proofs.Ytanjlgafjgoaaaa
