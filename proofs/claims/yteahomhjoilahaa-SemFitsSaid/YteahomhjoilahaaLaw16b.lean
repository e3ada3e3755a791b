import Derived.Test.YteahomhjoilahaaLaw16
namespace Go.Proofs.Yteahomhjoilahaa
open Go.Mw Go.Maps Go.MapKept
set_option linter.unusedVariables false
set_option linter.unusedSimpArgs false
set_option maxRecDepth 100000
attribute [local irreducible] M.val M.unit M.next M.pick M.new M.nilCheck M.load1 M.loadA M.store M.fieldAddr M.indexSl M.indexArr M.slice M.makeSlice M.buildSlice M.len M.lenS M.cap M.append M.extract M.conv M.not M.neg M.bin M.shift M.eqB M.eqNil M.call M.callv M.gd M.share M.cond M.loop M.draw pureW readW Ret
theorem varsN_nonneg {N : List Nd} (hG : GoodN N) {it v : Int} (h : v ∈ varsN N it) : 0 ≤ v := by
  unfold varsN at h
  rw [mem_srt, mem_varsA] at h
  obtain ⟨x, _, n, hn, ho, rfl⟩ := h
  obtain ⟨_, _, h3⟩ := hG _ n hn
  rcases h3 with ⟨h, _⟩ | ⟨_, h, _⟩ | ⟨h, _⟩ | ⟨_, h, _⟩ | ⟨h, _⟩ | ⟨h, _⟩ | ⟨h, _⟩ | ⟨h, _⟩ <;> omega
theorem isN_nat {N : List Nd} {i : Nat} (h : i < N.length) : isN N i = true := isN_iff.2 ⟨by omega, by omega⟩
set_option maxHeartbeats 2000000 in
theorem semValues_ret {w : World} {D D2 : Nat → Prop} {lv ev : Value} {l : List Nd} {env : List W64} {it : Int} (hl : LN Nd.cells w D lv l) (hv : LV vw w D2 ev env) :
    Ret Try.prog 3 #[lv, ev, vi it] w (fun r w' => r = .bool true ∧ Keep w w' No) := by
  obtain ⟨A0, c0, rfl, _, _⟩ := id hl
  obtain ⟨E, ce, rfl, _, _⟩ := id hv
  refine ok3 _ _ _ _ _ ?_
  unfold sh3
  by_cases h100 : 100 < l.length
  · (repeat (first|refine ja ?_|refine jb ?_|refine jc ?_|refine jd ?_|refine je ?_|refine jf ?_|refine jg ?_|refine jh ?_|refine ji ?_|refine jj ?_|refine jk ?_|refine jl ?_|refine jm ?_|refine jn ?_|refine jo ?_|refine jp ?_|refine jq ?_|refine jr ?_|refine js ?_|refine jt ?_|refine ju ?_|refine jv ?_|refine jw ?_|refine jx ?_|refine jy ?_|refine jz ?_|refine jA ?_|refine jB ?_|refine jC ?_|refine jD ?_|refine jE ?_|refine jF ?_|refine jG ?_|refine jH ?_|refine jI ?_|refine jJ ?_|refine jK ?_|refine jL ?_|refine jM (by assumption) ?_|refine jN (by assumption) rfl ?_|refine jO (by assumption) ?_|refine jP (by assumption) rfl ?_|refine jQ ?_|refine jR ?_|refine jS ?_|refine jT ?_|refine jU (by assumption) rfl ?_))
    refine M.call_i (awake16_ret w) ?_; rintro _ w1 ⟨rfl, k1⟩
    exact ⟨rfl, k1⟩
  by_cases h300 : 300 < env.length
  · (repeat (first|refine ja ?_|refine jb ?_|refine jc ?_|refine jd ?_|refine je ?_|refine jf ?_|refine jg ?_|refine jh ?_|refine ji ?_|refine jj ?_|refine jk ?_|refine jl ?_|refine jm ?_|refine jn ?_|refine jo ?_|refine jp ?_|refine jq ?_|refine jr ?_|refine js ?_|refine jt ?_|refine ju ?_|refine jv ?_|refine jw ?_|refine jx ?_|refine jy ?_|refine jz ?_|refine jA ?_|refine jB ?_|refine jC ?_|refine jD ?_|refine jE ?_|refine jF ?_|refine jG ?_|refine jH ?_|refine jI ?_|refine jJ ?_|refine jK ?_|refine jL ?_|refine jM (by assumption) ?_|refine jN (by assumption) rfl ?_|refine jO (by assumption) ?_|refine jP (by assumption) rfl ?_|refine jQ ?_|refine jR ?_|refine jS ?_|refine jT ?_|refine jU (by assumption) rfl ?_))
    refine M.call_i (awake16_ret w) ?_; rintro _ w1 ⟨rfl, k1⟩
    exact ⟨rfl, k1⟩
  (repeat (first|refine ja ?_|refine jb ?_|refine jc ?_|refine jd ?_|refine je ?_|refine jf ?_|refine jg ?_|refine jh ?_|refine ji ?_|refine jj ?_|refine jk ?_|refine jl ?_|refine jm ?_|refine jn ?_|refine jo ?_|refine jp ?_|refine jq ?_|refine jr ?_|refine js ?_|refine jt ?_|refine ju ?_|refine jv ?_|refine jw ?_|refine jx ?_|refine jy ?_|refine jz ?_|refine jA ?_|refine jB ?_|refine jC ?_|refine jD ?_|refine jE ?_|refine jF ?_|refine jG ?_|refine jH ?_|refine jI ?_|refine jJ ?_|refine jK ?_|refine jL ?_|refine jM (by assumption) ?_|refine jN (by assumption) rfl ?_|refine jO (by assumption) ?_|refine jP (by assumption) rfl ?_|refine jQ ?_|refine jR ?_|refine jS ?_|refine jT ?_|refine jU (by assumption) rfl ?_))
  refine M.call_i (build_ret hl (by omega) 1000) ?_; rintro _ w3 ⟨F, p, v, N, rfl, hd, hr, hF, k3⟩
  have hv3 := hv.keep k3 (fun _ _ _ h => h)
  have hNl := hd.len.1
  have hG := hd.good
  refine M.extract_i (v := ptr p) rfl ?_
  refine M.extract_i (v := v) rfl ?_
  refine M.new_i (l := [.slice none 0 0, vi 0]) (fun w4 b4 k4 s4 => ?_)
  obtain ⟨X, xc, rfl, _⟩ := id hr
  refine M.storeAll_i b4 rfl rfl two_one (fun w5 b5 k5 s5 => ?_)
  have k35 : Keep w3 w5 No := k4.trans k5 (fun b hb h => by omega)
  have hv5 := hv3.keep k35 (fun _ _ _ h => h)
  have hd5 := hd.keepN k35
  have hr5 := hr.keep k35 (fun _ _ _ h => h)
  have k05 := k3.trans k35 (fun _ _ h => h)
  (repeat (first|refine ja ?_|refine jb ?_|refine jc ?_|refine jd ?_|refine je ?_|refine jf ?_|refine jg ?_|refine jh ?_|refine ji ?_|refine jj ?_|refine jk ?_|refine jl ?_|refine jm ?_|refine jn ?_|refine jo ?_|refine jp ?_|refine jq ?_|refine jr ?_|refine js ?_|refine jt ?_|refine ju ?_|refine jv ?_|refine jw ?_|refine jx ?_|refine jy ?_|refine jz ?_|refine jA ?_|refine jB ?_|refine jC ?_|refine jD ?_|refine jE ?_|refine jF ?_|refine jG ?_|refine jH ?_|refine jI ?_|refine jJ ?_|refine jK ?_|refine jL ?_|refine jM (by assumption) ?_|refine jN (by assumption) rfl ?_|refine jO (by assumption) ?_|refine jP (by assumption) rfl ?_|refine jQ ?_|refine jR ?_|refine jS ?_|refine jT ?_|refine jU (by assumption) rfl ?_))
  refine M.loadAll_i b5 rfl ?_
  refine M.call_i (rall_ret hr5 (by omega) hG hv5 (by omega)) ?_; rintro _ w6 ⟨⟨B, cb, rfl, hrb, _⟩, k6⟩
  have hvl := valsU_len N env N.length
  rw [hvl]
  have b6 := b5.keep k6 (fun h => h)
  have k06 := k05.trans k6 (fun _ _ h => h)
  refine M.loop_i (σ := Nat) (fun i vals w' => vals = [vi i] ∧ i ≤ N.length ∧ Keep w6 w' No) (fun i => N.length - i) 0 ⟨rfl, by omega, Keep.refl _ _⟩ ?_
  rintro i vals w7 K ⟨rfl, hi, k7⟩ hK _
  simp only [List.getD_cons_zero, List.getD_cons_succ]
  have k57 := k6.trans k7 (fun _ _ h => h)
  have hd7 := hd5.keepN k57
  have hv7 := hv5.keep k57 (fun _ _ _ h => h)
  have hr7 := hr5.keep k57 (fun _ _ _ h => h)
  have k07 := k06.trans k7 (fun _ _ h => h)
  by_cases hlt : i < N.length
  · have hiN := isN_nat hlt
    (repeat (first|refine ja ?_|refine jb ?_|refine jc ?_|refine jd ?_|refine je ?_|refine jf ?_|refine jg ?_|refine jh ?_|refine ji ?_|refine jj ?_|refine jk ?_|refine jl ?_|refine jm ?_|refine jn ?_|refine jo ?_|refine jp ?_|refine jq ?_|refine jr ?_|refine js ?_|refine jt ?_|refine ju ?_|refine jv ?_|refine jw ?_|refine jx ?_|refine jy ?_|refine jz ?_|refine jA ?_|refine jB ?_|refine jC ?_|refine jD ?_|refine jE ?_|refine jF ?_|refine jG ?_|refine jH ?_|refine jI ?_|refine jJ ?_|refine jK ?_|refine jL ?_|refine jM (by assumption) ?_|refine jN (by assumption) rfl ?_|refine jO (by assumption) ?_|refine jP (by assumption) rfl ?_|refine jQ ?_|refine jR ?_|refine jS ?_|refine jT ?_|refine jU (by assumption) rfl ?_))
    refine M.call_i (value_ok hd7 hv7 (by omega) i rfl (by rw [if_pos hiN])) ?_; rintro _ w8 ⟨rfl, k8⟩
    refine M.extract_i (v := vw (valW N env i)) rfl ?_
    refine M.extract_i (v := vi 0) rfl ?_
    refine M.draw_i ?_
    have kd := Keep.drew w8 No
    have k8d := k8.trans kd (fun _ _ h => h)
    have hrbd := (hrb.keep k7 (fun _ _ _ h => h)).keep k8d (fun _ _ _ h => h)
    have hd8 := hd7.keepN k8d
    have hr8 := hr7.keep k8d (fun _ _ _ h => h)
    have b8 := (b6.keep k7 (fun h => h)).keep k8d (fun h => h)
    refine M.wat_i hrbd hvl (by omega) (by omega) (fun bb oo hcc => ?_)
    rw [valW_of hiN] at hcc
    (repeat (first|refine ja ?_|refine jb ?_|refine jc ?_|refine jd ?_|refine je ?_|refine jf ?_|refine jg ?_|refine jh ?_|refine ji ?_|refine jj ?_|refine jk ?_|refine jl ?_|refine jm ?_|refine jn ?_|refine jo ?_|refine jp ?_|refine jq ?_|refine jr ?_|refine js ?_|refine jt ?_|refine ju ?_|refine jv ?_|refine jw ?_|refine jx ?_|refine jy ?_|refine jz ?_|refine jA ?_|refine jB ?_|refine jC ?_|refine jD ?_|refine jE ?_|refine jF ?_|refine jG ?_|refine jH ?_|refine jI ?_|refine jJ ?_|refine jK ?_|refine jL ?_|refine jM (by assumption) ?_|refine jN (by assumption) rfl ?_|refine jO (by assumption) ?_|refine jP (by assumption) rfl ?_|refine jQ ?_|refine jR ?_|refine jS ?_|refine jT ?_|refine jU (by assumption) rfl ?_|refine jG ?_ (by decide)|refine jH ?_ (by decide)|refine jI ?_ (by decide)|refine jJ ?_ (by decide)|refine jC ?_ (by decide)|refine jy ?_ (by decide)))
    refine M.loadAll_i b8 rfl ?_
    (repeat (first|refine ja ?_|refine jb ?_|refine jc ?_|refine jd ?_|refine je ?_|refine jf ?_|refine jg ?_|refine jh ?_|refine ji ?_|refine jj ?_|refine jk ?_|refine jl ?_|refine jm ?_|refine jn ?_|refine jo ?_|refine jp ?_|refine jq ?_|refine jr ?_|refine js ?_|refine jt ?_|refine ju ?_|refine jv ?_|refine jw ?_|refine jx ?_|refine jy ?_|refine jz ?_|refine jA ?_|refine jB ?_|refine jC ?_|refine jD ?_|refine jE ?_|refine jF ?_|refine jG ?_|refine jH ?_|refine jI ?_|refine jJ ?_|refine jK ?_|refine jL ?_|refine jM (by assumption) ?_|refine jN (by assumption) rfl ?_|refine jO (by assumption) ?_|refine jP (by assumption) rfl ?_|refine jQ ?_|refine jR ?_|refine jS ?_|refine jT ?_|refine jU (by assumption) rfl ?_|refine jG ?_ (by decide)|refine jH ?_ (by decide)|refine jI ?_ (by decide)|refine jJ ?_ (by decide)|refine jC ?_ (by decide)|refine jy ?_ (by decide)))
    refine M.call_i (vars_ret hd8 i) ?_; rintro r1 w9 ⟨g9, k9⟩
    have b9 := b8.keep k9 (fun h => h)
    refine M.gs_ff (M.stAll_i b9 rfl ?_)
    refine M.st_i (k9.cell (fun h => h) hcc) ?_
    refine M.gd_ff ?_
    refine M.call_i (rvars_ret (hr8.keep k9 (fun _ _ _ h => h)) (by omega) hG i) ?_; rintro r2 w10 ⟨g10, k10⟩
    have k910 := k9.trans k10 (fun _ _ h => h)
    refine M.st_i (k910.cell (fun h => h) hcc) ?_
    refine M.gd_ff ?_
    have hvn := varsN_len (N := N) (id := i)
    refine M.call_i (same_ret (GI.lv (g9.keep k10 (fun _ _ _ h => h))) (GI.lv g10) (by show _ ≤ 100000000000; omega)) ?_; rintro _ w11 ⟨rfl, k11⟩
    have k811 := k910.trans k11 (fun _ _ h => h)
    refine M.st_i (k811.cell (fun h => h) hcc) ?_
    rw [decide_eq_true (rfl : varsN N i = varsN N i)]
    have b11 := b8.keep k811 (fun h => h)
    (repeat (first|refine ja ?_|refine jb ?_|refine jc ?_|refine jd ?_|refine je ?_|refine jf ?_|refine jg ?_|refine jh ?_|refine ji ?_|refine jj ?_|refine jk ?_|refine jl ?_|refine jm ?_|refine jn ?_|refine jo ?_|refine jp ?_|refine jq ?_|refine jr ?_|refine js ?_|refine jt ?_|refine ju ?_|refine jv ?_|refine jw ?_|refine jx ?_|refine jy ?_|refine jz ?_|refine jA ?_|refine jB ?_|refine jC ?_|refine jD ?_|refine jE ?_|refine jF ?_|refine jG ?_|refine jH ?_|refine jI ?_|refine jJ ?_|refine jK ?_|refine jL ?_|refine jM (by assumption) ?_|refine jN (by assumption) rfl ?_|refine jO (by assumption) ?_|refine jP (by assumption) rfl ?_|refine jQ ?_|refine jR ?_|refine jS ?_|refine jT ?_|refine jU (by assumption) rfl ?_|refine jG ?_ (by decide)|refine jH ?_ (by decide)|refine jI ?_ (by decide)|refine jJ ?_ (by decide)|refine jC ?_ (by decide)|refine jy ?_ (by decide)))
    refine M.loadAll_i b11 rfl ?_
    (repeat (first|refine ja ?_|refine jb ?_|refine jc ?_|refine jd ?_|refine je ?_|refine jf ?_|refine jg ?_|refine jh ?_|refine ji ?_|refine jj ?_|refine jk ?_|refine jl ?_|refine jm ?_|refine jn ?_|refine jo ?_|refine jp ?_|refine jq ?_|refine jr ?_|refine js ?_|refine jt ?_|refine ju ?_|refine jv ?_|refine jw ?_|refine jx ?_|refine jy ?_|refine jz ?_|refine jA ?_|refine jB ?_|refine jC ?_|refine jD ?_|refine jE ?_|refine jF ?_|refine jG ?_|refine jH ?_|refine jI ?_|refine jJ ?_|refine jK ?_|refine jL ?_|refine jM (by assumption) ?_|refine jN (by assumption) rfl ?_|refine jO (by assumption) ?_|refine jP (by assumption) rfl ?_|refine jQ ?_|refine jR ?_|refine jS ?_|refine jT ?_|refine jU (by assumption) rfl ?_|refine jG ?_ (by decide)|refine jH ?_ (by decide)|refine jI ?_ (by decide)|refine jJ ?_ (by decide)|refine jC ?_ (by decide)|refine jy ?_ (by decide)))
    refine M.call_i (size_ret (hd8.keepN k811) i) ?_; rintro _ w12 ⟨rfl, k12⟩
    have k812 := k811.trans k12 (fun _ _ h => h)
    refine M.gs_ff (M.stAll_i (b8.keep k812 (fun h => h)) rfl ?_)
    refine M.st_i (k812.cell (fun h => h) hcc) ?_
    refine M.gd_ff ?_
    refine M.call_i (rsize_ret (hr8.keep k812 (fun _ _ _ h => h)) (by omega) hG i) ?_; rintro _ w13 ⟨rfl, k13⟩
    have k813 := k812.trans k13 (fun _ _ h => h)
    refine M.st_i (k813.cell (fun h => h) hcc) ?_
    (repeat (first|refine ja ?_|refine jb ?_|refine jc ?_|refine jd ?_|refine je ?_|refine jf ?_|refine jg ?_|refine jh ?_|refine ji ?_|refine jj ?_|refine jk ?_|refine jl ?_|refine jm ?_|refine jn ?_|refine jo ?_|refine jp ?_|refine jq ?_|refine jr ?_|refine js ?_|refine jt ?_|refine ju ?_|refine jv ?_|refine jw ?_|refine jx ?_|refine jy ?_|refine jz ?_|refine jA ?_|refine jB ?_|refine jC ?_|refine jD ?_|refine jE ?_|refine jF ?_|refine jG ?_|refine jH ?_|refine jI ?_|refine jJ ?_|refine jK ?_|refine jL ?_|refine jM (by assumption) ?_|refine jN (by assumption) rfl ?_|refine jO (by assumption) ?_|refine jP (by assumption) rfl ?_|refine jQ ?_|refine jR ?_|refine jS ?_|refine jT ?_|refine jU (by assumption) rfl ?_|refine jG ?_ (by decide)|refine jH ?_ (by decide)|refine jI ?_ (by decide)|refine jJ ?_ (by decide)|refine jC ?_ (by decide)|refine jy ?_ (by decide)))
    exact hK (i + 1) _ _ (by omega) ⟨rfl, by omega, (k7.trans k8d (fun _ _ h => h)).trans k813 (fun _ _ h => h)⟩
  · have e : i = N.length := by omega
    subst e
    have b7 := b6.keep k7 (fun h => h)
    (repeat (first|refine ja ?_|refine jb ?_|refine jc ?_|refine jd ?_|refine je ?_|refine jf ?_|refine jg ?_|refine jh ?_|refine ji ?_|refine jj ?_|refine jk ?_|refine jl ?_|refine jm ?_|refine jn ?_|refine jo ?_|refine jp ?_|refine jq ?_|refine jr ?_|refine js ?_|refine jt ?_|refine ju ?_|refine jv ?_|refine jw ?_|refine jx ?_|refine jy ?_|refine jz ?_|refine jA ?_|refine jB ?_|refine jC ?_|refine jD ?_|refine jE ?_|refine jF ?_|refine jG ?_|refine jH ?_|refine jI ?_|refine jJ ?_|refine jK ?_|refine jL ?_|refine jM (by assumption) ?_|refine jN (by assumption) rfl ?_|refine jO (by assumption) ?_|refine jP (by assumption) rfl ?_|refine jQ ?_|refine jR ?_|refine jS ?_|refine jT ?_|refine jU (by assumption) rfl ?_))
    refine M.call_i (value_ret hd7 hv7 (by omega) it) ?_; rintro _ w8 ⟨rfl, k8⟩
    refine M.extract_i (v := vw (valW N env it)) rfl ?_
    refine M.extract_i (v := vi (if isN N it then 0 else 11)) rfl ?_
    refine M.loadAll_i (b7.keep k8 (fun h => h)) rfl ?_
    refine M.call_i (rvalue_ret (hr7.keep k8 (fun _ _ _ h => h)) (by omega) hG (hv7.keep k8 (fun _ _ _ h => h)) (by omega) it) ?_; rintro _ w9 ⟨rfl, k9⟩
    refine M.extract_i (v := vw (valW N env it)) rfl ?_
    refine M.extract_i (v := vi (if isN N it then 0 else 11)) rfl ?_
    generalize (if isN N it then (0 : Int) else 11) = er
    (repeat (first|refine ja ?_|refine jb ?_|refine jc ?_|refine jd ?_|refine je ?_|refine jf ?_|refine jg ?_|refine jh ?_|refine ji ?_|refine jj ?_|refine jk ?_|refine jl ?_|refine jm ?_|refine jn ?_|refine jo ?_|refine jp ?_|refine jq ?_|refine jr ?_|refine js ?_|refine jt ?_|refine ju ?_|refine jv ?_|refine jw ?_|refine jx ?_|refine jy ?_|refine jz ?_|refine jA ?_|refine jB ?_|refine jC ?_|refine jD ?_|refine jE ?_|refine jF ?_|refine jG ?_|refine jH ?_|refine jI ?_|refine jJ ?_|refine jK ?_|refine jL ?_|refine jM (by assumption) ?_|refine jN (by assumption) rfl ?_|refine jO (by assumption) ?_|refine jP (by assumption) rfl ?_|refine jQ ?_|refine jR ?_|refine jS ?_|refine jT ?_|refine jU (by assumption) rfl ?_|refine jG ?_ (by decide)|refine jH ?_ (by decide)|refine jI ?_ (by decide)|refine jJ ?_ (by decide)|refine jC ?_ (by decide)|refine jy ?_ (by decide)))
    refine M.call_i (awake16_ret w9) ?_; rintro _ w10 ⟨rfl, k10⟩
    (repeat (first|refine ja ?_|refine jb ?_|refine jc ?_|refine jd ?_|refine je ?_|refine jf ?_|refine jg ?_|refine jh ?_|refine ji ?_|refine jj ?_|refine jk ?_|refine jl ?_|refine jm ?_|refine jn ?_|refine jo ?_|refine jp ?_|refine jq ?_|refine jr ?_|refine js ?_|refine jt ?_|refine ju ?_|refine jv ?_|refine jw ?_|refine jx ?_|refine jy ?_|refine jz ?_|refine jA ?_|refine jB ?_|refine jC ?_|refine jD ?_|refine jE ?_|refine jF ?_|refine jG ?_|refine jH ?_|refine jI ?_|refine jJ ?_|refine jK ?_|refine jL ?_|refine jM (by assumption) ?_|refine jN (by assumption) rfl ?_|refine jO (by assumption) ?_|refine jP (by assumption) rfl ?_|refine jQ ?_|refine jR ?_|refine jS ?_|refine jT ?_|refine jU (by assumption) rfl ?_|refine jG ?_ (by decide)|refine jH ?_ (by decide)|refine jI ?_ (by decide)|refine jJ ?_ (by decide)|refine jC ?_ (by decide)|refine jy ?_ (by decide)))
    exact ⟨rfl, ((k07.trans k8 (fun _ _ h => h)).trans k9 (fun _ _ h => h)).trans k10 (fun _ _ h => h)⟩
set_option maxHeartbeats 2000000 in
theorem semFits_ret {w : World} {D D2 D3 : Nat → Prop} {lv av bv : Value} {l : List Nd} {ea eb : List W64} (hl : LN Nd.cells w D lv l) (ha : LV vw w D2 av ea) (hb : LV vw w D3 bv eb) :
    Ret Try.prog 4 #[lv, av, bv] w (fun r w' => r = .bool true ∧ Keep w w' No) := by
  obtain ⟨A0, c0, rfl, _, _⟩ := id hl
  obtain ⟨E, ce, rfl, _, _⟩ := id ha
  obtain ⟨E2, ce2, rfl, _, _⟩ := id hb
  refine ok4 _ _ _ _ _ ?_
  unfold sh4
  by_cases h100 : 100 < l.length
  · (repeat (first|refine ja ?_|refine jb ?_|refine jc ?_|refine jd ?_|refine je ?_|refine jf ?_|refine jg ?_|refine jh ?_|refine ji ?_|refine jj ?_|refine jk ?_|refine jl ?_|refine jm ?_|refine jn ?_|refine jo ?_|refine jp ?_|refine jq ?_|refine jr ?_|refine js ?_|refine jt ?_|refine ju ?_|refine jv ?_|refine jw ?_|refine jx ?_|refine jy ?_|refine jz ?_|refine jA ?_|refine jB ?_|refine jC ?_|refine jD ?_|refine jE ?_|refine jF ?_|refine jG ?_|refine jH ?_|refine jI ?_|refine jJ ?_|refine jK ?_|refine jL ?_|refine jM (by assumption) ?_|refine jN (by assumption) rfl ?_|refine jO (by assumption) ?_|refine jP (by assumption) rfl ?_|refine jQ ?_|refine jR ?_|refine jS ?_|refine jT ?_|refine jU (by assumption) rfl ?_))
    refine M.call_i (awake16_ret w) ?_; rintro _ w1 ⟨rfl, k1⟩
    exact ⟨rfl, k1⟩
  by_cases h300 : 300 < ea.length
  · (repeat (first|refine ja ?_|refine jb ?_|refine jc ?_|refine jd ?_|refine je ?_|refine jf ?_|refine jg ?_|refine jh ?_|refine ji ?_|refine jj ?_|refine jk ?_|refine jl ?_|refine jm ?_|refine jn ?_|refine jo ?_|refine jp ?_|refine jq ?_|refine jr ?_|refine js ?_|refine jt ?_|refine ju ?_|refine jv ?_|refine jw ?_|refine jx ?_|refine jy ?_|refine jz ?_|refine jA ?_|refine jB ?_|refine jC ?_|refine jD ?_|refine jE ?_|refine jF ?_|refine jG ?_|refine jH ?_|refine jI ?_|refine jJ ?_|refine jK ?_|refine jL ?_|refine jM (by assumption) ?_|refine jN (by assumption) rfl ?_|refine jO (by assumption) ?_|refine jP (by assumption) rfl ?_|refine jQ ?_|refine jR ?_|refine jS ?_|refine jT ?_|refine jU (by assumption) rfl ?_))
    refine M.call_i (awake16_ret w) ?_; rintro _ w1 ⟨rfl, k1⟩
    exact ⟨rfl, k1⟩
  by_cases h301 : 300 < eb.length
  · (repeat (first|refine ja ?_|refine jb ?_|refine jc ?_|refine jd ?_|refine je ?_|refine jf ?_|refine jg ?_|refine jh ?_|refine ji ?_|refine jj ?_|refine jk ?_|refine jl ?_|refine jm ?_|refine jn ?_|refine jo ?_|refine jp ?_|refine jq ?_|refine jr ?_|refine js ?_|refine jt ?_|refine ju ?_|refine jv ?_|refine jw ?_|refine jx ?_|refine jy ?_|refine jz ?_|refine jA ?_|refine jB ?_|refine jC ?_|refine jD ?_|refine jE ?_|refine jF ?_|refine jG ?_|refine jH ?_|refine jI ?_|refine jJ ?_|refine jK ?_|refine jL ?_|refine jM (by assumption) ?_|refine jN (by assumption) rfl ?_|refine jO (by assumption) ?_|refine jP (by assumption) rfl ?_|refine jQ ?_|refine jR ?_|refine jS ?_|refine jT ?_|refine jU (by assumption) rfl ?_))
    refine M.call_i (awake16_ret w) ?_; rintro _ w1 ⟨rfl, k1⟩
    exact ⟨rfl, k1⟩
  (repeat (first|refine ja ?_|refine jb ?_|refine jc ?_|refine jd ?_|refine je ?_|refine jf ?_|refine jg ?_|refine jh ?_|refine ji ?_|refine jj ?_|refine jk ?_|refine jl ?_|refine jm ?_|refine jn ?_|refine jo ?_|refine jp ?_|refine jq ?_|refine jr ?_|refine js ?_|refine jt ?_|refine ju ?_|refine jv ?_|refine jw ?_|refine jx ?_|refine jy ?_|refine jz ?_|refine jA ?_|refine jB ?_|refine jC ?_|refine jD ?_|refine jE ?_|refine jF ?_|refine jG ?_|refine jH ?_|refine jI ?_|refine jJ ?_|refine jK ?_|refine jL ?_|refine jM (by assumption) ?_|refine jN (by assumption) rfl ?_|refine jO (by assumption) ?_|refine jP (by assumption) rfl ?_|refine jQ ?_|refine jR ?_|refine jS ?_|refine jT ?_|refine jU (by assumption) rfl ?_))
  refine M.call_i (build_ret hl (by omega) 1000) ?_; rintro _ w3 ⟨F, p, v, N, rfl, hd, hr, hF, k3⟩
  have ha3 := ha.keep k3 (fun _ _ _ h => h)
  have hb3 := hb.keep k3 (fun _ _ _ h => h)
  have hNl := hd.len.1
  have hG := hd.good
  refine M.extract_i (v := ptr p) rfl ?_
  refine M.extract_i (v := v) rfl ?_
  refine M.new_i (l := [.slice none 0 0, vi 0]) (fun w4 b4 k4 s4 => ?_)
  obtain ⟨X, xc, rfl, _⟩ := id hr
  refine M.storeAll_i b4 rfl rfl two_one (fun w5 b5 k5 s5 => ?_)
  have k35 : Keep w3 w5 No := k4.trans k5 (fun b hb h => by omega)
  have ha5 := ha3.keep k35 (fun _ _ _ h => h)
  have hb5 := hb3.keep k35 (fun _ _ _ h => h)
  have hd5 := hd.keepN k35
  have hr5 := hr.keep k35 (fun _ _ _ h => h)
  have k05 := k3.trans k35 (fun _ _ h => h)
  (repeat (first|refine ja ?_|refine jb ?_|refine jc ?_|refine jd ?_|refine je ?_|refine jf ?_|refine jg ?_|refine jh ?_|refine ji ?_|refine jj ?_|refine jk ?_|refine jl ?_|refine jm ?_|refine jn ?_|refine jo ?_|refine jp ?_|refine jq ?_|refine jr ?_|refine js ?_|refine jt ?_|refine ju ?_|refine jv ?_|refine jw ?_|refine jx ?_|refine jy ?_|refine jz ?_|refine jA ?_|refine jB ?_|refine jC ?_|refine jD ?_|refine jE ?_|refine jF ?_|refine jG ?_|refine jH ?_|refine jI ?_|refine jJ ?_|refine jK ?_|refine jL ?_|refine jM (by assumption) ?_|refine jN (by assumption) rfl ?_|refine jO (by assumption) ?_|refine jP (by assumption) rfl ?_|refine jQ ?_|refine jR ?_|refine jS ?_|refine jT ?_|refine jU (by assumption) rfl ?_))
  refine M.loop_i (σ := Nat) (fun i vals w' => vals = [vi i] ∧ i ≤ N.length ∧ Keep w5 w' No) (fun i => N.length - i) 0 ⟨rfl, by omega, Keep.refl _ _⟩ ?_
  rintro i vals w7 K ⟨rfl, hi, k7⟩ hK _
  simp only [List.getD_cons_zero, List.getD_cons_succ]
  have hd7 := hd5.keepN k7
  have ha7 := ha5.keep k7 (fun _ _ _ h => h)
  have hb7 := hb5.keep k7 (fun _ _ _ h => h)
  have hr7 := hr5.keep k7 (fun _ _ _ h => h)
  have b7 := b5.keep k7 (fun h => h)
  have k07 := k05.trans k7 (fun _ _ h => h)
  by_cases hlt : i < N.length
  · have hiN := isN_nat hlt
    (repeat (first|refine ja ?_|refine jb ?_|refine jc ?_|refine jd ?_|refine je ?_|refine jf ?_|refine jg ?_|refine jh ?_|refine ji ?_|refine jj ?_|refine jk ?_|refine jl ?_|refine jm ?_|refine jn ?_|refine jo ?_|refine jp ?_|refine jq ?_|refine jr ?_|refine js ?_|refine jt ?_|refine ju ?_|refine jv ?_|refine jw ?_|refine jx ?_|refine jy ?_|refine jz ?_|refine jA ?_|refine jB ?_|refine jC ?_|refine jD ?_|refine jE ?_|refine jF ?_|refine jG ?_|refine jH ?_|refine jI ?_|refine jJ ?_|refine jK ?_|refine jL ?_|refine jM (by assumption) ?_|refine jN (by assumption) rfl ?_|refine jO (by assumption) ?_|refine jP (by assumption) rfl ?_|refine jQ ?_|refine jR ?_|refine jS ?_|refine jT ?_|refine jU (by assumption) rfl ?_))
    refine M.call_i (value_ok hd7 ha7 (by omega) i rfl (by rw [if_pos hiN])) ?_; rintro _ w8 ⟨rfl, k8⟩
    refine M.extract_i (v := vw (valW N ea i)) rfl ?_
    refine M.extract_i (v := vi 0) rfl ?_
    refine M.loadAll_i (b7.keep k8 (fun h => h)) rfl ?_
    refine M.call_i (rwidth_ret (hr7.keep k8 (fun _ _ _ h => h)) i) ?_; rintro _ w9 ⟨rfl, k9⟩
    refine M.call_i (rcut_ret (wdN N i) (valW N ea i) w9) ?_; rintro _ w10 ⟨rfl, rfl⟩
    have hfit : cutW (wdN N i) (valW N ea i) = valW N ea i := by
      unfold valW; rw [if_pos hiN]; exact wordAt_fits hG ea i hiN
    rw [hfit]
    have k79 := k8.trans k9 (fun _ _ h => h)
    (repeat (first|refine ja ?_|refine jb ?_|refine jc ?_|refine jd ?_|refine je ?_|refine jf ?_|refine jg ?_|refine jh ?_|refine ji ?_|refine jj ?_|refine jk ?_|refine jl ?_|refine jm ?_|refine jn ?_|refine jo ?_|refine jp ?_|refine jq ?_|refine jr ?_|refine js ?_|refine jt ?_|refine ju ?_|refine jv ?_|refine jw ?_|refine jx ?_|refine jy ?_|refine jz ?_|refine jA ?_|refine jB ?_|refine jC ?_|refine jD ?_|refine jE ?_|refine jF ?_|refine jG ?_|refine jH ?_|refine jI ?_|refine jJ ?_|refine jK ?_|refine jL ?_|refine jM (by assumption) ?_|refine jN (by assumption) rfl ?_|refine jO (by assumption) ?_|refine jP (by assumption) rfl ?_|refine jQ ?_|refine jR ?_|refine jS ?_|refine jT ?_|refine jU (by assumption) rfl ?_|refine jG ?_ (by decide)|refine jH ?_ (by decide)|refine jI ?_ (by decide)|refine jJ ?_ (by decide)|refine jC ?_ (by decide)|refine jy ?_ (by decide)))
    refine M.call_i (vars_ret (hd7.keepN k79) i) ?_; rintro _ w10 ⟨g10, k10⟩
    have k710 := k79.trans k10 (fun _ _ h => h)
    have hvn := varsN_len (N := N) (id := i)
    have hnn : ∀ v ∈ varsN N i, 0 ≤ v := fun v hv => varsN_nonneg hG hv
    obtain ⟨B, cb, rfl, hrb, _⟩ := GI.lv g10
    generalize hvs : varsN N i = vs at *
    refine M.loop_i (σ := Nat) (fun k vals w' => vals = [vb ((vs.take k).all (fun v => decide (ea.getD v.toNat 0 = eb.getD v.toNat 0))), vi k] ∧ k ≤ vs.length ∧ Keep w10 w' No) (fun k => vs.length - k) 0 ⟨rfl, by omega, Keep.refl _ _⟩ ?_
    rintro k vals w11 K2 ⟨rfl, hk, k11⟩ hK2 _
    simp only [List.getD_cons_zero, List.getD_cons_succ]
    have hrb11 := hrb.keep k11 (fun _ _ _ h => h)
    have k711 := k710.trans k11 (fun _ _ h => h)
    have ha11 := ha7.keep k711 (fun _ _ _ h => h)
    have hb11 := hb7.keep k711 (fun _ _ _ h => h)
    by_cases hkl : k < vs.length
    · obtain ⟨x, hx⟩ : ∃ x, vs[k]? = some x := ⟨_, List.getElem?_eq_getElem hkl⟩
      have hx0 := hnn x (List.mem_of_getElem? hx)
      have hgd : ∀ e : List W64, ¬ x < (e.length : Int) → e.getD x.toNat 0 = 0 := fun e he => by
        rw [List.getD_eq_getElem?_getD, List.getElem?_eq_none (by omega)]; rfl
      obtain ⟨_, _, he1, hra, _⟩ := id ha11
      obtain ⟨_, _, he2, hrc, _⟩ := id hb11
      cases he1; cases he2
      have etk : (vs.take (k + 1)).all (fun v => decide (ea.getD v.toNat 0 = eb.getD v.toNat 0)) = ((vs.take k).all (fun v => decide (ea.getD v.toNat 0 = eb.getD v.toNat 0)) && decide (ea.getD x.toNat 0 = eb.getD x.toNat 0)) := by
        rw [List.take_add_one, hx, List.all_append]; simp
      (repeat (first|refine ja ?_|refine jb ?_|refine jc ?_|refine jd ?_|refine je ?_|refine jf ?_|refine jg ?_|refine jh ?_|refine ji ?_|refine jj ?_|refine jk ?_|refine jl ?_|refine jm ?_|refine jn ?_|refine jo ?_|refine jp ?_|refine jq ?_|refine jr ?_|refine js ?_|refine jt ?_|refine ju ?_|refine jv ?_|refine jw ?_|refine jx ?_|refine jy ?_|refine jz ?_|refine jA ?_|refine jB ?_|refine jC ?_|refine jD ?_|refine jE ?_|refine jF ?_|refine jG ?_|refine jH ?_|refine jI ?_|refine jJ ?_|refine jK ?_|refine jL ?_|refine jM (by assumption) ?_|refine jN (by assumption) rfl ?_|refine jO (by assumption) ?_|refine jP (by assumption) rfl ?_|refine jQ ?_|refine jR ?_|refine jS ?_|refine jT ?_|refine jU (by assumption) rfl ?_))
      refine M.share_j (fun vals w' => vals = [vw (ea.getD x.toNat 0)] ∧ w' = w11) ?_ ?_
      · rintro vals w12 ⟨rfl, rfl⟩ _
        simp only [List.getD_cons_zero, List.getD_cons_succ]
        refine M.share_j (fun vals w' => vals = [vw (eb.getD x.toNat 0)] ∧ w' = w12) ?_ ?_
        · rintro vals w13 ⟨rfl, rfl⟩ _
          simp only [List.getD_cons_zero, List.getD_cons_succ]
          cases hs : (vs.take k).all (fun v => decide (ea.getD v.toNat 0 = eb.getD v.toNat 0)) with
          | false =>
            rw [hs, Bool.false_and] at etk
            (repeat (first|refine ja ?_|refine jb ?_|refine jc ?_|refine jd ?_|refine je ?_|refine jf ?_|refine jg ?_|refine jh ?_|refine ji ?_|refine jj ?_|refine jk ?_|refine jl ?_|refine jm ?_|refine jn ?_|refine jo ?_|refine jp ?_|refine jq ?_|refine jr ?_|refine js ?_|refine jt ?_|refine ju ?_|refine jv ?_|refine jw ?_|refine jx ?_|refine jy ?_|refine jz ?_|refine jA ?_|refine jB ?_|refine jC ?_|refine jD ?_|refine jE ?_|refine jF ?_|refine jG ?_|refine jH ?_|refine jI ?_|refine jJ ?_|refine jK ?_|refine jL ?_|refine jM (by assumption) ?_|refine jN (by assumption) rfl ?_|refine jO (by assumption) ?_|refine jP (by assumption) rfl ?_|refine jQ ?_|refine jR ?_|refine jS ?_|refine jT ?_|refine jU (by assumption) rfl ?_|refine jG ?_ (by decide)|refine jH ?_ (by decide)|refine jI ?_ (by decide)|refine jJ ?_ (by decide)|refine jC ?_ (by decide)|refine jy ?_ (by decide)))
            exact hK2 (k + 1) _ _ (by omega) ⟨by rw [etk]; rfl, by omega, k11⟩
          | true =>
            rw [hs, Bool.true_and] at etk
            refine M.gd_tt ?_
            refine M.gd_tt ?_
            refine M.gd_tt ?_
            change M.bin .eql (vw (ea.getD x.toNat 0)) (vw (eb.getD x.toNat 0)) _ _
            refine M.eqlW_i ?_
            refine M.pick_t ?_
            (repeat (first|refine ja ?_|refine jb ?_|refine jc ?_|refine jd ?_|refine je ?_|refine jf ?_|refine jg ?_|refine jh ?_|refine ji ?_|refine jj ?_|refine jk ?_|refine jl ?_|refine jm ?_|refine jn ?_|refine jo ?_|refine jp ?_|refine jq ?_|refine jr ?_|refine js ?_|refine jt ?_|refine ju ?_|refine jv ?_|refine jw ?_|refine jx ?_|refine jy ?_|refine jz ?_|refine jA ?_|refine jB ?_|refine jC ?_|refine jD ?_|refine jE ?_|refine jF ?_|refine jG ?_|refine jH ?_|refine jI ?_|refine jJ ?_|refine jK ?_|refine jL ?_|refine jM (by assumption) ?_|refine jN (by assumption) rfl ?_|refine jO (by assumption) ?_|refine jP (by assumption) rfl ?_|refine jQ ?_|refine jR ?_|refine jS ?_|refine jT ?_|refine jU (by assumption) rfl ?_))
            exact hK2 (k + 1) _ _ (by omega) ⟨by rw [etk]; rfl, by omega, k11⟩
        · intro K4 hK4
          refine M.idxLV_i hrb11 rfl (by omega) (by omega) (x := x) (by simpa using hx) (fun bb oo hA hcc => ?_)
          by_cases hxe : x < (eb.length : Int)
          · (repeat (first|refine ja ?_|refine jb ?_|refine jc ?_|refine jd ?_|refine je ?_|refine jf ?_|refine jg ?_|refine jh ?_|refine ji ?_|refine jj ?_|refine jk ?_|refine jl ?_|refine jm ?_|refine jn ?_|refine jo ?_|refine jp ?_|refine jq ?_|refine jr ?_|refine js ?_|refine jt ?_|refine ju ?_|refine jv ?_|refine jw ?_|refine jx ?_|refine jy ?_|refine jz ?_|refine jA ?_|refine jB ?_|refine jC ?_|refine jD ?_|refine jE ?_|refine jF ?_|refine jG ?_|refine jH ?_|refine jI ?_|refine jJ ?_|refine jK ?_|refine jL ?_|refine jM (by assumption) ?_|refine jN (by assumption) rfl ?_|refine jO (by assumption) ?_|refine jP (by assumption) rfl ?_|refine jQ ?_|refine jR ?_|refine jS ?_|refine jT ?_|refine jU (by assumption) rfl ?_))
            refine M.idxLV_i hrb11 rfl (by omega) (by omega) (x := x) (by simpa using hx) (fun bb oo hA hcc => ?_)
            (repeat (first|refine ja ?_|refine jb ?_|refine jc ?_|refine jd ?_|refine je ?_|refine jf ?_|refine jg ?_|refine jh ?_|refine ji ?_|refine jj ?_|refine jk ?_|refine jl ?_|refine jm ?_|refine jn ?_|refine jo ?_|refine jp ?_|refine jq ?_|refine jr ?_|refine js ?_|refine jt ?_|refine ju ?_|refine jv ?_|refine jw ?_|refine jx ?_|refine jy ?_|refine jz ?_|refine jA ?_|refine jB ?_|refine jC ?_|refine jD ?_|refine jE ?_|refine jF ?_|refine jG ?_|refine jH ?_|refine jI ?_|refine jJ ?_|refine jK ?_|refine jL ?_|refine jM (by assumption) ?_|refine jN (by assumption) rfl ?_|refine jO (by assumption) ?_|refine jP (by assumption) rfl ?_|refine jQ ?_|refine jR ?_|refine jS ?_|refine jT ?_|refine jU (by assumption) rfl ?_))
            refine M.wat_i hrc rfl hx0 hxe (fun b1 o1 hc1 => ?_)
            (repeat (first|refine ja ?_|refine jb ?_|refine jc ?_|refine jd ?_|refine je ?_|refine jf ?_|refine jg ?_|refine jh ?_|refine ji ?_|refine jj ?_|refine jk ?_|refine jl ?_|refine jm ?_|refine jn ?_|refine jo ?_|refine jp ?_|refine jq ?_|refine jr ?_|refine js ?_|refine jt ?_|refine ju ?_|refine jv ?_|refine jw ?_|refine jx ?_|refine jy ?_|refine jz ?_|refine jA ?_|refine jB ?_|refine jC ?_|refine jD ?_|refine jE ?_|refine jF ?_|refine jG ?_|refine jH ?_|refine jI ?_|refine jJ ?_|refine jK ?_|refine jL ?_|refine jM (by assumption) ?_|refine jN (by assumption) rfl ?_|refine jO (by assumption) ?_|refine jP (by assumption) rfl ?_|refine jQ ?_|refine jR ?_|refine jS ?_|refine jT ?_|refine jU (by assumption) rfl ?_))
            exact hK4 _ _ ⟨rfl, rfl⟩
          · (repeat (first|refine ja ?_|refine jb ?_|refine jc ?_|refine jd ?_|refine je ?_|refine jf ?_|refine jg ?_|refine jh ?_|refine ji ?_|refine jj ?_|refine jk ?_|refine jl ?_|refine jm ?_|refine jn ?_|refine jo ?_|refine jp ?_|refine jq ?_|refine jr ?_|refine js ?_|refine jt ?_|refine ju ?_|refine jv ?_|refine jw ?_|refine jx ?_|refine jy ?_|refine jz ?_|refine jA ?_|refine jB ?_|refine jC ?_|refine jD ?_|refine jE ?_|refine jF ?_|refine jG ?_|refine jH ?_|refine jI ?_|refine jJ ?_|refine jK ?_|refine jL ?_|refine jM (by assumption) ?_|refine jN (by assumption) rfl ?_|refine jO (by assumption) ?_|refine jP (by assumption) rfl ?_|refine jQ ?_|refine jR ?_|refine jS ?_|refine jT ?_|refine jU (by assumption) rfl ?_))
            exact hK4 _ _ ⟨by rw [hgd _ hxe]; rfl, rfl⟩
      · intro K3 hK3
        refine M.idxLV_i hrb11 rfl (by omega) (by omega) (x := x) (by simpa using hx) (fun bb oo hA hcc => ?_)
        by_cases hxe : x < (ea.length : Int)
        · (repeat (first|refine ja ?_|refine jb ?_|refine jc ?_|refine jd ?_|refine je ?_|refine jf ?_|refine jg ?_|refine jh ?_|refine ji ?_|refine jj ?_|refine jk ?_|refine jl ?_|refine jm ?_|refine jn ?_|refine jo ?_|refine jp ?_|refine jq ?_|refine jr ?_|refine js ?_|refine jt ?_|refine ju ?_|refine jv ?_|refine jw ?_|refine jx ?_|refine jy ?_|refine jz ?_|refine jA ?_|refine jB ?_|refine jC ?_|refine jD ?_|refine jE ?_|refine jF ?_|refine jG ?_|refine jH ?_|refine jI ?_|refine jJ ?_|refine jK ?_|refine jL ?_|refine jM (by assumption) ?_|refine jN (by assumption) rfl ?_|refine jO (by assumption) ?_|refine jP (by assumption) rfl ?_|refine jQ ?_|refine jR ?_|refine jS ?_|refine jT ?_|refine jU (by assumption) rfl ?_))
          refine M.idxLV_i hrb11 rfl (by omega) (by omega) (x := x) (by simpa using hx) (fun bb oo hA hcc => ?_)
          (repeat (first|refine ja ?_|refine jb ?_|refine jc ?_|refine jd ?_|refine je ?_|refine jf ?_|refine jg ?_|refine jh ?_|refine ji ?_|refine jj ?_|refine jk ?_|refine jl ?_|refine jm ?_|refine jn ?_|refine jo ?_|refine jp ?_|refine jq ?_|refine jr ?_|refine js ?_|refine jt ?_|refine ju ?_|refine jv ?_|refine jw ?_|refine jx ?_|refine jy ?_|refine jz ?_|refine jA ?_|refine jB ?_|refine jC ?_|refine jD ?_|refine jE ?_|refine jF ?_|refine jG ?_|refine jH ?_|refine jI ?_|refine jJ ?_|refine jK ?_|refine jL ?_|refine jM (by assumption) ?_|refine jN (by assumption) rfl ?_|refine jO (by assumption) ?_|refine jP (by assumption) rfl ?_|refine jQ ?_|refine jR ?_|refine jS ?_|refine jT ?_|refine jU (by assumption) rfl ?_))
          refine M.wat_i hra rfl hx0 hxe (fun b1 o1 hc1 => ?_)
          (repeat (first|refine ja ?_|refine jb ?_|refine jc ?_|refine jd ?_|refine je ?_|refine jf ?_|refine jg ?_|refine jh ?_|refine ji ?_|refine jj ?_|refine jk ?_|refine jl ?_|refine jm ?_|refine jn ?_|refine jo ?_|refine jp ?_|refine jq ?_|refine jr ?_|refine js ?_|refine jt ?_|refine ju ?_|refine jv ?_|refine jw ?_|refine jx ?_|refine jy ?_|refine jz ?_|refine jA ?_|refine jB ?_|refine jC ?_|refine jD ?_|refine jE ?_|refine jF ?_|refine jG ?_|refine jH ?_|refine jI ?_|refine jJ ?_|refine jK ?_|refine jL ?_|refine jM (by assumption) ?_|refine jN (by assumption) rfl ?_|refine jO (by assumption) ?_|refine jP (by assumption) rfl ?_|refine jQ ?_|refine jR ?_|refine jS ?_|refine jT ?_|refine jU (by assumption) rfl ?_))
          exact hK3 _ _ ⟨rfl, rfl⟩
        · (repeat (first|refine ja ?_|refine jb ?_|refine jc ?_|refine jd ?_|refine je ?_|refine jf ?_|refine jg ?_|refine jh ?_|refine ji ?_|refine jj ?_|refine jk ?_|refine jl ?_|refine jm ?_|refine jn ?_|refine jo ?_|refine jp ?_|refine jq ?_|refine jr ?_|refine js ?_|refine jt ?_|refine ju ?_|refine jv ?_|refine jw ?_|refine jx ?_|refine jy ?_|refine jz ?_|refine jA ?_|refine jB ?_|refine jC ?_|refine jD ?_|refine jE ?_|refine jF ?_|refine jG ?_|refine jH ?_|refine jI ?_|refine jJ ?_|refine jK ?_|refine jL ?_|refine jM (by assumption) ?_|refine jN (by assumption) rfl ?_|refine jO (by assumption) ?_|refine jP (by assumption) rfl ?_|refine jQ ?_|refine jR ?_|refine jS ?_|refine jT ?_|refine jU (by assumption) rfl ?_))
          exact hK3 _ _ ⟨by rw [hgd _ hxe]; rfl, rfl⟩
    · have e : k = vs.length := by omega
      subst e
      rw [List.take_length]
      (repeat (first|refine ja ?_|refine jb ?_|refine jc ?_|refine jd ?_|refine je ?_|refine jf ?_|refine jg ?_|refine jh ?_|refine ji ?_|refine jj ?_|refine jk ?_|refine jl ?_|refine jm ?_|refine jn ?_|refine jo ?_|refine jp ?_|refine jq ?_|refine jr ?_|refine js ?_|refine jt ?_|refine ju ?_|refine jv ?_|refine jw ?_|refine jx ?_|refine jy ?_|refine jz ?_|refine jA ?_|refine jB ?_|refine jC ?_|refine jD ?_|refine jE ?_|refine jF ?_|refine jG ?_|refine jH ?_|refine jI ?_|refine jJ ?_|refine jK ?_|refine jL ?_|refine jM (by assumption) ?_|refine jN (by assumption) rfl ?_|refine jO (by assumption) ?_|refine jP (by assumption) rfl ?_|refine jQ ?_|refine jR ?_|refine jS ?_|refine jT ?_|refine jU (by assumption) rfl ?_))
      refine M.call_i (value_ok (hd7.keepN k711) hb11 (by omega) i rfl (by rw [if_pos hiN])) ?_; rintro _ w12 ⟨rfl, k12⟩
      refine M.extract_i (v := vw (valW N eb i)) rfl ?_
      refine M.extract_i (v := vi 0) rfl ?_
      have k512 := (k7.trans k711 (fun _ _ h => h)).trans k12 (fun _ _ h => h)
      cases hs : vs.all (fun v => decide (ea.getD v.toNat 0 = eb.getD v.toNat 0)) with
      | false =>
        (repeat (first|refine ja ?_|refine jb ?_|refine jc ?_|refine jd ?_|refine je ?_|refine jf ?_|refine jg ?_|refine jh ?_|refine ji ?_|refine jj ?_|refine jk ?_|refine jl ?_|refine jm ?_|refine jn ?_|refine jo ?_|refine jp ?_|refine jq ?_|refine jr ?_|refine js ?_|refine jt ?_|refine ju ?_|refine jv ?_|refine jw ?_|refine jx ?_|refine jy ?_|refine jz ?_|refine jA ?_|refine jB ?_|refine jC ?_|refine jD ?_|refine jE ?_|refine jF ?_|refine jG ?_|refine jH ?_|refine jI ?_|refine jJ ?_|refine jK ?_|refine jL ?_|refine jM (by assumption) ?_|refine jN (by assumption) rfl ?_|refine jO (by assumption) ?_|refine jP (by assumption) rfl ?_|refine jQ ?_|refine jR ?_|refine jS ?_|refine jT ?_|refine jU (by assumption) rfl ?_|refine jG ?_ (by decide)|refine jH ?_ (by decide)|refine jI ?_ (by decide)|refine jJ ?_ (by decide)|refine jC ?_ (by decide)|refine jy ?_ (by decide)))
        exact hK (i + 1) _ _ (by omega) ⟨rfl, by omega, k512⟩
      | true =>
        have hsame : valW N ea i = valW N eb i := by
          unfold valW
          rw [if_pos hiN, if_pos hiN]
          refine wordAt_same hG hiN (fun v hv => ?_) i Rch.self
          rw [hvs] at hv
          simpa using List.all_eq_true.1 hs v hv
        rw [hsame]
        (repeat (first|refine ja ?_|refine jb ?_|refine jc ?_|refine jd ?_|refine je ?_|refine jf ?_|refine jg ?_|refine jh ?_|refine ji ?_|refine jj ?_|refine jk ?_|refine jl ?_|refine jm ?_|refine jn ?_|refine jo ?_|refine jp ?_|refine jq ?_|refine jr ?_|refine js ?_|refine jt ?_|refine ju ?_|refine jv ?_|refine jw ?_|refine jx ?_|refine jy ?_|refine jz ?_|refine jA ?_|refine jB ?_|refine jC ?_|refine jD ?_|refine jE ?_|refine jF ?_|refine jG ?_|refine jH ?_|refine jI ?_|refine jJ ?_|refine jK ?_|refine jL ?_|refine jM (by assumption) ?_|refine jN (by assumption) rfl ?_|refine jO (by assumption) ?_|refine jP (by assumption) rfl ?_|refine jQ ?_|refine jR ?_|refine jS ?_|refine jT ?_|refine jU (by assumption) rfl ?_|refine jG ?_ (by decide)|refine jH ?_ (by decide)|refine jI ?_ (by decide)|refine jJ ?_ (by decide)|refine jC ?_ (by decide)|refine jy ?_ (by decide)))
        exact hK (i + 1) _ _ (by omega) ⟨rfl, by omega, k512⟩
  · have e : i = N.length := by omega
    subst e
    (repeat (first|refine ja ?_|refine jb ?_|refine jc ?_|refine jd ?_|refine je ?_|refine jf ?_|refine jg ?_|refine jh ?_|refine ji ?_|refine jj ?_|refine jk ?_|refine jl ?_|refine jm ?_|refine jn ?_|refine jo ?_|refine jp ?_|refine jq ?_|refine jr ?_|refine js ?_|refine jt ?_|refine ju ?_|refine jv ?_|refine jw ?_|refine jx ?_|refine jy ?_|refine jz ?_|refine jA ?_|refine jB ?_|refine jC ?_|refine jD ?_|refine jE ?_|refine jF ?_|refine jG ?_|refine jH ?_|refine jI ?_|refine jJ ?_|refine jK ?_|refine jL ?_|refine jM (by assumption) ?_|refine jN (by assumption) rfl ?_|refine jO (by assumption) ?_|refine jP (by assumption) rfl ?_|refine jQ ?_|refine jR ?_|refine jS ?_|refine jT ?_|refine jU (by assumption) rfl ?_))
    refine M.call_i (awake16_ret w7) ?_; rintro _ w10 ⟨rfl, k10⟩
    exact ⟨rfl, k07.trans k10 (fun _ _ h => h)⟩
end Go.Proofs.Yteahomhjoilahaa
