import Derived.Test.YtfffepeloiefiaaSub32
import Derived.Test.YtfffepeloiefiaaLit
import Derived.Laws.Small
namespace Go.Proofs.Ytfffepeloiefiaa
open Go.Mw
set_option linter.unusedVariables false
set_option linter.unusedSimpArgs false
set_option maxRecDepth 100000
attribute [local irreducible] M.val M.unit M.next M.pick M.new M.nilCheck M.load1 M.loadA M.store M.fieldAddr M.indexSl M.indexArr M.slice M.makeSlice M.buildSlice M.len M.lenS M.cap M.append M.extract M.conv M.not M.neg M.bin M.shift M.eqB M.eqNil M.call M.callv M.gd M.share M.cond M.loop M.draw pureW readW Ret
def pairs (l : List PD) : List (Int × W64) := l.map (fun p => (p.b, p.v))
theorem M.max_i {k : Kt} {w : World} {t ty : TypeId} {cs : Array Bool} {x y : Int} (h : k (vi (if y > x then y else x)) w) : M.next Try.prog (builtin .max #[t, t] ty cs #[vi x, vi y]) k w :=
  M.next_i (v := vi (if y > x then y else x)) (w' := w) (run_max_int2 (P := Try.prog) (w := w) #[t, t] ty .i64 .i64 x y) h
theorem M.min_i {k : Kt} {w : World} {t ty : TypeId} {cs : Array Bool} {x y : Int} (h : k (vi (if y < x then y else x)) w) : M.next Try.prog (builtin .min #[t, t] ty cs #[vi x, vi y]) k w :=
  M.next_i (v := vi (if y < x then y else x)) (w' := w) (run_min_int2 (P := Try.prog) (w := w) #[t, t] ty .i64 .i64 x y) h
section
variable {w : World} {D : Nat → Prop} {a b : Value} {d : Dv}
theorem allowed_ret (h : DvO w D a b d) (hf : d.pend.length ≤ 1000000) (hI : ∀ p ∈ d.pend, I64 p.e) (m : Int) :
    Ret Try.prog 58 #[.agg ⟨[a, b, vi d.ep]⟩, vi m] w (fun r w' => r = .bool (allowB (epsP d.pend) m) ∧ Keep w w' No) := by
  obtain ⟨h1, A, c, rfl, hr, hc⟩ := h
  have el := eps_len d.pend
  have hI2 : ∀ j, j < d.pend.length → -9223372036854775808 ≤ (epsP d.pend).getD j 0 ∧ (epsP d.pend).getD j 0 ≤ 9223372036854775807 := fun j hj => by
    obtain ⟨x, hx, hxe⟩ := eps_at hj
    rw [hxe]
    have := hI x (List.mem_of_getElem? hx)
    exact ⟨this.1, by have := this.2; omega⟩
  refine ok58 _ _ _ _ ?_
  unfold sh58
  refine M.new_i (l := [a, .slice A d.pend.length c, vi d.ep]) (fun w1 b1 k1 s1 => ?_)
  (repeat (first|refine ja ?_|refine jb ?_|refine jc ?_|refine jd ?_|refine je ?_|refine jf ?_|refine jg ?_|refine jh ?_|refine ji ?_|refine jj ?_|refine jk ?_|refine jl ?_|refine jm ?_|refine jn ?_|refine jo ?_|refine jp ?_|refine jq ?_|refine jr ?_|refine js ?_|refine jt ?_|refine ju ?_|refine jv ?_|refine jw ?_|refine jx ?_|refine jy ?_|refine jz ?_|refine jA ?_|refine jB ?_|refine jC ?_|refine jD ?_|refine jE ?_|refine jF ?_|refine jG ?_|refine jH ?_|refine jI ?_|refine jJ ?_|refine jK ?_|refine jL ?_|refine jM (by assumption) ?_|refine jN (by assumption) rfl ?_|refine jO (by assumption) ?_|refine jP (by assumption) rfl ?_|refine jQ ?_|refine jR ?_|refine jS ?_|refine jT ?_|refine jU (by assumption) rfl ?_))
  by_cases h20 : 20 < d.pend.length
  · rw [allowB_no (by omega)]
    (repeat (first|refine ja ?_|refine jb ?_|refine jc ?_|refine jd ?_|refine je ?_|refine jf ?_|refine jg ?_|refine jh ?_|refine ji ?_|refine jj ?_|refine jk ?_|refine jl ?_|refine jm ?_|refine jn ?_|refine jo ?_|refine jp ?_|refine jq ?_|refine jr ?_|refine js ?_|refine jt ?_|refine ju ?_|refine jv ?_|refine jw ?_|refine jx ?_|refine jy ?_|refine jz ?_|refine jA ?_|refine jB ?_|refine jC ?_|refine jD ?_|refine jE ?_|refine jF ?_|refine jG ?_|refine jH ?_|refine jI ?_|refine jJ ?_|refine jK ?_|refine jL ?_|refine jM (by assumption) ?_|refine jN (by assumption) rfl ?_|refine jO (by assumption) ?_|refine jP (by assumption) rfl ?_|refine jQ ?_|refine jR ?_|refine jS ?_|refine jT ?_|refine jU (by assumption) rfl ?_))
    exact ⟨rfl, k1⟩
  by_cases h0 : m < 0
  · rw [allowB_no (by omega)]
    (repeat (first|refine ja ?_|refine jb ?_|refine jc ?_|refine jd ?_|refine je ?_|refine jf ?_|refine jg ?_|refine jh ?_|refine ji ?_|refine jj ?_|refine jk ?_|refine jl ?_|refine jm ?_|refine jn ?_|refine jo ?_|refine jp ?_|refine jq ?_|refine jr ?_|refine js ?_|refine jt ?_|refine ju ?_|refine jv ?_|refine jw ?_|refine jx ?_|refine jy ?_|refine jz ?_|refine jA ?_|refine jB ?_|refine jC ?_|refine jD ?_|refine jE ?_|refine jF ?_|refine jG ?_|refine jH ?_|refine jI ?_|refine jJ ?_|refine jK ?_|refine jL ?_|refine jM (by assumption) ?_|refine jN (by assumption) rfl ?_|refine jO (by assumption) ?_|refine jP (by assumption) rfl ?_|refine jQ ?_|refine jR ?_|refine jS ?_|refine jT ?_|refine jU (by assumption) rfl ?_))
    exact ⟨rfl, k1⟩
  (repeat (first|refine ja ?_|refine jb ?_|refine jc ?_|refine jd ?_|refine je ?_|refine jf ?_|refine jg ?_|refine jh ?_|refine ji ?_|refine jj ?_|refine jk ?_|refine jl ?_|refine jm ?_|refine jn ?_|refine jo ?_|refine jp ?_|refine jq ?_|refine jr ?_|refine js ?_|refine jt ?_|refine ju ?_|refine jv ?_|refine jw ?_|refine jx ?_|refine jy ?_|refine jz ?_|refine jA ?_|refine jB ?_|refine jC ?_|refine jD ?_|refine jE ?_|refine jF ?_|refine jG ?_|refine jH ?_|refine jI ?_|refine jJ ?_|refine jK ?_|refine jL ?_|refine jM (by assumption) ?_|refine jN (by assumption) rfl ?_|refine jO (by assumption) ?_|refine jP (by assumption) rfl ?_|refine jQ ?_|refine jR ?_|refine jS ?_|refine jT ?_|refine jU (by assumption) rfl ?_))
  refine M.shr_i ?_
  refine M.gd_ff ?_
  refine M.neq_i ?_
  rw [fdiv_zero (by omega) (by omega)]
  refine M.pick_f ?_
  by_cases hm : ((2 ^ d.pend.length : Nat) : Int) ≤ m
  · rw [allowB_no (by rw [el]; omega), decide_eq_true hm]
    (repeat (first|refine ja ?_|refine jb ?_|refine jc ?_|refine jd ?_|refine je ?_|refine jf ?_|refine jg ?_|refine jh ?_|refine ji ?_|refine jj ?_|refine jk ?_|refine jl ?_|refine jm ?_|refine jn ?_|refine jo ?_|refine jp ?_|refine jq ?_|refine jr ?_|refine js ?_|refine jt ?_|refine ju ?_|refine jv ?_|refine jw ?_|refine jx ?_|refine jy ?_|refine jz ?_|refine jA ?_|refine jB ?_|refine jC ?_|refine jD ?_|refine jE ?_|refine jF ?_|refine jG ?_|refine jH ?_|refine jI ?_|refine jJ ?_|refine jK ?_|refine jL ?_|refine jM (by assumption) ?_|refine jN (by assumption) rfl ?_|refine jO (by assumption) ?_|refine jP (by assumption) rfl ?_|refine jQ ?_|refine jR ?_|refine jS ?_|refine jT ?_|refine jU (by assumption) rfl ?_))
    exact ⟨rfl, k1⟩
  rw [decide_eq_false hm]
  (repeat (first|refine ja ?_|refine jb ?_|refine jc ?_|refine jd ?_|refine je ?_|refine jf ?_|refine jg ?_|refine jh ?_|refine ji ?_|refine jj ?_|refine jk ?_|refine jl ?_|refine jm ?_|refine jn ?_|refine jo ?_|refine jp ?_|refine jq ?_|refine jr ?_|refine js ?_|refine jt ?_|refine ju ?_|refine jv ?_|refine jw ?_|refine jx ?_|refine jy ?_|refine jz ?_|refine jA ?_|refine jB ?_|refine jC ?_|refine jD ?_|refine jE ?_|refine jF ?_|refine jG ?_|refine jH ?_|refine jI ?_|refine jJ ?_|refine jK ?_|refine jL ?_|refine jM (by assumption) ?_|refine jN (by assumption) rfl ?_|refine jO (by assumption) ?_|refine jP (by assumption) rfl ?_|refine jQ ?_|refine jR ?_|refine jS ?_|refine jT ?_|refine jU (by assumption) rfl ?_))
  refine M.loop_i (σ := Nat × Int × Int) (fun t vals w' => vals = [vi t.2.1, vi t.2.2, vi t.1] ∧ t.1 ≤ d.pend.length ∧ Lf (epsP d.pend) m t.1 t.2.1 t.2.2 ∧ Keep w1 w' No) (fun t => d.pend.length - t.1) (0, -9223372036854775808, 9223372036854775807) ⟨rfl, Nat.zero_le _, Lf.start _ _, Keep.refl _ _⟩ ?_
  rintro ⟨i, last, first⟩ vals w2 K ⟨rfl, hi, hL, k2⟩ hK _
  simp only at hi hL
  simp only [List.getD_cons_zero, List.getD_cons_succ]
  by_cases hlt : i < d.pend.length
  · obtain ⟨x, hx, hxe⟩ := eps_at hlt
    have hr2 := (hr.keep k1 (fun _ _ _ h => h)).keep k2 (fun _ _ _ h => h)
    (repeat (first|refine ja ?_|refine jb ?_|refine jc ?_|refine jd ?_|refine je ?_|refine jf ?_|refine jg ?_|refine jh ?_|refine ji ?_|refine jj ?_|refine jk ?_|refine jl ?_|refine jm ?_|refine jn ?_|refine jo ?_|refine jp ?_|refine jq ?_|refine jr ?_|refine js ?_|refine jt ?_|refine ju ?_|refine jv ?_|refine jw ?_|refine jx ?_|refine jy ?_|refine jz ?_|refine jA ?_|refine jB ?_|refine jC ?_|refine jD ?_|refine jE ?_|refine jF ?_|refine jG ?_|refine jH ?_|refine jI ?_|refine jJ ?_|refine jK ?_|refine jL ?_|refine jM (by assumption) ?_|refine jN (by assumption) rfl ?_|refine jO (by assumption) ?_|refine jP (by assumption) rfl ?_|refine jQ ?_|refine jR ?_|refine jS ?_|refine jT ?_|refine jU (by assumption) rfl ?_))
    refine M.share_j (fun vals w' => ∃ last' first', vals = [vi last', vi first'] ∧ Lf (epsP d.pend) m (i + 1) last' first' ∧ Keep w1 w' No) ?_ ?_
    · rintro vals w3 ⟨last', first', rfl, a1, a2⟩ _
      simp only [List.getD_cons_zero, List.getD_cons_succ]
      (repeat (first|refine ja ?_|refine jb ?_|refine jc ?_|refine jd ?_|refine je ?_|refine jf ?_|refine jg ?_|refine jh ?_|refine ji ?_|refine jj ?_|refine jk ?_|refine jl ?_|refine jm ?_|refine jn ?_|refine jo ?_|refine jp ?_|refine jq ?_|refine jr ?_|refine js ?_|refine jt ?_|refine ju ?_|refine jv ?_|refine jw ?_|refine jx ?_|refine jy ?_|refine jz ?_|refine jA ?_|refine jB ?_|refine jC ?_|refine jD ?_|refine jE ?_|refine jF ?_|refine jG ?_|refine jH ?_|refine jI ?_|refine jJ ?_|refine jK ?_|refine jL ?_|refine jM (by assumption) ?_|refine jN (by assumption) rfl ?_|refine jO (by assumption) ?_|refine jP (by assumption) rfl ?_|refine jQ ?_|refine jR ?_|refine jS ?_|refine jT ?_|refine jU (by assumption) rfl ?_))
      exact hK (i + 1, last', first') _ _ (by show d.pend.length - (i + 1) < d.pend.length - i; omega) ⟨rfl, by show i + 1 ≤ _; omega, a1, a2⟩
    · intro K2 hK2
      refine M.idxPD_i hr2 hx (fun b2 o2 hc2 => ?_)
      refine M.loadPD_i hc2 ?_
      refine M.new_i (l := [vi 0, vw 0, vi 0]) (fun w3 b3 k3 s3 => ?_)
      refine M.storeAll_i b3 rfl rfl (pd_one x) (fun w4 b4 k4 s4 => ?_)
      have b4 : Blk w4 w2.heap.size [vi x.b, vw x.v, vi x.e] := b4
      have k24 : Keep w1 w4 No := k2.trans (k3.trans k4 (fun b hb h => by omega)) (fun _ _ h => h)
      refine M.shr_i ?_
      refine M.and1_i ?_
      refine M.eql_i ?_
      have eb : decide (m.fdiv (2 ^ (min i 64)) % 2 = 1) = bitZ m i := rfl
      rw [eb]
      cases hb : bitZ m i with
      | true =>
        (repeat (first|refine ja ?_|refine jb ?_|refine jc ?_|refine jd ?_|refine je ?_|refine jf ?_|refine jg ?_|refine jh ?_|refine ji ?_|refine jj ?_|refine jk ?_|refine jl ?_|refine jm ?_|refine jn ?_|refine jo ?_|refine jp ?_|refine jq ?_|refine jr ?_|refine js ?_|refine jt ?_|refine ju ?_|refine jv ?_|refine jw ?_|refine jx ?_|refine jy ?_|refine jz ?_|refine jA ?_|refine jB ?_|refine jC ?_|refine jD ?_|refine jE ?_|refine jF ?_|refine jG ?_|refine jH ?_|refine jI ?_|refine jJ ?_|refine jK ?_|refine jL ?_|refine jM (by assumption) ?_|refine jN (by assumption) rfl ?_|refine jO (by assumption) ?_|refine jP (by assumption) rfl ?_|refine jQ ?_|refine jR ?_|refine jS ?_|refine jT ?_|refine jU (by assumption) rfl ?_))
        refine M.max_i ?_
        refine hK2 _ _ ⟨_, _, rfl, ?_, k24⟩
        have := hL.set hb (hI2 i hlt).1
        rw [hxe] at this; exact this
      | false =>
        (repeat (first|refine ja ?_|refine jb ?_|refine jc ?_|refine jd ?_|refine je ?_|refine jf ?_|refine jg ?_|refine jh ?_|refine ji ?_|refine jj ?_|refine jk ?_|refine jl ?_|refine jm ?_|refine jn ?_|refine jo ?_|refine jp ?_|refine jq ?_|refine jr ?_|refine js ?_|refine jt ?_|refine ju ?_|refine jv ?_|refine jw ?_|refine jx ?_|refine jy ?_|refine jz ?_|refine jA ?_|refine jB ?_|refine jC ?_|refine jD ?_|refine jE ?_|refine jF ?_|refine jG ?_|refine jH ?_|refine jI ?_|refine jJ ?_|refine jK ?_|refine jL ?_|refine jM (by assumption) ?_|refine jN (by assumption) rfl ?_|refine jO (by assumption) ?_|refine jP (by assumption) rfl ?_|refine jQ ?_|refine jR ?_|refine jS ?_|refine jT ?_|refine jU (by assumption) rfl ?_))
        refine M.min_i ?_
        refine hK2 _ _ ⟨_, _, rfl, ?_, k24⟩
        have := hL.unset hb (hI2 i hlt).2
        rw [hxe] at this; exact this
  · have e1 : i = d.pend.length := by omega
    subst e1
    have hiff := hL.iff hI2
    (repeat (first|refine ja ?_|refine jb ?_|refine jc ?_|refine jd ?_|refine je ?_|refine jf ?_|refine jg ?_|refine jh ?_|refine ji ?_|refine jj ?_|refine jk ?_|refine jl ?_|refine jm ?_|refine jn ?_|refine jo ?_|refine jp ?_|refine jq ?_|refine jr ?_|refine js ?_|refine jt ?_|refine ju ?_|refine jv ?_|refine jw ?_|refine jx ?_|refine jy ?_|refine jz ?_|refine jA ?_|refine jB ?_|refine jC ?_|refine jD ?_|refine jE ?_|refine jF ?_|refine jG ?_|refine jH ?_|refine jI ?_|refine jJ ?_|refine jK ?_|refine jL ?_|refine jM (by assumption) ?_|refine jN (by assumption) rfl ?_|refine jO (by assumption) ?_|refine jP (by assumption) rfl ?_|refine jQ ?_|refine jR ?_|refine jS ?_|refine jT ?_|refine jU (by assumption) rfl ?_))
    refine M.leq_i ?_
    refine ⟨?_, k1.trans k2 (fun _ _ h => h)⟩
    by_cases hle : last ≤ first
    · rw [decide_eq_true hle]
      rw [allowB_iff.2 ⟨by omega, by omega, by rw [el]; omega, by rw [el]; exact hiff.1 hle⟩]
    · rw [decide_eq_false hle]
      rw [allowB_no (fun hh => hle (hiff.2 (by rw [el] at hh; exact hh.2.2.2)))]
/-! ### words -/
theorem words_ret {D' : Nat → Prop} {u v : Value} {xs ys : List W64} (h1 : LV vw w D u xs) (h2 : LV vw w D' v ys) (hf : xs.length ≤ 1000000) :
    Ret Try.prog 13 #[u, v] w (fun r w' => r = .bool (decide (xs = ys)) ∧ Keep w w' No) := by
  obtain ⟨A, c, rfl, h1, hc1⟩ := h1
  obtain ⟨B, c', rfl, h2, hc2⟩ := h2
  refine ok13 _ _ _ _ ?_
  unfold sh13
  by_cases hl : xs.length = ys.length
  rotate_left
  · rw [decide_eq_false (fun e => hl (by rw [e]))]
    (repeat (first|refine ja ?_|refine jb ?_|refine jc ?_|refine jd ?_|refine je ?_|refine jf ?_|refine jg ?_|refine jh ?_|refine ji ?_|refine jj ?_|refine jk ?_|refine jl ?_|refine jm ?_|refine jn ?_|refine jo ?_|refine jp ?_|refine jq ?_|refine jr ?_|refine js ?_|refine jt ?_|refine ju ?_|refine jv ?_|refine jw ?_|refine jx ?_|refine jy ?_|refine jz ?_|refine jA ?_|refine jB ?_|refine jC ?_|refine jD ?_|refine jE ?_|refine jF ?_|refine jG ?_|refine jH ?_|refine jI ?_|refine jJ ?_|refine jK ?_|refine jL ?_|refine jM (by assumption) ?_|refine jN (by assumption) rfl ?_|refine jO (by assumption) ?_|refine jP (by assumption) rfl ?_|refine jQ ?_|refine jR ?_|refine jS ?_|refine jT ?_|refine jU (by assumption) rfl ?_))
    exact ⟨rfl, Keep.refl _ _⟩
  (repeat (first|refine ja ?_|refine jb ?_|refine jc ?_|refine jd ?_|refine je ?_|refine jf ?_|refine jg ?_|refine jh ?_|refine ji ?_|refine jj ?_|refine jk ?_|refine jl ?_|refine jm ?_|refine jn ?_|refine jo ?_|refine jp ?_|refine jq ?_|refine jr ?_|refine js ?_|refine jt ?_|refine ju ?_|refine jv ?_|refine jw ?_|refine jx ?_|refine jy ?_|refine jz ?_|refine jA ?_|refine jB ?_|refine jC ?_|refine jD ?_|refine jE ?_|refine jF ?_|refine jG ?_|refine jH ?_|refine jI ?_|refine jJ ?_|refine jK ?_|refine jL ?_|refine jM (by assumption) ?_|refine jN (by assumption) rfl ?_|refine jO (by assumption) ?_|refine jP (by assumption) rfl ?_|refine jQ ?_|refine jR ?_|refine jS ?_|refine jT ?_|refine jU (by assumption) rfl ?_))
  refine M.loop_i (σ := Nat) (fun i vals w' => vals = [vi i] ∧ i ≤ xs.length ∧ xs.take i = ys.take i ∧ Keep w w' No) (fun i => xs.length - i) 0 ⟨rfl, by omega, rfl, Keep.refl _ _⟩ ?_
  rintro i vals w1 K ⟨rfl, hi, he, k1⟩ hK _
  simp only [List.getD_cons_zero, List.getD_cons_succ]
  by_cases hlt : i < xs.length
  · obtain ⟨x, hx⟩ : ∃ x, xs[i]? = some x := ⟨_, List.getElem?_eq_getElem hlt⟩
    obtain ⟨y, hy⟩ : ∃ y, ys[i]? = some y := ⟨_, List.getElem?_eq_getElem (by omega)⟩
    have kd := k1.trans (Keep.drew w1 No) (fun _ _ h => h)
    (repeat (first|refine ja ?_|refine jb ?_|refine jc ?_|refine jd ?_|refine je ?_|refine jf ?_|refine jg ?_|refine jh ?_|refine ji ?_|refine jj ?_|refine jk ?_|refine jl ?_|refine jm ?_|refine jn ?_|refine jo ?_|refine jp ?_|refine jq ?_|refine jr ?_|refine js ?_|refine jt ?_|refine ju ?_|refine jv ?_|refine jw ?_|refine jx ?_|refine jy ?_|refine jz ?_|refine jA ?_|refine jB ?_|refine jC ?_|refine jD ?_|refine jE ?_|refine jF ?_|refine jG ?_|refine jH ?_|refine jI ?_|refine jJ ?_|refine jK ?_|refine jL ?_|refine jM (by assumption) ?_|refine jN (by assumption) rfl ?_|refine jO (by assumption) ?_|refine jP (by assumption) rfl ?_|refine jQ ?_|refine jR ?_|refine jS ?_|refine jT ?_|refine jU (by assumption) rfl ?_))
    refine M.idxLV_i (h1.keep kd (fun _ _ _ h => h)) rfl (by omega) (by omega) (x := x) (by simpa using hx) (fun bb oo hA hcc => ?_)
    (repeat (first|refine ja ?_|refine jb ?_|refine jc ?_|refine jd ?_|refine je ?_|refine jf ?_|refine jg ?_|refine jh ?_|refine ji ?_|refine jj ?_|refine jk ?_|refine jl ?_|refine jm ?_|refine jn ?_|refine jo ?_|refine jp ?_|refine jq ?_|refine jr ?_|refine js ?_|refine jt ?_|refine ju ?_|refine jv ?_|refine jw ?_|refine jx ?_|refine jy ?_|refine jz ?_|refine jA ?_|refine jB ?_|refine jC ?_|refine jD ?_|refine jE ?_|refine jF ?_|refine jG ?_|refine jH ?_|refine jI ?_|refine jJ ?_|refine jK ?_|refine jL ?_|refine jM (by assumption) ?_|refine jN (by assumption) rfl ?_|refine jO (by assumption) ?_|refine jP (by assumption) rfl ?_|refine jQ ?_|refine jR ?_|refine jS ?_|refine jT ?_|refine jU (by assumption) rfl ?_))
    refine M.idxLV_i (h2.keep kd (fun _ _ _ h => h)) rfl (by omega) (by omega) (x := y) (by simpa using hy) (fun bb oo hA hcc => ?_)
    refine M.load_i hcc ?_
    change M.bin .neq (vw x) (vw y) _ _
    refine M.neqW_i ?_
    by_cases hxy : x = y
    · subst hxy
      rw [decide_eq_false (by simp)]
      (repeat (first|refine ja ?_|refine jb ?_|refine jc ?_|refine jd ?_|refine je ?_|refine jf ?_|refine jg ?_|refine jh ?_|refine ji ?_|refine jj ?_|refine jk ?_|refine jl ?_|refine jm ?_|refine jn ?_|refine jo ?_|refine jp ?_|refine jq ?_|refine jr ?_|refine js ?_|refine jt ?_|refine ju ?_|refine jv ?_|refine jw ?_|refine jx ?_|refine jy ?_|refine jz ?_|refine jA ?_|refine jB ?_|refine jC ?_|refine jD ?_|refine jE ?_|refine jF ?_|refine jG ?_|refine jH ?_|refine jI ?_|refine jJ ?_|refine jK ?_|refine jL ?_|refine jM (by assumption) ?_|refine jN (by assumption) rfl ?_|refine jO (by assumption) ?_|refine jP (by assumption) rfl ?_|refine jQ ?_|refine jR ?_|refine jS ?_|refine jT ?_|refine jU (by assumption) rfl ?_))
      refine hK (i + 1) _ _ (by omega) ⟨rfl, by omega, ?_, kd⟩
      rw [List.take_add_one, List.take_add_one, he, hx, hy]
    · rw [decide_eq_true hxy]
      (repeat (first|refine ja ?_|refine jb ?_|refine jc ?_|refine jd ?_|refine je ?_|refine jf ?_|refine jg ?_|refine jh ?_|refine ji ?_|refine jj ?_|refine jk ?_|refine jl ?_|refine jm ?_|refine jn ?_|refine jo ?_|refine jp ?_|refine jq ?_|refine jr ?_|refine js ?_|refine jt ?_|refine ju ?_|refine jv ?_|refine jw ?_|refine jx ?_|refine jy ?_|refine jz ?_|refine jA ?_|refine jB ?_|refine jC ?_|refine jD ?_|refine jE ?_|refine jF ?_|refine jG ?_|refine jH ?_|refine jI ?_|refine jJ ?_|refine jK ?_|refine jL ?_|refine jM (by assumption) ?_|refine jN (by assumption) rfl ?_|refine jO (by assumption) ?_|refine jP (by assumption) rfl ?_|refine jQ ?_|refine jR ?_|refine jS ?_|refine jT ?_|refine jU (by assumption) rfl ?_))
      refine ⟨?_, kd⟩
      rw [decide_eq_false (fun e => hxy (by rw [e] at hx; rw [hx] at hy; exact Option.some.inj hy))]
  · have e : i = xs.length := by omega
    subst e
    rw [List.take_length, hl, List.take_length] at he
    rw [decide_eq_true he]
    (repeat (first|refine ja ?_|refine jb ?_|refine jc ?_|refine jd ?_|refine je ?_|refine jf ?_|refine jg ?_|refine jh ?_|refine ji ?_|refine jj ?_|refine jk ?_|refine jl ?_|refine jm ?_|refine jn ?_|refine jo ?_|refine jp ?_|refine jq ?_|refine jr ?_|refine js ?_|refine jt ?_|refine ju ?_|refine jv ?_|refine jw ?_|refine jx ?_|refine jy ?_|refine jz ?_|refine jA ?_|refine jB ?_|refine jC ?_|refine jD ?_|refine jE ?_|refine jF ?_|refine jG ?_|refine jH ?_|refine jI ?_|refine jJ ?_|refine jK ?_|refine jL ?_|refine jM (by assumption) ?_|refine jN (by assumption) rfl ?_|refine jO (by assumption) ?_|refine jP (by assumption) rfl ?_|refine jQ ?_|refine jR ?_|refine jS ?_|refine jT ?_|refine jU (by assumption) rfl ?_))
    exact ⟨rfl, k1⟩
/-! ### what is put on the disk -/
theorem putN_len {α : Type} (disk : List α) : ∀ (ps : List (Int × α)) (o : List α), o.length = disk.length → (ps.foldl (fun o p => if 0 ≤ p.1 ∧ p.1 < (disk.length : Int) then o.set p.1.toNat p.2 else o) o).length = disk.length
  | [], o, h => h
  | p :: ps, o, h => by
    rw [List.foldl_cons]
    refine putN_len disk ps _ ?_
    split
    · rw [List.length_set]; exact h
    · exact h
theorem putN_snoc {α : Type} (disk : List α) (ps : List (Int × α)) (p : Int × α) : putN disk (ps ++ [p]) = if 0 ≤ p.1 ∧ p.1 < (disk.length : Int) then (putN disk ps).set p.1.toNat p.2 else putN disk ps := by
  unfold putN
  rw [List.foldl_append]; rfl
theorem M.idxWStore_i {k : Kt} {L : Nat → Prop} {v : Value} {xs : List W64} {i : Int} {x : W64} (h : GW w L v xs) (h0 : 0 ≤ i) (h1 : i < xs.length)
    (hk : ∀ w', GW w' L v (xs.set i.toNat x) → Keep w w' L → w'.heap.size = w.heap.size → k undef w') :
    M.indexSl 1 v (vi i) (fun t w => M.store 1 t (vw x) k w) w := by
  obtain ⟨b, c, rest, rfl, hL, hB, hl⟩ := h.pos (by omega)
  refine M.idx_i h0 h1 ?_
  simp only [Nat.zero_add, Nat.mul_one]
  have hlt : i.toNat < (xs.map vw).length := by simp; omega
  refine M.store_i hB (by simp; simp at hlt; omega) rfl fun w' hB' hk' hs => ?_
  refine hk w' ?_ (hk'.mono fun j _ hj => hj ▸ hL) hs
  rw [List.set_append_left _ _ hlt] at hB'
  have e : (xs.set i.toNat x).map vw = (xs.map vw).set i.toNat (vw x) := by rw [List.map_set]
  refine ⟨by simp, .inr ⟨b, c, rest, by simp, hL, by rw [e]; exact hB', by simpa using hl⟩⟩
theorem put_ret {u v : Value} {disk : List W64} {l : List PD} (h1 : LV vw w D u disk) (h2 : LN PD.cells w D v l) (hf1 : disk.length ≤ 1000000) (hf2 : l.length ≤ 1000000) :
    Ret Try.prog 22 #[u, v] w (fun r w' => GW w' (w.heap.size ≤ ·) r (putN disk (pairs l)) ∧ Keep w w' No) := by
  have h2 := h2.mono (D' := (· < w.heap.size)) (fun b hb _ => hb)
  obtain ⟨A, c, rfl, hr1, hc1⟩ := h1
  obtain ⟨B, c', rfl, hr2, hc2⟩ := h2
  refine ok22 _ _ _ _ ?_
  unfold sh22
  refine M.append_i (L := (w.heap.size ≤ ·)) (GC.nil w _ 1) hr1 (by simp) (vw_one _) rfl (by omega) (by omega) (fun v1 w1 g1 k1 => ?_)
  have g1 : GW w1 (w.heap.size ≤ ·) v1 disk := by
    have := g1.mono (L' := (w.heap.size ≤ ·)) (fun b hb h => by rcases h with h | h <;> exact h)
    simpa [GW] using this
  have hr2 := hr2.keep k1 (fun b hb h1 h2 => by have h1 : b < w.heap.size := h1; have h2 : w.heap.size ≤ b := h2; omega)
  have k01 : Keep w w1 No := k1.mono (fun b hb h => by have h : w.heap.size ≤ b := h; omega)
  have q1 := k1.size
  refine M.loop_i (σ := Nat) (fun i vals w' => vals = [vi i] ∧ i ≤ l.length ∧ GW w' (w.heap.size ≤ ·) v1 (putN disk (pairs (l.take i))) ∧ Keep w1 w' (w.heap.size ≤ ·)) (fun i => l.length - i) 0 ⟨rfl, by omega, g1, Keep.refl _ _⟩ ?_
  rintro i vals w2 K ⟨rfl, hi, g2, k2⟩ hK _
  simp only [List.getD_cons_zero, List.getD_cons_succ]
  have hpl : (putN disk (pairs (l.take i))).length = disk.length := putN_len disk _ _ rfl
  by_cases hlt : i < l.length
  · obtain ⟨x, hx⟩ : ∃ x, l[i]? = some x := ⟨_, List.getElem?_eq_getElem hlt⟩
    have et : putN disk (pairs (l.take (i + 1))) = if 0 ≤ x.b ∧ x.b < (disk.length : Int) then (putN disk (pairs (l.take i))).set x.b.toNat x.v else putN disk (pairs (l.take i)) := by
      rw [List.take_add_one, hx]
      unfold pairs
      rw [List.map_append]
      exact putN_snoc disk _ (x.b, x.v)
    have hr3 := hr2.keep k2 (fun b hb h1 h2 => by have h1 : b < w.heap.size := h1; have h2 : w.heap.size ≤ b := h2; omega)
    (repeat (first|refine ja ?_|refine jb ?_|refine jc ?_|refine jd ?_|refine je ?_|refine jf ?_|refine jg ?_|refine jh ?_|refine ji ?_|refine jj ?_|refine jk ?_|refine jl ?_|refine jm ?_|refine jn ?_|refine jo ?_|refine jp ?_|refine jq ?_|refine jr ?_|refine js ?_|refine jt ?_|refine ju ?_|refine jv ?_|refine jw ?_|refine jx ?_|refine jy ?_|refine jz ?_|refine jA ?_|refine jB ?_|refine jC ?_|refine jD ?_|refine jE ?_|refine jF ?_|refine jG ?_|refine jH ?_|refine jI ?_|refine jJ ?_|refine jK ?_|refine jL ?_|refine jM (by assumption) ?_|refine jN (by assumption) rfl ?_|refine jO (by assumption) ?_|refine jP (by assumption) rfl ?_|refine jQ ?_|refine jR ?_|refine jS ?_|refine jT ?_|refine jU (by assumption) rfl ?_))
    refine M.share_j (fun vals w' => GW w' (w.heap.size ≤ ·) v1 (putN disk (pairs (l.take (i + 1)))) ∧ Keep w1 w' (w.heap.size ≤ ·)) ?_ ?_
    · rintro vals w3 ⟨a1, a2⟩ _
      (repeat (first|refine ja ?_|refine jb ?_|refine jc ?_|refine jd ?_|refine je ?_|refine jf ?_|refine jg ?_|refine jh ?_|refine ji ?_|refine jj ?_|refine jk ?_|refine jl ?_|refine jm ?_|refine jn ?_|refine jo ?_|refine jp ?_|refine jq ?_|refine jr ?_|refine js ?_|refine jt ?_|refine ju ?_|refine jv ?_|refine jw ?_|refine jx ?_|refine jy ?_|refine jz ?_|refine jA ?_|refine jB ?_|refine jC ?_|refine jD ?_|refine jE ?_|refine jF ?_|refine jG ?_|refine jH ?_|refine jI ?_|refine jJ ?_|refine jK ?_|refine jL ?_|refine jM (by assumption) ?_|refine jN (by assumption) rfl ?_|refine jO (by assumption) ?_|refine jP (by assumption) rfl ?_|refine jQ ?_|refine jR ?_|refine jS ?_|refine jT ?_|refine jU (by assumption) rfl ?_))
      exact hK (i + 1) _ _ (by omega) ⟨rfl, by omega, a1, a2⟩
    · intro K2 hK2
      refine M.idxPD_i hr3 hx (fun b2 o2 hc2 => ?_)
      refine M.field_i ?_
      refine M.load_i (hc2 0 _ rfl) ?_
      obtain ⟨A1, c1, rfl, _, _⟩ := GC.row2 g2 (by omega)
      rw [hpl]
      by_cases h0 : 0 ≤ x.b
      rotate_left
      · rw [if_neg (fun h => h0 h.1)] at et
        (repeat (first|refine ja ?_|refine jb ?_|refine jc ?_|refine jd ?_|refine je ?_|refine jf ?_|refine jg ?_|refine jh ?_|refine ji ?_|refine jj ?_|refine jk ?_|refine jl ?_|refine jm ?_|refine jn ?_|refine jo ?_|refine jp ?_|refine jq ?_|refine jr ?_|refine js ?_|refine jt ?_|refine ju ?_|refine jv ?_|refine jw ?_|refine jx ?_|refine jy ?_|refine jz ?_|refine jA ?_|refine jB ?_|refine jC ?_|refine jD ?_|refine jE ?_|refine jF ?_|refine jG ?_|refine jH ?_|refine jI ?_|refine jJ ?_|refine jK ?_|refine jL ?_|refine jM (by assumption) ?_|refine jN (by assumption) rfl ?_|refine jO (by assumption) ?_|refine jP (by assumption) rfl ?_|refine jQ ?_|refine jR ?_|refine jS ?_|refine jT ?_|refine jU (by assumption) rfl ?_|refine jG ?_ (by decide)|refine jH ?_ (by decide)|refine jI ?_ (by decide)|refine jJ ?_ (by decide)|refine jC ?_ (by decide)|refine jy ?_ (by decide)))
        exact hK2 _ _ ⟨by rw [et]; exact g2, k2⟩
      (repeat (first|refine ja ?_|refine jb ?_|refine jc ?_|refine jd ?_|refine je ?_|refine jf ?_|refine jg ?_|refine jh ?_|refine ji ?_|refine jj ?_|refine jk ?_|refine jl ?_|refine jm ?_|refine jn ?_|refine jo ?_|refine jp ?_|refine jq ?_|refine jr ?_|refine js ?_|refine jt ?_|refine ju ?_|refine jv ?_|refine jw ?_|refine jx ?_|refine jy ?_|refine jz ?_|refine jA ?_|refine jB ?_|refine jC ?_|refine jD ?_|refine jE ?_|refine jF ?_|refine jG ?_|refine jH ?_|refine jI ?_|refine jJ ?_|refine jK ?_|refine jL ?_|refine jM (by assumption) ?_|refine jN (by assumption) rfl ?_|refine jO (by assumption) ?_|refine jP (by assumption) rfl ?_|refine jQ ?_|refine jR ?_|refine jS ?_|refine jT ?_|refine jU (by assumption) rfl ?_|refine jG ?_ (by decide)|refine jH ?_ (by decide)|refine jI ?_ (by decide)|refine jJ ?_ (by decide)|refine jC ?_ (by decide)|refine jy ?_ (by decide)))
      refine M.idxPD_i hr3 hx (fun b3 o3 hc3 => ?_)
      refine M.gd_tt ?_
      refine M.field_i ?_
      refine M.gd_tt ?_
      refine M.load_i (hc3 0 _ rfl) ?_
      by_cases hb : x.b < (disk.length : Int)
      rotate_left
      · rw [if_neg (fun h => hb h.2)] at et
        (repeat (first|refine ja ?_|refine jb ?_|refine jc ?_|refine jd ?_|refine je ?_|refine jf ?_|refine jg ?_|refine jh ?_|refine ji ?_|refine jj ?_|refine jk ?_|refine jl ?_|refine jm ?_|refine jn ?_|refine jo ?_|refine jp ?_|refine jq ?_|refine jr ?_|refine js ?_|refine jt ?_|refine ju ?_|refine jv ?_|refine jw ?_|refine jx ?_|refine jy ?_|refine jz ?_|refine jA ?_|refine jB ?_|refine jC ?_|refine jD ?_|refine jE ?_|refine jF ?_|refine jG ?_|refine jH ?_|refine jI ?_|refine jJ ?_|refine jK ?_|refine jL ?_|refine jM (by assumption) ?_|refine jN (by assumption) rfl ?_|refine jO (by assumption) ?_|refine jP (by assumption) rfl ?_|refine jQ ?_|refine jR ?_|refine jS ?_|refine jT ?_|refine jU (by assumption) rfl ?_|refine jG ?_ (by decide)|refine jH ?_ (by decide)|refine jI ?_ (by decide)|refine jJ ?_ (by decide)|refine jC ?_ (by decide)|refine jy ?_ (by decide)))
        exact hK2 _ _ ⟨by rw [et]; exact g2, k2⟩
      rw [if_pos ⟨h0, hb⟩] at et
      have kd := Keep.drew w2 No
      have hrd := hr3.keep kd (fun _ _ _ h => h)
      (repeat (first|refine ja ?_|refine jb ?_|refine jc ?_|refine jd ?_|refine je ?_|refine jf ?_|refine jg ?_|refine jh ?_|refine ji ?_|refine jj ?_|refine jk ?_|refine jl ?_|refine jm ?_|refine jn ?_|refine jo ?_|refine jp ?_|refine jq ?_|refine jr ?_|refine js ?_|refine jt ?_|refine ju ?_|refine jv ?_|refine jw ?_|refine jx ?_|refine jy ?_|refine jz ?_|refine jA ?_|refine jB ?_|refine jC ?_|refine jD ?_|refine jE ?_|refine jF ?_|refine jG ?_|refine jH ?_|refine jI ?_|refine jJ ?_|refine jK ?_|refine jL ?_|refine jM (by assumption) ?_|refine jN (by assumption) rfl ?_|refine jO (by assumption) ?_|refine jP (by assumption) rfl ?_|refine jQ ?_|refine jR ?_|refine jS ?_|refine jT ?_|refine jU (by assumption) rfl ?_|refine jG ?_ (by decide)|refine jH ?_ (by decide)|refine jI ?_ (by decide)|refine jJ ?_ (by decide)|refine jC ?_ (by decide)|refine jy ?_ (by decide)))
      refine M.idxPD_i hrd hx (fun b4 o4 hc4 => ?_)
      refine M.field_i ?_
      refine M.load_i (hc4 0 _ rfl) ?_
      refine M.idxPD_i hrd hx (fun b5 o5 hc5 => ?_)
      refine M.field_i ?_
      refine M.load_i (hc5 1 _ rfl) ?_
      have gd := g2.keep kd (fun _ _ _ h => h)
      rw [hpl] at gd
      refine M.idxWStore_i (xs := putN disk (pairs (l.take i))) (by rw [GW, hpl]; exact gd) h0 (by rw [hpl]; exact hb) (fun w3 g3 k3 s3 => ?_)
      exact hK2 _ _ ⟨by rw [et, hpl]; exact g3, (k2.trans kd (fun _ _ h => h.elim)).trans k3 (fun _ _ h => h)⟩
  · have e : i = l.length := by omega
    subst e
    rw [List.take_length] at g2
    (repeat (first|refine ja ?_|refine jb ?_|refine jc ?_|refine jd ?_|refine je ?_|refine jf ?_|refine jg ?_|refine jh ?_|refine ji ?_|refine jj ?_|refine jk ?_|refine jl ?_|refine jm ?_|refine jn ?_|refine jo ?_|refine jp ?_|refine jq ?_|refine jr ?_|refine js ?_|refine jt ?_|refine ju ?_|refine jv ?_|refine jw ?_|refine jx ?_|refine jy ?_|refine jz ?_|refine jA ?_|refine jB ?_|refine jC ?_|refine jD ?_|refine jE ?_|refine jF ?_|refine jG ?_|refine jH ?_|refine jI ?_|refine jJ ?_|refine jK ?_|refine jL ?_|refine jM (by assumption) ?_|refine jN (by assumption) rfl ?_|refine jO (by assumption) ?_|refine jP (by assumption) rfl ?_|refine jQ ?_|refine jR ?_|refine jS ?_|refine jT ?_|refine jU (by assumption) rfl ?_))
    exact ⟨g2, k01.trans k2 (fun b hb h => by have h : w.heap.size ≤ b := h; omega)⟩
theorem rimage_ret (h : DvO w D a b d) (hf1 : d.disk.length ≤ 1000000) (hf2 : d.pend.length ≤ 1000000) (m : Int) :
    Ret Try.prog 14 #[.agg ⟨[a, b, vi d.ep]⟩, vi m] w (fun r w' => GW w' (w.heap.size ≤ ·) r (imgL d.disk (pairs d.pend) m) ∧ Keep w w' No) := by
  have h := h.mono (D' := (· < w.heap.size)) (fun b hb _ => hb)
  obtain ⟨h1, A, c, rfl, hr, hc⟩ := h
  have h1' := h1
  obtain ⟨B, cb, rfl, hrb, hcb⟩ := h1
  refine ok14 _ _ _ _ ?_
  unfold sh14
  refine M.new_i (l := [.slice B d.disk.length cb, .slice A d.pend.length c, vi d.ep]) (fun w1 b1 k1 s1 => ?_)
  have fin : ∀ (w2 : World) (i : Nat) (sv : Value) , GC w2 (w1.heap.size ≤ ·) 3 sv (selN d.pend m i).length ((selN d.pend m i).flatMap PD.cells) → Keep w1 w2 No → i ≤ d.pend.length → selN d.pend m i = selN d.pend m d.pend.length →
      M.call Try.prog 22 #[.slice B d.disk.length cb, sv] (fun t32 w' => GW w' (w.heap.size ≤ ·) t32 (imgL d.disk (pairs d.pend) m) ∧ Keep w w' No) w2 := fun w2 i sv g2 k2 hi hse => by
    have hl := selN_len d.pend m i
    have k02 := k1.trans k2 (fun _ _ h => h)
    refine M.call_i (put_ret (D := fun _ => True) ((h1'.keep k02 (fun _ _ _ h => h)).mono (fun _ _ _ => trivial)) ((gc_ln rfl g2).mono (fun _ _ _ => trivial)) hf1 (by omega)) ?_
    rintro r w3 ⟨g3, k3⟩
    have e : putN d.disk (pairs (selN d.pend m i)) = imgL d.disk (pairs d.pend) m := by
      rw [hse]
      have e2 : ∀ n, pairs (selN d.pend m n) = selN (pairs d.pend) m n := by
        intro n
        induction n with
        | zero => rfl
        | succ n ih =>
          unfold selN
          have : (pairs d.pend)[n]? = (d.pend[n]?).map (fun p => (p.b, p.v)) := by unfold pairs; rw [List.getElem?_map]
          rw [this]
          cases d.pend[n]? with
          | none => exact ih
          | some p =>
            simp only [Option.map_some]
            split
            · rw [← ih]; unfold pairs; rw [List.map_append]; rfl
            · exact ih
      rw [e2, put_sel]
      unfold imgL
      simp [pairs]
    rw [e] at g3
    have q := k02.size
    exact ⟨g3.mono (fun b hb h => by have h : w2.heap.size ≤ b := h; show w.heap.size ≤ b; omega), k02.trans k3 (fun _ _ h => h)⟩
  refine M.loop_i (σ := Nat) (fun i vals w' => ∃ sv, vals = [sv, vi i] ∧ i ≤ d.pend.length ∧ GC w' (w1.heap.size ≤ ·) 3 sv (selN d.pend m i).length ((selN d.pend m i).flatMap PD.cells) ∧ Blk w' w.heap.size [.slice B d.disk.length cb, .slice A d.pend.length c, vi d.ep] ∧ Keep w1 w' No) (fun i => d.pend.length - i) 0
    ⟨_, rfl, by omega, GC.nil _ _ _, b1, Keep.refl _ _⟩ ?_
  rintro i vals w2 K ⟨sv, rfl, hi, g2, b2, k2⟩ hK _
  simp only [List.getD_cons_zero, List.getD_cons_succ]
  have q1 := k1.size; have q2 := k2.size
  have stop : ∀ n, 63 ≤ n → selN d.pend m (n + 1) = selN d.pend m n := fun n hn => by
    rw [selN]
    cases d.pend[n]? with
    | none => rfl
    | some p => simp only; rw [if_neg (by simp; omega)]
  have stop2 : ∀ k, 63 ≤ i → selN d.pend m (i + k) = selN d.pend m i := fun k h63 => by
    induction k with
    | zero => rfl
    | succ k ih => rw [← Nat.add_assoc, stop _ (by omega), ih]
  by_cases hlt : i < d.pend.length
  · by_cases h63 : i < 63
    · obtain ⟨x, hx⟩ : ∃ x, d.pend[i]? = some x := ⟨_, List.getElem?_eq_getElem hlt⟩
      have es : selN d.pend m (i + 1) = if bitZ m i then selN d.pend m i ++ [x] else selN d.pend m i := by
        rw [selN, hx]
        simp only [decide_eq_true h63, Bool.true_and]
      have hsl := selN_len d.pend m i
      have hr2 := (hr.keep k1 (fun _ _ _ h => h)).keep k2 (fun _ _ _ h => h)
      (repeat (first|refine ja ?_|refine jb ?_|refine jc ?_|refine jd ?_|refine je ?_|refine jf ?_|refine jg ?_|refine jh ?_|refine ji ?_|refine jj ?_|refine jk ?_|refine jl ?_|refine jm ?_|refine jn ?_|refine jo ?_|refine jp ?_|refine jq ?_|refine jr ?_|refine js ?_|refine jt ?_|refine ju ?_|refine jv ?_|refine jw ?_|refine jx ?_|refine jy ?_|refine jz ?_|refine jA ?_|refine jB ?_|refine jC ?_|refine jD ?_|refine jE ?_|refine jF ?_|refine jG ?_|refine jH ?_|refine jI ?_|refine jJ ?_|refine jK ?_|refine jL ?_|refine jM (by assumption) ?_|refine jN (by assumption) rfl ?_|refine jO (by assumption) ?_|refine jP (by assumption) rfl ?_|refine jQ ?_|refine jR ?_|refine jS ?_|refine jT ?_|refine jU (by assumption) rfl ?_))
      refine M.share_j (fun vals w' => ∃ sv, vals = [sv] ∧ GC w' (w1.heap.size ≤ ·) 3 sv (selN d.pend m (i + 1)).length ((selN d.pend m (i + 1)).flatMap PD.cells) ∧ Blk w' w.heap.size [.slice B d.disk.length cb, .slice A d.pend.length c, vi d.ep] ∧ Keep w1 w' No) ?_ ?_
      · rintro vals w3 ⟨sv, rfl, a1, a2, a3⟩ _
        simp only [List.getD_cons_zero, List.getD_cons_succ]
        (repeat (first|refine ja ?_|refine jb ?_|refine jc ?_|refine jd ?_|refine je ?_|refine jf ?_|refine jg ?_|refine jh ?_|refine ji ?_|refine jj ?_|refine jk ?_|refine jl ?_|refine jm ?_|refine jn ?_|refine jo ?_|refine jp ?_|refine jq ?_|refine jr ?_|refine js ?_|refine jt ?_|refine ju ?_|refine jv ?_|refine jw ?_|refine jx ?_|refine jy ?_|refine jz ?_|refine jA ?_|refine jB ?_|refine jC ?_|refine jD ?_|refine jE ?_|refine jF ?_|refine jG ?_|refine jH ?_|refine jI ?_|refine jJ ?_|refine jK ?_|refine jL ?_|refine jM (by assumption) ?_|refine jN (by assumption) rfl ?_|refine jO (by assumption) ?_|refine jP (by assumption) rfl ?_|refine jQ ?_|refine jR ?_|refine jS ?_|refine jT ?_|refine jU (by assumption) rfl ?_))
        exact hK (i + 1) _ _ (by omega) ⟨sv, rfl, by omega, a1, a2, a3⟩
      · intro K2 hK2
        refine M.call_i (rbit_i m i (by omega) w2) ?_; rintro _ w3 ⟨rfl, rfl⟩
        cases hb : bitZ m i with
        | true =>
          rw [hb, if_pos rfl] at es
          (repeat (first|refine ja ?_|refine jb ?_|refine jc ?_|refine jd ?_|refine je ?_|refine jf ?_|refine jg ?_|refine jh ?_|refine ji ?_|refine jj ?_|refine jk ?_|refine jl ?_|refine jm ?_|refine jn ?_|refine jo ?_|refine jp ?_|refine jq ?_|refine jr ?_|refine js ?_|refine jt ?_|refine ju ?_|refine jv ?_|refine jw ?_|refine jx ?_|refine jy ?_|refine jz ?_|refine jA ?_|refine jB ?_|refine jC ?_|refine jD ?_|refine jE ?_|refine jF ?_|refine jG ?_|refine jH ?_|refine jI ?_|refine jJ ?_|refine jK ?_|refine jL ?_|refine jM (by assumption) ?_|refine jN (by assumption) rfl ?_|refine jO (by assumption) ?_|refine jP (by assumption) rfl ?_|refine jQ ?_|refine jR ?_|refine jS ?_|refine jT ?_|refine jU (by assumption) rfl ?_))
          refine M.idxPD_i hr2 hx (fun b4 o4 hc4 => ?_)
          refine M.loadPD_i hc4 ?_
          refine M.buildSlice_i x.cells (by kernel_rfl) (fun w4 b4 k4 s4 => ?_)
          refine M.append_i (m := 1) (g2.keep k4 (fun _ _ _ h => h)) (Row.of_blk' (D := fun _ => True) b4 trivial) rfl (pd_one x) rfl (by omega) (by omega) (fun v5 w5 g5 k5 => ?_)
          have q4 := k4.size
          refine hK2 _ _ ⟨v5, rfl, ?_, (b2.keep k4 (fun h => h)).keep k5 (fun h => by have h : w1.heap.size ≤ w.heap.size := h; omega), (k2.trans k4 (fun _ _ h => h)).trans k5 (fun b hb h => by have h : w1.heap.size ≤ b := h; omega)⟩
          rw [es, List.length_append, List.flatMap_append]
          have := g5.mono (L' := (w1.heap.size ≤ ·)) (fun b hb h => by
            rcases h with h | h
            · exact h
            · show w1.heap.size ≤ b; omega)
          simpa using this
        | false =>
          rw [hb] at es
          simp only [Bool.false_eq_true, if_false] at es
          (repeat (first|refine ja ?_|refine jb ?_|refine jc ?_|refine jd ?_|refine je ?_|refine jf ?_|refine jg ?_|refine jh ?_|refine ji ?_|refine jj ?_|refine jk ?_|refine jl ?_|refine jm ?_|refine jn ?_|refine jo ?_|refine jp ?_|refine jq ?_|refine jr ?_|refine js ?_|refine jt ?_|refine ju ?_|refine jv ?_|refine jw ?_|refine jx ?_|refine jy ?_|refine jz ?_|refine jA ?_|refine jB ?_|refine jC ?_|refine jD ?_|refine jE ?_|refine jF ?_|refine jG ?_|refine jH ?_|refine jI ?_|refine jJ ?_|refine jK ?_|refine jL ?_|refine jM (by assumption) ?_|refine jN (by assumption) rfl ?_|refine jO (by assumption) ?_|refine jP (by assumption) rfl ?_|refine jQ ?_|refine jR ?_|refine jS ?_|refine jT ?_|refine jU (by assumption) rfl ?_))
          exact hK2 _ _ ⟨sv, rfl, by rw [es]; exact g2, b2, k2⟩
    · (repeat (first|refine ja ?_|refine jb ?_|refine jc ?_|refine jd ?_|refine je ?_|refine jf ?_|refine jg ?_|refine jh ?_|refine ji ?_|refine jj ?_|refine jk ?_|refine jl ?_|refine jm ?_|refine jn ?_|refine jo ?_|refine jp ?_|refine jq ?_|refine jr ?_|refine js ?_|refine jt ?_|refine ju ?_|refine jv ?_|refine jw ?_|refine jx ?_|refine jy ?_|refine jz ?_|refine jA ?_|refine jB ?_|refine jC ?_|refine jD ?_|refine jE ?_|refine jF ?_|refine jG ?_|refine jH ?_|refine jI ?_|refine jJ ?_|refine jK ?_|refine jL ?_|refine jM (by assumption) ?_|refine jN (by assumption) rfl ?_|refine jO (by assumption) ?_|refine jP (by assumption) rfl ?_|refine jQ ?_|refine jR ?_|refine jS ?_|refine jT ?_|refine jU (by assumption) rfl ?_))
      refine fin w2 i sv g2 k2 hi ?_
      have := stop2 (d.pend.length - i) (by omega)
      rw [show i + (d.pend.length - i) = d.pend.length by omega] at this
      exact this.symm
  · have e : i = d.pend.length := by omega
    subst e
    (repeat (first|refine ja ?_|refine jb ?_|refine jc ?_|refine jd ?_|refine je ?_|refine jf ?_|refine jg ?_|refine jh ?_|refine ji ?_|refine jj ?_|refine jk ?_|refine jl ?_|refine jm ?_|refine jn ?_|refine jo ?_|refine jp ?_|refine jq ?_|refine jr ?_|refine js ?_|refine jt ?_|refine ju ?_|refine jv ?_|refine jw ?_|refine jx ?_|refine jy ?_|refine jz ?_|refine jA ?_|refine jB ?_|refine jC ?_|refine jD ?_|refine jE ?_|refine jF ?_|refine jG ?_|refine jH ?_|refine jI ?_|refine jJ ?_|refine jK ?_|refine jL ?_|refine jM (by assumption) ?_|refine jN (by assumption) rfl ?_|refine jO (by assumption) ?_|refine jP (by assumption) rfl ?_|refine jQ ?_|refine jR ?_|refine jS ?_|refine jT ?_|refine jU (by assumption) rfl ?_))
    exact fin w2 _ sv g2 k2 (Nat.le_refl _) rfl
end
end Go.Proofs.Ytfffepeloiefiaa
