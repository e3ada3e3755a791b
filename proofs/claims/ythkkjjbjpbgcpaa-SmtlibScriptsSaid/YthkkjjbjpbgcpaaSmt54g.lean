import Derived.Test.YthkkjjbjpbgcpaaSmt54f
namespace Go.Proofs.Ythkkjjbjpbgcpaa
open Go.Mw Go.Lib
set_option linter.unusedVariables false
set_option linter.unusedSimpArgs false
set_option maxRecDepth 100000
attribute [local irreducible] M.val M.unit M.next M.pick M.new M.nilCheck M.load1 M.loadA M.store M.fieldAddr M.indexSl M.indexArr M.slice M.makeSlice M.buildSlice M.len M.lenS M.cap M.append M.extract M.conv M.not M.neg M.bin M.shift M.eqB M.eqNil M.scat M.call M.callv M.gd M.share M.cond M.loop M.draw pureW readW Ret
/-! breakwater/breakwaterref54.fits: function 26 -/
def sh26 (x0 x1 : Value) (R : Kt) (w : World) : Prop :=
  M.new 55 (Value.cells x0) (fun t2 w =>
  M.fieldAddr 0 t2 (fun t6 w =>
  M.load1 t6 (fun t7 w =>
  M.bin .eql t7 (Value.int IntKind.i64 20) (fun t8 w =>
  M.gd t8 false (fun k w => M.fieldAddr 0 t2 k w) (fun t10 w =>
  M.gd t8 false (fun k w => M.load1 t10 k w) (fun t11 w =>
  M.gd t8 false (fun k w => M.bin .eql t11 (Value.int IntKind.i64 21) k w) (fun t12 w =>
  M.pick t8 (Value.bool true) t12 (fun t13 w =>
  M.cond t13
  (R (Value.bool true) w)
  (M.fieldAddr 0 t2 (fun t15 w =>
  M.load1 t15 (fun t16 w =>
  M.bin .eql t16 (Value.int IntKind.i64 22) (fun t17 w =>
  M.cond t17
  (M.fieldAddr 2 t2 (fun t19 w =>
  M.load1 t19 (fun t20 w =>
  M.indexSl 1 x1 t20 (fun t21 w =>
  M.load1 t21 (fun t22 w =>
  M.gd t22 true (fun k w => k x1 w) (fun t24 w =>
  M.gd t22 true (fun k w => M.fieldAddr 3 t2 k w) (fun t25 w =>
  M.gd t22 true (fun k w => M.load1 t25 k w) (fun t26 w =>
  M.gd t22 true (fun k w => M.indexSl 1 t24 t26 k w) (fun t27 w =>
  M.gd t22 true (fun k w => M.load1 t27 k w) (fun t28 w =>
  M.pick t22 t28 (Value.bool false) (fun t29 w =>
  M.gd t29 true (fun k w => k x1 w) (fun t31 w =>
  M.gd t29 true (fun k w => M.fieldAddr 4 t2 k w) (fun t32 w =>
  M.gd t29 true (fun k w => M.load1 t32 k w) (fun t33 w =>
  M.gd t29 true (fun k w => M.indexSl 1 t31 t33 k w) (fun t34 w =>
  M.gd t29 true (fun k w => M.load1 t34 k w) (fun t35 w =>
  M.pick t29 t35 (Value.bool false) (fun t36 w =>
  R t36 w) w) w) w) w) w) w) w) w) w) w) w) w) w) w) w) w)
  (M.fieldAddr 0 t2 (fun t38 w =>
  M.load1 t38 (fun t39 w =>
  M.bin .leq t39 (Value.int IntKind.i64 14) (fun t40 w =>
  M.gd t40 false (fun k w => M.fieldAddr 0 t2 k w) (fun t42 w =>
  M.gd t40 false (fun k w => M.load1 t42 k w) (fun t43 w =>
  M.gd t40 false (fun k w => M.bin .eql t43 (Value.int IntKind.i64 24) k w) (fun t44 w =>
  M.pick t40 (Value.bool true) t44 (fun t45 w =>
  M.cond t45
  (M.fieldAddr 2 t2 (fun t47 w =>
  M.load1 t47 (fun t48 w =>
  M.indexSl 1 x1 t48 (fun t49 w =>
  M.load1 t49 (fun t50 w =>
  M.gd t50 true (fun k w => k x1 w) (fun t52 w =>
  M.gd t50 true (fun k w => M.fieldAddr 3 t2 k w) (fun t53 w =>
  M.gd t50 true (fun k w => M.load1 t53 k w) (fun t54 w =>
  M.gd t50 true (fun k w => M.indexSl 1 t52 t54 k w) (fun t55 w =>
  M.gd t50 true (fun k w => M.load1 t55 k w) (fun t56 w =>
  M.pick t50 t56 (Value.bool false) (fun t57 w =>
  R t57 w) w) w) w) w) w) w) w) w) w) w)
  (M.fieldAddr 2 t2 (fun t59 w =>
  M.load1 t59 (fun t60 w =>
  M.indexSl 1 x1 t60 (fun t61 w =>
  M.load1 t61 (fun t62 w =>
  R t62 w) w) w) w) w)) w) w) w) w) w) w) w)) w) w) w)) w) w) w) w) w) w) w) w
theorem ok26 (x0 x1 : Value) (R : Kt) (w : World) (h : sh26 x0 x1 R w) : Ret Try.prog 26 #[x0, x1] w R :=
  ret_mk <| calls_of_comp mixed (c := Try.f26.body.getD .skip) (args := [x0, x1]) (rs := [(ResultVar.tmp 4)]) (Ann.seq Ann.text (Ann.seq (Ann.block (Ann.seq Ann.text (Ann.cond (Ann.seq Ann.text Ann.leaf) (Ann.seq Ann.text (Ann.cond (Ann.seq Ann.text Ann.leaf) (Ann.seq Ann.text (Ann.cond (Ann.seq Ann.text Ann.leaf) Ann.leaf))))))) (Ann.seq Ann.text Ann.leaf)))
    Try.func26 (by kernel_rfl) (by kernel_rfl)
    (Eq.mp (by kernel_rfl) h)

theorem fits54_ret {w : World} {D : Nat → Prop} {NN : List Nd} {n : Nd} {v : Value} {bs : List Bool} (hn : goodN NN n) (hb : LV (fun b => .bool b) w D v bs) (hk : ∀ k ∈ kidsN n, 0 ≤ k ∧ k < bs.length) :
    Ret Try.prog 26 #[encN n, v] w (fun r w' => r = .bool ((kidsN n).all (fun k => bs.getD k.toNat false)) ∧ Keep w w' No) := by
  obtain ⟨A, c, rfl, hr, _⟩ := hb
  have hr := hr.mono (D' := fun b => b < w.heap.size) (fun b hb _ => hb)
  obtain ⟨_, _, hcs⟩ := hn
  have hop : (1 ≤ n.op ∧ n.op ≤ 16) ∨ (20 ≤ n.op ∧ n.op ≤ 26) := by
    rcases hcs with h | h | h | h | h | h | h | h <;> omega
  clear hcs
  have get : ∀ k : Int, 0 ≤ k ∧ k < bs.length → bs[k.toNat]? = some (bs.getD k.toNat false) := fun k h => by
    rw [List.getD_eq_getElem?_getD, List.getElem?_eq_getElem (by omega)]; rfl
  refine ok26 _ _ _ _ ?_
  unfold sh26
  refine M.new_i (l := n.cells) (fun w1 b1 k1 s1 => ?_)
  have b1 : Blk w1 w.heap.size [vi n.op, vi n.wd, vi n.a, vi n.b, vi n.c, vw n.val] := b1
  have hr1 := hr.keep k1 (fun _ _ _ h => h)
  by_cases e20 : n.op = 20
  · have ek : kidsN n = [] := by unfold kidsN; rw [if_pos (.inl e20)]
    (repeat (first|refine ja ?_|refine jb ?_|refine jc ?_|refine jd ?_|refine je ?_|refine jf ?_|refine jg ?_|refine jh ?_|refine ji ?_|refine jj ?_|refine jk ?_|refine jl ?_|refine jm ?_|refine jn ?_|refine jo ?_|refine jp ?_|refine jq ?_|refine jr ?_|refine js ?_|refine jt ?_|refine ju ?_|refine jv ?_|refine jw ?_|refine jx ?_|refine jy ?_|refine jz ?_|refine jA ?_|refine jB ?_|refine jC ?_|refine jD ?_|refine jE ?_|refine jF ?_|refine jG ?_|refine jH ?_|refine jI ?_|refine jJ ?_|refine jK ?_|refine jL ?_|refine jM (by assumption) ?_|refine jN (by assumption) rfl ?_|refine jO (by assumption) ?_|refine jP (by assumption) rfl ?_|refine jQ ?_|refine jR ?_|refine jS ?_|refine jT ?_|refine jU (by assumption) rfl ?_))
    rw [ek]; exact ⟨rfl, k1⟩
  by_cases e21 : n.op = 21
  · have ek : kidsN n = [] := by unfold kidsN; rw [if_pos (.inr e21)]
    (repeat (first|refine ja ?_|refine jb ?_|refine jc ?_|refine jd ?_|refine je ?_|refine jf ?_|refine jg ?_|refine jh ?_|refine ji ?_|refine jj ?_|refine jk ?_|refine jl ?_|refine jm ?_|refine jn ?_|refine jo ?_|refine jp ?_|refine jq ?_|refine jr ?_|refine js ?_|refine jt ?_|refine ju ?_|refine jv ?_|refine jw ?_|refine jx ?_|refine jy ?_|refine jz ?_|refine jA ?_|refine jB ?_|refine jC ?_|refine jD ?_|refine jE ?_|refine jF ?_|refine jG ?_|refine jH ?_|refine jI ?_|refine jJ ?_|refine jK ?_|refine jL ?_|refine jM (by assumption) ?_|refine jN (by assumption) rfl ?_|refine jO (by assumption) ?_|refine jP (by assumption) rfl ?_|refine jQ ?_|refine jR ?_|refine jS ?_|refine jT ?_|refine jU (by assumption) rfl ?_))
    rw [ek]; exact ⟨rfl, k1⟩
  by_cases e22 : n.op = 22
  · have ek : kidsN n = [n.a, n.b, n.c] := by unfold kidsN; rw [if_neg (by omega), if_pos e22]
    rw [ek] at hk ⊢
    have ha := hk n.a (by simp); have hb := hk n.b (by simp); have hc := hk n.c (by simp)
    have ga := get _ ha; have gb := get _ hb; have gc := get _ hc
    simp only [List.all_cons, List.all_nil, Bool.and_true]
    (repeat (first|refine ja ?_|refine jb ?_|refine jc ?_|refine jd ?_|refine je ?_|refine jf ?_|refine jg ?_|refine jh ?_|refine ji ?_|refine jj ?_|refine jk ?_|refine jl ?_|refine jm ?_|refine jn ?_|refine jo ?_|refine jp ?_|refine jq ?_|refine jr ?_|refine js ?_|refine jt ?_|refine ju ?_|refine jv ?_|refine jw ?_|refine jx ?_|refine jy ?_|refine jz ?_|refine jA ?_|refine jB ?_|refine jC ?_|refine jD ?_|refine jE ?_|refine jF ?_|refine jG ?_|refine jH ?_|refine jI ?_|refine jJ ?_|refine jK ?_|refine jL ?_|refine jM (by assumption) ?_|refine jN (by assumption) rfl ?_|refine jO (by assumption) ?_|refine jP (by assumption) rfl ?_|refine jQ ?_|refine jR ?_|refine jS ?_|refine jT ?_|refine jU (by assumption) rfl ?_))
    refine M.idxLV_i hr1 rfl ha.1 ha.2 ga (fun bb oo hA hcc => ?_)
    cases hxa : bs.getD n.a.toNat false with
    | false => rw [hxa] at hcc; (repeat (first|refine ja ?_|refine jb ?_|refine jc ?_|refine jd ?_|refine je ?_|refine jf ?_|refine jg ?_|refine jh ?_|refine ji ?_|refine jj ?_|refine jk ?_|refine jl ?_|refine jm ?_|refine jn ?_|refine jo ?_|refine jp ?_|refine jq ?_|refine jr ?_|refine js ?_|refine jt ?_|refine ju ?_|refine jv ?_|refine jw ?_|refine jx ?_|refine jy ?_|refine jz ?_|refine jA ?_|refine jB ?_|refine jC ?_|refine jD ?_|refine jE ?_|refine jF ?_|refine jG ?_|refine jH ?_|refine jI ?_|refine jJ ?_|refine jK ?_|refine jL ?_|refine jM (by assumption) ?_|refine jN (by assumption) rfl ?_|refine jO (by assumption) ?_|refine jP (by assumption) rfl ?_|refine jQ ?_|refine jR ?_|refine jS ?_|refine jT ?_|refine jU (by assumption) rfl ?_)); exact ⟨rfl, k1⟩
    | true =>
      rw [hxa] at hcc
      (repeat (first|refine ja ?_|refine jb ?_|refine jc ?_|refine jd ?_|refine je ?_|refine jf ?_|refine jg ?_|refine jh ?_|refine ji ?_|refine jj ?_|refine jk ?_|refine jl ?_|refine jm ?_|refine jn ?_|refine jo ?_|refine jp ?_|refine jq ?_|refine jr ?_|refine js ?_|refine jt ?_|refine ju ?_|refine jv ?_|refine jw ?_|refine jx ?_|refine jy ?_|refine jz ?_|refine jA ?_|refine jB ?_|refine jC ?_|refine jD ?_|refine jE ?_|refine jF ?_|refine jG ?_|refine jH ?_|refine jI ?_|refine jJ ?_|refine jK ?_|refine jL ?_|refine jM (by assumption) ?_|refine jN (by assumption) rfl ?_|refine jO (by assumption) ?_|refine jP (by assumption) rfl ?_|refine jQ ?_|refine jR ?_|refine jS ?_|refine jT ?_|refine jU (by assumption) rfl ?_))
      refine M.idxLV_i hr1 rfl hb.1 hb.2 gb (fun bb2 oo2 hA2 hcc2 => ?_)
      cases hxb : bs.getD n.b.toNat false with
      | false => rw [hxb] at hcc2; (repeat (first|refine ja ?_|refine jb ?_|refine jc ?_|refine jd ?_|refine je ?_|refine jf ?_|refine jg ?_|refine jh ?_|refine ji ?_|refine jj ?_|refine jk ?_|refine jl ?_|refine jm ?_|refine jn ?_|refine jo ?_|refine jp ?_|refine jq ?_|refine jr ?_|refine js ?_|refine jt ?_|refine ju ?_|refine jv ?_|refine jw ?_|refine jx ?_|refine jy ?_|refine jz ?_|refine jA ?_|refine jB ?_|refine jC ?_|refine jD ?_|refine jE ?_|refine jF ?_|refine jG ?_|refine jH ?_|refine jI ?_|refine jJ ?_|refine jK ?_|refine jL ?_|refine jM (by assumption) ?_|refine jN (by assumption) rfl ?_|refine jO (by assumption) ?_|refine jP (by assumption) rfl ?_|refine jQ ?_|refine jR ?_|refine jS ?_|refine jT ?_|refine jU (by assumption) rfl ?_)); exact ⟨rfl, k1⟩
      | true =>
        rw [hxb] at hcc2
        (repeat (first|refine ja ?_|refine jb ?_|refine jc ?_|refine jd ?_|refine je ?_|refine jf ?_|refine jg ?_|refine jh ?_|refine ji ?_|refine jj ?_|refine jk ?_|refine jl ?_|refine jm ?_|refine jn ?_|refine jo ?_|refine jp ?_|refine jq ?_|refine jr ?_|refine js ?_|refine jt ?_|refine ju ?_|refine jv ?_|refine jw ?_|refine jx ?_|refine jy ?_|refine jz ?_|refine jA ?_|refine jB ?_|refine jC ?_|refine jD ?_|refine jE ?_|refine jF ?_|refine jG ?_|refine jH ?_|refine jI ?_|refine jJ ?_|refine jK ?_|refine jL ?_|refine jM (by assumption) ?_|refine jN (by assumption) rfl ?_|refine jO (by assumption) ?_|refine jP (by assumption) rfl ?_|refine jQ ?_|refine jR ?_|refine jS ?_|refine jT ?_|refine jU (by assumption) rfl ?_))
        refine M.idxLV_i hr1 rfl hc.1 hc.2 gc (fun bb3 oo3 hA3 hcc3 => ?_)
        (repeat (first|refine ja ?_|refine jb ?_|refine jc ?_|refine jd ?_|refine je ?_|refine jf ?_|refine jg ?_|refine jh ?_|refine ji ?_|refine jj ?_|refine jk ?_|refine jl ?_|refine jm ?_|refine jn ?_|refine jo ?_|refine jp ?_|refine jq ?_|refine jr ?_|refine js ?_|refine jt ?_|refine ju ?_|refine jv ?_|refine jw ?_|refine jx ?_|refine jy ?_|refine jz ?_|refine jA ?_|refine jB ?_|refine jC ?_|refine jD ?_|refine jE ?_|refine jF ?_|refine jG ?_|refine jH ?_|refine jI ?_|refine jJ ?_|refine jK ?_|refine jL ?_|refine jM (by assumption) ?_|refine jN (by assumption) rfl ?_|refine jO (by assumption) ?_|refine jP (by assumption) rfl ?_|refine jQ ?_|refine jR ?_|refine jS ?_|refine jT ?_|refine jU (by assumption) rfl ?_))
        exact ⟨by simp, k1⟩
  by_cases e14 : n.op ≤ 14 ∨ n.op = 24
  · have ek : kidsN n = [n.a, n.b] := by unfold kidsN; rw [if_neg (by omega), if_neg e22, if_pos e14]
    rw [ek] at hk ⊢
    have ha := hk n.a (by simp); have hb := hk n.b (by simp)
    have ga := get _ ha; have gb := get _ hb
    simp only [List.all_cons, List.all_nil, Bool.and_true]
    rcases e14 with e14 | e14
    all_goals
      (repeat (first|refine ja ?_|refine jb ?_|refine jc ?_|refine jd ?_|refine je ?_|refine jf ?_|refine jg ?_|refine jh ?_|refine ji ?_|refine jj ?_|refine jk ?_|refine jl ?_|refine jm ?_|refine jn ?_|refine jo ?_|refine jp ?_|refine jq ?_|refine jr ?_|refine js ?_|refine jt ?_|refine ju ?_|refine jv ?_|refine jw ?_|refine jx ?_|refine jy ?_|refine jz ?_|refine jA ?_|refine jB ?_|refine jC ?_|refine jD ?_|refine jE ?_|refine jF ?_|refine jG ?_|refine jH ?_|refine jI ?_|refine jJ ?_|refine jK ?_|refine jL ?_|refine jM (by assumption) ?_|refine jN (by assumption) rfl ?_|refine jO (by assumption) ?_|refine jP (by assumption) rfl ?_|refine jQ ?_|refine jR ?_|refine jS ?_|refine jT ?_|refine jU (by assumption) rfl ?_))
      refine M.idxLV_i hr1 rfl ha.1 ha.2 ga (fun bb oo hA hcc => ?_)
      cases hxa : bs.getD n.a.toNat false with
      | false => rw [hxa] at hcc; (repeat (first|refine ja ?_|refine jb ?_|refine jc ?_|refine jd ?_|refine je ?_|refine jf ?_|refine jg ?_|refine jh ?_|refine ji ?_|refine jj ?_|refine jk ?_|refine jl ?_|refine jm ?_|refine jn ?_|refine jo ?_|refine jp ?_|refine jq ?_|refine jr ?_|refine js ?_|refine jt ?_|refine ju ?_|refine jv ?_|refine jw ?_|refine jx ?_|refine jy ?_|refine jz ?_|refine jA ?_|refine jB ?_|refine jC ?_|refine jD ?_|refine jE ?_|refine jF ?_|refine jG ?_|refine jH ?_|refine jI ?_|refine jJ ?_|refine jK ?_|refine jL ?_|refine jM (by assumption) ?_|refine jN (by assumption) rfl ?_|refine jO (by assumption) ?_|refine jP (by assumption) rfl ?_|refine jQ ?_|refine jR ?_|refine jS ?_|refine jT ?_|refine jU (by assumption) rfl ?_)); exact ⟨rfl, k1⟩
      | true =>
        rw [hxa] at hcc
        (repeat (first|refine ja ?_|refine jb ?_|refine jc ?_|refine jd ?_|refine je ?_|refine jf ?_|refine jg ?_|refine jh ?_|refine ji ?_|refine jj ?_|refine jk ?_|refine jl ?_|refine jm ?_|refine jn ?_|refine jo ?_|refine jp ?_|refine jq ?_|refine jr ?_|refine js ?_|refine jt ?_|refine ju ?_|refine jv ?_|refine jw ?_|refine jx ?_|refine jy ?_|refine jz ?_|refine jA ?_|refine jB ?_|refine jC ?_|refine jD ?_|refine jE ?_|refine jF ?_|refine jG ?_|refine jH ?_|refine jI ?_|refine jJ ?_|refine jK ?_|refine jL ?_|refine jM (by assumption) ?_|refine jN (by assumption) rfl ?_|refine jO (by assumption) ?_|refine jP (by assumption) rfl ?_|refine jQ ?_|refine jR ?_|refine jS ?_|refine jT ?_|refine jU (by assumption) rfl ?_))
        refine M.idxLV_i hr1 rfl hb.1 hb.2 gb (fun bb2 oo2 hA2 hcc2 => ?_)
        (repeat (first|refine ja ?_|refine jb ?_|refine jc ?_|refine jd ?_|refine je ?_|refine jf ?_|refine jg ?_|refine jh ?_|refine ji ?_|refine jj ?_|refine jk ?_|refine jl ?_|refine jm ?_|refine jn ?_|refine jo ?_|refine jp ?_|refine jq ?_|refine jr ?_|refine js ?_|refine jt ?_|refine ju ?_|refine jv ?_|refine jw ?_|refine jx ?_|refine jy ?_|refine jz ?_|refine jA ?_|refine jB ?_|refine jC ?_|refine jD ?_|refine jE ?_|refine jF ?_|refine jG ?_|refine jH ?_|refine jI ?_|refine jJ ?_|refine jK ?_|refine jL ?_|refine jM (by assumption) ?_|refine jN (by assumption) rfl ?_|refine jO (by assumption) ?_|refine jP (by assumption) rfl ?_|refine jQ ?_|refine jR ?_|refine jS ?_|refine jT ?_|refine jU (by assumption) rfl ?_))
        exact ⟨by simp, k1⟩
  · have ek : kidsN n = [n.a] := by unfold kidsN; rw [if_neg (by omega), if_neg e22, if_neg e14]
    rw [ek] at hk ⊢
    have ha := hk n.a (by simp)
    have ga := get _ ha
    (repeat (first|refine ja ?_|refine jb ?_|refine jc ?_|refine jd ?_|refine je ?_|refine jf ?_|refine jg ?_|refine jh ?_|refine ji ?_|refine jj ?_|refine jk ?_|refine jl ?_|refine jm ?_|refine jn ?_|refine jo ?_|refine jp ?_|refine jq ?_|refine jr ?_|refine js ?_|refine jt ?_|refine ju ?_|refine jv ?_|refine jw ?_|refine jx ?_|refine jy ?_|refine jz ?_|refine jA ?_|refine jB ?_|refine jC ?_|refine jD ?_|refine jE ?_|refine jF ?_|refine jG ?_|refine jH ?_|refine jI ?_|refine jJ ?_|refine jK ?_|refine jL ?_|refine jM (by assumption) ?_|refine jN (by assumption) rfl ?_|refine jO (by assumption) ?_|refine jP (by assumption) rfl ?_|refine jQ ?_|refine jR ?_|refine jS ?_|refine jT ?_|refine jU (by assumption) rfl ?_))
    refine M.idxLV_i hr1 rfl ha.1 ha.2 ga (fun bb oo hA hcc => ?_)
    (repeat (first|refine ja ?_|refine jb ?_|refine jc ?_|refine jd ?_|refine je ?_|refine jf ?_|refine jg ?_|refine jh ?_|refine ji ?_|refine jj ?_|refine jk ?_|refine jl ?_|refine jm ?_|refine jn ?_|refine jo ?_|refine jp ?_|refine jq ?_|refine jr ?_|refine js ?_|refine jt ?_|refine ju ?_|refine jv ?_|refine jw ?_|refine jx ?_|refine jy ?_|refine jz ?_|refine jA ?_|refine jB ?_|refine jC ?_|refine jD ?_|refine jE ?_|refine jF ?_|refine jG ?_|refine jH ?_|refine jI ?_|refine jJ ?_|refine jK ?_|refine jL ?_|refine jM (by assumption) ?_|refine jN (by assumption) rfl ?_|refine jO (by assumption) ?_|refine jP (by assumption) rfl ?_|refine jQ ?_|refine jR ?_|refine jS ?_|refine jT ?_|refine jU (by assumption) rfl ?_))
    exact ⟨by simp, k1⟩
end Go.Proofs.Ythkkjjbjpbgcpaa
