import Derived.Test.YtanjlgafjgoaaaaSt37e
namespace Go.Proofs.Ytanjlgafjgoaaaa
open Go.Mw
set_option linter.unusedVariables false
set_option linter.unusedSimpArgs false
set_option maxRecDepth 100000
attribute [local irreducible] M.val M.unit M.next M.pick M.new M.nilCheck M.load1 M.loadA M.store M.fieldAddr M.indexSl M.indexArr M.slice M.makeSlice M.buildSlice M.len M.lenS M.cap M.append M.extract M.conv M.not M.neg M.bin M.shift M.eqB M.eqNil M.scat M.call M.callv M.gd M.share M.cond M.loop M.draw pureW readW Ret
section
variable {w : World} {F : Nat → Prop} {p pb : Nat} {N : List Nd} {most : Int} {s : Sy} {sv : List Value} {i : Ins} {inputs mw : Int} {ov : Value} {outs : List Sy} {e : Int} {c a b d : Value}
theorem store1_ret {q k : Nat} (h : Stp w F p pb N most s sv i inputs mw ov outs e) (hsv : sv = s.vals c a b d) (hB : Bnd s) (hR : RegsOk i) (hq : Blk w q [ptr pb]) (hk : k < s.cells.length) :
    Ret Try.prog 57 #[vi k, ptr q] w (fun v w' => SyO w' (Fr F pb ov) v (s.store i k) ∧ Keep w w' No) := by
  obtain ⟨o1, o2, o3, o4⟩ := h.one4 hsv
  have h8 : s.next.regs.length = 8 := h.sy.1
  refine ok57 _ _ _ _ ?_
  unfold sh57
  refine M.new_i (l := zSy) (fun w1 b1 k1 s1 => ?_)
  have h1 := h.keepN k1
  have hqc1 : w1.cell? ⟨q, 0, none⟩ = some (ptr pb) := (hq.keep k1 (fun h => h)).cell rfl
  (repeat (first|refine ja ?_|refine jb ?_|refine jc ?_|refine jd ?_|refine je ?_|refine jf ?_|refine jg ?_|refine jh ?_|refine ji ?_|refine jj ?_|refine jk ?_|refine jl ?_|refine jm ?_|refine jn ?_|refine jo ?_|refine jp ?_|refine jq ?_|refine jr ?_|refine js ?_|refine jt ?_|refine ju ?_|refine jv ?_|refine jw ?_|refine jx ?_|refine jy ?_|refine jz ?_|refine jA ?_|refine jB ?_|refine jC ?_|refine jD ?_|refine jE ?_|refine jF ?_|refine jG ?_|refine jH ?_|refine jI ?_|refine jJ ?_|refine jK ?_|refine jL ?_|refine jM (by assumption) ?_|refine jN (by assumption) rfl ?_|refine jO (by assumption) ?_|refine jP (by assumption) rfl ?_|refine jQ ?_|refine jR ?_|refine jS ?_|refine jT ?_|refine jU (by assumption) rfl ?_))
  refine M.call_i (next37_ret h1 hsv hB.pc) ?_; rintro _ w2 ⟨rfl, k2⟩
  have b2 := b1.keep k2 (fun h => h)
  have q2 := k2.size
  refine M.new_i (l := zSy) (fun w3 b3 k3 s3 => ?_)
  have b3t := b2.keep k3 (fun h => h)
  refine M.storeAll_i b3 (vals_len h8) rfl (vals_one o1 o2 o3 o4) (fun w4 b4 k4 s4 => ?_)
  have hne : w.heap.size ≠ w2.heap.size := by omega
  have b4t := b3t.keep k4 hne
  have k03 := (k1.trans k2 (fun _ _ h => h)).trans k3 (fun _ _ h => h)
  have k04 : Keep w w4 No := k03.trans k4 (fun x hx e => by have e : x = w2.heap.size := e; omega)
  have h4 := h.keepN k04
  have hc4 : w4.cell? ⟨w2.heap.size, 8, none⟩ = some c := by
    refine b4.cell ?_
    unfold Sy.vals
    rw [List.getElem?_append_right (by simp [h8])]
    simp [h8]
  (repeat (first|refine ja ?_|refine jb ?_|refine jc ?_|refine jd ?_|refine je ?_|refine jf ?_|refine jg ?_|refine jh ?_|refine ji ?_|refine jj ?_|refine jk ?_|refine jl ?_|refine jm ?_|refine jn ?_|refine jo ?_|refine jp ?_|refine jq ?_|refine jr ?_|refine js ?_|refine jt ?_|refine ju ?_|refine jv ?_|refine jw ?_|refine jx ?_|refine jy ?_|refine jz ?_|refine jA ?_|refine jB ?_|refine jC ?_|refine jD ?_|refine jE ?_|refine jF ?_|refine jG ?_|refine jH ?_|refine jI ?_|refine jJ ?_|refine jK ?_|refine jL ?_|refine jM (by assumption) ?_|refine jN (by assumption) rfl ?_|refine jO (by assumption) ?_|refine jP (by assumption) rfl ?_|refine jQ ?_|refine jR ?_|refine jS ?_|refine jT ?_|refine jU (by assumption) rfl ?_))
  refine M.call_i (clone37_ret (h4.lists hsv).1 (by have := hB.cells; omega)) ?_
  rintro vc w5 ⟨g5, k5⟩
  have b5 := b4.keep k5 (fun h => h)
  have b5t := b4t.keep k5 (fun h => h)
  have q5 := k5.size
  have oc : vc.oneCell' = true := GC.one g5
  (repeat (first|refine ja ?_|refine jb ?_|refine jc ?_|refine jd ?_|refine je ?_|refine jf ?_|refine jg ?_|refine jh ?_|refine ji ?_|refine jj ?_|refine jk ?_|refine jl ?_|refine jm ?_|refine jn ?_|refine jo ?_|refine jp ?_|refine jq ?_|refine jr ?_|refine js ?_|refine jt ?_|refine ju ?_|refine jv ?_|refine jw ?_|refine jx ?_|refine jy ?_|refine jz ?_|refine jA ?_|refine jB ?_|refine jC ?_|refine jD ?_|refine jE ?_|refine jF ?_|refine jG ?_|refine jH ?_|refine jI ?_|refine jJ ?_|refine jK ?_|refine jL ?_|refine jM (by assumption) ?_|refine jN (by assumption) rfl ?_|refine jO (by assumption) ?_|refine jP (by assumption) rfl ?_|refine jQ ?_|refine jR ?_|refine jS ?_|refine jT ?_|refine jU (by assumption) rfl ?_))
  refine M.store_i b5 (by rw [vals_len h8]; omega) oc (fun w6 b6 k6 s6 => ?_)
  have b6t := b5t.keep k6 hne
  have q4lt := b4.lt
  have g6 := g5.keep k6 (fun x hx hl e => by have hl : w4.heap.size ≤ x := hl; have e : x = w2.heap.size := e; omega)
  have ec : (s.next.vals c a b d).set (0 + 8) vc = s.next.vals vc a b d := by
    unfold Sy.vals
    rw [List.set_append_right _ _ (by simp [h8])]
    simp [h8]
  rw [ec] at b6
  have k06 : Keep w w6 No := (k04.trans k5 (fun _ _ h => h)).trans k6 (fun x hx e => by have e : x = w2.heap.size := e; omega)
  have kd := Keep.drew w6 No
  have k0d := k06.trans kd (fun _ _ h => h)
  have hd := h.keepN k0d
  have b6d := b6.keep kd (fun h => h)
  have b6td := b6t.keep kd (fun h => h)
  have g6d := g6.keep kd (fun _ _ _ h => h)
  have hqcd : w6.drew.cell? ⟨q, 0, none⟩ = some (ptr pb) := (hq.keep k0d (fun h => h)).cell rfl
  have hcd : w6.drew.cell? ⟨w2.heap.size, 8, none⟩ = some vc := by
    refine b6d.cell ?_
    unfold Sy.vals
    rw [List.getElem?_append_right (by simp [h8])]
    simp [h8]
  have hcB := hd.cB
  have hreg := hd.creg hR.2.1.1 hR.2.1.2
  (repeat (first|refine ja ?_|refine jb ?_|refine jc ?_|refine jd ?_|refine je ?_|refine jf ?_|refine jg ?_|refine jh ?_|refine ji ?_|refine jj ?_|refine jk ?_|refine jl ?_|refine jm ?_|refine jn ?_|refine jo ?_|refine jp ?_|refine jq ?_|refine jr ?_|refine js ?_|refine jt ?_|refine ju ?_|refine jv ?_|refine jw ?_|refine jx ?_|refine jy ?_|refine jz ?_|refine jA ?_|refine jB ?_|refine jC ?_|refine jD ?_|refine jE ?_|refine jF ?_|refine jG ?_|refine jH ?_|refine jI ?_|refine jJ ?_|refine jK ?_|refine jL ?_|refine jM (by assumption) ?_|refine jN (by assumption) rfl ?_|refine jO (by assumption) ?_|refine jP (by assumption) rfl ?_|refine jQ ?_|refine jR ?_|refine jS ?_|refine jT ?_|refine jU (by assumption) rfl ?_))
  refine M.arr8_i hR.2.1.1 (by have := hR.2.1.2; omega) ?_
  (repeat (first|refine ja ?_|refine jb ?_|refine jc ?_|refine jd ?_|refine je ?_|refine jf ?_|refine jg ?_|refine jh ?_|refine ji ?_|refine jj ?_|refine jk ?_|refine jl ?_|refine jm ?_|refine jn ?_|refine jo ?_|refine jp ?_|refine jq ?_|refine jr ?_|refine js ?_|refine jt ?_|refine ju ?_|refine jv ?_|refine jw ?_|refine jx ?_|refine jy ?_|refine jz ?_|refine jA ?_|refine jB ?_|refine jC ?_|refine jD ?_|refine jE ?_|refine jF ?_|refine jG ?_|refine jH ?_|refine jI ?_|refine jJ ?_|refine jK ?_|refine jL ?_|refine jM (by assumption) ?_|refine jN (by assumption) rfl ?_|refine jO (by assumption) ?_|refine jP (by assumption) rfl ?_|refine jQ ?_|refine jR ?_|refine jS ?_|refine jT ?_|refine jU (by assumption) rfl ?_))
  refine M.idxStore_i g6d (by omega) (by omega) (fun w7 g7 k7 s7 => ?_)
  rw [Int.toNat_natCast] at g7
  have hsz := g6d
  have b7 := b6d.keep k7 (fun x => by have x : w4.heap.size ≤ w2.heap.size := x; omega)
  have b7t := b6td.keep k7 (fun x => by have x : w4.heap.size ≤ w.heap.size := x; omega)
  have k07 : Keep w w7 No := k0d.trans k7 (fun x hx e => by have e : w4.heap.size ≤ x := e; omega)
  refine M.loadAll_i b7 (vals_len h8) ?_
  obtain ⟨_, l2, l3⟩ := h.lists hsv
  have l2 := (l2.mono (D' := fun x => Fr F pb ov x ∧ x ≠ w.heap.size) (fun x hx hf => ⟨hf, by omega⟩)).keep k07 (fun _ _ _ h => h)
  have l3 := (l3.mono (D' := fun x => Fr F pb ov x ∧ x ≠ w.heap.size) (fun x hx hf => ⟨hf, by omega⟩)).keep k07 (fun _ _ _ h => h)
  have hb1 := b1.lt
  have hq04 := k04.size
  have gl : LV vi w7 (fun x => Fr F pb ov x ∧ x ≠ w.heap.size) vc (s.store i k).cells := (GI.lv g7).mono (fun x hx hl => ⟨h4.fresh hl, by have hl : w4.heap.size ≤ x := hl; omega⟩)
  have h8' : (s.store i k).regs.length = 8 := h8
  have hsy : SyO w7 (fun x => Fr F pb ov x ∧ x ≠ w.heap.size) (.agg ⟨(s.store i k).vals vc a b d⟩) (s.store i k) := SyO.of_vals h8' ⟨gl, l2, l3⟩
  exact fin_v b7t rfl (vals_len h8') (vals_one oc o2 o3 o4) (fun w9 k9 => ⟨(hsy.keep k9 (fun x hx hf e => hf.2 e)).mono (fun x _ hf => hf.1), k07.trans k9 (fun x hx e => by have e : x = w.heap.size := e; omega)⟩)
theorem store_clo {q : Nat} (hsv : sv = s.vals c a b d) (hB : Bnd s) (hR : RegsOk i) : Clo (.func (.func 57) #[] #[ptr q]) p pb most s sv i inputs mw q s.cells.length (s.store i) := by
  intro k w F N ov outs e kt hk h hq hqf hkt
  refine M.callv_i (fun _ _ => rfl) (store1_ret h hsv hB hR hq hk) ?_
  rintro v w' ⟨h', k'⟩
  exact hkt _ _ h' hB.conds k'
theorem store37_ret (h : Stp w F p pb N most s sv i inputs mw ov [] e) (hsv : sv = s.vals c a b d) (hB : Bnd s) (hR : RegsOk i) :
    Ret Try.prog 34 #[ptr pb] w (Adds w F p pb most s sv i inputs mw ov (eachP most N e s (s.reg i.a) s.cells.length 257 (s.store i))) := by
  refine ok34 _ _ _ ?_
  unfold sh34
  refine M.new_i (l := [ptr pb]) (fun w1 b1 k1 s1 => ?_)
  have kd := Keep.drew w1 No
  have k0d := k1.trans kd (fun _ _ h => h)
  have hd := h.keepN k0d
  have b1d := b1.keep kd (fun h => h)
  have hqc : w1.drew.cell? ⟨w.heap.size, 0, none⟩ = some (ptr pb) := b1d.cell rfl
  have hqf : Fr F pb ov w.heap.size := h.fresh (Nat.le_refl _)
  have hcc := hd.cc hsv
  have hcA := hd.cA
  obtain ⟨A, cc, ec, hr, _⟩ := (hd.lists hsv).1
  (repeat (first|refine ja ?_|refine jb ?_|refine jc ?_|refine jd ?_|refine je ?_|refine jf ?_|refine jg ?_|refine jh ?_|refine ji ?_|refine jj ?_|refine jk ?_|refine jl ?_|refine jm ?_|refine jn ?_|refine jo ?_|refine jp ?_|refine jq ?_|refine jr ?_|refine js ?_|refine jt ?_|refine ju ?_|refine jv ?_|refine jw ?_|refine jx ?_|refine jy ?_|refine jz ?_|refine jA ?_|refine jB ?_|refine jC ?_|refine jD ?_|refine jE ?_|refine jF ?_|refine jG ?_|refine jH ?_|refine jI ?_|refine jJ ?_|refine jK ?_|refine jL ?_|refine jM (by assumption) ?_|refine jN (by assumption) rfl ?_|refine jO (by assumption) ?_|refine jP (by assumption) rfl ?_|refine jQ ?_|refine jR ?_|refine jS ?_|refine jT ?_|refine jU (by assumption) rfl ?_))
  rw [ec]
  (repeat (first|refine ja ?_|refine jb ?_|refine jc ?_|refine jd ?_|refine je ?_|refine jf ?_|refine jg ?_|refine jh ?_|refine ji ?_|refine jj ?_|refine jk ?_|refine jl ?_|refine jm ?_|refine jn ?_|refine jo ?_|refine jp ?_|refine jq ?_|refine jr ?_|refine js ?_|refine jt ?_|refine ju ?_|refine jv ?_|refine jw ?_|refine jx ?_|refine jy ?_|refine jz ?_|refine jA ?_|refine jB ?_|refine jC ?_|refine jD ?_|refine jE ?_|refine jF ?_|refine jG ?_|refine jH ?_|refine jI ?_|refine jJ ?_|refine jK ?_|refine jL ?_|refine jM (by assumption) ?_|refine jN (by assumption) rfl ?_|refine jO (by assumption) ?_|refine jP (by assumption) rfl ?_|refine jQ ?_|refine jR ?_|refine jS ?_|refine jT ?_|refine jU (by assumption) rfl ?_))
  refine M.call_i (each37_ret hd hsv b1d hqf (store_clo hsv hB hR) hR.1.1 hR.1.2 hB.cells hB.conds) ?_
  rintro _ w2 ⟨rfl, F2, ov2, h2, m2⟩
  have hcc2 := h2.cc hsv
  rw [ec] at hcc2
  have hqc2 : w2.cell? ⟨w.heap.size, 0, none⟩ = some (ptr pb) := (Blk.mv m2 b1d hqf).1.cell rfl
  (repeat (first|refine ja ?_|refine jb ?_|refine jc ?_|refine jd ?_|refine je ?_|refine jf ?_|refine jg ?_|refine jh ?_|refine ji ?_|refine jj ?_|refine jk ?_|refine jl ?_|refine jm ?_|refine jn ?_|refine jo ?_|refine jp ?_|refine jq ?_|refine jr ?_|refine js ?_|refine jt ?_|refine ju ?_|refine jv ?_|refine jw ?_|refine jx ?_|refine jy ?_|refine jz ?_|refine jA ?_|refine jB ?_|refine jC ?_|refine jD ?_|refine jE ?_|refine jF ?_|refine jG ?_|refine jH ?_|refine jI ?_|refine jJ ?_|refine jK ?_|refine jL ?_|refine jM (by assumption) ?_|refine jN (by assumption) rfl ?_|refine jO (by assumption) ?_|refine jP (by assumption) rfl ?_|refine jQ ?_|refine jR ?_|refine jS ?_|refine jT ?_|refine jU (by assumption) rfl ?_))
  exact ⟨rfl, F2, ov2, h2, (Mv.none k0d).trans m2⟩
theorem read1_ret {q k : Nat} (h : Stp w F p pb N most s sv i inputs mw ov outs e) (hsv : sv = s.vals c a b d) (hB : Bnd s) (hR : RegsOk i) (hq : Blk w q [ptr pb]) (hk : k < s.dev.disk.length) :
    Ret Try.prog 60 #[vi k, ptr q] w (fun v w' => v = .agg ⟨(s.read i k).vals c a b d⟩ ∧ Keep w w' No) := by
  obtain ⟨o1, o2, o3, o4⟩ := h.one4 hsv
  obtain ⟨x, hx⟩ : ∃ x, s.dev.disk[k]? = some x := ⟨_, List.getElem?_eq_getElem hk⟩
  have hxD : s.dev.disk.getD k 0 = x := by rw [List.getD_eq_getElem?_getD, hx]; rfl
  refine ok60 _ _ _ _ ?_
  unfold sh60
  have hpl := hB.pend
  refine M.new_i (l := zSy) (fun w1 b1 k1 s1 => ?_)
  have h1 := h.keepN k1
  have hqc : w1.cell? ⟨q, 0, none⟩ = some (ptr pb) := (hq.keep k1 (fun h => h)).cell rfl
  have hca := h1.ca hsv
  have hcb := h1.cb hsv
  obtain ⟨⟨A, cA, ea, hra, _⟩, B, cB, eb, hrb, _⟩ := (h1.lists hsv).2.1
  (repeat (first|refine ja ?_|refine jb ?_|refine jc ?_|refine jd ?_|refine je ?_|refine jf ?_|refine jg ?_|refine jh ?_|refine ji ?_|refine jj ?_|refine jk ?_|refine jl ?_|refine jm ?_|refine jn ?_|refine jo ?_|refine jp ?_|refine jq ?_|refine jr ?_|refine js ?_|refine jt ?_|refine ju ?_|refine jv ?_|refine jw ?_|refine jx ?_|refine jy ?_|refine jz ?_|refine jA ?_|refine jB ?_|refine jC ?_|refine jD ?_|refine jE ?_|refine jF ?_|refine jG ?_|refine jH ?_|refine jI ?_|refine jJ ?_|refine jK ?_|refine jL ?_|refine jM (by assumption) ?_|refine jN (by assumption) rfl ?_|refine jO (by assumption) ?_|refine jP (by assumption) rfl ?_|refine jQ ?_|refine jR ?_|refine jS ?_|refine jT ?_|refine jU (by assumption) rfl ?_))
  rw [ea]
  refine M.idxLV_i hra rfl (by omega) (by omega) (x := x) (by rw [Int.toNat_natCast]; exact hx) (fun bb oo hA hcx => ?_)
  (repeat (first|refine ja ?_|refine jb ?_|refine jc ?_|refine jd ?_|refine je ?_|refine jf ?_|refine jg ?_|refine jh ?_|refine ji ?_|refine jj ?_|refine jk ?_|refine jl ?_|refine jm ?_|refine jn ?_|refine jo ?_|refine jp ?_|refine jq ?_|refine jr ?_|refine js ?_|refine jt ?_|refine ju ?_|refine jv ?_|refine jw ?_|refine jx ?_|refine jy ?_|refine jz ?_|refine jA ?_|refine jB ?_|refine jC ?_|refine jD ?_|refine jE ?_|refine jF ?_|refine jG ?_|refine jH ?_|refine jI ?_|refine jJ ?_|refine jK ?_|refine jL ?_|refine jM (by assumption) ?_|refine jN (by assumption) rfl ?_|refine jO (by assumption) ?_|refine jP (by assumption) rfl ?_|refine jQ ?_|refine jR ?_|refine jS ?_|refine jT ?_|refine jU (by assumption) rfl ?_))
  rw [eb]
  (repeat (first|refine ja ?_|refine jb ?_|refine jc ?_|refine jd ?_|refine je ?_|refine jf ?_|refine jg ?_|refine jh ?_|refine ji ?_|refine jj ?_|refine jk ?_|refine jl ?_|refine jm ?_|refine jn ?_|refine jo ?_|refine jp ?_|refine jq ?_|refine jr ?_|refine js ?_|refine jt ?_|refine ju ?_|refine jv ?_|refine jw ?_|refine jx ?_|refine jy ?_|refine jz ?_|refine jA ?_|refine jB ?_|refine jC ?_|refine jD ?_|refine jE ?_|refine jF ?_|refine jG ?_|refine jH ?_|refine jI ?_|refine jJ ?_|refine jK ?_|refine jL ?_|refine jM (by assumption) ?_|refine jN (by assumption) rfl ?_|refine jO (by assumption) ?_|refine jP (by assumption) rfl ?_|refine jQ ?_|refine jR ?_|refine jS ?_|refine jT ?_|refine jU (by assumption) rfl ?_))
  refine M.loop_i (σ := Nat) (fun j vals w' => vals = [vi ((s.dev.pend.take j).foldl (fun id w => if w.b = (k : Int) then w.v else id) x), vi j] ∧ j ≤ s.dev.pend.length ∧ Keep w1 w' No) (fun j => s.dev.pend.length - j) 0 ⟨by simp, by omega, Keep.refl _ _⟩ ?_
  rintro j vals w2 K ⟨rfl, hj, k2⟩ hK _
  simp only [List.getD_cons_zero, List.getD_cons_succ]
  by_cases hlt : j < s.dev.pend.length
  · obtain ⟨y, hy⟩ : ∃ y, s.dev.pend[j]? = some y := ⟨_, List.getElem?_eq_getElem hlt⟩
    have et : (s.dev.pend.take (j + 1)).foldl (fun id w => if w.b = (k : Int) then w.v else id) x = if y.b = (k : Int) then y.v else (s.dev.pend.take j).foldl (fun id w => if w.b = (k : Int) then w.v else id) x := by
      rw [List.take_add_one, hy, List.foldl_append]; rfl
    have hrb2 := hrb.keep k2 (fun _ _ _ h => h)
    (repeat (first|refine ja ?_|refine jb ?_|refine jc ?_|refine jd ?_|refine je ?_|refine jf ?_|refine jg ?_|refine jh ?_|refine ji ?_|refine jj ?_|refine jk ?_|refine jl ?_|refine jm ?_|refine jn ?_|refine jo ?_|refine jp ?_|refine jq ?_|refine jr ?_|refine js ?_|refine jt ?_|refine ju ?_|refine jv ?_|refine jw ?_|refine jx ?_|refine jy ?_|refine jz ?_|refine jA ?_|refine jB ?_|refine jC ?_|refine jD ?_|refine jE ?_|refine jF ?_|refine jG ?_|refine jH ?_|refine jI ?_|refine jJ ?_|refine jK ?_|refine jL ?_|refine jM (by assumption) ?_|refine jN (by assumption) rfl ?_|refine jO (by assumption) ?_|refine jP (by assumption) rfl ?_|refine jQ ?_|refine jR ?_|refine jS ?_|refine jT ?_|refine jU (by assumption) rfl ?_))
    refine M.share_j (fun vals w' => vals = [vi ((s.dev.pend.take (j + 1)).foldl (fun id w => if w.b = (k : Int) then w.v else id) x)] ∧ Keep w1 w' No) ?_ ?_
    · rintro vals w' ⟨rfl, k'⟩ _
      simp only [List.getD_cons_zero, List.getD_cons_succ]
      (repeat (first|refine ja ?_|refine jb ?_|refine jc ?_|refine jd ?_|refine je ?_|refine jf ?_|refine jg ?_|refine jh ?_|refine ji ?_|refine jj ?_|refine jk ?_|refine jl ?_|refine jm ?_|refine jn ?_|refine jo ?_|refine jp ?_|refine jq ?_|refine jr ?_|refine js ?_|refine jt ?_|refine ju ?_|refine jv ?_|refine jw ?_|refine jx ?_|refine jy ?_|refine jz ?_|refine jA ?_|refine jB ?_|refine jC ?_|refine jD ?_|refine jE ?_|refine jF ?_|refine jG ?_|refine jH ?_|refine jI ?_|refine jJ ?_|refine jK ?_|refine jL ?_|refine jM (by assumption) ?_|refine jN (by assumption) rfl ?_|refine jO (by assumption) ?_|refine jP (by assumption) rfl ?_|refine jQ ?_|refine jR ?_|refine jS ?_|refine jT ?_|refine jU (by assumption) rfl ?_))
      exact hK (j + 1) _ _ (by omega) ⟨rfl, by omega, k'⟩
    · intro K2 hK2
      refine M.idxF_i sp_len (by omega) hrb2 rfl (by omega) (x := y) (by rw [Int.toNat_natCast]; exact hy) (fun bb oo hcc => ?_)
      refine M.load3_i (hcc 0 (vi y.b) rfl) (hcc 1 (vi y.v) rfl) (hcc 2 (vi y.e) rfl) ?_
      refine M.new_i (l := [vi 0, vi 0, vi 0]) (fun w3 b3 k3 s3 => ?_)
      refine M.storeAll_i (vs := [vi y.b, vi y.v, vi y.e]) b3 rfl rfl (by intro z hz; simp at hz; rcases hz with rfl | rfl | rfl <;> rfl) (fun w4 b4 k4 s4 => ?_)
      have k04 : Keep w1 w4 No := (k2.trans k3 (fun _ _ h => h)).trans k4 (fun z hz e => by have e : z = w2.heap.size := e; have := k2.size; omega)
      by_cases hyb : y.b = (k : Int)
      · (repeat (first|refine ja ?_|refine jb ?_|refine jc ?_|refine jd ?_|refine je ?_|refine jf ?_|refine jg ?_|refine jh ?_|refine ji ?_|refine jj ?_|refine jk ?_|refine jl ?_|refine jm ?_|refine jn ?_|refine jo ?_|refine jp ?_|refine jq ?_|refine jr ?_|refine js ?_|refine jt ?_|refine ju ?_|refine jv ?_|refine jw ?_|refine jx ?_|refine jy ?_|refine jz ?_|refine jA ?_|refine jB ?_|refine jC ?_|refine jD ?_|refine jE ?_|refine jF ?_|refine jG ?_|refine jH ?_|refine jI ?_|refine jJ ?_|refine jK ?_|refine jL ?_|refine jM (by assumption) ?_|refine jN (by assumption) rfl ?_|refine jO (by assumption) ?_|refine jP (by assumption) rfl ?_|refine jQ ?_|refine jR ?_|refine jS ?_|refine jT ?_|refine jU (by assumption) rfl ?_))
        exact hK2 _ _ ⟨by rw [et, if_pos hyb], k04⟩
      · (repeat (first|refine ja ?_|refine jb ?_|refine jc ?_|refine jd ?_|refine je ?_|refine jf ?_|refine jg ?_|refine jh ?_|refine ji ?_|refine jj ?_|refine jk ?_|refine jl ?_|refine jm ?_|refine jn ?_|refine jo ?_|refine jp ?_|refine jq ?_|refine jr ?_|refine js ?_|refine jt ?_|refine ju ?_|refine jv ?_|refine jw ?_|refine jx ?_|refine jy ?_|refine jz ?_|refine jA ?_|refine jB ?_|refine jC ?_|refine jD ?_|refine jE ?_|refine jF ?_|refine jG ?_|refine jH ?_|refine jI ?_|refine jJ ?_|refine jK ?_|refine jL ?_|refine jM (by assumption) ?_|refine jN (by assumption) rfl ?_|refine jO (by assumption) ?_|refine jP (by assumption) rfl ?_|refine jQ ?_|refine jR ?_|refine jS ?_|refine jT ?_|refine jU (by assumption) rfl ?_))
        exact hK2 _ _ ⟨by rw [et, if_neg hyb], k04⟩
  · have ej : j = s.dev.pend.length := by omega
    subst ej
    have hqc2 : w2.cell? ⟨q, 0, none⟩ = some (ptr pb) := ((hq.keep k1 (fun h => h)).keep k2 (fun h => h)).cell rfl
    rw [List.take_length]
    have ev : s.dev.pend.foldl (fun id w => if w.b = (k : Int) then w.v else id) x = readN s k := by unfold readN; rw [hxD]
    rw [ev]
    (repeat (first|refine ja ?_|refine jb ?_|refine jc ?_|refine jd ?_|refine je ?_|refine jf ?_|refine jg ?_|refine jh ?_|refine ji ?_|refine jj ?_|refine jk ?_|refine jl ?_|refine jm ?_|refine jn ?_|refine jo ?_|refine jp ?_|refine jq ?_|refine jr ?_|refine js ?_|refine jt ?_|refine ju ?_|refine jv ?_|refine jw ?_|refine jx ?_|refine jy ?_|refine jz ?_|refine jA ?_|refine jB ?_|refine jC ?_|refine jD ?_|refine jE ?_|refine jF ?_|refine jG ?_|refine jH ?_|refine jI ?_|refine jJ ?_|refine jK ?_|refine jL ?_|refine jM (by assumption) ?_|refine jN (by assumption) rfl ?_|refine jO (by assumption) ?_|refine jP (by assumption) rfl ?_|refine jQ ?_|refine jR ?_|refine jS ?_|refine jT ?_|refine jU (by assumption) rfl ?_))
    refine M.call_i (set37_ret (h1.keepN k2) hsv hB.pc hR.1 (readN s k)) ?_; rintro _ w3 ⟨rfl, k3⟩
    have b3 := (b1.keep k2 (fun h => h)).keep k3 (fun h => h)
    have h8' : (s.read i k).regs.length = 8 := by have := h.sy.1; simp [Sy.read, Sy.set, Sy.next, this]
    have k03 := (k1.trans k2 (fun _ _ h => h)).trans k3 (fun _ _ h => h)
    rw [← ea, ← eb]
    exact fin_v b3 rfl (vals_len h8') (vals_one o1 o2 o3 o4) (fun w9 k9 => ⟨rfl, k03.trans k9 (fun x hx e => by have e : x = w.heap.size := e; omega)⟩)
theorem read_clo {q : Nat} (hsv : sv = s.vals c a b d) (hB : Bnd s) (hR : RegsOk i) : Clo (.func (.func 60) #[] #[ptr q]) p pb most s sv i inputs mw q s.dev.disk.length (s.read i) := by
  intro k w F N ov outs e kt hk h hq hqf hkt
  refine M.callv_i (fun _ _ => rfl) (read1_ret h hsv hB hR hq hk) ?_
  rintro v w' ⟨rfl, k'⟩
  have h8 : (s.read i k).regs.length = 8 := by have := h.sy.1; simp [Sy.read, Sy.set, Sy.next, this]
  have h' := h.keepN k'
  exact hkt _ _ (SyO.of_vals h8 (h'.lists hsv)) hB.conds k'
theorem read37_ret (h : Stp w F p pb N most s sv i inputs mw ov [] e) (hsv : sv = s.vals c a b d) (hB : Bnd s) (hR : RegsOk i) :
    Ret Try.prog 36 #[ptr pb] w (Adds w F p pb most s sv i inputs mw ov (eachP most N e s (s.reg i.b) s.dev.disk.length 258 (s.read i))) := by
  refine ok36 _ _ _ ?_
  unfold sh36
  refine M.new_i (l := [ptr pb]) (fun w1 b1 k1 s1 => ?_)
  have kd := Keep.drew w1 No
  have k0d := k1.trans kd (fun _ _ h => h)
  have hd := h.keepN k0d
  have b1d := b1.keep kd (fun h => h)
  have hqc : w1.drew.cell? ⟨w.heap.size, 0, none⟩ = some (ptr pb) := b1d.cell rfl
  have hqf : Fr F pb ov w.heap.size := h.fresh (Nat.le_refl _)
  have hcc := hd.ca hsv
  have hcB := hd.cB
  obtain ⟨A, cc, ec, hr, _⟩ := (hd.lists hsv).2.1.1
  (repeat (first|refine ja ?_|refine jb ?_|refine jc ?_|refine jd ?_|refine je ?_|refine jf ?_|refine jg ?_|refine jh ?_|refine ji ?_|refine jj ?_|refine jk ?_|refine jl ?_|refine jm ?_|refine jn ?_|refine jo ?_|refine jp ?_|refine jq ?_|refine jr ?_|refine js ?_|refine jt ?_|refine ju ?_|refine jv ?_|refine jw ?_|refine jx ?_|refine jy ?_|refine jz ?_|refine jA ?_|refine jB ?_|refine jC ?_|refine jD ?_|refine jE ?_|refine jF ?_|refine jG ?_|refine jH ?_|refine jI ?_|refine jJ ?_|refine jK ?_|refine jL ?_|refine jM (by assumption) ?_|refine jN (by assumption) rfl ?_|refine jO (by assumption) ?_|refine jP (by assumption) rfl ?_|refine jQ ?_|refine jR ?_|refine jS ?_|refine jT ?_|refine jU (by assumption) rfl ?_))
  rw [ec]
  (repeat (first|refine ja ?_|refine jb ?_|refine jc ?_|refine jd ?_|refine je ?_|refine jf ?_|refine jg ?_|refine jh ?_|refine ji ?_|refine jj ?_|refine jk ?_|refine jl ?_|refine jm ?_|refine jn ?_|refine jo ?_|refine jp ?_|refine jq ?_|refine jr ?_|refine js ?_|refine jt ?_|refine ju ?_|refine jv ?_|refine jw ?_|refine jx ?_|refine jy ?_|refine jz ?_|refine jA ?_|refine jB ?_|refine jC ?_|refine jD ?_|refine jE ?_|refine jF ?_|refine jG ?_|refine jH ?_|refine jI ?_|refine jJ ?_|refine jK ?_|refine jL ?_|refine jM (by assumption) ?_|refine jN (by assumption) rfl ?_|refine jO (by assumption) ?_|refine jP (by assumption) rfl ?_|refine jQ ?_|refine jR ?_|refine jS ?_|refine jT ?_|refine jU (by assumption) rfl ?_))
  refine M.call_i (each37_ret hd hsv b1d hqf (read_clo hsv hB hR) hR.2.1.1 hR.2.1.2 hB.disk hB.conds) ?_
  rintro _ w2 ⟨rfl, F2, ov2, h2, m2⟩
  have hcc2 := h2.ca hsv
  rw [ec] at hcc2
  have hqc2 : w2.cell? ⟨w.heap.size, 0, none⟩ = some (ptr pb) := (Blk.mv m2 b1d hqf).1.cell rfl
  (repeat (first|refine ja ?_|refine jb ?_|refine jc ?_|refine jd ?_|refine je ?_|refine jf ?_|refine jg ?_|refine jh ?_|refine ji ?_|refine jj ?_|refine jk ?_|refine jl ?_|refine jm ?_|refine jn ?_|refine jo ?_|refine jp ?_|refine jq ?_|refine jr ?_|refine js ?_|refine jt ?_|refine ju ?_|refine jv ?_|refine jw ?_|refine jx ?_|refine jy ?_|refine jz ?_|refine jA ?_|refine jB ?_|refine jC ?_|refine jD ?_|refine jE ?_|refine jF ?_|refine jG ?_|refine jH ?_|refine jI ?_|refine jJ ?_|refine jK ?_|refine jL ?_|refine jM (by assumption) ?_|refine jN (by assumption) rfl ?_|refine jO (by assumption) ?_|refine jP (by assumption) rfl ?_|refine jQ ?_|refine jR ?_|refine jS ?_|refine jT ?_|refine jU (by assumption) rfl ?_))
  exact ⟨rfl, F2, ov2, h2, (Mv.none k0d).trans m2⟩
end
end Go.Proofs.Ytanjlgafjgoaaaa
