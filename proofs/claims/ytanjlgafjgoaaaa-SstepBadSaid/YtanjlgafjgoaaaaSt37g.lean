import Derived.Test.YtanjlgafjgoaaaaSt37f
namespace Go.Proofs.Ytanjlgafjgoaaaa
open Go.Mw
set_option linter.unusedVariables false
set_option linter.unusedSimpArgs false
set_option maxRecDepth 100000
attribute [local irreducible] M.val M.unit M.next M.pick M.new M.nilCheck M.load1 M.loadA M.store M.fieldAddr M.indexSl M.indexArr M.slice M.makeSlice M.buildSlice M.len M.lenS M.cap M.append M.extract M.conv M.not M.neg M.bin M.shift M.eqB M.eqNil M.scat M.call M.callv M.gd M.share M.cond M.loop M.draw pureW readW Ret
section
variable {w : World} {F : Nat → Prop} {p pb : Nat} {N : List Nd} {most : Int} {s : Sy} {sv : List Value} {i : Ins} {inputs mw : Int} {ov : Value} {outs : List Sy} {e : Int} {c a b d : Value}
set_option maxHeartbeats 2000000 in
theorem write1_ret {q k : Nat} (h : Stp w F p pb N most s sv i inputs mw ov outs e) (hsv : sv = s.vals c a b d) (hB : Bnd s) (hR : RegsOk i) (hq : Blk w q [ptr pb]) (hk : k < s.dev.disk.length) :
    Ret Try.prog 61 #[vi k, ptr q] w (fun v w' => SyO w' (Fr F pb ov) v (s.write i mw k) ∧ Keep w w' No) := by
  obtain ⟨o1, o2, o3, o4⟩ := h.one4 hsv
  have hpl := hB.pend
  refine ok61 _ _ _ _ ?_
  unfold sh61
  refine M.new_i (l := zSy) (fun w1 b1 k1 s1 => ?_)
  have h1 := h.keepN k1
  have hqc1 : w1.cell? ⟨q, 0, none⟩ = some (ptr pb) := (hq.keep k1 (fun h => h)).cell rfl
  have c1 := h1.ca hsv
  have c2 := h1.cb hsv
  have c3 := h1.cep hsv
  (repeat (first|refine ja ?_|refine jb ?_|refine jc ?_|refine jd ?_|refine je ?_|refine jf ?_|refine jg ?_|refine jh ?_|refine ji ?_|refine jj ?_|refine jk ?_|refine jl ?_|refine jm ?_|refine jn ?_|refine jo ?_|refine jp ?_|refine jq ?_|refine jr ?_|refine js ?_|refine jt ?_|refine ju ?_|refine jv ?_|refine jw ?_|refine jx ?_|refine jy ?_|refine jz ?_|refine jA ?_|refine jB ?_|refine jC ?_|refine jD ?_|refine jE ?_|refine jF ?_|refine jG ?_|refine jH ?_|refine jI ?_|refine jJ ?_|refine jK ?_|refine jL ?_|refine jM (by assumption) ?_|refine jN (by assumption) rfl ?_|refine jO (by assumption) ?_|refine jP (by assumption) rfl ?_|refine jQ ?_|refine jR ?_|refine jS ?_|refine jT ?_|refine jU (by assumption) rfl ?_))
  refine M.load3_i c1 c2 c3 ?_
  refine M.new_i (l := [.slice none 0 0, .slice none 0 0, vi 0]) (fun w2 b2 k2 s2 => ?_)
  have b2t := b1.keep k2 (fun h => h)
  refine M.storeAll_i (vs := [a, b, vi s.dev.ep]) b2 rfl rfl (by
    simp only [List.mem_cons, List.not_mem_nil, or_false, forall_eq_or_imp, forall_eq]
    exact ⟨o2, o3, rfl⟩) (fun w3 b3 k3 s3 => ?_)
  have hne : w.heap.size ≠ w1.heap.size := by omega
  have b3t := b2t.keep k3 hne
  have k03 : Keep w w3 No := (k1.trans k2 (fun _ _ h => h)).trans k3 (fun x hx e => by have e : x = w1.heap.size := e; omega)
  have kd := Keep.drew w3 No
  have k0d := k03.trans kd (fun _ _ h => h)
  have hd := h.keepN k0d
  have b3d := b3.keep kd (fun h => h)
  have b3td := b3t.keep kd (fun h => h)
  have hqd := hq.keep k0d (fun h => h)
  have hqc : w3.drew.cell? ⟨q, 0, none⟩ = some (ptr pb) := hqd.cell rfl
  have hmw := hd.cmw
  obtain ⟨⟨A, cA, ea, hra, _⟩, B, cB, eb, hrb, hcB⟩ := (hd.lists hsv).2.1
  (repeat (first|refine ja ?_|refine jb ?_|refine jc ?_|refine jd ?_|refine je ?_|refine jf ?_|refine jg ?_|refine jh ?_|refine ji ?_|refine jj ?_|refine jk ?_|refine jl ?_|refine jm ?_|refine jn ?_|refine jo ?_|refine jp ?_|refine jq ?_|refine jr ?_|refine js ?_|refine jt ?_|refine ju ?_|refine jv ?_|refine jw ?_|refine jx ?_|refine jy ?_|refine jz ?_|refine jA ?_|refine jB ?_|refine jC ?_|refine jD ?_|refine jE ?_|refine jF ?_|refine jG ?_|refine jH ?_|refine jI ?_|refine jJ ?_|refine jK ?_|refine jL ?_|refine jM (by assumption) ?_|refine jN (by assumption) rfl ?_|refine jO (by assumption) ?_|refine jP (by assumption) rfl ?_|refine jQ ?_|refine jR ?_|refine jS ?_|refine jT ?_|refine jU (by assumption) rfl ?_))
  rw [eb]
  (repeat (first|refine ja ?_|refine jb ?_|refine jc ?_|refine jd ?_|refine je ?_|refine jf ?_|refine jg ?_|refine jh ?_|refine ji ?_|refine jj ?_|refine jk ?_|refine jl ?_|refine jm ?_|refine jn ?_|refine jo ?_|refine jp ?_|refine jq ?_|refine jr ?_|refine js ?_|refine jt ?_|refine ju ?_|refine jv ?_|refine jw ?_|refine jx ?_|refine jy ?_|refine jz ?_|refine jA ?_|refine jB ?_|refine jC ?_|refine jD ?_|refine jE ?_|refine jF ?_|refine jG ?_|refine jH ?_|refine jI ?_|refine jJ ?_|refine jK ?_|refine jL ?_|refine jM (by assumption) ?_|refine jN (by assumption) rfl ?_|refine jO (by assumption) ?_|refine jP (by assumption) rfl ?_|refine jQ ?_|refine jR ?_|refine jS ?_|refine jT ?_|refine jU (by assumption) rfl ?_))
  by_cases hm : mw ≤ (s.dev.pend.length : Int)
  · have ew : s.write i mw k = s.trap 259 := by unfold Sy.write; rw [if_pos hm]
    rw [ew]
    (repeat (first|refine ja ?_|refine jb ?_|refine jc ?_|refine jd ?_|refine je ?_|refine jf ?_|refine jg ?_|refine jh ?_|refine ji ?_|refine jj ?_|refine jk ?_|refine jl ?_|refine jm ?_|refine jn ?_|refine jo ?_|refine jp ?_|refine jq ?_|refine jr ?_|refine js ?_|refine jt ?_|refine ju ?_|refine jv ?_|refine jw ?_|refine jx ?_|refine jy ?_|refine jz ?_|refine jA ?_|refine jB ?_|refine jC ?_|refine jD ?_|refine jE ?_|refine jF ?_|refine jG ?_|refine jH ?_|refine jI ?_|refine jJ ?_|refine jK ?_|refine jL ?_|refine jM (by assumption) ?_|refine jN (by assumption) rfl ?_|refine jO (by assumption) ?_|refine jP (by assumption) rfl ?_|refine jQ ?_|refine jR ?_|refine jS ?_|refine jT ?_|refine jU (by assumption) rfl ?_))
    refine M.call_i (trap37_ret hd hsv 259) ?_; rintro _ w4 ⟨rfl, k4⟩
    have b4t := b3td.keep k4 (fun h => h)
    have h8' : (s.trap 259).regs.length = 8 := h.sy.1
    have l := h.lists hsv
    have hsy : SyO w (fun x => Fr F pb ov x ∧ x ≠ w.heap.size) (.agg ⟨(s.trap 259).vals c a b d⟩) (s.trap 259) := (SyO.of_vals (D := Fr F pb ov) h8' l).mono (fun x hx hf => ⟨hf, by omega⟩)
    have k04 := k0d.trans k4 (fun _ _ h => h)
    exact fin_v b4t rfl (vals_len h8') (vals_one o1 o2 o3 o4) (fun w9 k9 => ⟨((hsy.keep k04 (fun _ _ _ h => h)).keep k9 (fun x hx hf e => hf.2 e)).mono (fun x _ hf => hf.1), k04.trans k9 (fun x hx e => by have e : x = w.heap.size := e; omega)⟩)
  · have ew : s.write i mw k = s.call { s.dev with pend := s.dev.pend ++ [⟨(k : Int), s.reg i.b, s.dev.ep⟩] } := by unfold Sy.write; rw [if_neg hm]
    rw [ew]
    (repeat (first|refine ja ?_|refine jb ?_|refine jc ?_|refine jd ?_|refine je ?_|refine jf ?_|refine jg ?_|refine jh ?_|refine ji ?_|refine jj ?_|refine jk ?_|refine jl ?_|refine jm ?_|refine jn ?_|refine jo ?_|refine jp ?_|refine jq ?_|refine jr ?_|refine js ?_|refine jt ?_|refine ju ?_|refine jv ?_|refine jw ?_|refine jx ?_|refine jy ?_|refine jz ?_|refine jA ?_|refine jB ?_|refine jC ?_|refine jD ?_|refine jE ?_|refine jF ?_|refine jG ?_|refine jH ?_|refine jI ?_|refine jJ ?_|refine jK ?_|refine jL ?_|refine jM (by assumption) ?_|refine jN (by assumption) rfl ?_|refine jO (by assumption) ?_|refine jP (by assumption) rfl ?_|refine jQ ?_|refine jR ?_|refine jS ?_|refine jT ?_|refine jU (by assumption) rfl ?_))
    refine M.share_j (fun vals w' => ∃ v', vals = [] ∧ Blk w' w1.heap.size [a, v', vi s.dev.ep] ∧ LN SP.cells w' (fun x => w1.heap.size < x) v' (s.dev.pend ++ [⟨(k : Int), s.reg i.b, s.dev.ep⟩]) ∧ Keep w w' No ∧ Blk w' w.heap.size zSy ∧ Blk w' q [ptr pb]) ?_ ?_
    · rintro vals w4 ⟨v', rfl, b4, l4, k4, b4t, hq4⟩ _
      have h4 := h.keepN k4
      have hqc4 : w4.cell? ⟨q, 0, none⟩ = some (ptr pb) := hq4.cell rfl
      (repeat (first|refine ja ?_|refine jb ?_|refine jc ?_|refine jd ?_|refine je ?_|refine jf ?_|refine jg ?_|refine jh ?_|refine ji ?_|refine jj ?_|refine jk ?_|refine jl ?_|refine jm ?_|refine jn ?_|refine jo ?_|refine jp ?_|refine jq ?_|refine jr ?_|refine js ?_|refine jt ?_|refine ju ?_|refine jv ?_|refine jw ?_|refine jx ?_|refine jy ?_|refine jz ?_|refine jA ?_|refine jB ?_|refine jC ?_|refine jD ?_|refine jE ?_|refine jF ?_|refine jG ?_|refine jH ?_|refine jI ?_|refine jJ ?_|refine jK ?_|refine jL ?_|refine jM (by assumption) ?_|refine jN (by assumption) rfl ?_|refine jO (by assumption) ?_|refine jP (by assumption) rfl ?_|refine jQ ?_|refine jR ?_|refine jS ?_|refine jT ?_|refine jU (by assumption) rfl ?_))
      refine M.loadAll_i b4 rfl ?_
      have l2 := ((h.lists hsv).2.1.1.mono (D' := fun x => Fr F pb ov x ∧ x ≠ w.heap.size) (fun x hx hf => ⟨hf, by omega⟩)).keep k4 (fun _ _ _ h => h)
      have l4' : LN SP.cells w4 (fun x => Fr F pb ov x ∧ x ≠ w.heap.size) v' (s.dev.pend ++ [⟨(k : Int), s.reg i.b, s.dev.ep⟩]) := l4.mono (fun x hx hl => ⟨h.fresh (by omega), by omega⟩)
      have hv : SDvO w4 (fun x => Fr F pb ov x ∧ x ≠ w.heap.size) a v' { s.dev with pend := s.dev.pend ++ [⟨(k : Int), s.reg i.b, s.dev.ep⟩] } := ⟨l2, l4'⟩
      have p3 : v'.oneCell' = true := LN.one l4
      refine M.call_i (call37_ret (v := { s.dev with pend := s.dev.pend ++ [(⟨(k : Int), s.reg i.b, s.dev.ep⟩ : SP)] }) h4 hsv hB.pc hB.calls hv) ?_; rintro _ w5 ⟨rfl, k5⟩
      have b5t := b4t.keep k5 (fun h => h)
      have k05 := k4.trans k5 (fun _ _ h => h)
      have h8' : (s.call { s.dev with pend := s.dev.pend ++ [⟨(k : Int), s.reg i.b, s.dev.ep⟩] }).regs.length = 8 := h.sy.1
      have lc := (((h.lists hsv).1.mono (D' := fun x => Fr F pb ov x ∧ x ≠ w.heap.size) (fun x hx hf => ⟨hf, by omega⟩)).keep k05 (fun _ _ _ h => h))
      have ld := (((h.lists hsv).2.2.mono (D' := fun x => Fr F pb ov x ∧ x ≠ w.heap.size) (fun x hx hf => ⟨hf, by omega⟩)).keep k05 (fun _ _ _ h => h))
      have hsy : SyO w5 (fun x => Fr F pb ov x ∧ x ≠ w.heap.size) (.agg ⟨(s.call { s.dev with pend := s.dev.pend ++ [⟨(k : Int), s.reg i.b, s.dev.ep⟩] }).vals c a v' d⟩) (s.call { s.dev with pend := s.dev.pend ++ [⟨(k : Int), s.reg i.b, s.dev.ep⟩] }) := SyO.of_vals h8' ⟨lc, hv.keep k5 (fun _ _ _ h => h), ld⟩
      exact fin_v b5t rfl (vals_len h8') (vals_one o1 o2 p3 o4) (fun w9 k9 => ⟨(hsy.keep k9 (fun x hx hf e => hf.2 e)).mono (fun x _ hf => hf.1), k05.trans k9 (fun x hx e => by have e : x = w.heap.size := e; omega)⟩)
    · intro K1 hK1
      have kd2 := Keep.drew w3.drew No
      have k0e := k0d.trans kd2 (fun _ _ h => h)
      refine M.draw_i ?_
      have bE := b3d.keep kd2 (fun h => h)
      have bEt := b3td.keep kd2 (fun h => h)
      have hqE := hqd.keep kd2 (fun h => h)
      have hrE := hrb.keep kd2 (fun _ _ _ h => h)
      have hE := hd.keepN kd2
      generalize w3.drew.drew = w4 at k0e bE bEt hqE hrE hE ⊢
      clear kd2
      rw [eb] at bE
      have fact : ∀ w', Keep w4 w' No → w'.cell? ⟨w1.heap.size, 1, none⟩ = some (.slice B s.dev.pend.length cB) ∧ w'.cell? ⟨w1.heap.size, 2, none⟩ = some (vi s.dev.ep) ∧ w'.cell? ⟨pb, 1 + i.b.toNat, none⟩ = some (vi (s.reg i.b)) ∧ w'.cell? ⟨pb, 22, none⟩ = some (vi i.b) ∧ w'.cell? ⟨q, 0, none⟩ = some (ptr pb) := fun w' k' =>
        ⟨(bE.keep k' (fun h => h)).cell rfl, (bE.keep k' (fun h => h)).cell rfl, (hE.keepN k').creg hR.2.1.1 hR.2.1.2, (hE.keepN k').cB, (hqE.keep k' (fun h => h)).cell rfl⟩
      obtain ⟨f1, f2, f3, f4, f5⟩ := fact w4 (Keep.refl _ _)
      (repeat (first|refine ja ?_|refine jb ?_|refine jc ?_|refine jd ?_|refine je ?_|refine jf ?_|refine jg ?_|refine jh ?_|refine ji ?_|refine jj ?_|refine jk ?_|refine jl ?_|refine jm ?_|refine jn ?_|refine jo ?_|refine jp ?_|refine jq ?_|refine jr ?_|refine js ?_|refine jt ?_|refine ju ?_|refine jv ?_|refine jw ?_|refine jx ?_|refine jy ?_|refine jz ?_|refine jA ?_|refine jB ?_|refine jC ?_|refine jD ?_|refine jE ?_|refine jF ?_|refine jG ?_|refine jH ?_|refine jI ?_|refine jJ ?_|refine jK ?_|refine jL ?_|refine jM (by assumption) ?_|refine jN (by assumption) rfl ?_|refine jO (by assumption) ?_|refine jP (by assumption) rfl ?_|refine jQ ?_|refine jR ?_|refine jS ?_|refine jT ?_|refine jU (by assumption) rfl ?_))
      refine M.arr8_i hR.2.1.1 (by have := hR.2.1.2; omega) ?_
      (repeat (first|refine ja ?_|refine jb ?_|refine jc ?_|refine jd ?_|refine je ?_|refine jf ?_|refine jg ?_|refine jh ?_|refine ji ?_|refine jj ?_|refine jk ?_|refine jl ?_|refine jm ?_|refine jn ?_|refine jo ?_|refine jp ?_|refine jq ?_|refine jr ?_|refine js ?_|refine jt ?_|refine ju ?_|refine jv ?_|refine jw ?_|refine jx ?_|refine jy ?_|refine jz ?_|refine jA ?_|refine jB ?_|refine jC ?_|refine jD ?_|refine jE ?_|refine jF ?_|refine jG ?_|refine jH ?_|refine jI ?_|refine jJ ?_|refine jK ?_|refine jL ?_|refine jM (by assumption) ?_|refine jN (by assumption) rfl ?_|refine jO (by assumption) ?_|refine jP (by assumption) rfl ?_|refine jQ ?_|refine jR ?_|refine jS ?_|refine jT ?_|refine jU (by assumption) rfl ?_))
      refine M.pure_i (.agg ⟨[vi k, vi (s.reg i.b), vi s.dev.ep]⟩) (fun _ => by kernel_rfl) ?_
      have fin : ∀ (w5 w6 : World) (bl : Nat) (cap : Nat), Keep w4 w5 No → Blk w5 bl [vi k, vi (s.reg i.b), vi s.dev.ep] → ∀ (R : Kt), (∀ v' w6, GC w6 (w5.heap.size ≤ ·) 3 v' (s.dev.pend.length + 1) (s.dev.pend.flatMap SP.cells ++ [vi k, vi (s.reg i.b), vi s.dev.ep]) → Keep w5 w6 No → R v' w6) →
          M.append 72 3 24 #[.int .i64 0, .int .i64 0, .int .i64 0] (.slice (if s.dev.pend.length = 0 then B else B.map (·.add (0 * 3))) s.dev.pend.length s.dev.pend.length) (.slice (some ⟨bl, 0, none⟩) 1 cap) R w5 := by
        intro w5 w6 bl cap k5 b5 R hR'
        have hlen : (s.dev.pend.flatMap SP.cells).length = s.dev.pend.length * 3 := by
          generalize s.dev.pend = l
          induction l with
          | nil => rfl
          | cons x l ih => rw [List.flatMap_cons, List.length_append, ih, List.length_cons, sp_len]; omega
        refine M.appendF_i (Row.samez (hrE.keep k5 (fun _ _ _ h => h)) (sz := 3) (n := s.dev.pend.length) hlen) hlen (Row.of_blk' (D := fun _ => True) b5 trivial) rfl (by omega) rfl (by omega) (by omega) (fun v' w6 g6 k6 => hR' v' w6 g6 k6)
      have done : ∀ (v' : Value) (w6 : World), GC w6 (w4.heap.size ≤ ·) 3 v' (s.dev.pend.length + 1) (s.dev.pend.flatMap SP.cells ++ [vi k, vi (s.reg i.b), vi s.dev.ep]) → Keep w4 w6 No → M.fieldAddr 1 (ptr w1.heap.size) (fun t40 w => M.store 1 t40 v' (fun _ w => K1 [] w) w) w6 := by
        intro v' w6 g6 k6
        have b6 := bE.keep k6 (fun h => h)
        (repeat (first|refine ja ?_|refine jb ?_|refine jc ?_|refine jd ?_|refine je ?_|refine jf ?_|refine jg ?_|refine jh ?_|refine ji ?_|refine jj ?_|refine jk ?_|refine jl ?_|refine jm ?_|refine jn ?_|refine jo ?_|refine jp ?_|refine jq ?_|refine jr ?_|refine js ?_|refine jt ?_|refine ju ?_|refine jv ?_|refine jw ?_|refine jx ?_|refine jy ?_|refine jz ?_|refine jA ?_|refine jB ?_|refine jC ?_|refine jD ?_|refine jE ?_|refine jF ?_|refine jG ?_|refine jH ?_|refine jI ?_|refine jJ ?_|refine jK ?_|refine jL ?_|refine jM (by assumption) ?_|refine jN (by assumption) rfl ?_|refine jO (by assumption) ?_|refine jP (by assumption) rfl ?_|refine jQ ?_|refine jR ?_|refine jS ?_|refine jT ?_|refine jU (by assumption) rfl ?_))
        refine M.store_i b6 (by simp) (GC.one g6) (fun w7 b7 k7 s7 => ?_)
        have hbE := bE.lt
        have hbEt := bEt.lt
        have hqlt := hq.lt
        have k07 : Keep w w7 No := (k0e.trans k6 (fun _ _ h => h)).trans k7 (fun x hx e => by have e : x = w1.heap.size := e; omega)
        refine hK1 [] w7 ⟨v', rfl, b7, ?_, k07, (bEt.keep k6 (fun h => h)).keep k7 hne, (hqE.keep k6 (fun h => h)).keep k7 (fun e => by have e : q = w1.heap.size := e; omega)⟩
        have g7 := g6.keep k7 (fun x hx hl e => by have hl : w4.heap.size ≤ x := hl; have e : x = w1.heap.size := e; omega)
        obtain ⟨A7, c7, e7, r7, hc7⟩ := GC.row2 g7 (by omega)
        refine ⟨A7, c7, by rw [e7]; simp, ?_, by simpa using hc7⟩
        have : (s.dev.pend ++ [(⟨(k : Int), s.reg i.b, s.dev.ep⟩ : SP)]).flatMap SP.cells = s.dev.pend.flatMap SP.cells ++ [vi k, vi (s.reg i.b), vi s.dev.ep] := by rw [List.flatMap_append]; simp [SP.cells]
        rw [this]
        exact r7.mono (fun x hx hl => by have hl : w4.heap.size ≤ x := hl; omega)
      refine ⟨?_, ?_⟩
      · refine M.call_i (clip3_ret hcB) ?_; rintro _ w5 ⟨rfl, rfl⟩
        (repeat (first|refine ja ?_|refine jb ?_|refine jc ?_|refine jd ?_|refine je ?_|refine jf ?_|refine jg ?_|refine jh ?_|refine ji ?_|refine jj ?_|refine jk ?_|refine jl ?_|refine jm ?_|refine jn ?_|refine jo ?_|refine jp ?_|refine jq ?_|refine jr ?_|refine js ?_|refine jt ?_|refine ju ?_|refine jv ?_|refine jw ?_|refine jx ?_|refine jy ?_|refine jz ?_|refine jA ?_|refine jB ?_|refine jC ?_|refine jD ?_|refine jE ?_|refine jF ?_|refine jG ?_|refine jH ?_|refine jI ?_|refine jJ ?_|refine jK ?_|refine jL ?_|refine jM (by assumption) ?_|refine jN (by assumption) rfl ?_|refine jO (by assumption) ?_|refine jP (by assumption) rfl ?_|refine jQ ?_|refine jR ?_|refine jS ?_|refine jT ?_|refine jU (by assumption) rfl ?_))
        refine M.buildSlice_i [vi k, vi (s.reg i.b), vi s.dev.ep] (by kernel_rfl) (fun w6 b6 k6 s6 => ?_)
        obtain ⟨f1, f2, f3, f4, f5⟩ := fact w6 k6
        (repeat (first|refine ja ?_|refine jb ?_|refine jc ?_|refine jd ?_|refine je ?_|refine jf ?_|refine jg ?_|refine jh ?_|refine ji ?_|refine jj ?_|refine jk ?_|refine jl ?_|refine jm ?_|refine jn ?_|refine jo ?_|refine jp ?_|refine jq ?_|refine jr ?_|refine js ?_|refine jt ?_|refine ju ?_|refine jv ?_|refine jw ?_|refine jx ?_|refine jy ?_|refine jz ?_|refine jA ?_|refine jB ?_|refine jC ?_|refine jD ?_|refine jE ?_|refine jF ?_|refine jG ?_|refine jH ?_|refine jI ?_|refine jJ ?_|refine jK ?_|refine jL ?_|refine jM (by assumption) ?_|refine jN (by assumption) rfl ?_|refine jO (by assumption) ?_|refine jP (by assumption) rfl ?_|refine jQ ?_|refine jR ?_|refine jS ?_|refine jT ?_|refine jU (by assumption) rfl ?_))
        refine fin w6 w6 _ _ k6 b6 _ (fun v' w7 g7 k7 => ?_)
        have k47 := k6.trans k7 (fun _ _ h => h)
        have q6 := k6.size
        obtain ⟨f1, f2, f3, f4, f5⟩ := fact w7 k47
        repeat (first | refine M.st_i f2 ?_ | refine M.st_i f3 ?_ | refine M.st_i f4 ?_ | refine M.st_i f5 ?_)
        exact done v' w7 (g7.mono (fun x hx hl => by have hl : w6.heap.size ≤ x := hl; show w4.heap.size ≤ x; omega)) k47
      · refine M.buildSlice_i [vi k, vi (s.reg i.b), vi s.dev.ep] (by kernel_rfl) (fun w6 b6 k6 s6 => ?_)
        obtain ⟨f1, f2, f3, f4, f5⟩ := fact w6 k6
        (repeat (first|refine ja ?_|refine jb ?_|refine jc ?_|refine jd ?_|refine je ?_|refine jf ?_|refine jg ?_|refine jh ?_|refine ji ?_|refine jj ?_|refine jk ?_|refine jl ?_|refine jm ?_|refine jn ?_|refine jo ?_|refine jp ?_|refine jq ?_|refine jr ?_|refine js ?_|refine jt ?_|refine ju ?_|refine jv ?_|refine jw ?_|refine jx ?_|refine jy ?_|refine jz ?_|refine jA ?_|refine jB ?_|refine jC ?_|refine jD ?_|refine jE ?_|refine jF ?_|refine jG ?_|refine jH ?_|refine jI ?_|refine jJ ?_|refine jK ?_|refine jL ?_|refine jM (by assumption) ?_|refine jN (by assumption) rfl ?_|refine jO (by assumption) ?_|refine jP (by assumption) rfl ?_|refine jQ ?_|refine jR ?_|refine jS ?_|refine jT ?_|refine jU (by assumption) rfl ?_))
        refine M.call_i (clip3_ret hcB) ?_; rintro _ w5 ⟨rfl, rfl⟩
        (repeat (first|refine ja ?_|refine jb ?_|refine jc ?_|refine jd ?_|refine je ?_|refine jf ?_|refine jg ?_|refine jh ?_|refine ji ?_|refine jj ?_|refine jk ?_|refine jl ?_|refine jm ?_|refine jn ?_|refine jo ?_|refine jp ?_|refine jq ?_|refine jr ?_|refine js ?_|refine jt ?_|refine ju ?_|refine jv ?_|refine jw ?_|refine jx ?_|refine jy ?_|refine jz ?_|refine jA ?_|refine jB ?_|refine jC ?_|refine jD ?_|refine jE ?_|refine jF ?_|refine jG ?_|refine jH ?_|refine jI ?_|refine jJ ?_|refine jK ?_|refine jL ?_|refine jM (by assumption) ?_|refine jN (by assumption) rfl ?_|refine jO (by assumption) ?_|refine jP (by assumption) rfl ?_|refine jQ ?_|refine jR ?_|refine jS ?_|refine jT ?_|refine jU (by assumption) rfl ?_))
        refine fin w6 w6 _ _ k6 b6 _ (fun v' w7 g7 k7 => ?_)
        have k47 := k6.trans k7 (fun _ _ h => h)
        have q6 := k6.size
        obtain ⟨f1, f2, f3, f4, f5⟩ := fact w7 k47
        repeat (first | refine M.st_i f2 ?_ | refine M.st_i f3 ?_ | refine M.st_i f4 ?_ | refine M.st_i f5 ?_)
        exact done v' w7 (g7.mono (fun x hx hl => by have hl : w6.heap.size ≤ x := hl; show w4.heap.size ≤ x; omega)) k47
theorem write_clo {q : Nat} (hsv : sv = s.vals c a b d) (hB : Bnd s) (hR : RegsOk i) : Clo (.func (.func 61) #[] #[ptr q]) p pb most s sv i inputs mw q s.dev.disk.length (s.write i mw) := by
  intro k w F N ov outs e kt hk h hq hqf hkt
  refine M.callv_i (fun _ _ => rfl) (write1_ret h hsv hB hR hq hk) ?_
  rintro v w' ⟨h', k'⟩
  refine hkt _ _ h' ?_ k'
  unfold Sy.write
  split <;> exact hB.conds
theorem write37_ret (h : Stp w F p pb N most s sv i inputs mw ov [] e) (hsv : sv = s.vals c a b d) (hB : Bnd s) (hR : RegsOk i) :
    Ret Try.prog 37 #[ptr pb] w (Adds w F p pb most s sv i inputs mw ov (eachP most N e s (s.reg i.a) s.dev.disk.length 258 (s.write i mw))) := by
  refine ok37 _ _ _ ?_
  unfold sh37
  refine M.new_i (l := [ptr pb]) (fun w1 b1 k1 s1 => ?_)
  have kd := Keep.drew w1 No
  have k0d := k1.trans kd (fun _ _ h => h)
  have hd := h.keepN k0d
  have b1d := b1.keep kd (fun h => h)
  have hqc : w1.drew.cell? ⟨w.heap.size, 0, none⟩ = some (ptr pb) := b1d.cell rfl
  have hqf : Fr F pb ov w.heap.size := h.fresh (Nat.le_refl _)
  have hcc := hd.ca hsv
  have hcA := hd.cA
  obtain ⟨A, cc, ec, hr, _⟩ := (hd.lists hsv).2.1.1
  (repeat (first|refine ja ?_|refine jb ?_|refine jc ?_|refine jd ?_|refine je ?_|refine jf ?_|refine jg ?_|refine jh ?_|refine ji ?_|refine jj ?_|refine jk ?_|refine jl ?_|refine jm ?_|refine jn ?_|refine jo ?_|refine jp ?_|refine jq ?_|refine jr ?_|refine js ?_|refine jt ?_|refine ju ?_|refine jv ?_|refine jw ?_|refine jx ?_|refine jy ?_|refine jz ?_|refine jA ?_|refine jB ?_|refine jC ?_|refine jD ?_|refine jE ?_|refine jF ?_|refine jG ?_|refine jH ?_|refine jI ?_|refine jJ ?_|refine jK ?_|refine jL ?_|refine jM (by assumption) ?_|refine jN (by assumption) rfl ?_|refine jO (by assumption) ?_|refine jP (by assumption) rfl ?_|refine jQ ?_|refine jR ?_|refine jS ?_|refine jT ?_|refine jU (by assumption) rfl ?_))
  rw [ec]
  (repeat (first|refine ja ?_|refine jb ?_|refine jc ?_|refine jd ?_|refine je ?_|refine jf ?_|refine jg ?_|refine jh ?_|refine ji ?_|refine jj ?_|refine jk ?_|refine jl ?_|refine jm ?_|refine jn ?_|refine jo ?_|refine jp ?_|refine jq ?_|refine jr ?_|refine js ?_|refine jt ?_|refine ju ?_|refine jv ?_|refine jw ?_|refine jx ?_|refine jy ?_|refine jz ?_|refine jA ?_|refine jB ?_|refine jC ?_|refine jD ?_|refine jE ?_|refine jF ?_|refine jG ?_|refine jH ?_|refine jI ?_|refine jJ ?_|refine jK ?_|refine jL ?_|refine jM (by assumption) ?_|refine jN (by assumption) rfl ?_|refine jO (by assumption) ?_|refine jP (by assumption) rfl ?_|refine jQ ?_|refine jR ?_|refine jS ?_|refine jT ?_|refine jU (by assumption) rfl ?_))
  refine M.call_i (each37_ret hd hsv b1d hqf (write_clo hsv hB hR) hR.1.1 hR.1.2 hB.disk hB.conds) ?_
  rintro _ w2 ⟨rfl, F2, ov2, h2, m2⟩
  have hcc2 := h2.ca hsv
  rw [ec] at hcc2
  have hqc2 : w2.cell? ⟨w.heap.size, 0, none⟩ = some (ptr pb) := (Blk.mv m2 b1d hqf).1.cell rfl
  (repeat (first|refine ja ?_|refine jb ?_|refine jc ?_|refine jd ?_|refine je ?_|refine jf ?_|refine jg ?_|refine jh ?_|refine ji ?_|refine jj ?_|refine jk ?_|refine jl ?_|refine jm ?_|refine jn ?_|refine jo ?_|refine jp ?_|refine jq ?_|refine jr ?_|refine js ?_|refine jt ?_|refine ju ?_|refine jv ?_|refine jw ?_|refine jx ?_|refine jy ?_|refine jz ?_|refine jA ?_|refine jB ?_|refine jC ?_|refine jD ?_|refine jE ?_|refine jF ?_|refine jG ?_|refine jH ?_|refine jI ?_|refine jJ ?_|refine jK ?_|refine jL ?_|refine jM (by assumption) ?_|refine jN (by assumption) rfl ?_|refine jO (by assumption) ?_|refine jP (by assumption) rfl ?_|refine jQ ?_|refine jR ?_|refine jS ?_|refine jT ?_|refine jU (by assumption) rfl ?_))
  exact ⟨rfl, F2, ov2, h2, (Mv.none k0d).trans m2⟩
end
end Go.Proofs.Ytanjlgafjgoaaaa
