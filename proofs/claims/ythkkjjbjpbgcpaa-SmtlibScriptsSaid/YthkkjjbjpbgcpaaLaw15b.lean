import Derived.Test.YthkkjjbjpbgcpaaLaw15
import Derived.Test.YthkkjjbjpbgcpaaLnGw
namespace Go.Proofs.Ythkkjjbjpbgcpaa
open Go.Mw Go.Maps Go.MapKept
set_option linter.unusedVariables false
set_option linter.unusedSimpArgs false
set_option maxRecDepth 100000
attribute [local irreducible] M.val M.unit M.next M.pick M.new M.nilCheck M.load1 M.loadA M.store M.fieldAddr M.indexSl M.indexArr M.slice M.makeSlice M.buildSlice M.len M.lenS M.cap M.append M.extract M.conv M.not M.neg M.bin M.shift M.eqB M.eqNil M.scat M.call M.callv M.gd M.share M.cond M.loop M.draw pureW readW Ret
theorem M.stN_i {w : World} {b o : Nat} {n : Nd} {X : Prop} (hc : ∀ (j : Nat) v, n.cells[j]? = some v → w.cell? ⟨b, o + j, none⟩ = some v) (h : X) : M.loadA 6 (.pointer (some ⟨b, o, none⟩)) (fun v' _ => v' = encN n) w ∧ X := ⟨M.loadN_i hc rfl, h⟩
set_option maxHeartbeats 2000000 in
theorem build_ret {w : World} {D : Nat → Prop} {lv : Value} {l : List Nd} (hl : LN Nd.cells w D lv l) (hf : l.length ≤ 1000000) (most : Int) :
    Ret Try.prog 6 #[vi most, lv] w (fun r w' => ∃ F p v N, r = .tuple #[ptr p, v] ∧ DagO w' F p N (if most < 0 ∨ 65536 < most then 0 else most) ∧ RD w' (fun b => ¬ F b) v N (if most < 0 ∨ 65536 < most then 0 else most) ∧ (∀ b, F b → w.heap.size ≤ b) ∧ Keep w w' No) := by
  have hl := hl.mono (D' := fun b => b < w.heap.size) (fun b hb _ => hb)
  obtain ⟨A, c, rfl, hr, _⟩ := hl
  refine ok6 _ _ _ _ ?_
  unfold sh6
  refine M.new_i (l := [.slice none 0 0, vi 0]) (fun w1 b1 k1 s1 => ?_)
  refine M.call_i (new_ret most w1) ?_; rintro _ w2 ⟨F, p, rfl, hd, hF, k2⟩
  refine M.call_i (rnew_ret (D := No) most w2) ?_; rintro dv w3 ⟨hr3, k3⟩
  have hFlt : ∀ b, F b → b < w2.heap.size := fun b hb => hd.lt hb
  generalize (if most < 0 ∨ 65536 < most then 0 else most) = mo at hd hr3
  have hd := hd.keepN k3
  obtain ⟨A3, c3, rfl, _⟩ := id hr3
  refine M.new_i (l := [.slice none 0 0, vi 0]) (fun w4 b4 k4 s4 => ?_)
  refine M.storeAll_i b4 rfl rfl (List.all_eq_true.1 rfl) (fun w5 b5 k5 s5 => ?_)
  have k35 : Keep w3 w5 No := k4.trans k5 (fun b hb h => by omega)
  have b1 := ((b1.keep k2 (fun h => h)).keep k3 (fun h => h)).keep k35 (fun h => h)
  have hd := hd.keepN k35
  have hr3 := hr3.keep k35 (fun _ _ _ h => h)
  have k05 := ((k1.trans k2 (fun _ _ h => h)).trans k3 (fun _ _ h => h)).trans k35 (fun _ _ h => h)
  have q2 := k2.size; have q3 := k3.size
  (repeat (first|refine ja ?_|refine jb ?_|refine jc ?_|refine jd ?_|refine je ?_|refine jf ?_|refine jg ?_|refine jh ?_|refine ji ?_|refine jj ?_|refine jk ?_|refine jl ?_|refine jm ?_|refine jn ?_|refine jo ?_|refine jp ?_|refine jq ?_|refine jr ?_|refine js ?_|refine jt ?_|refine ju ?_|refine jv ?_|refine jw ?_|refine jx ?_|refine jy ?_|refine jz ?_|refine jA ?_|refine jB ?_|refine jC ?_|refine jD ?_|refine jE ?_|refine jF ?_|refine jG ?_|refine jH ?_|refine jI ?_|refine jJ ?_|refine jK ?_|refine jL ?_|refine jM (by assumption) ?_|refine jN (by assumption) rfl ?_|refine jO (by assumption) ?_|refine jP (by assumption) rfl ?_|refine jQ ?_|refine jR ?_|refine jS ?_|refine jT ?_|refine jU (by assumption) rfl ?_))
  refine M.loop_i (σ := Nat) (fun m vals w' => ∃ (i : Nat) (N : List Nd) (F' : Nat → Prop) (X : Option Addr) (xc : Nat), m = l.length - i ∧ i ≤ l.length ∧ vals = [vi i] ∧ DagO w' F' p N mo ∧ RD w' (fun b => ¬ F' b ∧ b ≠ w.heap.size ∧ b ≠ w3.heap.size) (.agg ⟨[.slice X N.length xc, vi mo]⟩) N mo ∧ (∀ b, b < w5.heap.size → F' b → F b) ∧ Blk w' w.heap.size [.slice none 0 0, vi 0] ∧ Blk w' w3.heap.size [.slice X N.length xc, vi mo] ∧ Keep w5 w' (fun b => F b ∨ b = w3.heap.size)) id l.length
    ⟨0, [], F, A3, c3, by omega, by omega, rfl, hd, hr3.mono (fun b _ h => h.elim), fun _ _ h => h, b1, b5, Keep.refl _ _⟩ ?_
  rintro m vals w6 K ⟨i, N, F6, X, xc, rfl, hi, rfl, h6, r6, hF6, b1, b5, k6⟩ hK _
  simp only [List.getD_cons_zero, List.getD_cons_succ]
  have q6 := k6.size
  have nF : ∀ b, b < w1.heap.size → ¬ F b := fun b hb h => by have := hF b h; omega
  have nF3 : ¬ F w3.heap.size := fun h => by have := hFlt _ h; omega
  have nF6 : ∀ b, b < w1.heap.size → ¬ F6 b := fun b hb h => nF b hb (hF6 b (by omega) h)
  have nF63 : ¬ F6 w3.heap.size := fun h => nF3 (hF6 _ (by omega) h)
  have k06 : Keep w w6 No := k05.trans k6 (fun b hb h => by rcases h with h | h; exact nF b (by omega) h; omega)
  have hr6 := hr.keep k06 (fun _ _ _ h => h)
  by_cases hlt : i < l.length
  · obtain ⟨x, hx⟩ : ∃ x, l[i]? = some x := ⟨_, List.getElem?_eq_getElem hlt⟩
    (repeat (first|refine ja ?_|refine jb ?_|refine jc ?_|refine jd ?_|refine je ?_|refine jf ?_|refine jg ?_|refine jh ?_|refine ji ?_|refine jj ?_|refine jk ?_|refine jl ?_|refine jm ?_|refine jn ?_|refine jo ?_|refine jp ?_|refine jq ?_|refine jr ?_|refine js ?_|refine jt ?_|refine ju ?_|refine jv ?_|refine jw ?_|refine jx ?_|refine jy ?_|refine jz ?_|refine jA ?_|refine jB ?_|refine jC ?_|refine jD ?_|refine jE ?_|refine jF ?_|refine jG ?_|refine jH ?_|refine jI ?_|refine jJ ?_|refine jK ?_|refine jL ?_|refine jM (by assumption) ?_|refine jN (by assumption) rfl ?_|refine jO (by assumption) ?_|refine jP (by assumption) rfl ?_|refine jQ ?_|refine jR ?_|refine jS ?_|refine jT ?_|refine jU (by assumption) rfl ?_))
    refine M.idxN_i hr6 rfl (by omega) (n := x) (by simpa using hx) (fun bb oo hc => ?_)
    refine M.loadN_i hc ?_
    refine M.call_i (made_ret h6 x) ?_; rintro _ w7 ⟨F7, rfl, h7, hF7, k7⟩
    refine M.extract_i (v := vi (askN mo N x).2.1) rfl ?_
    refine M.extract_i (v := vi (askN mo N x).2.2) rfl ?_
    have q7 := k7.size
    have hNl := h6.len.1
    have hg6 := h6.good
    have b1 := b1.keep k7 (nF6 _ (by omega))
    have b5 := b5.keep k7 nF63
    have k07 : Keep w w7 No := k06.trans k7 (fun b hb h => nF6 b (by omega) h)
    have nF7 : ∀ b, b < w1.heap.size → ¬ F7 b := fun b hb h => nF6 b hb (hF7 b (by omega) h)
    have nF73 : ¬ F7 w3.heap.size := fun h => nF63 (hF7 _ (by omega) h)
    have r7 : RD w7 (fun b => ¬ F7 b ∧ b ≠ w.heap.size ∧ b ≠ w3.heap.size) (.agg ⟨[.slice X N.length xc, vi mo]⟩) N mo :=
      (RD.keep (RD.mono (D' := fun b => ¬ F6 b ∧ ¬ F7 b ∧ b ≠ w.heap.size ∧ b ≠ w3.heap.size) r6 (fun b hb h => ⟨h.1, fun e => h.1 (hF7 b hb e), h.2⟩)) k7 (fun b _ h e => h.1 e)).mono (fun b _ h => h.2)
    have hr7 := hr.keep k07 (fun _ _ _ h => h)
    refine M.share_j (fun vals w' => ∃ pn Y yc, vals = [ptr pn, vi (askN mo N x).2.1, vi (askN mo N x).2.2] ∧ w7.heap.size ≤ pn ∧ Blk w' pn [.slice Y (askN mo N x).1.length yc, vi mo] ∧ RD w' (fun b => ¬ F7 b ∧ b ≠ w.heap.size ∧ b ≠ w3.heap.size) (.agg ⟨[.slice Y (askN mo N x).1.length yc, vi mo]⟩) (askN mo N x).1 mo ∧ Keep w7 w' No) ?_ ?_
    · rintro vals w8 ⟨pn, Y, yc, rfl, hpn, bn, r8, k8⟩ _
      simp only [List.getD_cons_zero, List.getD_cons_succ]
      have b1 := b1.keep k8 (fun h => h)
      have b5 := b5.keep k8 (fun h => h)
      refine M.loadAll_i bn rfl ?_
      refine M.storeAll_i b5 rfl rfl (List.all_eq_true.1 rfl) (fun w9 b9 k9 s9 => ?_)
      have h9 := (h7.keepN k8).keep k9 (fun b hb h => nF73 (h ▸ hb))
      have b1 := b1.keep k9 (fun h => by omega)
      have r9 := r8.keep k9 (fun b _ h e => h.2.2 e)
      have q8 := k8.size
      have kd := Keep.drew w9 No
      have b9 := b9.keep kd (fun h => h)
      refine M.draw_i ?_
      (repeat (first|refine ja ?_|refine jb ?_|refine jc ?_|refine jd ?_|refine je ?_|refine jf ?_|refine jg ?_|refine jh ?_|refine ji ?_|refine jj ?_|refine jk ?_|refine jl ?_|refine jm ?_|refine jn ?_|refine jo ?_|refine jp ?_|refine jq ?_|refine jr ?_|refine js ?_|refine jt ?_|refine ju ?_|refine jv ?_|refine jw ?_|refine jx ?_|refine jy ?_|refine jz ?_|refine jA ?_|refine jB ?_|refine jC ?_|refine jD ?_|refine jE ?_|refine jF ?_|refine jG ?_|refine jH ?_|refine jI ?_|refine jJ ?_|refine jK ?_|refine jL ?_|refine jM (by assumption) ?_|refine jN (by assumption) rfl ?_|refine jO (by assumption) ?_|refine jP (by assumption) rfl ?_|refine jQ ?_|refine jR ?_|refine jS ?_|refine jT ?_|refine jU (by assumption) rfl ?_))
      refine M.call_i ((h9.keepN kd).dlen) ?_; rintro _ w10 ⟨rfl, rfl⟩
      (repeat (first|refine ja ?_|refine jb ?_|refine jc ?_|refine jd ?_|refine je ?_|refine jf ?_|refine jg ?_|refine jh ?_|refine ji ?_|refine jj ?_|refine jk ?_|refine jl ?_|refine jm ?_|refine jn ?_|refine jo ?_|refine jp ?_|refine jq ?_|refine jr ?_|refine js ?_|refine jt ?_|refine ju ?_|refine jv ?_|refine jw ?_|refine jx ?_|refine jy ?_|refine jz ?_|refine jA ?_|refine jB ?_|refine jC ?_|refine jD ?_|refine jE ?_|refine jF ?_|refine jG ?_|refine jH ?_|refine jI ?_|refine jJ ?_|refine jK ?_|refine jL ?_|refine jM (by assumption) ?_|refine jN (by assumption) rfl ?_|refine jO (by assumption) ?_|refine jP (by assumption) rfl ?_|refine jQ ?_|refine jR ?_|refine jS ?_|refine jT ?_|refine jU (by assumption) rfl ?_))
      refine hK (l.length - (i + 1)) _ _ (by show l.length - (i + 1) < l.length - i; omega) ⟨i + 1, (askN mo N x).1, F7, Y, yc, rfl, by omega, rfl, h9.keepN kd, r9.keep kd (fun _ _ _ h => h), fun b hb h => hF6 b hb (hF7 b (by omega) h), b1.keep kd (fun h => h), b9, ?_⟩
      exact (((k6.trans k7 (fun b hb h => .inl (hF6 b hb h))).trans k8 (fun _ _ h => h.elim)).trans k9 (fun b hb h => .inr h)).trans kd (fun _ _ h => h.elim)
    · intro K2 hK2
      refine M.draw_i ?_
      have kd := Keep.drew w7 No
      have b5 := b5.keep kd (fun h => h)
      have r8 := r7.keep kd (fun _ _ _ h => h)
      have hr8 := hr7.keep kd (fun _ _ _ h => h)
      have h8 := h7.keepN kd
      have e3 : w7.drew.heap.size = w7.heap.size := rfl
      revert kd b5 r8 hr8 h8 e3
      generalize w7.drew = w8
      intro kd b5 r8 hr8 h8 e3
      refine M.loadAll_i b5 rfl ?_
      refine M.idxN_i hr8 rfl (by omega) (n := x) (by simpa using hx) (fun bb oo hc => ?_)
      refine M.loadN_i hc ?_
      refine ⟨?_, ?_⟩
      · refine M.call_i (meant_ret r8 (by omega) hg6 x) ?_; rintro _ w9 ⟨d9, rfl, r9, k9⟩
        obtain ⟨Y, yc, rfl, _⟩ := id r9
        have q9 := k9.size
        refine M.extract_i (v := .agg ⟨[.slice Y (askN mo N x).1.length yc, vi mo]⟩) rfl ?_
        refine M.extract_i (v := vi (askN mo N x).2.1) rfl ?_
        refine M.extract_i (v := vi (askN mo N x).2.2) rfl ?_
        refine M.new_i (l := [.slice none 0 0, vi 0]) (fun w10 b10 k10 s10 => ?_)
        refine M.storeAll_i b10 rfl rfl (List.all_eq_true.1 rfl) (fun w11 b11 k11 s11 => ?_)
        have k911 : Keep w9 w11 No := k10.trans k11 (fun b hb h => by omega)
        refine hK2 _ _ ⟨_, Y, yc, rfl, by omega, b11, ?_, (kd.trans k9 (fun _ _ h => h)).trans k911 (fun _ _ h => h)⟩
        refine (r9.mono (fun b hb h => ?_)).keep k911 (fun _ _ _ h => h)
        rcases h with h | h
        · exact h
        · exact ⟨fun e => by have := h8.lt e; omega, by have := k06.size; omega, by omega⟩
      · refine M.new_i (l := [.slice none 0 0, vi 0]) (fun w9 b9 k9 s9 => ?_)
        have b5 := b5.keep k9 (fun h => h)
        refine M.stN_i (fun j v hv => k9.cell (fun h => h) (hc j v hv)) ?_
        refine M.stAll_i b5 rfl ?_
        have r9 := (r8.mono (D' := fun b => (¬ F7 b ∧ b ≠ w.heap.size ∧ b ≠ w3.heap.size) ∧ b < w8.heap.size) (fun b hb h => ⟨h, hb⟩)).keep k9 (fun _ _ _ h => h)
        refine M.call_i (meant_ret r9 (by omega) hg6 x) ?_; rintro _ w10 ⟨d10, rfl, r10, k10⟩
        obtain ⟨Y, yc, rfl, _⟩ := id r10
        have q10 := k10.size
        refine M.extract_i (v := .agg ⟨[.slice Y (askN mo N x).1.length yc, vi mo]⟩) rfl ?_
        refine M.extract_i (v := vi (askN mo N x).2.1) rfl ?_
        refine M.extract_i (v := vi (askN mo N x).2.2) rfl ?_
        have b9 := b9.keep k10 (fun h => h)
        refine M.storeAll_i b9 rfl rfl (List.all_eq_true.1 rfl) (fun w11 b11 k11 s11 => ?_)
        refine hK2 _ _ ⟨_, Y, yc, rfl, by omega, b11, ?_, ((kd.trans k9 (fun _ _ h => h)).trans k10 (fun _ _ h => h)).trans k11 (fun b hb h => by omega)⟩
        refine (r10.keep k11 (fun b _ h e => by rcases h with h | h; have := h.2; omega; omega)).mono (fun b hb h => ?_)
        rcases h with h | h
        · exact h.1
        · exact ⟨fun e => by have := h8.lt e; omega, by have := k06.size; omega, by omega⟩
  · (repeat (first|refine ja ?_|refine jb ?_|refine jc ?_|refine jd ?_|refine je ?_|refine jf ?_|refine jg ?_|refine jh ?_|refine ji ?_|refine jj ?_|refine jk ?_|refine jl ?_|refine jm ?_|refine jn ?_|refine jo ?_|refine jp ?_|refine jq ?_|refine jr ?_|refine js ?_|refine jt ?_|refine ju ?_|refine jv ?_|refine jw ?_|refine jx ?_|refine jy ?_|refine jz ?_|refine jA ?_|refine jB ?_|refine jC ?_|refine jD ?_|refine jE ?_|refine jF ?_|refine jG ?_|refine jH ?_|refine jI ?_|refine jJ ?_|refine jK ?_|refine jL ?_|refine jM (by assumption) ?_|refine jN (by assumption) rfl ?_|refine jO (by assumption) ?_|refine jP (by assumption) rfl ?_|refine jQ ?_|refine jR ?_|refine jS ?_|refine jT ?_|refine jU (by assumption) rfl ?_))
    have kd := Keep.drew w6 No
    have b1 := b1.keep kd (fun h => h)
    have b5 := b5.keep kd (fun h => h)
    refine M.loadAll_i b5 rfl ?_
    refine M.storeAll_i b1 rfl rfl (List.all_eq_true.1 rfl) (fun w7 b7 k7 s7 => ?_)
    refine M.loadAll_i b7 rfl ?_
    refine ⟨F6, p, _, N, rfl, (h6.keepN kd).keep k7 (fun b hb h => nF6 w.heap.size (by omega) (h ▸ hb)), ((r6.keep kd (fun _ _ _ h => h)).keep k7 (fun b _ h e => h.2.1 e)).mono (fun b _ h => h.1), fun b h => ?_, (k06.trans kd (fun _ _ h => h)).trans k7 (fun b hb h => by omega)⟩
    by_cases hb : b < w5.heap.size
    · have := hF b (hF6 b hb h); omega
    · have := k05.size; omega
end Go.Proofs.Ythkkjjbjpbgcpaa
