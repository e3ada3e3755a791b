import Derived.Test.YthkkjjbjpbgcpaaSmt54h
import Derived.Test.YthkkjjbjpbgcpaaSmt54q
namespace Go.Proofs.Ythkkjjbjpbgcpaa
open Go.Mw Go.Lib
set_option linter.unusedVariables false
set_option linter.unusedSimpArgs false
set_option maxRecDepth 100000
attribute [local irreducible] M.val M.unit M.next M.pick M.new M.nilCheck M.load1 M.loadA M.store M.fieldAddr M.indexSl M.indexArr M.slice M.makeSlice M.buildSlice M.len M.lenS M.cap M.append M.extract M.conv M.not M.neg M.bin M.shift M.eqB M.eqNil M.scat M.call M.callv M.gd M.share M.cond M.loop M.draw pureW readW Ret
/-! breakwater/breakwaterref54.Term: function 8 -/
def sh8 (x0 x1 : Value) (R : Kt) (w : World) : Prop :=
  M.new 27 (Value.cells x0) (fun t2 w =>
  M.loadA 2 t2 (fun t11 w =>
  M.call Try.prog 25 #[t11, x1] (fun t13 w =>
  M.not t13 (fun t14 w =>
  M.cond t14
  (R (.tuple #[(Value.string { data := #[] }), (Value.int IntKind.i64 11)]) w)
  (M.loop [(Value.slice none 0 0), (Value.slice none 0 0), (Value.int IntKind.i64 0)] (fun s1 K1 w => ∀ _ : List Value,
  M.bin .leq (s1.getD 2 undef) x1 (fun t17 w =>
  M.cond t17
  (M.fieldAddr 0 t2 (fun t20 w =>
  M.load1 t20 (fun t21 w =>
  M.indexSl 6 t21 (s1.getD 2 undef) (fun t23 w =>
  M.loadA 6 t23 (fun t24 w =>
  M.call Try.prog 26 #[t24, (s1.getD 1 undef)] (fun t26 w =>
  M.share (fun K2 w =>
  M.cond t26
  (M.draw (fun w =>
  M.loadA 2 t2 (fun t28 w =>
  M.fieldAddr 0 t2 (fun t29 w =>
  M.load1 t29 (fun t30 w =>
  M.indexSl 6 t30 (s1.getD 2 undef) (fun t32 w =>
  M.loadA 6 t32 (fun t33 w =>
  M.call Try.prog 27 #[t28, t33, (s1.getD 0 undef)] (fun t35 w =>
  ((M.load1 t29 (fun v' _ => v' = t30) w) ∧ K2 [t35] w)) w) w) w) w) w) w) w)
  (K2 [(Value.string { data := #[] })] w)) (fun s2 w => ∀ _ : List Value,
  M.gd t26 true (fun k w => k (s2.getD 0 undef) w) (fun t38 w =>
  M.gd t26 true (fun k w => M.lenS t38 k w) (fun t39 w =>
  M.gd t26 true (fun k w => M.bin .leq t39 (Value.int IntKind.i64 4096) k w) (fun t40 w =>
  M.pick t26 t40 (Value.bool false) (fun t41 w =>
  M.share (fun K3 w =>
  M.not t41 (fun t43 w =>
  M.cond t43
  (K3 [(Value.string { data := #[] })] w)
  (K3 [(s2.getD 0 undef)] w)) w) (fun s3 w => ∀ _ : List Value,
  M.buildSlice 9 1 #[.string ByteArray.empty] 1 [(0, (s3.getD 0 undef))] (fun t46 w =>
  M.append 9 1 16 #[.string ByteArray.empty] (s1.getD 0 undef) t46 (fun t47 w =>
  M.buildSlice 4 1 #[.bool false] 1 [(0, t41)] (fun t50 w =>
  M.append 4 1 1 #[.bool false] (s1.getD 1 undef) t50 (fun t51 w =>
  M.bin .add (s1.getD 2 undef) (Value.int IntKind.i64 1) (fun t19 w =>
  K1 [t47, t51, t19] w) w) w) w) w) w) w) w) w) w) w) w) w) w) w) w) w)
  (M.indexSl 1 (s1.getD 1 undef) x1 (fun t54 w =>
  M.load1 t54 (fun t55 w =>
  M.not t55 (fun t56 w =>
  M.cond t56
  (R (.tuple #[(Value.string { data := #[] }), (Value.int IntKind.i64 8)]) w)
  (M.indexSl 1 (s1.getD 0 undef) x1 (fun t59 w =>
  M.load1 t59 (fun t60 w =>
  R (.tuple #[t60, (Value.int IntKind.i64 0)]) w) w) w)) w) w) w)) w) w)) w) w) w) w
theorem ok8 (x0 x1 : Value) (R : Kt) (w : World) (h : sh8 x0 x1 R w) : Ret Try.prog 8 #[x0, x1] w R :=
  ret_mk <| calls_of_comp mixed (c := Try.f8.body.getD .skip) (args := [x0, x1]) (rs := [(ResultVar.tmp 4), (ResultVar.tmp 5)]) (Ann.seq Ann.text (Ann.seq (Ann.seq Ann.text (Ann.cond (Ann.seq Ann.text Ann.leaf) Ann.leaf)) (Ann.seq Ann.text (Ann.seq Ann.text (Ann.seq (Ann.seq Ann.text (Ann.block (Ann.loop [6, 7, 8] [9, 10, 15, 16, 17, 18, 19, 20, 21, 22, 23, 24, 25, 26, 27, 28, 29, 30, 31, 32, 33, 34, 35, 36, 37, 38, 39, 40, 41, 42, 43, 44, 45, 46, 47, 48, 49, 50, 51] (Ann.seq (Ann.seq Ann.text (Ann.cond Ann.leaf Ann.leaf)) (Ann.seq (Ann.block (Ann.seq Ann.text (Ann.seq Ann.text (Ann.join [9] [27, 28, 29, 30, 31, 32, 33, 34, 35] (Ann.seq Ann.text (Ann.cond (Ann.draw (Sch.take 0 (Sch.take 1 (Sch.take 2 (Sch.take 3 (Sch.take 4 (Sch.take 5 (Sch.take 6 (Sch.one 7 (Sch.take 8 Sch.done)))))))))) Ann.leaf)) (Ann.seq Ann.text (Ann.join [9] [42, 43] (Ann.seq Ann.text (Ann.cond Ann.text Ann.leaf)) (Ann.seq Ann.text Ann.text))))))) Ann.text))))) (Ann.seq (Ann.seq Ann.text (Ann.cond (Ann.seq Ann.text Ann.leaf) Ann.leaf)) (Ann.seq Ann.text Ann.leaf)))))))
    Try.func8 (by kernel_rfl) (by kernel_rfl)
    (Eq.mp (by kernel_rfl) h)

set_option maxHeartbeats 8000000 in
theorem rterm_ret {w : World} {D : Nat → Prop} {N : List Nd} {most : Int} {x0 : Value} (hd : RD w D x0 N most) (hG : GoodN N) (hN : N.length ≤ 100000) (id : Int) :
    Ret Try.prog 8 #[x0, vi id] w (fun r w' => r = .tuple #[vs (smtN N id).1, vi (smtN N id).2] ∧ Keep w w' No) := by
  have hd := hd.mono (D' := fun b => b < w.heap.size) (fun b hb _ => hb)
  obtain ⟨A, c, rfl, hr⟩ := _root_.id hd
  refine ok8 _ _ _ _ ?_
  unfold sh8
  refine M.new_i (l := [.slice A N.length c, vi most]) (fun w1 b1 k1 s1 => ?_)
  refine M.loadAll_i b1 rfl ?_
  refine M.call_i (ris_ret (hd.keep k1 (fun _ _ _ h => h)) id) ?_; rintro _ w2 ⟨rfl, k2⟩
  have b2 := b1.keep k2 (fun h => h)
  have k02 := k1.trans k2 (fun _ _ h => h)
  have q2 := k2.size
  cases hid : isN N id with
  | false =>
    (repeat (first|refine ja ?_|refine jb ?_|refine jc ?_|refine jd ?_|refine je ?_|refine jf ?_|refine jg ?_|refine jh ?_|refine ji ?_|refine jj ?_|refine jk ?_|refine jl ?_|refine jm ?_|refine jn ?_|refine jo ?_|refine jp ?_|refine jq ?_|refine jr ?_|refine js ?_|refine jt ?_|refine ju ?_|refine jv ?_|refine jw ?_|refine jx ?_|refine jy ?_|refine jz ?_|refine jA ?_|refine jB ?_|refine jC ?_|refine jD ?_|refine jE ?_|refine jF ?_|refine jG ?_|refine jH ?_|refine jI ?_|refine jJ ?_|refine jK ?_|refine jL ?_|refine jM (by assumption) ?_|refine jN (by assumption) rfl ?_|refine jO (by assumption) ?_|refine jP (by assumption) rfl ?_|refine jQ ?_|refine jR ?_|refine jS ?_|refine jT ?_|refine jU (by assumption) rfl ?_))
    exact ⟨by unfold smtN; rw [if_pos hid], k02⟩
  | true =>
    obtain ⟨m, n0, rfl, hn0⟩ := isN_get hid
    have hm := (List.getElem?_eq_some_iff.1 hn0).1
    (repeat (first|refine ja ?_|refine jb ?_|refine jc ?_|refine jd ?_|refine je ?_|refine jf ?_|refine jg ?_|refine jh ?_|refine ji ?_|refine jj ?_|refine jk ?_|refine jl ?_|refine jm ?_|refine jn ?_|refine jo ?_|refine jp ?_|refine jq ?_|refine jr ?_|refine js ?_|refine jt ?_|refine ju ?_|refine jv ?_|refine jw ?_|refine jx ?_|refine jy ?_|refine jz ?_|refine jA ?_|refine jB ?_|refine jC ?_|refine jD ?_|refine jE ?_|refine jF ?_|refine jG ?_|refine jH ?_|refine jI ?_|refine jJ ?_|refine jK ?_|refine jL ?_|refine jM (by assumption) ?_|refine jN (by assumption) rfl ?_|refine jO (by assumption) ?_|refine jP (by assumption) rfl ?_|refine jQ ?_|refine jR ?_|refine jS ?_|refine jT ?_|refine jU (by assumption) rfl ?_))
    refine M.loop_i (σ := Nat) (fun i vals w' => ∃ v1 v2, vals = [v1, v2, vi i] ∧ i ≤ m + 1 ∧ GC w' (fun b => w1.heap.size ≤ b) 1 v1 i ((tsL N i).map vs) ∧ GC w' (fun b => w1.heap.size ≤ b) 1 v2 i ((osL N i).map vb) ∧ (∀ b, blkOf v1 b → ¬ blkOf v2 b) ∧ Blk w' w.heap.size [.slice A N.length c, vi most] ∧ Keep w w' No) (fun i => m + 1 - i) 0
      ⟨_, _, rfl, by omega, GC.nil _ _ _, GC.nil _ _ _, fun b ⟨_, _, h⟩ => by simp at h, b2, k02⟩ ?_
    rintro i vals w3 K ⟨v1, v2, rfl, hi, g1, g2, hne, b3, k3⟩ hK _
    simp only [List.getD_cons_zero, List.getD_cons_succ]
    have hd3 := hd.keep k3 (fun _ _ _ h => h)
    have hr3 := hr.keep k3 (fun _ _ _ h => h)
    have hl2 : LV vb w3 (fun b => w1.heap.size ≤ b) v2 (osL N i) := by
      obtain ⟨A2, c2, e, h2, h3⟩ := GC.row2 g2 (by omega)
      exact ⟨A2, c2, by rw [osL_len]; exact e, h2, by rw [osL_len]; exact h3⟩
    have hl1 : LV vs w3 (fun b => w1.heap.size ≤ b) v1 (tsL N i) := by
      obtain ⟨A2, c2, e, h2, h3⟩ := GC.row2 g1 (by omega)
      exact ⟨A2, c2, by rw [tsL_len]; exact e, h2, by rw [tsL_len]; exact h3⟩
    by_cases hlt : i ≤ m
    · obtain ⟨n, hn⟩ : ∃ n, N[i]? = some n := ⟨_, List.getElem?_eq_getElem (by omega)⟩
      have hgn := hG i n hn
      have hk := kid_lt hG hn
      have hkd : ∀ k ∈ kidsN n, 0 ≤ k ∧ k < (osL N i).length := fun k h => by rw [osL_len]; exact hk k h
      have hkt : ∀ k ∈ kidsN n, 0 ≤ k ∧ k < (tsL N i).length := fun k h => by rw [tsL_len]; exact hk k h
      (repeat (first|refine ja ?_|refine jb ?_|refine jc ?_|refine jd ?_|refine je ?_|refine jf ?_|refine jg ?_|refine jh ?_|refine ji ?_|refine jj ?_|refine jk ?_|refine jl ?_|refine jm ?_|refine jn ?_|refine jo ?_|refine jp ?_|refine jq ?_|refine jr ?_|refine js ?_|refine jt ?_|refine ju ?_|refine jv ?_|refine jw ?_|refine jx ?_|refine jy ?_|refine jz ?_|refine jA ?_|refine jB ?_|refine jC ?_|refine jD ?_|refine jE ?_|refine jF ?_|refine jG ?_|refine jH ?_|refine jI ?_|refine jJ ?_|refine jK ?_|refine jL ?_|refine jM (by assumption) ?_|refine jN (by assumption) rfl ?_|refine jO (by assumption) ?_|refine jP (by assumption) rfl ?_|refine jQ ?_|refine jR ?_|refine jS ?_|refine jT ?_|refine jU (by assumption) rfl ?_))
      refine M.idxN_i hr3 rfl (by omega) (n := n) (by rw [Int.toNat_natCast]; exact hn) (fun bb oo hc => ?_)
      refine M.loadN_i hc ?_
      refine M.call_i (fits54_ret hgn hl2 hkd) ?_; rintro _ w4 ⟨rfl, k4⟩
      have b4 := b3.keep k4 (fun h => h)
      have g1 := g1.keep k4 (fun _ _ _ h => h)
      have g2 := g2.keep k4 (fun _ _ _ h => h)
      have hl1 := hl1.keep k4 (fun _ _ _ h => h)
      have hd4 := hd3.keep k4 (fun _ _ _ h => h)
      have hr4 := hr3.keep k4 (fun _ _ _ h => h)
      have k04 := k3.trans k4 (fun _ _ h => h)
      refine M.share_j (fun vals w' => ∃ o, vals = [vs o] ∧ (((kidsN n).all (fun k => (osL N i).getD k.toNat false)) = true → o = txtN N i) ∧ Keep w4 w' No) ?_ ?_
      · rintro vals w5 ⟨o, rfl, ho, k5⟩ _
        simp only [List.getD_cons_zero, List.getD_cons_succ]
        have b5 := b4.keep k5 (fun h => h)
        have g1 := g1.keep k5 (fun _ _ _ h => h)
        have g2 := g2.keep k5 (fun _ _ _ h => h)
        have k05 := k04.trans k5 (fun _ _ h => h)
        have hok : okT N i = (((kidsN n).all (fun k => (osL N i).getD k.toNat false)) && decide (o.length ≤ 4096)) := by
          cases hf : (kidsN n).all (fun k => (osL N i).getD k.toNat false) with
          | false => rw [fit_kids hG hn hf]; rfl
          | true => rw [ho hf]; rfl
        have fin : ∀ (t41 : Bool), t41 = okT N i → (t41 = true → o = txtN N i) → M.share (fun K3 w =>
            M.not (.bool t41) (fun t43 w => M.cond t43 (K3 [.string ⟨#[]⟩] w) (K3 [vs o] w)) w) (fun s3 w => ∀ _ : List Value,
            M.buildSlice 9 1 #[.string ByteArray.empty] 1 [(0, (s3.getD 0 undef))] (fun t46 w =>
            M.append 9 1 16 #[.string ByteArray.empty] v1 t46 (fun t47 w =>
            M.buildSlice 4 1 #[.bool false] 1 [(0, .bool t41)] (fun t50 w =>
            M.append 4 1 1 #[.bool false] v2 t50 (fun t51 w =>
            M.bin .add (vi (i : Nat)) (.int .i64 1) (fun t19 w => K [t47, t51, t19] w) w) w) w) w) w) w5 := by
          intro t41 h41 ht
          refine M.share_j (fun vals w' => vals = [vs (cutT N i)] ∧ w' = w5) ?_ ?_
          · rintro vals w6 ⟨rfl, rfl⟩ _
            simp only [List.getD_cons_zero, List.getD_cons_succ]
            refine M.buildSlice_i [vs (cutT N i)] (by kernel_rfl) (fun w7 b7 k7 s7 => ?_)
            have g1 := g1.keep k7 (fun _ _ _ h => h)
            have g2 := g2.keep k7 (fun _ _ _ h => h)
            have q5 := k05.size
            have g10 := g1; have g20 := g2
            refine M.append_i (GC.own g1) (Row.of_blk' (D := fun _ => True) b7 trivial) rfl (by simp; rfl) rfl (by omega) (by omega) (fun v3 w8 g3 k8 => ?_)
            have g2 := (GC.own g2).keep k8 (fun b _ h1 h2 => hne b h2 h1)
            have q7 := k7.size
            have q8 := k8.size
            refine M.buildSlice_i [.bool t41] (by kernel_rfl) (fun w9 b9 k9 s9 => ?_)
            have g3 := g3.keep k9 (fun _ _ _ h => h)
            have g2 := g2.keep k9 (fun _ _ _ h => h)
            have q9 := k9.size
            refine M.append_i g2 (Row.of_blk' (D := fun _ => True) b9 trivial) rfl (by simp; rfl) rfl (by omega) (by omega) (fun v4 w10 g4 k10 => ?_)
            have k610 : Keep w6 w10 (fun b => w1.heap.size ≤ b) := (((k7.mono (fun _ _ h => h.elim)).trans k8 (fun b _ h => (GC.blkOf g10 h).1)).trans k9 (fun _ _ h => h.elim)).trans k10 (fun b _ h => (GC.blkOf g20 h).1)
            have k010 : Keep w w10 No := k05.trans k610 (fun b hb h => by omega)
            have q6 : w1.heap.size ≤ w6.heap.size := by have := b5.lt; have := k05.size; omega
            (repeat (first|refine ja ?_|refine jb ?_|refine jc ?_|refine jd ?_|refine je ?_|refine jf ?_|refine jg ?_|refine jh ?_|refine ji ?_|refine jj ?_|refine jk ?_|refine jl ?_|refine jm ?_|refine jn ?_|refine jo ?_|refine jp ?_|refine jq ?_|refine jr ?_|refine js ?_|refine jt ?_|refine ju ?_|refine jv ?_|refine jw ?_|refine jx ?_|refine jy ?_|refine jz ?_|refine jA ?_|refine jB ?_|refine jC ?_|refine jD ?_|refine jE ?_|refine jF ?_|refine jG ?_|refine jH ?_|refine jI ?_|refine jJ ?_|refine jK ?_|refine jL ?_|refine jM (by assumption) ?_|refine jN (by assumption) rfl ?_|refine jO (by assumption) ?_|refine jP (by assumption) rfl ?_|refine jQ ?_|refine jR ?_|refine jS ?_|refine jT ?_|refine jU (by assumption) rfl ?_))
            refine hK (i + 1) _ _ (by omega) ⟨v3, v4, rfl, by omega, ?_, ?_, fun b h1 h2 => ?_, b5.keep k610 (by omega), k010⟩
            · rw [tsL_snoc, List.map_append]
              have := (g3.keep k10 (fun b hb h1 h2 => ?_)).mono (L' := fun b => w1.heap.size ≤ b) (fun b hb h => ?_)
              · exact this
              · rcases h1 with h1 | h1
                · exact hne b h1 h2
                · obtain ⟨_, l', hb'⟩ := GC.blkOf g20 h2
                  have := hb'.lt
                  omega
              · rcases h with h | h
                · exact (GC.blkOf g10 h).1
                · omega
            · rw [osL_snoc, List.map_append, ← h41]
              exact g4.mono (fun b hb h => by
                rcases h with h | h
                · exact (GC.blkOf g20 h).1
                · omega)
            · obtain ⟨h3, l3, e3⟩ := GC.blkOf g3 h1
              obtain ⟨h4, l4, e4⟩ := GC.blkOf g4 h2
              have lt3 := e3.lt
              rcases h3 with h3 | h3
              · rcases h4 with h4 | h4
                · exact hne b h3 h4
                · omega
              · rcases h4 with h4 | h4
                · obtain ⟨_, l', hb'⟩ := GC.blkOf g20 h4
                  have := hb'.lt
                  omega
                · omega
          · intro K3 hK3
            cases t41 with
            | false =>
              (repeat (first|refine ja ?_|refine jb ?_|refine jc ?_|refine jd ?_|refine je ?_|refine jf ?_|refine jg ?_|refine jh ?_|refine ji ?_|refine jj ?_|refine jk ?_|refine jl ?_|refine jm ?_|refine jn ?_|refine jo ?_|refine jp ?_|refine jq ?_|refine jr ?_|refine js ?_|refine jt ?_|refine ju ?_|refine jv ?_|refine jw ?_|refine jx ?_|refine jy ?_|refine jz ?_|refine jA ?_|refine jB ?_|refine jC ?_|refine jD ?_|refine jE ?_|refine jF ?_|refine jG ?_|refine jH ?_|refine jI ?_|refine jJ ?_|refine jK ?_|refine jL ?_|refine jM (by assumption) ?_|refine jN (by assumption) rfl ?_|refine jO (by assumption) ?_|refine jP (by assumption) rfl ?_|refine jQ ?_|refine jR ?_|refine jS ?_|refine jT ?_|refine jU (by assumption) rfl ?_))
              refine hK3 _ _ ⟨?_, rfl⟩
              unfold cutT
              rw [if_neg (by unfold okT at h41; simpa using h41.symm)]
            | true =>
              (repeat (first|refine ja ?_|refine jb ?_|refine jc ?_|refine jd ?_|refine je ?_|refine jf ?_|refine jg ?_|refine jh ?_|refine ji ?_|refine jj ?_|refine jk ?_|refine jl ?_|refine jm ?_|refine jn ?_|refine jo ?_|refine jp ?_|refine jq ?_|refine jr ?_|refine js ?_|refine jt ?_|refine ju ?_|refine jv ?_|refine jw ?_|refine jx ?_|refine jy ?_|refine jz ?_|refine jA ?_|refine jB ?_|refine jC ?_|refine jD ?_|refine jE ?_|refine jF ?_|refine jG ?_|refine jH ?_|refine jI ?_|refine jJ ?_|refine jK ?_|refine jL ?_|refine jM (by assumption) ?_|refine jN (by assumption) rfl ?_|refine jO (by assumption) ?_|refine jP (by assumption) rfl ?_|refine jQ ?_|refine jR ?_|refine jS ?_|refine jT ?_|refine jU (by assumption) rfl ?_))
              refine hK3 _ _ ⟨?_, rfl⟩
              unfold cutT
              rw [if_pos (by unfold okT at h41; simpa using h41.symm), ht rfl]
        cases hf : (kidsN n).all (fun k => (osL N i).getD k.toNat false) with
        | false =>
          rw [hf] at hok
          (repeat (first|refine ja ?_|refine jb ?_|refine jc ?_|refine jd ?_|refine je ?_|refine jf ?_|refine jg ?_|refine jh ?_|refine ji ?_|refine jj ?_|refine jk ?_|refine jl ?_|refine jm ?_|refine jn ?_|refine jo ?_|refine jp ?_|refine jq ?_|refine jr ?_|refine js ?_|refine jt ?_|refine ju ?_|refine jv ?_|refine jw ?_|refine jx ?_|refine jy ?_|refine jz ?_|refine jA ?_|refine jB ?_|refine jC ?_|refine jD ?_|refine jE ?_|refine jF ?_|refine jG ?_|refine jH ?_|refine jI ?_|refine jJ ?_|refine jK ?_|refine jL ?_|refine jM (by assumption) ?_|refine jN (by assumption) rfl ?_|refine jO (by assumption) ?_|refine jP (by assumption) rfl ?_|refine jQ ?_|refine jR ?_|refine jS ?_|refine jT ?_|refine jU (by assumption) rfl ?_))
          exact fin false (by rw [hok]; rfl) (fun h => by cases h)
        | true =>
          rw [hf, Bool.true_and] at hok
          have ho := ho hf
          (repeat (first|refine ja ?_|refine jb ?_|refine jc ?_|refine jd ?_|refine je ?_|refine jf ?_|refine jg ?_|refine jh ?_|refine ji ?_|refine jj ?_|refine jk ?_|refine jl ?_|refine jm ?_|refine jn ?_|refine jo ?_|refine jp ?_|refine jq ?_|refine jr ?_|refine js ?_|refine jt ?_|refine ju ?_|refine jv ?_|refine jw ?_|refine jx ?_|refine jy ?_|refine jz ?_|refine jA ?_|refine jB ?_|refine jC ?_|refine jD ?_|refine jE ?_|refine jF ?_|refine jG ?_|refine jH ?_|refine jI ?_|refine jJ ?_|refine jK ?_|refine jL ?_|refine jM (by assumption) ?_|refine jN (by assumption) rfl ?_|refine jO (by assumption) ?_|refine jP (by assumption) rfl ?_|refine jQ ?_|refine jR ?_|refine jS ?_|refine jT ?_|refine jU (by assumption) rfl ?_))
          refine M.lenS_i ?_
          by_cases hl : o.length ≤ 4096
          · (repeat (first|refine ja ?_|refine jb ?_|refine jc ?_|refine jd ?_|refine je ?_|refine jf ?_|refine jg ?_|refine jh ?_|refine ji ?_|refine jj ?_|refine jk ?_|refine jl ?_|refine jm ?_|refine jn ?_|refine jo ?_|refine jp ?_|refine jq ?_|refine jr ?_|refine js ?_|refine jt ?_|refine ju ?_|refine jv ?_|refine jw ?_|refine jx ?_|refine jy ?_|refine jz ?_|refine jA ?_|refine jB ?_|refine jC ?_|refine jD ?_|refine jE ?_|refine jF ?_|refine jG ?_|refine jH ?_|refine jI ?_|refine jJ ?_|refine jK ?_|refine jL ?_|refine jM (by assumption) ?_|refine jN (by assumption) rfl ?_|refine jO (by assumption) ?_|refine jP (by assumption) rfl ?_|refine jQ ?_|refine jR ?_|refine jS ?_|refine jT ?_|refine jU (by assumption) rfl ?_))
            exact fin true (by rw [hok, decide_eq_true hl]) (fun _ => ho)
          · (repeat (first|refine ja ?_|refine jb ?_|refine jc ?_|refine jd ?_|refine je ?_|refine jf ?_|refine jg ?_|refine jh ?_|refine ji ?_|refine jj ?_|refine jk ?_|refine jl ?_|refine jm ?_|refine jn ?_|refine jo ?_|refine jp ?_|refine jq ?_|refine jr ?_|refine js ?_|refine jt ?_|refine ju ?_|refine jv ?_|refine jw ?_|refine jx ?_|refine jy ?_|refine jz ?_|refine jA ?_|refine jB ?_|refine jC ?_|refine jD ?_|refine jE ?_|refine jF ?_|refine jG ?_|refine jH ?_|refine jI ?_|refine jJ ?_|refine jK ?_|refine jL ?_|refine jM (by assumption) ?_|refine jN (by assumption) rfl ?_|refine jO (by assumption) ?_|refine jP (by assumption) rfl ?_|refine jQ ?_|refine jR ?_|refine jS ?_|refine jT ?_|refine jU (by assumption) rfl ?_))
            exact fin false (by rw [hok, decide_eq_false hl]) (fun h => by cases h)
      · intro K2 hK2
        cases hf : (kidsN n).all (fun k => (osL N i).getD k.toNat false) with
        | false =>
          (repeat (first|refine ja ?_|refine jb ?_|refine jc ?_|refine jd ?_|refine je ?_|refine jf ?_|refine jg ?_|refine jh ?_|refine ji ?_|refine jj ?_|refine jk ?_|refine jl ?_|refine jm ?_|refine jn ?_|refine jo ?_|refine jp ?_|refine jq ?_|refine jr ?_|refine js ?_|refine jt ?_|refine ju ?_|refine jv ?_|refine jw ?_|refine jx ?_|refine jy ?_|refine jz ?_|refine jA ?_|refine jB ?_|refine jC ?_|refine jD ?_|refine jE ?_|refine jF ?_|refine jG ?_|refine jH ?_|refine jI ?_|refine jJ ?_|refine jK ?_|refine jL ?_|refine jM (by assumption) ?_|refine jN (by assumption) rfl ?_|refine jO (by assumption) ?_|refine jP (by assumption) rfl ?_|refine jQ ?_|refine jR ?_|refine jS ?_|refine jT ?_|refine jU (by assumption) rfl ?_))
          exact hK2 _ _ ⟨[], rfl, (fun h => by first | cases h | (rw [hf] at h; cases h) | (have h : false = true := h; cases h)), Keep.refl _ _⟩
        | true =>
          have kd := Keep.drew w4 No
          (repeat (first|refine ja ?_|refine jb ?_|refine jc ?_|refine jd ?_|refine je ?_|refine jf ?_|refine jg ?_|refine jh ?_|refine ji ?_|refine jj ?_|refine jk ?_|refine jl ?_|refine jm ?_|refine jn ?_|refine jo ?_|refine jp ?_|refine jq ?_|refine jr ?_|refine js ?_|refine jt ?_|refine ju ?_|refine jv ?_|refine jw ?_|refine jx ?_|refine jy ?_|refine jz ?_|refine jA ?_|refine jB ?_|refine jC ?_|refine jD ?_|refine jE ?_|refine jF ?_|refine jG ?_|refine jH ?_|refine jI ?_|refine jJ ?_|refine jK ?_|refine jL ?_|refine jM (by assumption) ?_|refine jN (by assumption) rfl ?_|refine jO (by assumption) ?_|refine jP (by assumption) rfl ?_|refine jQ ?_|refine jR ?_|refine jS ?_|refine jT ?_|refine jU (by assumption) rfl ?_))
          have b5 := b4.keep kd (fun h => h)
          have hr5 := hr4.keep kd (fun _ _ _ h => h)
          refine M.loadAll_i b5 rfl ?_
          (repeat (first|refine ja ?_|refine jb ?_|refine jc ?_|refine jd ?_|refine je ?_|refine jf ?_|refine jg ?_|refine jh ?_|refine ji ?_|refine jj ?_|refine jk ?_|refine jl ?_|refine jm ?_|refine jn ?_|refine jo ?_|refine jp ?_|refine jq ?_|refine jr ?_|refine js ?_|refine jt ?_|refine ju ?_|refine jv ?_|refine jw ?_|refine jx ?_|refine jy ?_|refine jz ?_|refine jA ?_|refine jB ?_|refine jC ?_|refine jD ?_|refine jE ?_|refine jF ?_|refine jG ?_|refine jH ?_|refine jI ?_|refine jJ ?_|refine jK ?_|refine jL ?_|refine jM (by assumption) ?_|refine jN (by assumption) rfl ?_|refine jO (by assumption) ?_|refine jP (by assumption) rfl ?_|refine jQ ?_|refine jR ?_|refine jS ?_|refine jT ?_|refine jU (by assumption) rfl ?_))
          refine M.idxN_i hr5 rfl (by omega) (n := n) (by rw [Int.toNat_natCast]; exact hn) (fun bb2 oo2 hc2 => ?_)
          refine M.loadN_i hc2 ?_
          refine M.call_i (one54_ret (hd4.keep kd (fun _ _ _ h => h)) hG hgn (hl1.keep kd (fun _ _ _ h => h)) hkt tsL_le rfl) ?_; rintro _ w6 ⟨rfl, k6⟩
          have b6 := b5.keep k6 (fun h => h)
          (repeat (first|refine ja ?_|refine jb ?_|refine jc ?_|refine jd ?_|refine je ?_|refine jf ?_|refine jg ?_|refine jh ?_|refine ji ?_|refine jj ?_|refine jk ?_|refine jl ?_|refine jm ?_|refine jn ?_|refine jo ?_|refine jp ?_|refine jq ?_|refine jr ?_|refine js ?_|refine jt ?_|refine ju ?_|refine jv ?_|refine jw ?_|refine jx ?_|refine jy ?_|refine jz ?_|refine jA ?_|refine jB ?_|refine jC ?_|refine jD ?_|refine jE ?_|refine jF ?_|refine jG ?_|refine jH ?_|refine jI ?_|refine jJ ?_|refine jK ?_|refine jL ?_|refine jM (by assumption) ?_|refine jN (by assumption) rfl ?_|refine jO (by assumption) ?_|refine jP (by assumption) rfl ?_|refine jQ ?_|refine jR ?_|refine jS ?_|refine jT ?_|refine jU (by assumption) rfl ?_))
          exact hK2 _ _ ⟨_, rfl, fun _ => fit_one hG hn hf, kd.trans k6 (fun _ _ h => h)⟩
    · have e : i = m + 1 := by omega
      subst e
      obtain ⟨A2, c2, rfl, hr2, _⟩ := _root_.id hl2
      obtain ⟨A1, c1, rfl, hr1, _⟩ := _root_.id hl1
      have e2 : (osL N (m + 1))[m]? = some (okT N m) := by simp [osL]
      have e1 : (tsL N (m + 1))[m]? = some (cutT N m) := by simp [tsL]
      have l2 := osL_len (N := N) (m + 1)
      have l1 := tsL_len (N := N) (m + 1)
      (repeat (first|refine ja ?_|refine jb ?_|refine jc ?_|refine jd ?_|refine je ?_|refine jf ?_|refine jg ?_|refine jh ?_|refine ji ?_|refine jj ?_|refine jk ?_|refine jl ?_|refine jm ?_|refine jn ?_|refine jo ?_|refine jp ?_|refine jq ?_|refine jr ?_|refine js ?_|refine jt ?_|refine ju ?_|refine jv ?_|refine jw ?_|refine jx ?_|refine jy ?_|refine jz ?_|refine jA ?_|refine jB ?_|refine jC ?_|refine jD ?_|refine jE ?_|refine jF ?_|refine jG ?_|refine jH ?_|refine jI ?_|refine jJ ?_|refine jK ?_|refine jL ?_|refine jM (by assumption) ?_|refine jN (by assumption) rfl ?_|refine jO (by assumption) ?_|refine jP (by assumption) rfl ?_|refine jQ ?_|refine jR ?_|refine jS ?_|refine jT ?_|refine jU (by assumption) rfl ?_))
      refine M.idxLV_i hr2 rfl (by omega) (by omega) (x := okT N m) (by rw [Int.toNat_natCast]; exact e2) (fun bb oo hA hcc => ?_)
      cases hok : okT N m with
      | false =>
        rw [hok] at hcc
        (repeat (first|refine ja ?_|refine jb ?_|refine jc ?_|refine jd ?_|refine je ?_|refine jf ?_|refine jg ?_|refine jh ?_|refine ji ?_|refine jj ?_|refine jk ?_|refine jl ?_|refine jm ?_|refine jn ?_|refine jo ?_|refine jp ?_|refine jq ?_|refine jr ?_|refine js ?_|refine jt ?_|refine ju ?_|refine jv ?_|refine jw ?_|refine jx ?_|refine jy ?_|refine jz ?_|refine jA ?_|refine jB ?_|refine jC ?_|refine jD ?_|refine jE ?_|refine jF ?_|refine jG ?_|refine jH ?_|refine jI ?_|refine jJ ?_|refine jK ?_|refine jL ?_|refine jM (by assumption) ?_|refine jN (by assumption) rfl ?_|refine jO (by assumption) ?_|refine jP (by assumption) rfl ?_|refine jQ ?_|refine jR ?_|refine jS ?_|refine jT ?_|refine jU (by assumption) rfl ?_))
        refine ⟨?_, k3⟩
        unfold okT at hok
        unfold smtN
        rw [hid, if_neg (by decide), if_neg (by simpa using hok)]
      | true =>
        rw [hok] at hcc
        (repeat (first|refine ja ?_|refine jb ?_|refine jc ?_|refine jd ?_|refine je ?_|refine jf ?_|refine jg ?_|refine jh ?_|refine ji ?_|refine jj ?_|refine jk ?_|refine jl ?_|refine jm ?_|refine jn ?_|refine jo ?_|refine jp ?_|refine jq ?_|refine jr ?_|refine js ?_|refine jt ?_|refine ju ?_|refine jv ?_|refine jw ?_|refine jx ?_|refine jy ?_|refine jz ?_|refine jA ?_|refine jB ?_|refine jC ?_|refine jD ?_|refine jE ?_|refine jF ?_|refine jG ?_|refine jH ?_|refine jI ?_|refine jJ ?_|refine jK ?_|refine jL ?_|refine jM (by assumption) ?_|refine jN (by assumption) rfl ?_|refine jO (by assumption) ?_|refine jP (by assumption) rfl ?_|refine jQ ?_|refine jR ?_|refine jS ?_|refine jT ?_|refine jU (by assumption) rfl ?_))
        refine M.idxLV_i hr1 rfl (by omega) (by omega) (x := cutT N m) (by rw [Int.toNat_natCast]; exact e1) (fun bb2 oo2 hA2 hcc2 => ?_)
        (repeat (first|refine ja ?_|refine jb ?_|refine jc ?_|refine jd ?_|refine je ?_|refine jf ?_|refine jg ?_|refine jh ?_|refine ji ?_|refine jj ?_|refine jk ?_|refine jl ?_|refine jm ?_|refine jn ?_|refine jo ?_|refine jp ?_|refine jq ?_|refine jr ?_|refine js ?_|refine jt ?_|refine ju ?_|refine jv ?_|refine jw ?_|refine jx ?_|refine jy ?_|refine jz ?_|refine jA ?_|refine jB ?_|refine jC ?_|refine jD ?_|refine jE ?_|refine jF ?_|refine jG ?_|refine jH ?_|refine jI ?_|refine jJ ?_|refine jK ?_|refine jL ?_|refine jM (by assumption) ?_|refine jN (by assumption) rfl ?_|refine jO (by assumption) ?_|refine jP (by assumption) rfl ?_|refine jQ ?_|refine jR ?_|refine jS ?_|refine jT ?_|refine jU (by assumption) rfl ?_))
        refine ⟨?_, k3⟩
        unfold okT at hok
        have es : smtN N m = (txtN N m, 0) := by
          unfold smtN
          rw [hid, if_neg (by decide), if_pos (by simpa using hok)]
        have ec : cutT N m = txtN N m := by unfold cutT; rw [if_pos (by simpa using hok)]
        rw [es, ec]
end Go.Proofs.Ythkkjjbjpbgcpaa
