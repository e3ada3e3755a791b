import Derived.Test.YtanjlgafjgoaaaaDagH
namespace Go.Proofs.Ytanjlgafjgoaaaa
open Go.Mw Go.Maps Go.MapKept
set_option linter.unusedVariables false
set_option linter.unusedSimpArgs false
set_option maxRecDepth 100000
attribute [local irreducible] M.val M.unit M.next M.pick M.new M.nilCheck M.load1 M.loadA M.store M.fieldAddr M.indexSl M.indexArr M.slice M.makeSlice M.buildSlice M.len M.lenS M.cap M.append M.extract M.conv M.not M.neg M.bin M.shift M.eqB M.eqNil M.scat M.call M.callv M.gd M.share M.cond M.loop M.draw pureW readW Ret
def AtR (N : List Nd) (kv : List (Nd × Value)) : Prop := ∀ n, lkpA kv n = if n ∈ N then some (vi (N.idxOf n)) else none
/-- Terms in memory; F: their blocks; kw: the widths' map. -/
def DagC (w : World) (F : Nat → Prop) (p : Nat) (N : List Nd) (most : Int) (kw : List (Int × Value)) : Prop :=
  ∃ v r1 r2 kv, Blk w p [v, .map (some r1), .map (some r2), vi most] ∧ GC w F 6 v N.length (NL N) ∧ MapA encN Nd.Ok w r1 kv ∧ MapO w r2 kw ∧ AtR N kv ∧ (∀ b, F b ↔ b = p ∨ b = r1 ∨ b = r2 ∨ blkOf v b) ∧ r1 ≠ r2 ∧ p ≠ r1 ∧ p ≠ r2 ∧ (∀ b, blkOf v b → b ≠ p ∧ b ≠ r1 ∧ b ≠ r2)
theorem DagC.keep {w w' : World} {F S : Nat → Prop} {p : Nat} {N : List Nd} {most : Int} {kw : List (Int × Value)} (h : DagC w F p N most kw) (k : Keep w w' S) (hs : ∀ b, F b → ¬ S b) : DagC w' F p N most kw := by
  obtain ⟨v, r1, r2, kv, h1, h2, h3, h4, h5, h6, h7⟩ := h
  exact ⟨v, r1, r2, kv, h1.keep k (hs _ ((h6 _).2 (.inl rfl))), h2.keep k (fun b _ hb => hs b hb), h3.keep k (hs _ ((h6 _).2 (.inr (.inl rfl)))), h4.keep k (hs _ ((h6 _).2 (.inr (.inr (.inl rfl))))), h5, h6, h7⟩
theorem DagC.keepN {w w' : World} {F : Nat → Prop} {p : Nat} {N : List Nd} {most : Int} {kw : List (Int × Value)} (h : DagC w F p N most kw) (k : Keep w w' No) : DagC w' F p N most kw := h.keep k (fun _ _ h => h)
theorem DagC.lt {w : World} {F : Nat → Prop} {p : Nat} {N : List Nd} {most : Int} {kw : List (Int × Value)} (h : DagC w F p N most kw) {b : Nat} (hb : F b) : b < w.heap.size := by
  obtain ⟨v, r1, r2, kv, h1, h2, h3, h4, h5, h6, h7⟩ := h
  rcases (h6 b).1 hb with rfl | rfl | rfl | hb
  · exact h1.lt
  · exact h3.lt
  · exact h4.lt
  · obtain ⟨l, hl⟩ := (GC.blkOf h2 hb).2
    exact hl.lt
def zeroNd : Nd := ⟨0, 0, 0, 0, 0, 0⟩
def nodeAt (N : List Nd) (i : Int) : Nd := if isN N i then (N[i.toNat]?).getD zeroNd else zeroNd
section
variable {w : World} {F : Nat → Prop} {p : Nat} {N : List Nd} {most : Int} {kw : List (Int × Value)}
theorem none_ret {D : Nat → Prop} {v : Value} {ids : List Int} (h : DagC w F p N most kw) (hl : LV vi w D v ids) (hf : ids.length ≤ 1000000) :
    Ret Try.prog 66 #[ptr p, v] w (fun r w' => r = .bool (ids.any (fun i => !isN N i)) ∧ w' = w) := by
  obtain ⟨A, c, rfl, hr, hc⟩ := hl
  obtain ⟨vn, r1, r2, kv, h1, h2, h3, h4, h5, h6, h7⟩ := h
  obtain ⟨B, cb, rfl, hrn, hcb⟩ := GC.row2 h2 (by omega)
  refine ok66 _ _ _ _ ?_
  unfold sh66
  (repeat (first|refine ja ?_|refine jb ?_|refine jc ?_|refine jd ?_|refine je ?_|refine jf ?_|refine jg ?_|refine jh ?_|refine ji ?_|refine jj ?_|refine jk ?_|refine jl ?_|refine jm ?_|refine jn ?_|refine jo ?_|refine jp ?_|refine jq ?_|refine jr ?_|refine js ?_|refine jt ?_|refine ju ?_|refine jv ?_|refine jw ?_|refine jx ?_|refine jy ?_|refine jz ?_|refine jA ?_|refine jB ?_|refine jC ?_|refine jD ?_|refine jE ?_|refine jF ?_|refine jG ?_|refine jH ?_|refine jI ?_|refine jJ ?_|refine jK ?_|refine jL ?_|refine jM (by assumption) ?_|refine jN (by assumption) rfl ?_|refine jO (by assumption) ?_|refine jP (by assumption) rfl ?_|refine jQ ?_|refine jR ?_|refine jS ?_|refine jT ?_|refine jU (by assumption) rfl ?_))
  refine M.loop_i (σ := Nat) (fun i vals w' => vals = [vi i] ∧ i ≤ ids.length ∧ (∀ x ∈ ids.take i, isN N x = true) ∧ w' = w) (fun i => ids.length - i) 0 ⟨rfl, by omega, by simp, rfl⟩ ?_
  rintro i vals w1 K ⟨rfl, hi, hno, rfl⟩ hK _
  simp only [List.getD_cons_zero, List.getD_cons_succ]
  by_cases hlt : i < ids.length
  · obtain ⟨x, hx⟩ : ∃ x, ids[i]? = some x := ⟨_, List.getElem?_eq_getElem hlt⟩
    have yes : isN N x = false → ids.any (fun i => !isN N i) = true := fun h => List.any_eq_true.2 ⟨x, List.mem_of_getElem? hx, by rw [h]; rfl⟩
    (repeat (first|refine ja ?_|refine jb ?_|refine jc ?_|refine jd ?_|refine je ?_|refine jf ?_|refine jg ?_|refine jh ?_|refine ji ?_|refine jj ?_|refine jk ?_|refine jl ?_|refine jm ?_|refine jn ?_|refine jo ?_|refine jp ?_|refine jq ?_|refine jr ?_|refine js ?_|refine jt ?_|refine ju ?_|refine jv ?_|refine jw ?_|refine jx ?_|refine jy ?_|refine jz ?_|refine jA ?_|refine jB ?_|refine jC ?_|refine jD ?_|refine jE ?_|refine jF ?_|refine jG ?_|refine jH ?_|refine jI ?_|refine jJ ?_|refine jK ?_|refine jL ?_|refine jM (by assumption) ?_|refine jN (by assumption) rfl ?_|refine jO (by assumption) ?_|refine jP (by assumption) rfl ?_|refine jQ ?_|refine jR ?_|refine jS ?_|refine jT ?_|refine jU (by assumption) rfl ?_))
    refine M.idxLV_i hr rfl (by omega) (by omega) (x := x) (by simpa using hx) (fun bb oo hA hcc => ?_)
    (repeat (first|refine ja ?_|refine jb ?_|refine jc ?_|refine jd ?_|refine je ?_|refine jf ?_|refine jg ?_|refine jh ?_|refine ji ?_|refine jj ?_|refine jk ?_|refine jl ?_|refine jm ?_|refine jn ?_|refine jo ?_|refine jp ?_|refine jq ?_|refine jr ?_|refine js ?_|refine jt ?_|refine ju ?_|refine jv ?_|refine jw ?_|refine jx ?_|refine jy ?_|refine jz ?_|refine jA ?_|refine jB ?_|refine jC ?_|refine jD ?_|refine jE ?_|refine jF ?_|refine jG ?_|refine jH ?_|refine jI ?_|refine jJ ?_|refine jK ?_|refine jL ?_|refine jM (by assumption) ?_|refine jN (by assumption) rfl ?_|refine jO (by assumption) ?_|refine jP (by assumption) rfl ?_|refine jQ ?_|refine jR ?_|refine jS ?_|refine jT ?_|refine jU (by assumption) rfl ?_))
    by_cases hx0 : x < 0
    · (repeat (first|refine ja ?_|refine jb ?_|refine jc ?_|refine jd ?_|refine je ?_|refine jf ?_|refine jg ?_|refine jh ?_|refine ji ?_|refine jj ?_|refine jk ?_|refine jl ?_|refine jm ?_|refine jn ?_|refine jo ?_|refine jp ?_|refine jq ?_|refine jr ?_|refine js ?_|refine jt ?_|refine ju ?_|refine jv ?_|refine jw ?_|refine jx ?_|refine jy ?_|refine jz ?_|refine jA ?_|refine jB ?_|refine jC ?_|refine jD ?_|refine jE ?_|refine jF ?_|refine jG ?_|refine jH ?_|refine jI ?_|refine jJ ?_|refine jK ?_|refine jL ?_|refine jM (by assumption) ?_|refine jN (by assumption) rfl ?_|refine jO (by assumption) ?_|refine jP (by assumption) rfl ?_|refine jQ ?_|refine jR ?_|refine jS ?_|refine jT ?_|refine jU (by assumption) rfl ?_))
      exact ⟨by rw [yes (isN_no.2 (by omega))], rfl⟩
    · (repeat (first|refine ja ?_|refine jb ?_|refine jc ?_|refine jd ?_|refine je ?_|refine jf ?_|refine jg ?_|refine jh ?_|refine ji ?_|refine jj ?_|refine jk ?_|refine jl ?_|refine jm ?_|refine jn ?_|refine jo ?_|refine jp ?_|refine jq ?_|refine jr ?_|refine js ?_|refine jt ?_|refine ju ?_|refine jv ?_|refine jw ?_|refine jx ?_|refine jy ?_|refine jz ?_|refine jA ?_|refine jB ?_|refine jC ?_|refine jD ?_|refine jE ?_|refine jF ?_|refine jG ?_|refine jH ?_|refine jI ?_|refine jJ ?_|refine jK ?_|refine jL ?_|refine jM (by assumption) ?_|refine jN (by assumption) rfl ?_|refine jO (by assumption) ?_|refine jP (by assumption) rfl ?_|refine jQ ?_|refine jR ?_|refine jS ?_|refine jT ?_|refine jU (by assumption) rfl ?_))
      refine M.geq_i ?_
      (repeat (first|refine ja ?_|refine jb ?_|refine jc ?_|refine jd ?_|refine je ?_|refine jf ?_|refine jg ?_|refine jh ?_|refine ji ?_|refine jj ?_|refine jk ?_|refine jl ?_|refine jm ?_|refine jn ?_|refine jo ?_|refine jp ?_|refine jq ?_|refine jr ?_|refine js ?_|refine jt ?_|refine ju ?_|refine jv ?_|refine jw ?_|refine jx ?_|refine jy ?_|refine jz ?_|refine jA ?_|refine jB ?_|refine jC ?_|refine jD ?_|refine jE ?_|refine jF ?_|refine jG ?_|refine jH ?_|refine jI ?_|refine jJ ?_|refine jK ?_|refine jL ?_|refine jM (by assumption) ?_|refine jN (by assumption) rfl ?_|refine jO (by assumption) ?_|refine jP (by assumption) rfl ?_|refine jQ ?_|refine jR ?_|refine jS ?_|refine jT ?_|refine jU (by assumption) rfl ?_))
      refine M.cond_i (fun hge => ?_) (fun hge => ?_)
      · exact ⟨by rw [yes (isN_no.2 (by omega))], rfl⟩
      · (repeat (first|refine ja ?_|refine jb ?_|refine jc ?_|refine jd ?_|refine je ?_|refine jf ?_|refine jg ?_|refine jh ?_|refine ji ?_|refine jj ?_|refine jk ?_|refine jl ?_|refine jm ?_|refine jn ?_|refine jo ?_|refine jp ?_|refine jq ?_|refine jr ?_|refine js ?_|refine jt ?_|refine ju ?_|refine jv ?_|refine jw ?_|refine jx ?_|refine jy ?_|refine jz ?_|refine jA ?_|refine jB ?_|refine jC ?_|refine jD ?_|refine jE ?_|refine jF ?_|refine jG ?_|refine jH ?_|refine jI ?_|refine jJ ?_|refine jK ?_|refine jL ?_|refine jM (by assumption) ?_|refine jN (by assumption) rfl ?_|refine jO (by assumption) ?_|refine jP (by assumption) rfl ?_|refine jQ ?_|refine jR ?_|refine jS ?_|refine jT ?_|refine jU (by assumption) rfl ?_))
        refine hK (i + 1) _ _ (by omega) ⟨by simp, by omega, fun y hy => ?_, rfl⟩
        rcases (mem_take_succ hx).1 hy with h | rfl
        · exact hno y h
        · exact isN_iff.2 (by omega)
  · (repeat (first|refine ja ?_|refine jb ?_|refine jc ?_|refine jd ?_|refine je ?_|refine jf ?_|refine jg ?_|refine jh ?_|refine ji ?_|refine jj ?_|refine jk ?_|refine jl ?_|refine jm ?_|refine jn ?_|refine jo ?_|refine jp ?_|refine jq ?_|refine jr ?_|refine js ?_|refine jt ?_|refine ju ?_|refine jv ?_|refine jw ?_|refine jx ?_|refine jy ?_|refine jz ?_|refine jA ?_|refine jB ?_|refine jC ?_|refine jD ?_|refine jE ?_|refine jF ?_|refine jG ?_|refine jH ?_|refine jI ?_|refine jJ ?_|refine jK ?_|refine jL ?_|refine jM (by assumption) ?_|refine jN (by assumption) rfl ?_|refine jO (by assumption) ?_|refine jP (by assumption) rfl ?_|refine jQ ?_|refine jR ?_|refine jS ?_|refine jT ?_|refine jU (by assumption) rfl ?_))
    have : i = ids.length := by omega
    subst this
    rw [List.take_length] at hno
    refine ⟨?_, rfl⟩
    have : ids.any (fun i => !isN N i) = false := by
      rw [List.any_eq_false]
      intro x hx
      rw [hno x hx]; simp
    rw [this]
theorem node_ret (h : DagC w F p N most kw) (i : Int) :
    Ret Try.prog 42 #[ptr p, vi i] w (fun r w' => r = .tuple #[encN (nodeAt N i), .bool (isN N i)] ∧ Keep w w' No) := by
  refine ok42 _ _ _ _ ?_
  unfold sh42
  refine M.new_i (l := zeroNd.cells) (fun w1 b1 k1 s1 => ?_)
  (repeat (first|refine ja ?_|refine jb ?_|refine jc ?_|refine jd ?_|refine je ?_|refine jf ?_|refine jg ?_|refine jh ?_|refine ji ?_|refine jj ?_|refine jk ?_|refine jl ?_|refine jm ?_|refine jn ?_|refine jo ?_|refine jp ?_|refine jq ?_|refine jr ?_|refine js ?_|refine jt ?_|refine ju ?_|refine jv ?_|refine jw ?_|refine jx ?_|refine jy ?_|refine jz ?_|refine jA ?_|refine jB ?_|refine jC ?_|refine jD ?_|refine jE ?_|refine jF ?_|refine jG ?_|refine jH ?_|refine jI ?_|refine jJ ?_|refine jK ?_|refine jL ?_|refine jM (by assumption) ?_|refine jN (by assumption) rfl ?_|refine jO (by assumption) ?_|refine jP (by assumption) rfl ?_|refine jQ ?_|refine jR ?_|refine jS ?_|refine jT ?_|refine jU (by assumption) rfl ?_))
  refine M.buildSlice_i [vi i] (by kernel_rfl) (fun w2 b2 k2 s2 => ?_)
  (repeat (first|refine ja ?_|refine jb ?_|refine jc ?_|refine jd ?_|refine je ?_|refine jf ?_|refine jg ?_|refine jh ?_|refine ji ?_|refine jj ?_|refine jk ?_|refine jl ?_|refine jm ?_|refine jn ?_|refine jo ?_|refine jp ?_|refine jq ?_|refine jr ?_|refine js ?_|refine jt ?_|refine ju ?_|refine jv ?_|refine jw ?_|refine jx ?_|refine jy ?_|refine jz ?_|refine jA ?_|refine jB ?_|refine jC ?_|refine jD ?_|refine jE ?_|refine jF ?_|refine jG ?_|refine jH ?_|refine jI ?_|refine jJ ?_|refine jK ?_|refine jL ?_|refine jM (by assumption) ?_|refine jN (by assumption) rfl ?_|refine jO (by assumption) ?_|refine jP (by assumption) rfl ?_|refine jQ ?_|refine jR ?_|refine jS ?_|refine jT ?_|refine jU (by assumption) rfl ?_))
  have k12 := k1.trans k2 (fun _ _ h => h)
  have hd := h.keepN k12
  refine M.call_i (none_ret hd (D := fun _ => True) (ids := [i]) ⟨_, _, rfl, Row.of_blk' b2 trivial, Nat.le_refl _⟩ (by show 1 ≤ 1000000; omega)) ?_; rintro _ w3 ⟨rfl, rfl⟩
  have e : ([i] : List Int).any (fun i => !isN N i) = !isN N i := by simp
  rw [e]
  have b1 := b1.keep k2 (fun h => h)
  cases hi : isN N i with
  | false =>
    (repeat (first|refine ja ?_|refine jb ?_|refine jc ?_|refine jd ?_|refine je ?_|refine jf ?_|refine jg ?_|refine jh ?_|refine ji ?_|refine jj ?_|refine jk ?_|refine jl ?_|refine jm ?_|refine jn ?_|refine jo ?_|refine jp ?_|refine jq ?_|refine jr ?_|refine js ?_|refine jt ?_|refine ju ?_|refine jv ?_|refine jw ?_|refine jx ?_|refine jy ?_|refine jz ?_|refine jA ?_|refine jB ?_|refine jC ?_|refine jD ?_|refine jE ?_|refine jF ?_|refine jG ?_|refine jH ?_|refine jI ?_|refine jJ ?_|refine jK ?_|refine jL ?_|refine jM (by assumption) ?_|refine jN (by assumption) rfl ?_|refine jO (by assumption) ?_|refine jP (by assumption) rfl ?_|refine jQ ?_|refine jR ?_|refine jS ?_|refine jT ?_|refine jU (by assumption) rfl ?_))
    refine M.pure_i (encN zeroNd) (fun _ => by kernel_rfl) ?_
    refine M.storeAll_i b1 rfl rfl (cells_one _) (fun w4 b4 k4 s4 => ?_)
    refine M.loadAll_i b4 rfl ⟨?_, k12.trans k4 (fun b hb h => by omega)⟩
    unfold nodeAt
    rw [hi]; rfl
  | true =>
    obtain ⟨j, n, rfl, hj⟩ := isN_get hi
    obtain ⟨vn, r1, r2, kv, g1, g2, g3, g4, g5, g6, g7⟩ := hd
    obtain ⟨B, cb, rfl, hrn, hcb⟩ := GC.row2 g2 (by omega)
    (repeat (first|refine ja ?_|refine jb ?_|refine jc ?_|refine jd ?_|refine je ?_|refine jf ?_|refine jg ?_|refine jh ?_|refine ji ?_|refine jj ?_|refine jk ?_|refine jl ?_|refine jm ?_|refine jn ?_|refine jo ?_|refine jp ?_|refine jq ?_|refine jr ?_|refine js ?_|refine jt ?_|refine ju ?_|refine jv ?_|refine jw ?_|refine jx ?_|refine jy ?_|refine jz ?_|refine jA ?_|refine jB ?_|refine jC ?_|refine jD ?_|refine jE ?_|refine jF ?_|refine jG ?_|refine jH ?_|refine jI ?_|refine jJ ?_|refine jK ?_|refine jL ?_|refine jM (by assumption) ?_|refine jN (by assumption) rfl ?_|refine jO (by assumption) ?_|refine jP (by assumption) rfl ?_|refine jQ ?_|refine jR ?_|refine jS ?_|refine jT ?_|refine jU (by assumption) rfl ?_))
    refine M.idxN_i hrn rfl (by omega) (n := n) (by simpa using hj) (fun bb oo hc => ?_)
    refine M.loadN_i hc ?_
    refine M.storeAll_i b1 rfl rfl (cells_one _) (fun w4 b4 k4 s4 => ?_)
    refine M.loadAll_i b4 rfl ⟨?_, k12.trans k4 (fun b hb h => by omega)⟩
    unfold nodeAt
    rw [hi, Int.toNat_natCast, hj]; rfl
theorem nodeAt_wd (N : List Nd) (i : Int) : (nodeAt N i).wd = wdN N i := by
  unfold nodeAt
  cases hi : isN N i with
  | false => rw [wdN_none hi]; rfl
  | true =>
    obtain ⟨j, n, rfl, hj⟩ := isN_get hi
    rw [wdN_at hj, Int.toNat_natCast, hj]; rfl
theorem width_ret (h : DagC w F p N most kw) (i : Int) :
    Ret Try.prog 23 #[ptr p, vi i] w (fun r w' => r = vi (wdN N i) ∧ Keep w w' No) := by
  refine ok23 _ _ _ _ ?_
  unfold sh23
  refine M.call_i (node_ret h i) ?_; rintro _ w1 ⟨rfl, k1⟩
  refine M.extract_i rfl ?_
  refine M.extract_i rfl ?_
  refine M.new_i (l := zeroNd.cells) (fun w2 b2 k2 s2 => ?_)
  refine M.storeAll_i b2 rfl rfl (cells_one _) (fun w3 b3 k3 s3 => ?_)
  have b3 : Blk w3 w1.heap.size [vi (nodeAt N i).op, vi (nodeAt N i).wd, vi (nodeAt N i).a, vi (nodeAt N i).b, vi (nodeAt N i).c, vw (nodeAt N i).val] := b3
  (repeat (first|refine ja ?_|refine jb ?_|refine jc ?_|refine jd ?_|refine je ?_|refine jf ?_|refine jg ?_|refine jh ?_|refine ji ?_|refine jj ?_|refine jk ?_|refine jl ?_|refine jm ?_|refine jn ?_|refine jo ?_|refine jp ?_|refine jq ?_|refine jr ?_|refine js ?_|refine jt ?_|refine ju ?_|refine jv ?_|refine jw ?_|refine jx ?_|refine jy ?_|refine jz ?_|refine jA ?_|refine jB ?_|refine jC ?_|refine jD ?_|refine jE ?_|refine jF ?_|refine jG ?_|refine jH ?_|refine jI ?_|refine jJ ?_|refine jK ?_|refine jL ?_|refine jM (by assumption) ?_|refine jN (by assumption) rfl ?_|refine jO (by assumption) ?_|refine jP (by assumption) rfl ?_|refine jQ ?_|refine jR ?_|refine jS ?_|refine jT ?_|refine jU (by assumption) rfl ?_))
  refine ⟨by rw [nodeAt_wd], (k1.trans k2 (fun _ _ h => h)).trans k3 (fun b hb h => by have := k1.size; omega)⟩
theorem dlen_ret (h : DagC w F p N most kw) : Ret Try.prog 11 #[ptr p] w (fun r w' => r = vi N.length ∧ w' = w) := by
  obtain ⟨vn, r1, r2, kv, g1, g2, g3, g4, g5, g6, g7⟩ := h
  obtain ⟨B, cb, rfl, hrn, hcb⟩ := GC.row2 g2 (by omega)
  refine ok11 _ _ _ ?_
  unfold sh11
  (repeat (first|refine ja ?_|refine jb ?_|refine jc ?_|refine jd ?_|refine je ?_|refine jf ?_|refine jg ?_|refine jh ?_|refine ji ?_|refine jj ?_|refine jk ?_|refine jl ?_|refine jm ?_|refine jn ?_|refine jo ?_|refine jp ?_|refine jq ?_|refine jr ?_|refine js ?_|refine jt ?_|refine ju ?_|refine jv ?_|refine jw ?_|refine jx ?_|refine jy ?_|refine jz ?_|refine jA ?_|refine jB ?_|refine jC ?_|refine jD ?_|refine jE ?_|refine jF ?_|refine jG ?_|refine jH ?_|refine jI ?_|refine jJ ?_|refine jK ?_|refine jL ?_|refine jM (by assumption) ?_|refine jN (by assumption) rfl ?_|refine jO (by assumption) ?_|refine jP (by assumption) rfl ?_|refine jQ ?_|refine jR ?_|refine jS ?_|refine jT ?_|refine jU (by assumption) rfl ?_))
  exact ⟨rfl, rfl⟩
set_option maxHeartbeats 2000000 in
theorem make_ret (h : DagC w F p N most kw) (hN : N.length ≤ 1000000) {n : Nd} (hn : n.Ok) :
    Ret Try.prog 13 #[ptr p, encN n] w (fun r w' => ∃ F', r = .tuple #[vi (madeN most N n).2.1, vi (madeN most N n).2.2] ∧ DagC w' F' p (madeN most N n).1 most kw ∧ (∀ b, b < w.heap.size → F' b → F b) ∧ Keep w w' F) := by
  refine ok13 _ _ _ _ ?_
  unfold sh13
  refine M.new_i (l := n.cells) (fun w1 b1 k1 s1 => ?_)
  have kd := Keep.drew w1 No
  have h2 := (h.keepN k1).keepN kd
  have b2 := b1.keep kd (fun h => h)
  have k1d := k1.trans kd (fun _ _ h => h)
  obtain ⟨vn, r1, r2, kv, g1, g2, g3, g4, g5, g6, g7, g8, g9, g10⟩ := id h2
  have hF : ∀ {b : Nat}, F b → b < w.heap.size := fun hb => h.lt hb
  have hp := h2.lt ((g6 p).2 (.inl rfl))
  obtain ⟨B, cb, rfl, hrn, hcb⟩ := GC.row2 g2 (by omega)
  refine M.draw_i ?_
  (repeat (first|refine ja ?_|refine jb ?_|refine jc ?_|refine jd ?_|refine je ?_|refine jf ?_|refine jg ?_|refine jh ?_|refine ji ?_|refine jj ?_|refine jk ?_|refine jl ?_|refine jm ?_|refine jn ?_|refine jo ?_|refine jp ?_|refine jq ?_|refine jr ?_|refine js ?_|refine jt ?_|refine ju ?_|refine jv ?_|refine jw ?_|refine jx ?_|refine jy ?_|refine jz ?_|refine jA ?_|refine jB ?_|refine jC ?_|refine jD ?_|refine jE ?_|refine jF ?_|refine jG ?_|refine jH ?_|refine jI ?_|refine jJ ?_|refine jK ?_|refine jL ?_|refine jM (by assumption) ?_|refine jN (by assumption) rfl ?_|refine jO (by assumption) ?_|refine jP (by assumption) rfl ?_|refine jQ ?_|refine jR ?_|refine jS ?_|refine jT ?_|refine jU (by assumption) rfl ?_))
  refine M.loadAll_i b2 rfl ?_
  refine M.lookupOkA_i (enc := encN) (x := n) (et := 3) (z := vi 0) keyE (by kernel_rfl) (fun w => Try.zeroValue3 w) g3 hn ?_
  rw [g5 n]
  by_cases hm : n ∈ N
  · rw [if_pos hm]
    refine M.extract_i rfl ?_
    refine M.extract_i rfl ?_
    (repeat (first|refine ja ?_|refine jb ?_|refine jc ?_|refine jd ?_|refine je ?_|refine jf ?_|refine jg ?_|refine jh ?_|refine ji ?_|refine jj ?_|refine jk ?_|refine jl ?_|refine jm ?_|refine jn ?_|refine jo ?_|refine jp ?_|refine jq ?_|refine jr ?_|refine js ?_|refine jt ?_|refine ju ?_|refine jv ?_|refine jw ?_|refine jx ?_|refine jy ?_|refine jz ?_|refine jA ?_|refine jB ?_|refine jC ?_|refine jD ?_|refine jE ?_|refine jF ?_|refine jG ?_|refine jH ?_|refine jI ?_|refine jJ ?_|refine jK ?_|refine jL ?_|refine jM (by assumption) ?_|refine jN (by assumption) rfl ?_|refine jO (by assumption) ?_|refine jP (by assumption) rfl ?_|refine jQ ?_|refine jR ?_|refine jS ?_|refine jT ?_|refine jU (by assumption) rfl ?_))
    refine ⟨F, ?_, ?_, fun b _ h => h, k1d.mono (fun _ _ h => h.elim)⟩
    · unfold madeN
      rw [if_pos hm]; rfl
    · unfold madeN
      rw [if_pos hm]; exact h2
  · rw [if_neg hm]
    refine M.extract_i rfl ?_
    refine M.extract_i rfl ?_
    have kd2 := Keep.drew w1.drew No
    have g1b := g1.keep kd2 (fun h => h)
    have b3 := b2.keep kd2 (fun h => h)
    have h3 := h2.keepN kd2
    (repeat (first|refine ja ?_|refine jb ?_|refine jc ?_|refine jd ?_|refine je ?_|refine jf ?_|refine jg ?_|refine jh ?_|refine ji ?_|refine jj ?_|refine jk ?_|refine jl ?_|refine jm ?_|refine jn ?_|refine jo ?_|refine jp ?_|refine jq ?_|refine jr ?_|refine js ?_|refine jt ?_|refine ju ?_|refine jv ?_|refine jw ?_|refine jx ?_|refine jy ?_|refine jz ?_|refine jA ?_|refine jB ?_|refine jC ?_|refine jD ?_|refine jE ?_|refine jF ?_|refine jG ?_|refine jH ?_|refine jI ?_|refine jJ ?_|refine jK ?_|refine jL ?_|refine jM (by assumption) ?_|refine jN (by assumption) rfl ?_|refine jO (by assumption) ?_|refine jP (by assumption) rfl ?_|refine jQ ?_|refine jR ?_|refine jS ?_|refine jT ?_|refine jU (by assumption) rfl ?_))
    refine M.geq_i ?_
    by_cases hmost : most ≤ (N.length : Int)
    · rw [decide_eq_true hmost]
      (repeat (first|refine ja ?_|refine jb ?_|refine jc ?_|refine jd ?_|refine je ?_|refine jf ?_|refine jg ?_|refine jh ?_|refine ji ?_|refine jj ?_|refine jk ?_|refine jl ?_|refine jm ?_|refine jn ?_|refine jo ?_|refine jp ?_|refine jq ?_|refine jr ?_|refine js ?_|refine jt ?_|refine ju ?_|refine jv ?_|refine jw ?_|refine jx ?_|refine jy ?_|refine jz ?_|refine jA ?_|refine jB ?_|refine jC ?_|refine jD ?_|refine jE ?_|refine jF ?_|refine jG ?_|refine jH ?_|refine jI ?_|refine jJ ?_|refine jK ?_|refine jL ?_|refine jM (by assumption) ?_|refine jN (by assumption) rfl ?_|refine jO (by assumption) ?_|refine jP (by assumption) rfl ?_|refine jQ ?_|refine jR ?_|refine jS ?_|refine jT ?_|refine jU (by assumption) rfl ?_))
      refine ⟨F, ?_, ?_, fun b _ h => h, (k1d.trans kd2 (fun _ _ h => h)).mono (fun _ _ h => h.elim)⟩
      · unfold madeN
        rw [if_neg hm, if_pos hmost]
      · unfold madeN
        rw [if_neg hm, if_pos hmost]; exact h3
    · rw [decide_eq_false hmost]
      have em : madeN most N n = (N ++ [n], (N.length : Int), 0) := by
        unfold madeN
        rw [if_neg hm, if_neg hmost]
      rw [em]
      have kd3 := Keep.drew w1.drew.drew No
      have g1c := g1b.keep kd3 (fun h => h)
      have b4 := b3.keep kd3 (fun h => h)
      have kk := (k1d.trans kd2 (fun _ _ h => h)).trans kd3 (fun _ _ h => h)
      have h4 := h3.keepN kd3
      have g2c := (g2.keep kd2 (fun _ _ _ h => h)).keep kd3 (fun _ _ _ h => h)
      have g3c := (g3.keep kd2 (fun h => h)).keep kd3 (fun h => h)
      have g4c := (g4.keep kd2 (fun h => h)).keep kd3 (fun h => h)
      (repeat (first|refine ja ?_|refine jb ?_|refine jc ?_|refine jd ?_|refine je ?_|refine jf ?_|refine jg ?_|refine jh ?_|refine ji ?_|refine jj ?_|refine jk ?_|refine jl ?_|refine jm ?_|refine jn ?_|refine jo ?_|refine jp ?_|refine jq ?_|refine jr ?_|refine js ?_|refine jt ?_|refine ju ?_|refine jv ?_|refine jw ?_|refine jx ?_|refine jy ?_|refine jz ?_|refine jA ?_|refine jB ?_|refine jC ?_|refine jD ?_|refine jE ?_|refine jF ?_|refine jG ?_|refine jH ?_|refine jI ?_|refine jJ ?_|refine jK ?_|refine jL ?_|refine jM (by assumption) ?_|refine jN (by assumption) rfl ?_|refine jO (by assumption) ?_|refine jP (by assumption) rfl ?_|refine jQ ?_|refine jR ?_|refine jS ?_|refine jT ?_|refine jU (by assumption) rfl ?_))
      refine M.loadAll_i b4 rfl ?_
      (repeat (first|refine ja ?_|refine jb ?_|refine jc ?_|refine jd ?_|refine je ?_|refine jf ?_|refine jg ?_|refine jh ?_|refine ji ?_|refine jj ?_|refine jk ?_|refine jl ?_|refine jm ?_|refine jn ?_|refine jo ?_|refine jp ?_|refine jq ?_|refine jr ?_|refine js ?_|refine jt ?_|refine ju ?_|refine jv ?_|refine jw ?_|refine jx ?_|refine jy ?_|refine jz ?_|refine jA ?_|refine jB ?_|refine jC ?_|refine jD ?_|refine jE ?_|refine jF ?_|refine jG ?_|refine jH ?_|refine jI ?_|refine jJ ?_|refine jK ?_|refine jL ?_|refine jM (by assumption) ?_|refine jN (by assumption) rfl ?_|refine jO (by assumption) ?_|refine jP (by assumption) rfl ?_|refine jQ ?_|refine jR ?_|refine jS ?_|refine jT ?_|refine jU (by assumption) rfl ?_))
      refine M.mapUpdateA_i (enc := encN) (x := n) (et := 3) keyE (by kernel_rfl) g3c hn (fun w5 m5 k5 s5 => ?_)
      have hr1 : F r1 := (g6 r1).2 (.inr (.inl rfl))
      have hpF : F p := (g6 p).2 (.inl rfl)
      have g1d := g1c.keep k5 g8
      have b5 := b4.keep k5 (fun h => by have := hF hr1; omega)
      have g2d := (GC.own g2c).keep k5 (fun b _ hb h => (g10 b hb).2.1 h)
      have g4d := g4c.keep k5 (fun h => g7 h.symm)
      have kd5 := Keep.drew w5 No
      have g1e := g1d.keep kd5 (fun h => h)
      have b6 := b5.keep kd5 (fun h => h)
      (repeat (first|refine ja ?_|refine jb ?_|refine jc ?_|refine jd ?_|refine je ?_|refine jf ?_|refine jg ?_|refine jh ?_|refine ji ?_|refine jj ?_|refine jk ?_|refine jl ?_|refine jm ?_|refine jn ?_|refine jo ?_|refine jp ?_|refine jq ?_|refine jr ?_|refine js ?_|refine jt ?_|refine ju ?_|refine jv ?_|refine jw ?_|refine jx ?_|refine jy ?_|refine jz ?_|refine jA ?_|refine jB ?_|refine jC ?_|refine jD ?_|refine jE ?_|refine jF ?_|refine jG ?_|refine jH ?_|refine jI ?_|refine jJ ?_|refine jK ?_|refine jL ?_|refine jM (by assumption) ?_|refine jN (by assumption) rfl ?_|refine jO (by assumption) ?_|refine jP (by assumption) rfl ?_|refine jQ ?_|refine jR ?_|refine jS ?_|refine jT ?_|refine jU (by assumption) rfl ?_))
      refine M.loadAll_i b6 rfl ?_
      refine M.buildSlice_i n.cells (by kernel_rfl) (fun w6 b7 k6 s6 => ?_)
      have g1f := g1e.keep k6 (fun h => h)
      have b8 := b6.keep k6 (fun h => h)
      have g2f := (g2d.keep kd5 (fun _ _ _ h => h)).keep k6 (fun _ _ _ h => h)
      have g4f := (g4d.keep kd5 (fun h => h)).keep k6 (fun h => h)
      have g3f := (m5.keep kd5 (fun h => h)).keep k6 (fun h => h)
      have q6 : w5.heap.size ≤ w6.heap.size := k6.size
      (repeat (first|refine ja ?_|refine jb ?_|refine jc ?_|refine jd ?_|refine je ?_|refine jf ?_|refine jg ?_|refine jh ?_|refine ji ?_|refine jj ?_|refine jk ?_|refine jl ?_|refine jm ?_|refine jn ?_|refine jo ?_|refine jp ?_|refine jq ?_|refine jr ?_|refine js ?_|refine jt ?_|refine ju ?_|refine jv ?_|refine jw ?_|refine jx ?_|refine jy ?_|refine jz ?_|refine jA ?_|refine jB ?_|refine jC ?_|refine jD ?_|refine jE ?_|refine jF ?_|refine jG ?_|refine jH ?_|refine jI ?_|refine jJ ?_|refine jK ?_|refine jL ?_|refine jM (by assumption) ?_|refine jN (by assumption) rfl ?_|refine jO (by assumption) ?_|refine jP (by assumption) rfl ?_|refine jQ ?_|refine jR ?_|refine jS ?_|refine jT ?_|refine jU (by assumption) rfl ?_))
      refine M.append_i g2f (Row.of_blk' (D := fun _ => True) b7 trivial) rfl (cells_one n) rfl (by omega) (by omega) (fun v' w7 g2g k7 => ?_)
      have g1g := g1f.keep k7 (fun h => (g10 _ h).1 rfl)
      have b9 := b8.keep k7 (fun h => by have := hF ((g6 _).2 (.inr (.inr (.inr h)))); omega)
      have g4g := g4f.keep k7 (fun h => (g10 _ h).2.2 rfl)
      have g3g := g3f.keep k7 (fun h => (g10 _ h).2.1 rfl)
      (repeat (first|refine ja ?_|refine jb ?_|refine jc ?_|refine jd ?_|refine je ?_|refine jf ?_|refine jg ?_|refine jh ?_|refine ji ?_|refine jj ?_|refine jk ?_|refine jl ?_|refine jm ?_|refine jn ?_|refine jo ?_|refine jp ?_|refine jq ?_|refine jr ?_|refine js ?_|refine jt ?_|refine ju ?_|refine jv ?_|refine jw ?_|refine jx ?_|refine jy ?_|refine jz ?_|refine jA ?_|refine jB ?_|refine jC ?_|refine jD ?_|refine jE ?_|refine jF ?_|refine jG ?_|refine jH ?_|refine jI ?_|refine jJ ?_|refine jK ?_|refine jL ?_|refine jM (by assumption) ?_|refine jN (by assumption) rfl ?_|refine jO (by assumption) ?_|refine jP (by assumption) rfl ?_|refine jQ ?_|refine jR ?_|refine jS ?_|refine jT ?_|refine jU (by assumption) rfl ?_))
      refine M.store_i g1g (by simp) (by obtain ⟨A', c', rfl, _⟩ := GC.row g2g; rfl) (fun w8 g1h k8 s8 => ?_)
      have hv' : ∀ b, blkOf v' b → blkOf (.slice B N.length cb) b ∨ w6.heap.size ≤ b := fun b hb => (GC.blkOf g2g hb).1
      have hw6 : ∀ b, F b → b < w6.heap.size := fun b hb => by
        have := h2.lt hb
        have e1 : w1.drew.heap.size = w1.heap.size := rfl
        have e2 : w5.drew.heap.size = w5.heap.size := rfl
        have e4 : w1.drew.drew.drew.heap.size = w1.heap.size := rfl
        have := k5.size
        omega
      have hdis : ∀ b, blkOf v' b → b ≠ p ∧ b ≠ r1 ∧ b ≠ r2 := fun b hb => by
        rcases hv' b hb with h | h
        · exact g10 b h
        · have h1 := hw6 p hpF
          have h2 := hw6 r1 hr1
          have h3 := hw6 r2 ((g6 r2).2 (.inr (.inr (.inl rfl))))
          exact ⟨by omega, by omega, by omega⟩
      have g2h := (GC.own g2g).keep k8 (fun b _ hb h => (hdis b hb).1 h)
      have g3h := g3g.keep k8 (fun h => g8 h.symm)
      have g4h := g4g.keep k8 (fun h => g9 h.symm)
      have b10 := b9.keep k8 (fun h => by have := hF hpF; omega)
      have g1h : Blk w8 p [v', .map (some r1), .map (some r2), vi most] := g1h
      have kd8 := Keep.drew w8 No
      have g1i := g1h.keep kd8 (fun h => h)
      (repeat (first|refine ja ?_|refine jb ?_|refine jc ?_|refine jd ?_|refine je ?_|refine jf ?_|refine jg ?_|refine jh ?_|refine ji ?_|refine jj ?_|refine jk ?_|refine jl ?_|refine jm ?_|refine jn ?_|refine jo ?_|refine jp ?_|refine jq ?_|refine jr ?_|refine js ?_|refine jt ?_|refine ju ?_|refine jv ?_|refine jw ?_|refine jx ?_|refine jy ?_|refine jz ?_|refine jA ?_|refine jB ?_|refine jC ?_|refine jD ?_|refine jE ?_|refine jF ?_|refine jG ?_|refine jH ?_|refine jI ?_|refine jJ ?_|refine jK ?_|refine jL ?_|refine jM (by assumption) ?_|refine jN (by assumption) rfl ?_|refine jO (by assumption) ?_|refine jP (by assumption) rfl ?_|refine jQ ?_|refine jR ?_|refine jS ?_|refine jT ?_|refine jU (by assumption) rfl ?_))
      refine M.loadAll_i (b10.keep kd8 (fun h => h)) rfl ?_
      refine M.lookupA_i (enc := encN) (x := n) (et := 3) (z := vi 0) keyE (by kernel_rfl) (fun w => Try.zeroValue3 w) (g3h.keep kd8 (fun h => h)) hn ?_
      rw [lkpA_upd, if_pos rfl]
      have kF : Keep w w1.drew.drew.drew F := kk.mono (fun _ _ h => h.elim)
      have kall : Keep w w8.drew F := (((((kF.trans k5 (fun b _ h => h ▸ hr1)).trans kd5 (fun _ _ h => h.elim)).trans k6 (fun _ _ h => h.elim)).trans k7 (fun b _ h => (g6 b).2 (.inr (.inr (.inr h))))).trans k8 (fun b _ h => h ▸ hpF)).trans kd8 (fun _ _ h => h.elim)
      refine ⟨fun b => b = p ∨ b = r1 ∨ b = r2 ∨ blkOf v' b, rfl, ⟨v', r1, r2, updA kv n (vi N.length), g1i, ?_, g3h.keep kd8 (fun h => h), g4h.keep kd8 (fun h => h), ?_, fun b => Iff.rfl, g7, g8, g9, hdis⟩, fun b hb h => ?_, kall⟩
      · rw [NL_snoc, List.length_append, List.length_singleton]
        exact (g2h.keep kd8 (fun _ _ _ h => h)).mono (fun b _ h => .inr (.inr (.inr h)))
      · intro m
        rw [lkpA_upd]
        by_cases hmn : m = n
        · subst hmn
          rw [if_pos rfl, if_pos (by simp), List.idxOf_append, if_neg hm]
          simp
        · rw [if_neg hmn, g5 m]
          by_cases hmN : m ∈ N
          · rw [if_pos hmN, if_pos (by simp [hmN]), List.idxOf_append, if_pos hmN]
          · rw [if_neg hmN, if_neg (by simp [hmN, hmn])]
      · rcases h with h | h | h | h
        · exact (g6 b).2 (.inl h)
        · exact (g6 b).2 (.inr (.inl h))
        · exact (g6 b).2 (.inr (.inr (.inl h)))
        · rcases hv' b h with h | h
          · exact (g6 b).2 (.inr (.inr (.inr h)))
          · exfalso
            have : w1.drew.drew.drew.heap.size = w1.heap.size := rfl
            have := k5.size
            have := k1.size
            omega
end
end Go.Proofs.Ytanjlgafjgoaaaa
