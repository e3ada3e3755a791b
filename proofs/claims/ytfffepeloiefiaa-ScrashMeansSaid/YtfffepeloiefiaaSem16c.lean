import Derived.Test.YtfffepeloiefiaaSem16b
namespace Go.Proofs.Ytfffepeloiefiaa
open Go.Mw Go.Maps Go.MapKept
set_option linter.unusedVariables false
set_option linter.unusedSimpArgs false
set_option maxRecDepth 100000
attribute [local irreducible] M.val M.unit M.next M.pick M.new M.nilCheck M.load1 M.loadA M.store M.fieldAddr M.indexSl M.indexArr M.slice M.makeSlice M.buildSlice M.len M.lenS M.cap M.append M.extract M.conv M.not M.neg M.bin M.shift M.eqB M.eqNil M.call M.callv M.gd M.share M.cond M.loop M.draw pureW readW Ret
def HeldR (kv : List (Int × Value)) (held : List Int) (f : Int → W64) : Prop := ∀ k, lkp kv k = if k ∈ held then some (vw (f k)) else none
theorem HeldR.upd {kv : List (Int × Value)} {held : List Int} {f : Int → W64} (h : HeldR kv held f) (x : Int) : HeldR (upd kv x (vw (f x))) (x :: held) f := fun k => by
  rw [lkp_upd]
  by_cases hk : k = x
  · subst hk; rw [if_pos rfl, if_pos List.mem_cons_self]
  · rw [if_neg hk, h k]
    by_cases hm : k ∈ held
    · rw [if_pos hm, if_pos (List.mem_cons_of_mem _ hm)]
    · rw [if_neg hm, if_neg (by simp [hk, hm])]
theorem get_F {kv : List (Int × Value)} {held ks : List Int} {f : Int → W64} {p6 r : Nat} (h : HeldR kv held f) (hk : ∀ k ∈ ks, k ∈ held) :
    GetF (.func (.func 81) #[] #[ptr p6]) (fun w => Blk w p6 [.map (some r)] ∧ MapO w r kv) ks f := by
  rintro k hkk w kt ⟨hb, hm⟩ hkt
  refine M.callv_i (fun a w => rfl) (Q := fun x w' => x = vw (f k) ∧ w' = w) ?_ ?_
  · show Ret Try.prog 81 #[vi k, ptr p6] w _
    refine ok81 _ _ _ _ ?_
    unfold sh81
    (repeat (first|refine ja ?_|refine jb ?_|refine jc ?_|refine jd ?_|refine je ?_|refine jf ?_|refine jg ?_|refine jh ?_|refine ji ?_|refine jj ?_|refine jk ?_|refine jl ?_|refine jm ?_|refine jn ?_|refine jo ?_|refine jp ?_|refine jq ?_|refine jr ?_|refine js ?_|refine jt ?_|refine ju ?_|refine jv ?_|refine jw ?_|refine jx ?_|refine jy ?_|refine jz ?_|refine jA ?_|refine jB ?_|refine jC ?_|refine jD ?_|refine jE ?_|refine jF ?_|refine jG ?_|refine jH ?_|refine jI ?_|refine jJ ?_|refine jK ?_|refine jL ?_|refine jM (by assumption) ?_|refine jN (by assumption) rfl ?_|refine jO (by assumption) ?_|refine jP (by assumption) rfl ?_|refine jQ ?_|refine jR ?_|refine jS ?_|refine jT ?_|refine jU (by assumption) rfl ?_))
    refine M.lookup_i (kt := 3) (et := 30) (z := vw 0) (by kernel_rfl) (by kernel_rfl) (fun w => Try.zeroValue30 w) hm ?_
    rw [h k, if_pos (hk k hkk)]
    exact ⟨rfl, rfl⟩
  · rintro x w1 ⟨rfl, rfl⟩
    exact hkt w1 ⟨hb, hm⟩ (Keep.refl _ _)
theorem nil_or_snoc {α : Type} (l : List α) : l = [] ∨ ∃ a t, l = a ++ [t] := by
  rcases List.eq_nil_or_concat l with h | ⟨a, t, h⟩
  · exact .inl h
  · exact .inr ⟨a, t, by rw [h, List.concat_eq_append]⟩
/-- What 'of' answers. -/
def OfF (g : Value) (N : List Nd) (J : World → Prop) (f : Int → W64) : Prop :=
  ∀ (i : Nat) (n : Nd) (w : World) (I : World → Prop) (kt : Kt) (gv : Value), N[i]? = some n → J w → I w → (∀ w w', I w → Keep w w' No → I w') → GetF gv I (kidsN n) f → (∀ w', I w' → Keep w w' No → kt (vw (f i)) w') → M.callv Try.prog g #[encN n, gv] kt w
set_option maxHeartbeats 4000000 in
theorem once_ret {w : World} {F : Nat → Prop} {p r : Nat} {N : List Nd} {most id : Int} {g : Value} {J : World → Prop} {f : Int → W64} (hd : DagO w F p N most) (hid : isN N id = true) (hm : MapO w r []) (hFr : ¬ F r) (hJ : J w) (hJk : ∀ w', Keep w w' (· = r) → J w') (hof : OfF g N J f) :
    Ret Try.prog 74 #[ptr p, vi id, .map (some r), g] w (fun x w' => x = vw (f id) ∧ Keep w w' (· = r)) := by
  have hG := hd.good
  have hNl := hd.len.1
  refine ok74 _ _ _ _ _ _ ?_
  unfold sh74
  refine M.new_i (l := [.map (some r)]) (fun w1 b1 k1 s1 => ?_)
  refine M.buildSlice_i [vi id] (by kernel_rfl) (fun w2 b2 k2 s2 => ?_)
  have b1 := b1.keep k2 (fun h => h)
  have k12 : Keep w w2 (· = r) := (k1.trans k2 (fun _ _ h => h)).mono (fun _ _ h => h.elim)
  have hm2 := (hm.keep k1 (fun h => h)).keep k2 (fun h => h)
  have hrl := hm.lt
  have g2 : GI w2 (w1.heap.size ≤ ·) (.slice (some ⟨w1.heap.size, 0, none⟩) 1 1) [id] := GC.of_blk b2 (Nat.le_refl _) rfl
  refine M.loop_i (σ := List Int × List Int × List Int) (fun t vals w' => ∃ sv kv, vals = [sv] ∧ GI w' (w1.heap.size ≤ ·) sv t.1 ∧ Once N id t.1 t.2.1 t.2.2 ∧ t.1.length + 4 * (N.length - t.2.2.length) ≤ 4 * N.length + 1 ∧ Blk w' w.heap.size [.map (some r)] ∧ MapO w' r kv ∧ HeldR kv t.2.1 f ∧ Keep w w' (· = r)) (fun t => onceM N t.1 t.2.2) ([id], [], [])
    ⟨_, [], rfl, g2, Once.start hid, by show 1 + 4 * (N.length - 0) ≤ _; omega, b1, hm2, fun k => by simp [lkp], k12⟩ ?_
  rintro ⟨st, held, E⟩ vals w3 K ⟨sv, kv, rfl, gs, ho, hb, hb3, hm3, hh, k3⟩ hK _
  simp only at gs ho hb hh
  simp only [List.getD_cons_zero, List.getD_cons_succ]
  have hd3 := hd.keep k3 (fun b hb h => hFr (h ▸ hb))
  have q3 := k3.size
  obtain ⟨A, c, rfl, hrs, hcap⟩ := GC.row2 gs (by omega)
  have hslen : st.length ≤ 1000000 := by omega
  rcases nil_or_snoc st with rfl | ⟨st0, t, rfl⟩
  · simp only [List.length_nil]
    (repeat (first|refine ja ?_|refine jb ?_|refine jc ?_|refine jd ?_|refine je ?_|refine jf ?_|refine jg ?_|refine jh ?_|refine ji ?_|refine jj ?_|refine jk ?_|refine jl ?_|refine jm ?_|refine jn ?_|refine jo ?_|refine jp ?_|refine jq ?_|refine jr ?_|refine js ?_|refine jt ?_|refine ju ?_|refine jv ?_|refine jw ?_|refine jx ?_|refine jy ?_|refine jz ?_|refine jA ?_|refine jB ?_|refine jC ?_|refine jD ?_|refine jE ?_|refine jF ?_|refine jG ?_|refine jH ?_|refine jI ?_|refine jJ ?_|refine jK ?_|refine jL ?_|refine jM (by assumption) ?_|refine jN (by assumption) rfl ?_|refine jO (by assumption) ?_|refine jP (by assumption) rfl ?_|refine jQ ?_|refine jR ?_|refine jS ?_|refine jT ?_|refine jU (by assumption) rfl ?_))
    refine M.lookup_i (kt := 3) (et := 30) (z := vw 0) (by kernel_rfl) (by kernel_rfl) (fun w => Try.zeroValue30 w) hm3 ?_
    rw [hh id, if_pos (ho.first rfl)]
    exact ⟨rfl, k3⟩
  · have htN := ho.rng t (by simp)
    obtain ⟨j, n, rfl, hn⟩ := isN_get htN
    have hgn := hG j n hn
    have hstl : (st0 ++ [(j : Int)]).length = st0.length + 1 := by simp
    have hnode : nodeAt N (j : Int) = n := by
      unfold nodeAt
      rw [htN, Int.toNat_natCast, hn]; rfl
    rw [hstl]
    (repeat (first|refine ja ?_|refine jb ?_|refine jc ?_|refine jd ?_|refine je ?_|refine jf ?_|refine jg ?_|refine jh ?_|refine ji ?_|refine jj ?_|refine jk ?_|refine jl ?_|refine jm ?_|refine jn ?_|refine jo ?_|refine jp ?_|refine jq ?_|refine jr ?_|refine js ?_|refine jt ?_|refine ju ?_|refine jv ?_|refine jw ?_|refine jx ?_|refine jy ?_|refine jz ?_|refine jA ?_|refine jB ?_|refine jC ?_|refine jD ?_|refine jE ?_|refine jF ?_|refine jG ?_|refine jH ?_|refine jI ?_|refine jJ ?_|refine jK ?_|refine jL ?_|refine jM (by assumption) ?_|refine jN (by assumption) rfl ?_|refine jO (by assumption) ?_|refine jP (by assumption) rfl ?_|refine jQ ?_|refine jR ?_|refine jS ?_|refine jT ?_|refine jU (by assumption) rfl ?_))
    refine M.share_j (fun vals w' => ∃ sv st' held' E' kv', vals = [sv] ∧ GI w' (w1.heap.size ≤ ·) sv st' ∧ Once N id st' held' E' ∧ onceM N st' E' < onceM N (st0 ++ [(j : Int)]) E ∧ st'.length + 4 * (N.length - E'.length) ≤ 4 * N.length + 1 ∧ Blk w' w.heap.size [.map (some r)] ∧ MapO w' r kv' ∧ HeldR kv' held' f ∧ Keep w w' (· = r)) ?_ ?_
    · rintro vals w4 ⟨sv, st', held', E', kv', rfl, a1, a2, a3, a4, a5, a6, a7, a8⟩ _
      simp only [List.getD_cons_zero, List.getD_cons_succ]
      exact hK (st', held', E') _ _ a3 ⟨sv, kv', rfl, a1, a2, a4, a5, a6, a7, a8⟩
    · intro K2 hK2
      have e1 : ((st0.length + 1 : Nat) : Int) - 1 = ((st0.length : Nat) : Int) := by omega
      (repeat (first|refine ja ?_|refine jb ?_|refine jc ?_|refine jd ?_|refine je ?_|refine jf ?_|refine jg ?_|refine jh ?_|refine ji ?_|refine jj ?_|refine jk ?_|refine jl ?_|refine jm ?_|refine jn ?_|refine jo ?_|refine jp ?_|refine jq ?_|refine jr ?_|refine js ?_|refine jt ?_|refine ju ?_|refine jv ?_|refine jw ?_|refine jx ?_|refine jy ?_|refine jz ?_|refine jA ?_|refine jB ?_|refine jC ?_|refine jD ?_|refine jE ?_|refine jF ?_|refine jG ?_|refine jH ?_|refine jI ?_|refine jJ ?_|refine jK ?_|refine jL ?_|refine jM (by assumption) ?_|refine jN (by assumption) rfl ?_|refine jO (by assumption) ?_|refine jP (by assumption) rfl ?_|refine jQ ?_|refine jR ?_|refine jS ?_|refine jT ?_|refine jU (by assumption) rfl ?_))
      rw [e1]
      refine M.idxLV_i hrs (by simp) (by omega) (by omega) (x := (j : Int)) (by rw [Int.toNat_natCast]; simp) (fun bb oo hA hcc => ?_)
      (repeat (first|refine ja ?_|refine jb ?_|refine jc ?_|refine jd ?_|refine je ?_|refine jf ?_|refine jg ?_|refine jh ?_|refine ji ?_|refine jj ?_|refine jk ?_|refine jl ?_|refine jm ?_|refine jn ?_|refine jo ?_|refine jp ?_|refine jq ?_|refine jr ?_|refine js ?_|refine jt ?_|refine ju ?_|refine jv ?_|refine jw ?_|refine jx ?_|refine jy ?_|refine jz ?_|refine jA ?_|refine jB ?_|refine jC ?_|refine jD ?_|refine jE ?_|refine jF ?_|refine jG ?_|refine jH ?_|refine jI ?_|refine jJ ?_|refine jK ?_|refine jL ?_|refine jM (by assumption) ?_|refine jN (by assumption) rfl ?_|refine jO (by assumption) ?_|refine jP (by assumption) rfl ?_|refine jQ ?_|refine jR ?_|refine jS ?_|refine jT ?_|refine jU (by assumption) rfl ?_))
      refine M.call_i (hd3.node (j : Int)) ?_; rintro _ w4 ⟨rfl, k4⟩
      rw [htN, hnode]
      refine M.extract_i rfl ?_
      refine M.extract_i rfl ?_
      refine M.new_i (l := zeroNd.cells) (fun w5 b5 k5 s5 => ?_)
      refine M.storeAll_i b5 rfl rfl (cells_one n) (fun w6 b6 k6 s6 => ?_)
      refine M.loadAll_i b6 rfl ?_
      refine M.call_i (kids_ret hgn w6) ?_; rintro ksv w7 ⟨hks, k7⟩
      have q4 := k4.size
      have k37 : Keep w3 w7 No := ((k4.trans k5 (fun _ _ h => h)).trans k6 (fun b hb h => by omega)).trans k7 (fun _ _ h => h)
      have b6 := b6.keep k7 (fun h => h)
      obtain ⟨A2, c2, rfl, hrk, hck⟩ := hks
      have hkl : (kidsN n).length ≤ 3 := by
        unfold kidsN
        split
        · simp
        · split
          · simp
          · split <;> simp
      have gs7 := gs.keep k37 (fun _ _ _ h => h)
      have hb7 := hb3.keep k37 (fun h => h)
      have hm7 := hm3.keep k37 (fun h => h)
      have hlen' : (st0 ++ [(j : Int)]).length = st0.length + 1 := hstl
      have q37 := k37.size
      (repeat (first|refine ja ?_|refine jb ?_|refine jc ?_|refine jd ?_|refine je ?_|refine jf ?_|refine jg ?_|refine jh ?_|refine ji ?_|refine jj ?_|refine jk ?_|refine jl ?_|refine jm ?_|refine jn ?_|refine jo ?_|refine jp ?_|refine jq ?_|refine jr ?_|refine js ?_|refine jt ?_|refine ju ?_|refine jv ?_|refine jw ?_|refine jx ?_|refine jy ?_|refine jz ?_|refine jA ?_|refine jB ?_|refine jC ?_|refine jD ?_|refine jE ?_|refine jF ?_|refine jG ?_|refine jH ?_|refine jI ?_|refine jJ ?_|refine jK ?_|refine jL ?_|refine jM (by assumption) ?_|refine jN (by assumption) rfl ?_|refine jO (by assumption) ?_|refine jP (by assumption) rfl ?_|refine jQ ?_|refine jR ?_|refine jS ?_|refine jT ?_|refine jU (by assumption) rfl ?_))
      have gs7' : GI w7 (fun b => (w1.heap.size ≤ b ∧ b < w3.heap.size) ∨ w7.heap.size ≤ b) (.slice A (st0 ++ [(j : Int)]).length c) (st0 ++ [(j : Int)]) := (gs.mono (L' := fun b => (w1.heap.size ≤ b ∧ b < w3.heap.size) ∨ w7.heap.size ≤ b) (fun b hb h => .inl ⟨h, hb⟩)).keep k37 (fun _ _ _ h => h)
      have hrk := hrk.mono (D' := fun b => w6.heap.size ≤ b ∧ b < w7.heap.size) (fun b hb h => ⟨h, hb⟩)
      have q6 : w3.heap.size ≤ w6.heap.size := by have := k5.size; omega
      have q67 := k7.size
      rw [hstl] at gs7'
      refine M.loop_i (σ := Nat) (fun i vals w' => ∃ sv, vals = [sv, vb (!((kidsN n).take i).all (fun k => decide (k ∈ held))), vi i] ∧ i ≤ (kidsN n).length ∧ GI w' (fun b => (w1.heap.size ≤ b ∧ b < w3.heap.size) ∨ w7.heap.size ≤ b) sv (st0 ++ [(j : Int)] ++ ((kidsN n).take i).filter (fun k => decide (k ∉ held))) ∧ Keep w7 w' (fun b => (w1.heap.size ≤ b ∧ b < w3.heap.size) ∨ w7.heap.size ≤ b)) (fun i => (kidsN n).length - i) 0
        ⟨_, rfl, by omega, by simpa using gs7', Keep.refl _ _⟩ ?_
      rintro i vals w8 K3 ⟨sv, rfl, hi, g8, k8⟩ hK3 _
      simp only [List.getD_cons_zero, List.getD_cons_succ]
      have hrk8 := hrk.keep k8 (fun b hb h1 h2 => by omega)
      have hb8 := hb7.keep k8 (fun h => by omega)
      have hm8 := hm7.keep k8 (fun h => by omega)
      have b8 := b6.keep k8 (fun h => by have := k5.size; omega)
      have q8 := k8.size
      by_cases hlt : i < (kidsN n).length
      · obtain ⟨k, hk⟩ : ∃ k, (kidsN n)[i]? = some k := ⟨_, List.getElem?_eq_getElem hlt⟩
        have hka : ((kidsN n).take (i + 1)).all (fun k => decide (k ∈ held)) = (((kidsN n).take i).all (fun k => decide (k ∈ held)) && decide (k ∈ held)) := by
          rw [List.take_add_one, hk]; simp
        have hkf : ((kidsN n).take (i + 1)).filter (fun k => decide (k ∉ held)) = ((kidsN n).take i).filter (fun k => decide (k ∉ held)) ++ if k ∈ held then [] else [k] := by
          rw [List.take_add_one, hk, List.filter_append]
          congr 1
          by_cases hkh : k ∈ held <;> simp [hkh]
        have hfl : (((kidsN n).take i).filter (fun k => decide (k ∉ held))).length ≤ 3 := by
          refine Nat.le_trans (List.length_filter_le _ _) ?_
          rw [List.length_take]; omega
        (repeat (first|refine ja ?_|refine jb ?_|refine jc ?_|refine jd ?_|refine je ?_|refine jf ?_|refine jg ?_|refine jh ?_|refine ji ?_|refine jj ?_|refine jk ?_|refine jl ?_|refine jm ?_|refine jn ?_|refine jo ?_|refine jp ?_|refine jq ?_|refine jr ?_|refine js ?_|refine jt ?_|refine ju ?_|refine jv ?_|refine jw ?_|refine jx ?_|refine jy ?_|refine jz ?_|refine jA ?_|refine jB ?_|refine jC ?_|refine jD ?_|refine jE ?_|refine jF ?_|refine jG ?_|refine jH ?_|refine jI ?_|refine jJ ?_|refine jK ?_|refine jL ?_|refine jM (by assumption) ?_|refine jN (by assumption) rfl ?_|refine jO (by assumption) ?_|refine jP (by assumption) rfl ?_|refine jQ ?_|refine jR ?_|refine jS ?_|refine jT ?_|refine jU (by assumption) rfl ?_))
        refine M.share_j (fun vals w' => ∃ sv, vals = [sv, vb (!((kidsN n).take (i + 1)).all (fun k => decide (k ∈ held)))] ∧ GI w' (fun b => (w1.heap.size ≤ b ∧ b < w3.heap.size) ∨ w7.heap.size ≤ b) sv (st0 ++ [(j : Int)] ++ ((kidsN n).take (i + 1)).filter (fun k => decide (k ∉ held))) ∧ Keep w7 w' (fun b => (w1.heap.size ≤ b ∧ b < w3.heap.size) ∨ w7.heap.size ≤ b)) ?_ ?_
        · rintro vals w9 ⟨sv, rfl, g9, k9⟩ _
          simp only [List.getD_cons_zero, List.getD_cons_succ]
          (repeat (first|refine ja ?_|refine jb ?_|refine jc ?_|refine jd ?_|refine je ?_|refine jf ?_|refine jg ?_|refine jh ?_|refine ji ?_|refine jj ?_|refine jk ?_|refine jl ?_|refine jm ?_|refine jn ?_|refine jo ?_|refine jp ?_|refine jq ?_|refine jr ?_|refine js ?_|refine jt ?_|refine ju ?_|refine jv ?_|refine jw ?_|refine jx ?_|refine jy ?_|refine jz ?_|refine jA ?_|refine jB ?_|refine jC ?_|refine jD ?_|refine jE ?_|refine jF ?_|refine jG ?_|refine jH ?_|refine jI ?_|refine jJ ?_|refine jK ?_|refine jL ?_|refine jM (by assumption) ?_|refine jN (by assumption) rfl ?_|refine jO (by assumption) ?_|refine jP (by assumption) rfl ?_|refine jQ ?_|refine jR ?_|refine jS ?_|refine jT ?_|refine jU (by assumption) rfl ?_))
          exact hK3 (i + 1) _ _ (by omega) ⟨sv, by simp, by omega, g9, k9⟩
        · intro K4 hK4
          refine M.idxLV_i hrk8 rfl (by omega) (by omega) (x := k) (by simpa using hk) (fun bb oo hA hcc => ?_)
          (repeat (first|refine ja ?_|refine jb ?_|refine jc ?_|refine jd ?_|refine je ?_|refine jf ?_|refine jg ?_|refine jh ?_|refine ji ?_|refine jj ?_|refine jk ?_|refine jl ?_|refine jm ?_|refine jn ?_|refine jo ?_|refine jp ?_|refine jq ?_|refine jr ?_|refine js ?_|refine jt ?_|refine ju ?_|refine jv ?_|refine jw ?_|refine jx ?_|refine jy ?_|refine jz ?_|refine jA ?_|refine jB ?_|refine jC ?_|refine jD ?_|refine jE ?_|refine jF ?_|refine jG ?_|refine jH ?_|refine jI ?_|refine jJ ?_|refine jK ?_|refine jL ?_|refine jM (by assumption) ?_|refine jN (by assumption) rfl ?_|refine jO (by assumption) ?_|refine jP (by assumption) rfl ?_|refine jQ ?_|refine jR ?_|refine jS ?_|refine jT ?_|refine jU (by assumption) rfl ?_))
          refine M.lookupOk_i (kt := 3) (et := 30) (z := vw 0) (by kernel_rfl) (by kernel_rfl) (fun w => Try.zeroValue30 w) hm8 ?_
          refine M.extract_i rfl ?_
          refine M.extract_i rfl ?_
          rw [hh k]
          by_cases hkh : k ∈ held
          · rw [if_pos hkh]
            rw [if_pos hkh, List.append_nil] at hkf
            (repeat (first|refine ja ?_|refine jb ?_|refine jc ?_|refine jd ?_|refine je ?_|refine jf ?_|refine jg ?_|refine jh ?_|refine ji ?_|refine jj ?_|refine jk ?_|refine jl ?_|refine jm ?_|refine jn ?_|refine jo ?_|refine jp ?_|refine jq ?_|refine jr ?_|refine js ?_|refine jt ?_|refine ju ?_|refine jv ?_|refine jw ?_|refine jx ?_|refine jy ?_|refine jz ?_|refine jA ?_|refine jB ?_|refine jC ?_|refine jD ?_|refine jE ?_|refine jF ?_|refine jG ?_|refine jH ?_|refine jI ?_|refine jJ ?_|refine jK ?_|refine jL ?_|refine jM (by assumption) ?_|refine jN (by assumption) rfl ?_|refine jO (by assumption) ?_|refine jP (by assumption) rfl ?_|refine jQ ?_|refine jR ?_|refine jS ?_|refine jT ?_|refine jU (by assumption) rfl ?_))
            refine hK4 _ _ ⟨sv, ?_, by rw [hkf]; exact g8, k8⟩
            rw [hka, decide_eq_true hkh, Bool.and_true]
          · rw [if_neg hkh]
            rw [if_neg hkh] at hkf
            (repeat (first|refine ja ?_|refine jb ?_|refine jc ?_|refine jd ?_|refine je ?_|refine jf ?_|refine jg ?_|refine jh ?_|refine ji ?_|refine jj ?_|refine jk ?_|refine jl ?_|refine jm ?_|refine jn ?_|refine jo ?_|refine jp ?_|refine jq ?_|refine jr ?_|refine js ?_|refine jt ?_|refine ju ?_|refine jv ?_|refine jw ?_|refine jx ?_|refine jy ?_|refine jz ?_|refine jA ?_|refine jB ?_|refine jC ?_|refine jD ?_|refine jE ?_|refine jF ?_|refine jG ?_|refine jH ?_|refine jI ?_|refine jJ ?_|refine jK ?_|refine jL ?_|refine jM (by assumption) ?_|refine jN (by assumption) rfl ?_|refine jO (by assumption) ?_|refine jP (by assumption) rfl ?_|refine jQ ?_|refine jR ?_|refine jS ?_|refine jT ?_|refine jU (by assumption) rfl ?_))
            refine M.buildSlice_i [vi k] (by kernel_rfl) (fun w9 b9 k9 s9 => ?_)
            refine M.append1_i (g8.keep k9 (fun _ _ _ h => h)) (Row.of_blk' (D := fun _ => True) b9 trivial) rfl (by
              rw [List.length_append, hstl]
              rw [hstl] at hslen
              omega) (fun v10 w10 g10 k10 => ?_)
            have q9 := k9.size
            refine hK4 _ _ ⟨v10, ?_, ?_, (k8.trans k9 (fun _ _ h => h.elim)).trans k10 (fun b hb h => by omega)⟩
            · rw [hka, decide_eq_false hkh, Bool.and_false]; rfl
            · rw [hkf, ← List.append_assoc]
              exact g10.mono (fun b hb h => by omega)
      · have : i = (kidsN n).length := by omega
        subst this
        rw [List.take_length] at g8 ⊢
        have k38 : Keep w w8 (· = r) := (k3.trans k37 (fun _ _ h => h.elim)).trans k8 (fun b hb h => by have := k1.size; omega)
        have gl8 : GI w8 (w1.heap.size ≤ ·) sv (st0 ++ [(j : Int)] ++ (kidsN n).filter (fun k => decide (k ∉ held))) := g8.mono (fun b hb h => by omega)
        cases hall : (kidsN n).all (fun k => decide (k ∈ held)) with
        | false =>
          (repeat (first|refine ja ?_|refine jb ?_|refine jc ?_|refine jd ?_|refine je ?_|refine jf ?_|refine jg ?_|refine jh ?_|refine ji ?_|refine jj ?_|refine jk ?_|refine jl ?_|refine jm ?_|refine jn ?_|refine jo ?_|refine jp ?_|refine jq ?_|refine jr ?_|refine js ?_|refine jt ?_|refine ju ?_|refine jv ?_|refine jw ?_|refine jx ?_|refine jy ?_|refine jz ?_|refine jA ?_|refine jB ?_|refine jC ?_|refine jD ?_|refine jE ?_|refine jF ?_|refine jG ?_|refine jH ?_|refine jI ?_|refine jJ ?_|refine jK ?_|refine jL ?_|refine jM (by assumption) ?_|refine jN (by assumption) rfl ?_|refine jO (by assumption) ?_|refine jP (by assumption) rfl ?_|refine jQ ?_|refine jR ?_|refine jS ?_|refine jT ?_|refine jU (by assumption) rfl ?_))
          have hne : (kidsN n).filter (fun k => decide (k ∉ held)) ≠ [] := fun he => by
            rw [List.filter_eq_nil_iff] at he
            rw [List.all_eq_false] at hall
            obtain ⟨k, hk1, hk2⟩ := hall
            exact he k hk1 (by simpa using hk2)
          obtain ⟨p1, p2⟩ := ho.push hn hG rfl hne
          have hfl : ((kidsN n).filter (fun k => decide (k ∉ held))).length ≤ 3 := Nat.le_trans (List.length_filter_le _ _) hkl
          refine hK2 _ _ ⟨sv, _, held, (j : Int) :: E, kv, rfl, gl8, p1, p2, ?_, hb8, hm8, hh, k38⟩
          have hE := nodup_range p1.nodup p1.ernge
          rw [List.length_cons] at hE
          rw [List.length_append, List.length_cons]
          omega
        | true =>
          have hkh : ∀ k ∈ kidsN n, k ∈ held := fun k hk => by simpa using List.all_eq_true.1 hall k hk
          have hnil : (kidsN n).filter (fun k => decide (k ∉ held)) = [] := by
            rw [List.filter_eq_nil_iff]
            intro k hk
            simpa using hkh k hk
          rw [hnil, List.append_nil] at gl8
          obtain ⟨A8, c8, rfl, _, hcap8⟩ := GC.row2 gl8 (by omega)
          rw [hstl]
          (repeat (first|refine ja ?_|refine jb ?_|refine jc ?_|refine jd ?_|refine je ?_|refine jf ?_|refine jg ?_|refine jh ?_|refine ji ?_|refine jj ?_|refine jk ?_|refine jl ?_|refine jm ?_|refine jn ?_|refine jo ?_|refine jp ?_|refine jq ?_|refine jr ?_|refine js ?_|refine jt ?_|refine ju ?_|refine jv ?_|refine jw ?_|refine jx ?_|refine jy ?_|refine jz ?_|refine jA ?_|refine jB ?_|refine jC ?_|refine jD ?_|refine jE ?_|refine jF ?_|refine jG ?_|refine jH ?_|refine jI ?_|refine jJ ?_|refine jK ?_|refine jL ?_|refine jM (by assumption) ?_|refine jN (by assumption) rfl ?_|refine jO (by assumption) ?_|refine jP (by assumption) rfl ?_|refine jQ ?_|refine jR ?_|refine jS ?_|refine jT ?_|refine jU (by assumption) rfl ?_))
          rw [e1]
          refine M.slice_i 0 st0.length c8 (sl3_h (by omega)) ?_
          have gcut := GI.cut gl8 (m := st0.length) (by omega)
          rw [List.take_left' rfl] at gcut
          have kd := Keep.drew w8 No
          refine M.draw_i ?_
          have hbd := hb8.keep kd (fun h => h)
          (repeat (first|refine ja ?_|refine jb ?_|refine jc ?_|refine jd ?_|refine je ?_|refine jf ?_|refine jg ?_|refine jh ?_|refine ji ?_|refine jj ?_|refine jk ?_|refine jl ?_|refine jm ?_|refine jn ?_|refine jo ?_|refine jp ?_|refine jq ?_|refine jr ?_|refine js ?_|refine jt ?_|refine ju ?_|refine jv ?_|refine jw ?_|refine jx ?_|refine jy ?_|refine jz ?_|refine jA ?_|refine jB ?_|refine jC ?_|refine jD ?_|refine jE ?_|refine jF ?_|refine jG ?_|refine jH ?_|refine jI ?_|refine jJ ?_|refine jK ?_|refine jL ?_|refine jM (by assumption) ?_|refine jN (by assumption) rfl ?_|refine jO (by assumption) ?_|refine jP (by assumption) rfl ?_|refine jQ ?_|refine jR ?_|refine jS ?_|refine jT ?_|refine jU (by assumption) rfl ?_))
          refine M.loadAll_i (b8.keep kd (fun h => h)) rfl ?_
          have hJ8 := hJk _ (k38.trans kd (fun _ _ h => h.elim))
          have hmd := hm8.keep kd (fun h => h)
          refine hof j n _ (fun w' => Blk w' w.heap.size [.map (some r)] ∧ MapO w' r kv) _ _ hn hJ8 ⟨hbd, hmd⟩ (fun a b h k => ⟨h.1.keep k (fun h => h), h.2.keep k (fun h => h)⟩) (get_F hh hkh) (fun w9 hI9 k9 => ?_)
          obtain ⟨hb9, hm9⟩ := hI9
          have k39 : Keep w w9 (· = r) := (k38.trans kd (fun _ _ h => h.elim)).trans k9 (fun _ _ h => h.elim)
          (repeat (first|refine ja ?_|refine jb ?_|refine jc ?_|refine jd ?_|refine je ?_|refine jf ?_|refine jg ?_|refine jh ?_|refine ji ?_|refine jj ?_|refine jk ?_|refine jl ?_|refine jm ?_|refine jn ?_|refine jo ?_|refine jp ?_|refine jq ?_|refine jr ?_|refine js ?_|refine jt ?_|refine ju ?_|refine jv ?_|refine jw ?_|refine jx ?_|refine jy ?_|refine jz ?_|refine jA ?_|refine jB ?_|refine jC ?_|refine jD ?_|refine jE ?_|refine jF ?_|refine jG ?_|refine jH ?_|refine jI ?_|refine jJ ?_|refine jK ?_|refine jL ?_|refine jM (by assumption) ?_|refine jN (by assumption) rfl ?_|refine jO (by assumption) ?_|refine jP (by assumption) rfl ?_|refine jQ ?_|refine jR ?_|refine jS ?_|refine jT ?_|refine jU (by assumption) rfl ?_))
          refine M.mapUpdate_i (kt := 3) (et := 30) (by kernel_rfl) (by kernel_rfl) hm9 (fun w10 m10 k10 s10 => ?_)
          have hop := ho.pop hn hkh hG ((j : Int) :: held) (fun x => List.mem_cons)
          have hq : ∀ b, w1.heap.size ≤ b → b ≠ r := fun b hb h => by have := k1.size; omega
          refine hK2 _ _ ⟨_, st0, (j : Int) :: held, E, _, rfl, ?_, hop, ?_, ?_, hb9.keep k10 (fun h => by omega), m10, hh.upd _, k39.trans k10 (fun _ _ h => h)⟩
          · have := ((gcut.keep kd (fun _ _ _ h => h)).keep k9 (fun _ _ _ h => h)).keep k10 (fun b _ hb h => hq b hb h)
            exact this
          · unfold onceM
            rw [hstl]; omega
          · rw [hstl] at hb
            show st0.length + _ ≤ _
            omega
end Go.Proofs.Ytfffepeloiefiaa
