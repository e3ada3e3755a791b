import Derived.Test.YthkkjjbjpbgcpaaSlices
namespace Go.Proofs.Ythkkjjbjpbgcpaa
open Go.Mw
set_option linter.unusedVariables false
set_option linter.unusedSimpArgs false
set_option maxRecDepth 100000
attribute [local irreducible] M.val M.unit M.next M.pick M.new M.nilCheck M.load1 M.loadA M.store M.fieldAddr M.indexSl M.indexArr M.slice M.makeSlice M.buildSlice M.len M.lenS M.cap M.append M.extract M.conv M.not M.neg M.bin M.shift M.eqB M.eqNil M.scat M.call M.callv M.gd M.share M.cond M.loop M.draw pureW readW Ret
theorem srt_self {l : List Int} (h : l.Pairwise (· < ·)) : srt l = l := (eq_srt h (fun _ => Iff.rfl)).symm
theorem srt_snoc {l : List Int} {x : Int} (h : ∀ y ∈ l, y < x) : srt (l ++ [x]) = srt l ++ [x] := by
  refine (eq_srt ?_ (fun y => ?_)).symm
  · refine List.pairwise_append.2 ⟨srt_lt l, by simp, fun a ha b hb => ?_⟩
    simp at hb; subst hb
    exact h a ((mem_srt _ _).1 ha)
  · simp [mem_srt]
theorem srt_snoc_mem {l : List Int} {x : Int} (h : x ∈ l) : srt (l ++ [x]) = srt l := by
  refine (eq_srt (srt_lt l) (fun y => ?_)).symm
  rw [mem_srt]
  simp only [List.mem_append, List.mem_singleton]
  constructor
  · exact .inl
  · rintro (h1 | rfl)
    · exact h1
    · exact h
theorem le_at {l : List Int} (h : l.Pairwise (· ≤ ·)) {i j : Nat} {x y : Int} (hij : i ≤ j) (hx : l[i]? = some x) (hy : l[j]? = some y) : x ≤ y := by
  obtain ⟨a1, a2⟩ := List.getElem?_eq_some_iff.1 hx
  obtain ⟨b1, b2⟩ := List.getElem?_eq_some_iff.1 hy
  rcases Nat.lt_or_ge i j with h1 | h1
  · have := List.pairwise_iff_getElem.1 h i j a1 b1 h1
    omega
  · have : i = j := by omega
    subst this
    omega
/-- One number more of a list that rises. -/
theorem srt_more {l : List Int} (h : l.Pairwise (· ≤ ·)) {i : Nat} {x y : Int} (hx : l[i]? = some x) (hy : l[i + 1]? = some y) : srt (l.take (i + 2)) = if y = x then srt (l.take (i + 1)) else srt (l.take (i + 1)) ++ [y] := by
  have e1 : l.take (i + 1 + 1) = l.take (i + 1) ++ [y] := by rw [List.take_add_one, hy]; rfl
  rw [show i + 2 = i + 1 + 1 from rfl, e1]
  split
  · rename_i e; subst e
    refine srt_snoc_mem ((mem_take_succ hx).2 (.inr rfl))
  · rename_i hne
    refine srt_snoc (fun z hz => ?_)
    obtain ⟨j, hj⟩ := List.mem_iff_getElem?.1 hz
    have hji : j < i + 1 := by have := (List.getElem?_eq_some_iff.1 hj).1; simp at this; omega
    rw [List.getElem?_take, if_pos hji] at hj
    have h1 := le_at h (show j ≤ i by omega) hj hx
    have h2 := le_at h (Nat.le_succ i) hx hy
    omega
set_option maxHeartbeats 1000000 in
theorem compact_ret {w : World} {L : Nat → Prop} {v : Value} {xs : List Int} (h : GI w L v xs) (hf : Few xs.length) (hs : xs.Pairwise (· ≤ ·)) :
    Ret Try.prog 60 #[v] w (fun r w' => GI w' L r (srt xs) ∧ Keep w w' L) := by
  obtain ⟨A, c, rfl, hr, hcap⟩ := GC.row2 h (by omega)
  refine ok60 _ _ _ ?_
  unfold sh60
  by_cases hsmall : xs.length < 2
  · (repeat (first|refine ja ?_|refine jb ?_|refine jc ?_|refine jd ?_|refine je ?_|refine jf ?_|refine jg ?_|refine jh ?_|refine ji ?_|refine jj ?_|refine jk ?_|refine jl ?_|refine jm ?_|refine jn ?_|refine jo ?_|refine jp ?_|refine jq ?_|refine jr ?_|refine js ?_|refine jt ?_|refine ju ?_|refine jv ?_|refine jw ?_|refine jx ?_|refine jy ?_|refine jz ?_|refine jA ?_|refine jB ?_|refine jC ?_|refine jD ?_|refine jE ?_|refine jF ?_|refine jG ?_|refine jH ?_|refine jI ?_|refine jJ ?_|refine jK ?_|refine jL ?_|refine jM (by assumption) ?_|refine jN (by assumption) rfl ?_|refine jO (by assumption) ?_|refine jP (by assumption) rfl ?_|refine jQ ?_|refine jR ?_|refine jS ?_|refine jT ?_|refine jU (by assumption) rfl ?_))
    have : srt xs = xs := by
      match xs, hsmall with
      | [], _ => rfl
      | [x], _ => rfl
    rw [this]
    exact ⟨h, Keep.refl _ _⟩
  (repeat (first|refine ja ?_|refine jb ?_|refine jc ?_|refine jd ?_|refine je ?_|refine jf ?_|refine jg ?_|refine jh ?_|refine ji ?_|refine jj ?_|refine jk ?_|refine jl ?_|refine jm ?_|refine jn ?_|refine jo ?_|refine jp ?_|refine jq ?_|refine jr ?_|refine js ?_|refine jt ?_|refine ju ?_|refine jv ?_|refine jw ?_|refine jx ?_|refine jy ?_|refine jz ?_|refine jA ?_|refine jB ?_|refine jC ?_|refine jD ?_|refine jE ?_|refine jF ?_|refine jG ?_|refine jH ?_|refine jI ?_|refine jJ ?_|refine jK ?_|refine jL ?_|refine jM (by assumption) ?_|refine jN (by assumption) rfl ?_|refine jO (by assumption) ?_|refine jP (by assumption) rfl ?_|refine jQ ?_|refine jR ?_|refine jS ?_|refine jT ?_|refine jU (by assumption) rfl ?_))
  refine M.loop_i (σ := Nat) (fun i vals w' => vals = [vi (i + 1 : Nat)] ∧ i + 1 ≤ xs.length ∧ srt (xs.take (i + 1)) = xs.take (i + 1) ∧ Keep w w' No) (fun i => xs.length - i) 0
    ⟨rfl, by omega, by rw [srt_self]; match xs, hsmall with
      | x :: l, _ => simp, Keep.refl _ _⟩ ?_
  rintro i vals w1 K ⟨rfl, hi, hsi, k1⟩ hK _
  simp only [List.getD_cons_zero, List.getD_cons_succ]
  have hr1 := hr.keep k1 (fun _ _ _ h => h)
  have h1 := h.keep k1 (fun _ _ _ h => h)
  by_cases hlt : i + 1 < xs.length
  · obtain ⟨x, hx⟩ : ∃ x, xs[i]? = some x := ⟨_, List.getElem?_eq_getElem (by omega)⟩
    obtain ⟨y, hy⟩ : ∃ y, xs[i + 1]? = some y := ⟨_, List.getElem?_eq_getElem hlt⟩
    (repeat (first|refine ja ?_|refine jb ?_|refine jc ?_|refine jd ?_|refine je ?_|refine jf ?_|refine jg ?_|refine jh ?_|refine ji ?_|refine jj ?_|refine jk ?_|refine jl ?_|refine jm ?_|refine jn ?_|refine jo ?_|refine jp ?_|refine jq ?_|refine jr ?_|refine js ?_|refine jt ?_|refine ju ?_|refine jv ?_|refine jw ?_|refine jx ?_|refine jy ?_|refine jz ?_|refine jA ?_|refine jB ?_|refine jC ?_|refine jD ?_|refine jE ?_|refine jF ?_|refine jG ?_|refine jH ?_|refine jI ?_|refine jJ ?_|refine jK ?_|refine jL ?_|refine jM (by assumption) ?_|refine jN (by assumption) rfl ?_|refine jO (by assumption) ?_|refine jP (by assumption) rfl ?_|refine jQ ?_|refine jR ?_|refine jS ?_|refine jT ?_|refine jU (by assumption) rfl ?_))
    have hrd : Row w1.drew L A (xs.map vi) := hr1
    have hsub : (((i + 1 : Nat) : Int) - 1).toNat = i := by omega
    refine M.idxLV_i hrd rfl (by omega) (by omega) (x := y) (by rw [Int.toNat_natCast]; exact hy) (fun b o hA hc => ?_)
    (repeat (first|refine ja ?_|refine jb ?_|refine jc ?_|refine jd ?_|refine je ?_|refine jf ?_|refine jg ?_|refine jh ?_|refine ji ?_|refine jj ?_|refine jk ?_|refine jl ?_|refine jm ?_|refine jn ?_|refine jo ?_|refine jp ?_|refine jq ?_|refine jr ?_|refine js ?_|refine jt ?_|refine ju ?_|refine jv ?_|refine jw ?_|refine jx ?_|refine jy ?_|refine jz ?_|refine jA ?_|refine jB ?_|refine jC ?_|refine jD ?_|refine jE ?_|refine jF ?_|refine jG ?_|refine jH ?_|refine jI ?_|refine jJ ?_|refine jK ?_|refine jL ?_|refine jM (by assumption) ?_|refine jN (by assumption) rfl ?_|refine jO (by assumption) ?_|refine jP (by assumption) rfl ?_|refine jQ ?_|refine jR ?_|refine jS ?_|refine jT ?_|refine jU (by assumption) rfl ?_))
    refine M.idxLV_i hrd rfl (by omega) (by omega) (x := x) (by rw [hsub]; exact hx) (fun b o hA hc => ?_)
    (repeat (first|refine ja ?_|refine jb ?_|refine jc ?_|refine jd ?_|refine je ?_|refine jf ?_|refine jg ?_|refine jh ?_|refine ji ?_|refine jj ?_|refine jk ?_|refine jl ?_|refine jm ?_|refine jn ?_|refine jo ?_|refine jp ?_|refine jq ?_|refine jr ?_|refine js ?_|refine jt ?_|refine ju ?_|refine jv ?_|refine jw ?_|refine jx ?_|refine jy ?_|refine jz ?_|refine jA ?_|refine jB ?_|refine jC ?_|refine jD ?_|refine jE ?_|refine jF ?_|refine jG ?_|refine jH ?_|refine jI ?_|refine jJ ?_|refine jK ?_|refine jL ?_|refine jM (by assumption) ?_|refine jN (by assumption) rfl ?_|refine jO (by assumption) ?_|refine jP (by assumption) rfl ?_|refine jQ ?_|refine jR ?_|refine jS ?_|refine jT ?_|refine jU (by assumption) rfl ?_))
    have more := srt_more hs hx hy
    refine M.eql_i ?_
    refine M.cond_i (fun hxy => ?_) (fun hxy => ?_)
    · -- the rest moves down
      rw [if_pos hxy] at more
      have h1d : GI w1.drew L (.slice A xs.length c) xs := h1
      have k1d : Keep w w1.drew L := (k1.mono (fun _ _ h => h.elim)).to_drew
      generalize w1.drew = w2 at *
      refine M.slice_i (i + 1) xs.length c (sl3_l (by omega)) ?_
      refine M.loop_i (σ := Nat × Nat × List Int) (fun s vals w' => vals = [vi s.1, vi (s.2.1 + 1 : Nat)] ∧ i + 1 + (s.2.1 + 1) ≤ xs.length ∧ s.1 ≤ i + 1 + s.2.1 ∧ s.2.2.length = xs.length ∧ GI w' L (.slice A xs.length c) s.2.2 ∧ s.2.2.take s.1 = srt (xs.take (i + 1 + (s.2.1 + 1))) ∧
          s.2.2.drop (i + 1 + s.2.1) = xs.drop (i + 1 + s.2.1) ∧ Keep w w' L) (fun s => xs.length - s.2.1) (i + 1, 0, xs)
        ⟨rfl, by show i + 1 + (0 + 1) ≤ xs.length; omega, by show i + 1 ≤ i + 1 + 0; omega, rfl, h1d, by show xs.take (i + 1) = srt (xs.take (i + 2)); rw [more, hsi], rfl, k1d⟩ ?_
      rintro ⟨n, j, ys⟩ vals w3 K2 ⟨rfl, hj, hnj, hl, hg, ht, hd, k3⟩ hK2 _
      simp only at hj hnj hl hg ht hd
      simp only [List.getD_cons_zero, List.getD_cons_succ]
      have hcp := GI.cap_le h
      have hrow : Row w3 L A (ys.map vi) := by
        obtain ⟨A', c', e', hr, _⟩ := GC.row2 hg (by omega)
        simp only [Value.slice.injEq] at e'
        obtain ⟨rfl, _, rfl⟩ := e'
        exact hr
      have htail : Row w3 L (if c = i + 1 then A else A.map (·.add ((i + 1) * 1))) ((ys.drop (i + 1)).map vi) := by rw [List.map_drop]; exact hrow.tail (by simp; omega)
      by_cases hlt2 : i + 1 + (j + 1) < xs.length
      · obtain ⟨p, hp⟩ : ∃ p, xs[i + 1 + j]? = some p := ⟨_, List.getElem?_eq_getElem (by omega)⟩
        obtain ⟨q, hq⟩ : ∃ q, xs[i + 1 + j + 1]? = some q := ⟨_, List.getElem?_eq_getElem (by omega)⟩
        have hp' : ys[i + 1 + j]? = some p := by rw [drop_get hd (Nat.le_refl _)]; exact hp
        have hq' : ys[i + 1 + j + 1]? = some q := by rw [drop_get hd (by omega)]; exact hq
        have more2 := srt_more hs hp hq
        have hgp : (ys.drop (i + 1))[j]? = some p := by rw [List.getElem?_drop]; exact hp'
        have hgq : (ys.drop (i + 1))[j + 1]? = some q := by rw [List.getElem?_drop]; exact hq'
        have hsub2 : (((j + 1 : Nat) : Int) - 1).toNat = j := by omega
        (repeat (first|refine ja ?_|refine jb ?_|refine jc ?_|refine jd ?_|refine je ?_|refine jf ?_|refine jg ?_|refine jh ?_|refine ji ?_|refine jj ?_|refine jk ?_|refine jl ?_|refine jm ?_|refine jn ?_|refine jo ?_|refine jp ?_|refine jq ?_|refine jr ?_|refine js ?_|refine jt ?_|refine ju ?_|refine jv ?_|refine jw ?_|refine jx ?_|refine jy ?_|refine jz ?_|refine jA ?_|refine jB ?_|refine jC ?_|refine jD ?_|refine jE ?_|refine jF ?_|refine jG ?_|refine jH ?_|refine jI ?_|refine jJ ?_|refine jK ?_|refine jL ?_|refine jM (by assumption) ?_|refine jN (by assumption) rfl ?_|refine jO (by assumption) ?_|refine jP (by assumption) rfl ?_|refine jQ ?_|refine jR ?_|refine jS ?_|refine jT ?_|refine jU (by assumption) rfl ?_))
        refine M.share_j (fun vals w' => ∃ (n' : Nat) (ys' : List Int), vals = [vi n'] ∧ n' ≤ i + 1 + (j + 1) ∧ ys'.length = xs.length ∧ GI w' L (.slice A xs.length c) ys' ∧ ys'.take n' = srt (xs.take (i + 1 + (j + 1 + 1))) ∧
          ys'.drop (i + 1 + (j + 1)) = xs.drop (i + 1 + (j + 1)) ∧ Keep w w' L) ?_ ?_
        · rintro vals w4 ⟨n', ys', rfl, g1, g2, g3, g4, g5, g6⟩ _
          simp only [List.getD_cons_zero, List.getD_cons_succ]
          (repeat (first|refine ja ?_|refine jb ?_|refine jc ?_|refine jd ?_|refine je ?_|refine jf ?_|refine jg ?_|refine jh ?_|refine ji ?_|refine jj ?_|refine jk ?_|refine jl ?_|refine jm ?_|refine jn ?_|refine jo ?_|refine jp ?_|refine jq ?_|refine jr ?_|refine js ?_|refine jt ?_|refine ju ?_|refine jv ?_|refine jw ?_|refine jx ?_|refine jy ?_|refine jz ?_|refine jA ?_|refine jB ?_|refine jC ?_|refine jD ?_|refine jE ?_|refine jF ?_|refine jG ?_|refine jH ?_|refine jI ?_|refine jJ ?_|refine jK ?_|refine jL ?_|refine jM (by assumption) ?_|refine jN (by assumption) rfl ?_|refine jO (by assumption) ?_|refine jP (by assumption) rfl ?_|refine jQ ?_|refine jR ?_|refine jS ?_|refine jT ?_|refine jU (by assumption) rfl ?_))
          exact hK2 (n', j + 1, ys') _ _ (by show xs.length - (j + 1) < xs.length - j; omega) ⟨by simp, by show i + 1 + (j + 1 + 1) ≤ xs.length; omega, g1, g2, g3, g4, g5, g6⟩
        · intro K3 hK3
          refine M.draw_i ?_
          have hrow : Row w3.drew L A (ys.map vi) := hrow
          have htail : Row w3.drew L (if c = i + 1 then A else A.map (·.add ((i + 1) * 1))) ((ys.drop (i + 1)).map vi) := htail
          have hg : GI w3.drew L (.slice A xs.length c) ys := hg
          have k3 : Keep w w3.drew L := k3.to_drew
          generalize w3.drew = w4 at *
          refine M.idxLV_i htail (by simp; omega) (by omega) (by omega) (x := q) (by rw [Int.toNat_natCast]; exact hgq) (fun b o hA hc => ?_)
          (repeat (first|refine ja ?_|refine jb ?_|refine jc ?_|refine jd ?_|refine je ?_|refine jf ?_|refine jg ?_|refine jh ?_|refine ji ?_|refine jj ?_|refine jk ?_|refine jl ?_|refine jm ?_|refine jn ?_|refine jo ?_|refine jp ?_|refine jq ?_|refine jr ?_|refine js ?_|refine jt ?_|refine ju ?_|refine jv ?_|refine jw ?_|refine jx ?_|refine jy ?_|refine jz ?_|refine jA ?_|refine jB ?_|refine jC ?_|refine jD ?_|refine jE ?_|refine jF ?_|refine jG ?_|refine jH ?_|refine jI ?_|refine jJ ?_|refine jK ?_|refine jL ?_|refine jM (by assumption) ?_|refine jN (by assumption) rfl ?_|refine jO (by assumption) ?_|refine jP (by assumption) rfl ?_|refine jQ ?_|refine jR ?_|refine jS ?_|refine jT ?_|refine jU (by assumption) rfl ?_))
          refine M.idxLV_i htail (by simp; omega) (by omega) (by omega) (x := p) (by rw [hsub2]; exact hgp) (fun b o hA hc => ?_)
          (repeat (first|refine ja ?_|refine jb ?_|refine jc ?_|refine jd ?_|refine je ?_|refine jf ?_|refine jg ?_|refine jh ?_|refine ji ?_|refine jj ?_|refine jk ?_|refine jl ?_|refine jm ?_|refine jn ?_|refine jo ?_|refine jp ?_|refine jq ?_|refine jr ?_|refine js ?_|refine jt ?_|refine ju ?_|refine jv ?_|refine jw ?_|refine jx ?_|refine jy ?_|refine jz ?_|refine jA ?_|refine jB ?_|refine jC ?_|refine jD ?_|refine jE ?_|refine jF ?_|refine jG ?_|refine jH ?_|refine jI ?_|refine jJ ?_|refine jK ?_|refine jL ?_|refine jM (by assumption) ?_|refine jN (by assumption) rfl ?_|refine jO (by assumption) ?_|refine jP (by assumption) rfl ?_|refine jQ ?_|refine jR ?_|refine jS ?_|refine jT ?_|refine jU (by assumption) rfl ?_))
          refine M.neq_i ?_
          refine M.cond_i (fun hne => ?_) (fun hne => ?_)
          · rw [if_neg hne] at more2
            refine M.idxLV_i htail (by simp; omega) (by omega) (by omega) (x := q) (by rw [Int.toNat_natCast]; exact hgq) (fun b o hA hc => ?_)
            (repeat (first|refine ja ?_|refine jb ?_|refine jc ?_|refine jd ?_|refine je ?_|refine jf ?_|refine jg ?_|refine jh ?_|refine ji ?_|refine jj ?_|refine jk ?_|refine jl ?_|refine jm ?_|refine jn ?_|refine jo ?_|refine jp ?_|refine jq ?_|refine jr ?_|refine js ?_|refine jt ?_|refine ju ?_|refine jv ?_|refine jw ?_|refine jx ?_|refine jy ?_|refine jz ?_|refine jA ?_|refine jB ?_|refine jC ?_|refine jD ?_|refine jE ?_|refine jF ?_|refine jG ?_|refine jH ?_|refine jI ?_|refine jJ ?_|refine jK ?_|refine jL ?_|refine jM (by assumption) ?_|refine jN (by assumption) rfl ?_|refine jO (by assumption) ?_|refine jP (by assumption) rfl ?_|refine jQ ?_|refine jR ?_|refine jS ?_|refine jT ?_|refine jU (by assumption) rfl ?_))
            refine M.idxStore_i hg (by omega) (by omega) (fun w5 g5 k5 s5 => ?_)
            (repeat (first|refine ja ?_|refine jb ?_|refine jc ?_|refine jd ?_|refine je ?_|refine jf ?_|refine jg ?_|refine jh ?_|refine ji ?_|refine jj ?_|refine jk ?_|refine jl ?_|refine jm ?_|refine jn ?_|refine jo ?_|refine jp ?_|refine jq ?_|refine jr ?_|refine js ?_|refine jt ?_|refine ju ?_|refine jv ?_|refine jw ?_|refine jx ?_|refine jy ?_|refine jz ?_|refine jA ?_|refine jB ?_|refine jC ?_|refine jD ?_|refine jE ?_|refine jF ?_|refine jG ?_|refine jH ?_|refine jI ?_|refine jJ ?_|refine jK ?_|refine jL ?_|refine jM (by assumption) ?_|refine jN (by assumption) rfl ?_|refine jO (by assumption) ?_|refine jP (by assumption) rfl ?_|refine jQ ?_|refine jR ?_|refine jS ?_|refine jT ?_|refine jU (by assumption) rfl ?_))
            rw [Int.toNat_natCast] at g5
            refine hK3 _ _ ⟨n + 1, ys.set n q, by simp, by omega, by simpa using hl, g5, ?_, ?_, k3.trans k5 (fun _ _ h => h)⟩
            · rw [set_take q (by omega), ht]
              exact more2.symm
            · rw [set_drop q (by omega)]
              exact drop_more hd (by omega)
          · rw [if_pos (by omega)] at more2
            refine hK3 _ _ ⟨n, ys, rfl, by omega, hl, hg, ?_, drop_more hd (by omega), k3⟩
            rw [ht]; exact more2.symm
      · have hjx : i + 1 + (j + 1) = xs.length := by omega
        rw [hjx, List.take_length] at ht
        (repeat (first|refine ja ?_|refine jb ?_|refine jc ?_|refine jd ?_|refine je ?_|refine jf ?_|refine jg ?_|refine jh ?_|refine ji ?_|refine jj ?_|refine jk ?_|refine jl ?_|refine jm ?_|refine jn ?_|refine jo ?_|refine jp ?_|refine jq ?_|refine jr ?_|refine js ?_|refine jt ?_|refine ju ?_|refine jv ?_|refine jw ?_|refine jx ?_|refine jy ?_|refine jz ?_|refine jA ?_|refine jB ?_|refine jC ?_|refine jD ?_|refine jE ?_|refine jF ?_|refine jG ?_|refine jH ?_|refine jI ?_|refine jJ ?_|refine jK ?_|refine jL ?_|refine jM (by assumption) ?_|refine jN (by assumption) rfl ?_|refine jO (by assumption) ?_|refine jP (by assumption) rfl ?_|refine jQ ?_|refine jR ?_|refine jS ?_|refine jT ?_|refine jU (by assumption) rfl ?_))
        rw [← hl] at hg
        refine tail_out (by kernel_rfl) (fun w => Try.zeroValue3 w) hl.symm hg (by omega) ht (fun r w4 g4 k4 => ?_)
        exact ⟨g4, k3.trans k4 (fun _ _ h => h)⟩
    · rw [if_neg hxy] at more
      (repeat (first|refine ja ?_|refine jb ?_|refine jc ?_|refine jd ?_|refine je ?_|refine jf ?_|refine jg ?_|refine jh ?_|refine ji ?_|refine jj ?_|refine jk ?_|refine jl ?_|refine jm ?_|refine jn ?_|refine jo ?_|refine jp ?_|refine jq ?_|refine jr ?_|refine js ?_|refine jt ?_|refine ju ?_|refine jv ?_|refine jw ?_|refine jx ?_|refine jy ?_|refine jz ?_|refine jA ?_|refine jB ?_|refine jC ?_|refine jD ?_|refine jE ?_|refine jF ?_|refine jG ?_|refine jH ?_|refine jI ?_|refine jJ ?_|refine jK ?_|refine jL ?_|refine jM (by assumption) ?_|refine jN (by assumption) rfl ?_|refine jO (by assumption) ?_|refine jP (by assumption) rfl ?_|refine jQ ?_|refine jR ?_|refine jS ?_|refine jT ?_|refine jU (by assumption) rfl ?_))
      refine hK (i + 1) _ _ (by omega) ⟨by simp, by omega, ?_, k1.to_drew⟩
      rw [more, hsi, List.take_add_one (i := i + 1), hy]; rfl
  · (repeat (first|refine ja ?_|refine jb ?_|refine jc ?_|refine jd ?_|refine je ?_|refine jf ?_|refine jg ?_|refine jh ?_|refine ji ?_|refine jj ?_|refine jk ?_|refine jl ?_|refine jm ?_|refine jn ?_|refine jo ?_|refine jp ?_|refine jq ?_|refine jr ?_|refine js ?_|refine jt ?_|refine ju ?_|refine jv ?_|refine jw ?_|refine jx ?_|refine jy ?_|refine jz ?_|refine jA ?_|refine jB ?_|refine jC ?_|refine jD ?_|refine jE ?_|refine jF ?_|refine jG ?_|refine jH ?_|refine jI ?_|refine jJ ?_|refine jK ?_|refine jL ?_|refine jM (by assumption) ?_|refine jN (by assumption) rfl ?_|refine jO (by assumption) ?_|refine jP (by assumption) rfl ?_|refine jQ ?_|refine jR ?_|refine jS ?_|refine jT ?_|refine jU (by assumption) rfl ?_))
    have : i + 1 = xs.length := by omega
    rw [this, List.take_length] at hsi
    rw [hsi]
    exact ⟨h1, k1.mono (fun _ _ h => h.elim)⟩
end Go.Proofs.Ythkkjjbjpbgcpaa
