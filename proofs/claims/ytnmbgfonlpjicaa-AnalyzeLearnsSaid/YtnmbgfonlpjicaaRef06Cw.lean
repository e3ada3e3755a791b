import Derived.Test.YtnmbgfonlpjicaaRef06w
namespace Go.Proofs.Ytnmbgfonlpjicaa
open Go.Mw
set_option linter.unusedVariables false
set_option linter.unusedSimpArgs false
set_option maxRecDepth 100000
attribute [local irreducible] M.val M.unit M.next M.pick M.new M.nilCheck M.load1 M.loadA M.store M.fieldAddr M.indexSl M.indexArr M.slice M.makeSlice M.buildSlice M.len M.lenS M.cap M.append M.extract M.conv M.not M.neg M.bin M.shift M.eqB M.eqNil M.call M.callv M.gd M.share M.cond M.loop M.draw pureW readW Ret
theorem fol_i64 {l : List (List Int)} {set : List Int} (hI : ∀ c ∈ l, ∀ x ∈ c, I64 x) (hJ : ∀ x ∈ set, I64 x) {x : Int} (h : Fol l set x) : I64 x := by
  cases h with
  | base _ h1 _ => exact hJ x h1
  | step c _ h1 h2 _ _ => exact hI c h1 x h2
theorem leftU_le (l : List (List Int)) (set s : List Int) : leftU l set s ≤ (univ l set).length := List.length_filter_le _ _
set_option maxHeartbeats 2000000 in
theorem rclose_ret {w : World} {D D' : Nat → Prop} {u v : Value} {l : List (List Int)} {set : List Int} (hl : LL w D u l) (hs : LV vi w D' v set) (hf : FewL l set) (hfl : Few l.length) (hI : ∀ c ∈ l, ∀ x ∈ c, I64 x) (hJ : ∀ x ∈ set, I64 x) :
    Ret Try.prog 55 #[u, v] w (fun r w' => ∃ o out k, r = .tuple #[o, .bool k] ∧ CloseR l set out k ∧ GI w' (w.heap.size ≤ ·) o out ∧ Keep w w' No) := by
  obtain ⟨A, cp, vs, rfl, hl, _⟩ := hl
  obtain ⟨B, cq, rfl, hr, _⟩ := hs
  have hfew := hf
  unfold FewL at hfew
  rw [List.length_append] at hfew
  have hfc : ∀ c ∈ l, c.length ≤ 100000000 := fun c hc => by
    have : c.length ≤ l.flatten.length := List.Sublist.length_le (List.sublist_flatten_of_mem hc)
    omega
  have hU := univ_few hf
  refine ok55 _ _ _ _ ?_
  unfold sh55
  refine M.loop_i (σ := Nat × List Int) (fun t vals w' => ∃ vo, vals = [vo, vi t.1] ∧ t.1 ≤ set.length ∧ GI w' (w.heap.size ≤ ·) vo t.2 ∧ (∀ y, y ∈ t.2 ↔ y ∈ set.take t.1 ∧ ¬ y < 0) ∧ t.2.length ≤ t.1 ∧ Keep w w' No) (fun t => set.length - t.1) (0, [])
    ⟨_, rfl, by show 0 ≤ set.length; omega, GI.nil _ _, by simp, by simp, Keep.refl _ _⟩ ?_
  rintro ⟨i, s⟩ vals w1 K ⟨vo, rfl, hi, ho, hmem, hln, k1⟩ hK _
  simp only at hi ho hmem hln
  simp only [List.getD_cons_zero, List.getD_cons_succ]
  have q1 := k1.size
  by_cases hlt : i < set.length
  · obtain ⟨x, hx⟩ : ∃ x, set[i]? = some x := ⟨_, List.getElem?_eq_getElem hlt⟩
    have hxi : set[((i : Nat) : Int).toNat]? = some x := by simpa using hx
    have hr := hr.keep k1 (fun _ _ _ h => h)
    (repeat (first|refine ja ?_|refine jb ?_|refine jc ?_|refine jd ?_|refine je ?_|refine jf ?_|refine jg ?_|refine jh ?_|refine ji ?_|refine jj ?_|refine jk ?_|refine jl ?_|refine jm ?_|refine jn ?_|refine jo ?_|refine jp ?_|refine jq ?_|refine jr ?_|refine js ?_|refine jt ?_|refine ju ?_|refine jv ?_|refine jw ?_|refine jx ?_|refine jy ?_|refine jz ?_|refine jA ?_|refine jB ?_|refine jC ?_|refine jD ?_|refine jE ?_|refine jF ?_|refine jG ?_|refine jH ?_|refine jI ?_|refine jJ ?_|refine jK ?_|refine jL ?_|refine jM (by assumption) ?_|refine jN (by assumption) rfl ?_|refine jO (by assumption) ?_|refine jP (by assumption) rfl ?_|refine jQ ?_|refine jR ?_|refine jS ?_|refine jT ?_|refine jU (by assumption) rfl ?_))
    refine M.share_j (fun vals w' => ∃ vo s', vals = [vo] ∧ GI w' (w.heap.size ≤ ·) vo s' ∧ (∀ y, y ∈ s' ↔ y ∈ set.take (i + 1) ∧ ¬ y < 0) ∧ s'.length ≤ i + 1 ∧ Keep w w' No) ?_ ?_
    · rintro vals w2 ⟨vo, s', rfl, g1, g2, g3, k2⟩ _
      simp only [List.getD_cons_zero, List.getD_cons_succ]
      (repeat (first|refine ja ?_|refine jb ?_|refine jc ?_|refine jd ?_|refine je ?_|refine jf ?_|refine jg ?_|refine jh ?_|refine ji ?_|refine jj ?_|refine jk ?_|refine jl ?_|refine jm ?_|refine jn ?_|refine jo ?_|refine jp ?_|refine jq ?_|refine jr ?_|refine js ?_|refine jt ?_|refine ju ?_|refine jv ?_|refine jw ?_|refine jx ?_|refine jy ?_|refine jz ?_|refine jA ?_|refine jB ?_|refine jC ?_|refine jD ?_|refine jE ?_|refine jF ?_|refine jG ?_|refine jH ?_|refine jI ?_|refine jJ ?_|refine jK ?_|refine jL ?_|refine jM (by assumption) ?_|refine jN (by assumption) rfl ?_|refine jO (by assumption) ?_|refine jP (by assumption) rfl ?_|refine jQ ?_|refine jR ?_|refine jS ?_|refine jT ?_|refine jU (by assumption) rfl ?_))
      exact hK (i + 1, s') _ _ (by show set.length - (i + 1) < set.length - i; omega) ⟨vo, by simp, by show i + 1 ≤ set.length; omega, g1, g2, g3, k2⟩
    · intro K2 hK2
      refine M.idxLV_i hr rfl (by omega) (by omega) hxi (fun bb oo hA hcc => ?_)
      (repeat (first|refine ja ?_|refine jb ?_|refine jc ?_|refine jd ?_|refine je ?_|refine jf ?_|refine jg ?_|refine jh ?_|refine ji ?_|refine jj ?_|refine jk ?_|refine jl ?_|refine jm ?_|refine jn ?_|refine jo ?_|refine jp ?_|refine jq ?_|refine jr ?_|refine js ?_|refine jt ?_|refine ju ?_|refine jv ?_|refine jw ?_|refine jx ?_|refine jy ?_|refine jz ?_|refine jA ?_|refine jB ?_|refine jC ?_|refine jD ?_|refine jE ?_|refine jF ?_|refine jG ?_|refine jH ?_|refine jI ?_|refine jJ ?_|refine jK ?_|refine jL ?_|refine jM (by assumption) ?_|refine jN (by assumption) rfl ?_|refine jO (by assumption) ?_|refine jP (by assumption) rfl ?_|refine jQ ?_|refine jR ?_|refine jS ?_|refine jT ?_|refine jU (by assumption) rfl ?_))
      by_cases h0 : x < 0
      · (repeat (first|refine ja ?_|refine jb ?_|refine jc ?_|refine jd ?_|refine je ?_|refine jf ?_|refine jg ?_|refine jh ?_|refine ji ?_|refine jj ?_|refine jk ?_|refine jl ?_|refine jm ?_|refine jn ?_|refine jo ?_|refine jp ?_|refine jq ?_|refine jr ?_|refine js ?_|refine jt ?_|refine ju ?_|refine jv ?_|refine jw ?_|refine jx ?_|refine jy ?_|refine jz ?_|refine jA ?_|refine jB ?_|refine jC ?_|refine jD ?_|refine jE ?_|refine jF ?_|refine jG ?_|refine jH ?_|refine jI ?_|refine jJ ?_|refine jK ?_|refine jL ?_|refine jM (by assumption) ?_|refine jN (by assumption) rfl ?_|refine jO (by assumption) ?_|refine jP (by assumption) rfl ?_|refine jQ ?_|refine jR ?_|refine jS ?_|refine jT ?_|refine jU (by assumption) rfl ?_))
        refine hK2 _ _ ⟨vo, s, rfl, ho, fun y => ?_, by omega, k1⟩
        rw [hmem, mem_take_succ hx]
        constructor
        · rintro ⟨h1, h2⟩; exact ⟨.inl h1, h2⟩
        · rintro ⟨h1 | h1, h2⟩
          · exact ⟨h1, h2⟩
          · exact absurd (h1 ▸ h0) h2
      · (repeat (first|refine ja ?_|refine jb ?_|refine jc ?_|refine jd ?_|refine je ?_|refine jf ?_|refine jg ?_|refine jh ?_|refine ji ?_|refine jj ?_|refine jk ?_|refine jl ?_|refine jm ?_|refine jn ?_|refine jo ?_|refine jp ?_|refine jq ?_|refine jr ?_|refine js ?_|refine jt ?_|refine ju ?_|refine jv ?_|refine jw ?_|refine jx ?_|refine jy ?_|refine jz ?_|refine jA ?_|refine jB ?_|refine jC ?_|refine jD ?_|refine jE ?_|refine jF ?_|refine jG ?_|refine jH ?_|refine jI ?_|refine jJ ?_|refine jK ?_|refine jL ?_|refine jM (by assumption) ?_|refine jN (by assumption) rfl ?_|refine jO (by assumption) ?_|refine jP (by assumption) rfl ?_|refine jQ ?_|refine jR ?_|refine jS ?_|refine jT ?_|refine jU (by assumption) rfl ?_))
        refine M.idxLV_i hr rfl (by omega) (by omega) hxi (fun bb oo hA hcc => ?_)
        (repeat (first|refine ja ?_|refine jb ?_|refine jc ?_|refine jd ?_|refine je ?_|refine jf ?_|refine jg ?_|refine jh ?_|refine ji ?_|refine jj ?_|refine jk ?_|refine jl ?_|refine jm ?_|refine jn ?_|refine jo ?_|refine jp ?_|refine jq ?_|refine jr ?_|refine js ?_|refine jt ?_|refine ju ?_|refine jv ?_|refine jw ?_|refine jx ?_|refine jy ?_|refine jz ?_|refine jA ?_|refine jB ?_|refine jC ?_|refine jD ?_|refine jE ?_|refine jF ?_|refine jG ?_|refine jH ?_|refine jI ?_|refine jJ ?_|refine jK ?_|refine jL ?_|refine jM (by assumption) ?_|refine jN (by assumption) rfl ?_|refine jO (by assumption) ?_|refine jP (by assumption) rfl ?_|refine jQ ?_|refine jR ?_|refine jS ?_|refine jT ?_|refine jU (by assumption) rfl ?_))
        refine M.buildSlice_i [vi x] (by kernel_rfl) (fun w6 b6 k6 s6 => ?_)
        have ho := ho.keep k6 (fun _ _ _ h => h)
        refine M.append1_i ho (Row.of_blk' (D := fun _ => True) b6 trivial) rfl (by omega) (fun v7 w7 g7 k7 => ?_)
        have q6 := k6.size
        refine hK2 _ _ ⟨v7, s ++ [x], rfl, g7.mono (fun b hb h => by omega), fun y => ?_, by simp; omega, (k1.trans k6 (fun _ _ h => h)).trans k7 (fun b hb h => by omega)⟩
        rw [List.mem_append, hmem, mem_take_succ hx, List.mem_singleton]
        constructor
        · rintro (⟨h1, h2⟩ | rfl)
          · exact ⟨.inl h1, h2⟩
          · exact ⟨.inr rfl, h0⟩
        · rintro ⟨h1 | h1, h2⟩
          · exact .inl ⟨h1, h2⟩
          · exact .inr h1
  · have : i = set.length := by omega
    subst this
    rw [List.take_length] at hmem
    clear hK hlt
    (repeat (first|refine ja ?_|refine jb ?_|refine jc ?_|refine jd ?_|refine je ?_|refine jf ?_|refine jg ?_|refine jh ?_|refine ji ?_|refine jj ?_|refine jk ?_|refine jl ?_|refine jm ?_|refine jn ?_|refine jo ?_|refine jp ?_|refine jq ?_|refine jr ?_|refine js ?_|refine jt ?_|refine ju ?_|refine jv ?_|refine jw ?_|refine jx ?_|refine jy ?_|refine jz ?_|refine jA ?_|refine jB ?_|refine jC ?_|refine jD ?_|refine jE ?_|refine jF ?_|refine jG ?_|refine jH ?_|refine jI ?_|refine jJ ?_|refine jK ?_|refine jL ?_|refine jM (by assumption) ?_|refine jN (by assumption) rfl ?_|refine jO (by assumption) ?_|refine jP (by assumption) rfl ?_|refine jQ ?_|refine jR ?_|refine jS ?_|refine jT ?_|refine jU (by assumption) rfl ?_))
    refine M.loop_i (σ := List Int × Bool) (fun t vals w' => ∃ vo, vals = [vo, .bool t.2] ∧ GI w' (w.heap.size ≤ ·) vo t.1 ∧ (∀ x ∈ t.1, Fol l set x) ∧ (∀ x ∈ set, ¬ x < 0 → x ∈ t.1) ∧ t.1.length + leftU l set t.1 ≤ set.length + (univ l set).length ∧
        (t.2 = false → Stp l set t.1 ∧ ∀ c ∈ l, heldC t.1 c = true ∨ ∃ x y, x ∈ openC t.1 c ∧ y ∈ openC t.1 c ∧ x ≠ y) ∧ Keep w w' No) (fun t => 2 * leftU l set t.1 + if t.2 then 1 else 0) (s, true)
      ⟨vo, rfl, ho, fun x hx => .base x ((hmem x).1 hx).1 ((hmem x).1 hx).2, fun x h1 h2 => (hmem x).2 ⟨h1, h2⟩, by show s.length + leftU l set s ≤ _; have := leftU_le l set s; omega, fun h => by simp at h, k1⟩ ?_
    clear ho hmem hln q1 k1
    rintro ⟨s0, again⟩ vals w2 K3 ⟨vo, rfl, ho, hfol, hhas, hlen, hdone, k2⟩ hK3 _
    simp only at ho hfol hhas hlen hdone
    simp only [List.getD_cons_zero, List.getD_cons_succ]
    have q2 := k2.size
    cases again with
    | false =>
      obtain ⟨st, hd⟩ := hdone rfl
      (repeat (first|refine ja ?_|refine jb ?_|refine jc ?_|refine jd ?_|refine je ?_|refine jf ?_|refine jg ?_|refine jh ?_|refine ji ?_|refine jj ?_|refine jk ?_|refine jl ?_|refine jm ?_|refine jn ?_|refine jo ?_|refine jp ?_|refine jq ?_|refine jr ?_|refine js ?_|refine jt ?_|refine ju ?_|refine jv ?_|refine jw ?_|refine jx ?_|refine jy ?_|refine jz ?_|refine jA ?_|refine jB ?_|refine jC ?_|refine jD ?_|refine jE ?_|refine jF ?_|refine jG ?_|refine jH ?_|refine jI ?_|refine jJ ?_|refine jK ?_|refine jL ?_|refine jM (by assumption) ?_|refine jN (by assumption) rfl ?_|refine jO (by assumption) ?_|refine jP (by assumption) rfl ?_|refine jQ ?_|refine jR ?_|refine jS ?_|refine jT ?_|refine jU (by assumption) rfl ?_))
      refine M.call_i (sorted_ret (GI.lv ho) (by omega)) ?_; rintro o3 w3 ⟨g3, k3⟩
      exact ⟨o3, srt s0, true, rfl, CloseR.ok st hd, g3.mono (fun b hb h => by omega), k2.trans k3 (fun _ _ h => h)⟩
    | true =>
      clear hdone
      (repeat (first|refine ja ?_|refine jb ?_|refine jc ?_|refine jd ?_|refine je ?_|refine jf ?_|refine jg ?_|refine jh ?_|refine ji ?_|refine jj ?_|refine jk ?_|refine jl ?_|refine jm ?_|refine jn ?_|refine jo ?_|refine jp ?_|refine jq ?_|refine jr ?_|refine js ?_|refine jt ?_|refine ju ?_|refine jv ?_|refine jw ?_|refine jx ?_|refine jy ?_|refine jz ?_|refine jA ?_|refine jB ?_|refine jC ?_|refine jD ?_|refine jE ?_|refine jF ?_|refine jG ?_|refine jH ?_|refine jI ?_|refine jJ ?_|refine jK ?_|refine jL ?_|refine jM (by assumption) ?_|refine jN (by assumption) rfl ?_|refine jO (by assumption) ?_|refine jP (by assumption) rfl ?_|refine jQ ?_|refine jR ?_|refine jS ?_|refine jT ?_|refine jU (by assumption) rfl ?_))
      refine M.call_i (both_ret (GI.lv ho) (by omega) (fun x hx => fol_i64 hI hJ (hfol x hx))) ?_; rintro _ w3 ⟨rfl, k3⟩
      have ho := ho.keep k3 (fun _ _ _ h => h)
      have k23 := k2.trans k3 (fun _ _ h => h)
      cases hb : s0.any (fun x => decide (notOf x ∈ s0)) with
      | true =>
        (repeat (first|refine ja ?_|refine jb ?_|refine jc ?_|refine jd ?_|refine je ?_|refine jf ?_|refine jg ?_|refine jh ?_|refine ji ?_|refine jj ?_|refine jk ?_|refine jl ?_|refine jm ?_|refine jn ?_|refine jo ?_|refine jp ?_|refine jq ?_|refine jr ?_|refine js ?_|refine jt ?_|refine ju ?_|refine jv ?_|refine jw ?_|refine jx ?_|refine jy ?_|refine jz ?_|refine jA ?_|refine jB ?_|refine jC ?_|refine jD ?_|refine jE ?_|refine jF ?_|refine jG ?_|refine jH ?_|refine jI ?_|refine jJ ?_|refine jK ?_|refine jL ?_|refine jM (by assumption) ?_|refine jN (by assumption) rfl ?_|refine jO (by assumption) ?_|refine jP (by assumption) rfl ?_|refine jQ ?_|refine jR ?_|refine jS ?_|refine jT ?_|refine jU (by assumption) rfl ?_))
        obtain ⟨x, hx, hn⟩ := List.any_eq_true.1 hb
        exact ⟨_, [], false, rfl, CloseR.no (.inl ⟨x, hfol x hx, hfol _ (by simpa using hn)⟩), GI.nil _ _, k23⟩
      | false =>
        rw [List.any_eq_false] at hb
        have st0 : Stp l set s0 := ⟨hfol, hhas, fun x hx => by simpa using hb x hx⟩
        (repeat (first|refine ja ?_|refine jb ?_|refine jc ?_|refine jd ?_|refine je ?_|refine jf ?_|refine jg ?_|refine jh ?_|refine ji ?_|refine jj ?_|refine jk ?_|refine jl ?_|refine jm ?_|refine jn ?_|refine jo ?_|refine jp ?_|refine jq ?_|refine jr ?_|refine js ?_|refine jt ?_|refine ju ?_|refine jv ?_|refine jw ?_|refine jx ?_|refine jy ?_|refine jz ?_|refine jA ?_|refine jB ?_|refine jC ?_|refine jD ?_|refine jE ?_|refine jF ?_|refine jG ?_|refine jH ?_|refine jI ?_|refine jJ ?_|refine jK ?_|refine jL ?_|refine jM (by assumption) ?_|refine jN (by assumption) rfl ?_|refine jO (by assumption) ?_|refine jP (by assumption) rfl ?_|refine jQ ?_|refine jR ?_|refine jS ?_|refine jT ?_|refine jU (by assumption) rfl ?_))
        refine M.loop_i (σ := List Int × Bool × Nat) (fun t vals w' => ∃ vo, vals = [vo, .bool t.2.1, vi t.2.2] ∧ t.2.2 ≤ l.length ∧ GI w' (w.heap.size ≤ ·) vo t.1 ∧ Stp l set t.1 ∧ t.1.length + leftU l set t.1 ≤ set.length + (univ l set).length ∧
            (t.2.1 = false → t.1 = s0 ∧ ∀ c ∈ l.take t.2.2, heldC s0 c = true ∨ ∃ x y, x ∈ openC s0 c ∧ y ∈ openC s0 c ∧ x ≠ y) ∧ (t.2.1 = true → leftU l set t.1 < leftU l set s0) ∧ Keep w w' No) (fun t => l.length - t.2.2) (s0, false, 0)
          ⟨vo, rfl, by show 0 ≤ l.length; omega, ho, st0, hlen, fun _ => ⟨rfl, by simp⟩, fun h => by simp at h, k23⟩ ?_
        clear ho
        rintro ⟨s, ag, j⟩ vals w4 K4 ⟨vo, rfl, hj, ho, st, hlen, hd0, hd1, k4⟩ hK4 _
        simp only at hj ho st hlen hd0 hd1
        simp only [List.getD_cons_zero, List.getD_cons_succ]
        have q4 := k4.size
        by_cases hlt : j < l.length
        · obtain ⟨c, hc⟩ : ∃ c, l[j]? = some c := ⟨_, List.getElem?_eq_getElem hlt⟩
          have hcm : c ∈ l := List.mem_of_getElem? hc
          have hl := hl.keep k4 (fun _ _ _ h => h)
          have hcf := hfc c hcm
          (repeat (first|refine ja ?_|refine jb ?_|refine jc ?_|refine jd ?_|refine je ?_|refine jf ?_|refine jg ?_|refine jh ?_|refine ji ?_|refine jj ?_|refine jk ?_|refine jl ?_|refine jm ?_|refine jn ?_|refine jo ?_|refine jp ?_|refine jq ?_|refine jr ?_|refine js ?_|refine jt ?_|refine ju ?_|refine jv ?_|refine jw ?_|refine jx ?_|refine jy ?_|refine jz ?_|refine jA ?_|refine jB ?_|refine jC ?_|refine jD ?_|refine jE ?_|refine jF ?_|refine jG ?_|refine jH ?_|refine jI ?_|refine jJ ?_|refine jK ?_|refine jL ?_|refine jM (by assumption) ?_|refine jN (by assumption) rfl ?_|refine jO (by assumption) ?_|refine jP (by assumption) rfl ?_|refine jQ ?_|refine jR ?_|refine jS ?_|refine jT ?_|refine jU (by assumption) rfl ?_))
          refine M.share_j (fun vals w' => ∃ vo s' ag', vals = [vo, .bool ag'] ∧ GI w' (w.heap.size ≤ ·) vo s' ∧ Stp l set s' ∧ s'.length + leftU l set s' ≤ set.length + (univ l set).length ∧
            (ag' = false → s' = s0 ∧ ∀ c ∈ l.take (j + 1), heldC s0 c = true ∨ ∃ x y, x ∈ openC s0 c ∧ y ∈ openC s0 c ∧ x ≠ y) ∧ (ag' = true → leftU l set s' < leftU l set s0) ∧ Keep w w' No) ?_ ?_
          · rintro vals w5 ⟨vo, s', ag', rfl, g1, g2, g3, g4, g5, k5⟩ _
            simp only [List.getD_cons_zero, List.getD_cons_succ]
            (repeat (first|refine ja ?_|refine jb ?_|refine jc ?_|refine jd ?_|refine je ?_|refine jf ?_|refine jg ?_|refine jh ?_|refine ji ?_|refine jj ?_|refine jk ?_|refine jl ?_|refine jm ?_|refine jn ?_|refine jo ?_|refine jp ?_|refine jq ?_|refine jr ?_|refine js ?_|refine jt ?_|refine ju ?_|refine jv ?_|refine jw ?_|refine jx ?_|refine jy ?_|refine jz ?_|refine jA ?_|refine jB ?_|refine jC ?_|refine jD ?_|refine jE ?_|refine jF ?_|refine jG ?_|refine jH ?_|refine jI ?_|refine jJ ?_|refine jK ?_|refine jL ?_|refine jM (by assumption) ?_|refine jN (by assumption) rfl ?_|refine jO (by assumption) ?_|refine jP (by assumption) rfl ?_|refine jQ ?_|refine jR ?_|refine jS ?_|refine jT ?_|refine jU (by assumption) rfl ?_))
            exact hK4 (s', ag', j + 1) _ _ (by show l.length - (j + 1) < l.length - j; omega) ⟨vo, by simp, by show j + 1 ≤ l.length; omega, g1, g2, g3, g4, g5, k5⟩
          · intro K5 hK5
            refine M.idxLL_i hl rfl (by omega) (c := c) (by simpa using hc) (fun bb oo u hcc hu => ?_)
            (repeat (first|refine ja ?_|refine jb ?_|refine jc ?_|refine jd ?_|refine je ?_|refine jf ?_|refine jg ?_|refine jh ?_|refine ji ?_|refine jj ?_|refine jk ?_|refine jl ?_|refine jm ?_|refine jn ?_|refine jo ?_|refine jp ?_|refine jq ?_|refine jr ?_|refine js ?_|refine jt ?_|refine ju ?_|refine jv ?_|refine jw ?_|refine jx ?_|refine jy ?_|refine jz ?_|refine jA ?_|refine jB ?_|refine jC ?_|refine jD ?_|refine jE ?_|refine jF ?_|refine jG ?_|refine jH ?_|refine jI ?_|refine jJ ?_|refine jK ?_|refine jL ?_|refine jM (by assumption) ?_|refine jN (by assumption) rfl ?_|refine jO (by assumption) ?_|refine jP (by assumption) rfl ?_|refine jQ ?_|refine jR ?_|refine jS ?_|refine jT ?_|refine jU (by assumption) rfl ?_))
            refine M.call_i (left_ret hu (GI.lv ho) (by omega) (by omega) (hI c hcm)) ?_; rintro _ w5 ⟨o5, out, h, rfl, hR, g5, k5⟩
            have ho := ho.keep k5 (fun _ _ _ h => h)
            have k45 := k4.trans k5 (fun _ _ h => h)
            have q5 := k5.size
            refine M.extract_i rfl ?_
            refine M.extract_i rfl ?_
            have same : (heldC s c = true ∨ ∃ x y, x ∈ openC s c ∧ y ∈ openC s c ∧ x ≠ y) → K5 [vo, .bool ag] w5 := fun hh =>
              hK5 _ _ ⟨vo, s, ag, rfl, ho, st, hlen, fun ha => by
                obtain ⟨e, hd⟩ := hd0 ha
                subst e
                refine ⟨rfl, fun d hd' => ?_⟩
                rcases (mem_take_succ hc).1 hd' with h | rfl
                · exact hd d h
                · exact hh, hd1, k45⟩
            rcases hR with ⟨rfl, hh, rfl⟩ | ⟨rfl, hh, hn, hol, hm⟩
            · (repeat (first|refine ja ?_|refine jb ?_|refine jc ?_|refine jd ?_|refine je ?_|refine jf ?_|refine jg ?_|refine jh ?_|refine ji ?_|refine jj ?_|refine jk ?_|refine jl ?_|refine jm ?_|refine jn ?_|refine jo ?_|refine jp ?_|refine jq ?_|refine jr ?_|refine js ?_|refine jt ?_|refine ju ?_|refine jv ?_|refine jw ?_|refine jx ?_|refine jy ?_|refine jz ?_|refine jA ?_|refine jB ?_|refine jC ?_|refine jD ?_|refine jE ?_|refine jF ?_|refine jG ?_|refine jH ?_|refine jI ?_|refine jJ ?_|refine jK ?_|refine jL ?_|refine jM (by assumption) ?_|refine jN (by assumption) rfl ?_|refine jO (by assumption) ?_|refine jP (by assumption) rfl ?_|refine jQ ?_|refine jR ?_|refine jS ?_|refine jT ?_|refine jU (by assumption) rfl ?_))
              exact same (.inl hh)
            · obtain ⟨A5, c5, rfl, r5, _⟩ := GC.row2 g5 (by omega)
              (repeat (first|refine ja ?_|refine jb ?_|refine jc ?_|refine jd ?_|refine je ?_|refine jf ?_|refine jg ?_|refine jh ?_|refine ji ?_|refine jj ?_|refine jk ?_|refine jl ?_|refine jm ?_|refine jn ?_|refine jo ?_|refine jp ?_|refine jq ?_|refine jr ?_|refine js ?_|refine jt ?_|refine ju ?_|refine jv ?_|refine jw ?_|refine jx ?_|refine jy ?_|refine jz ?_|refine jA ?_|refine jB ?_|refine jC ?_|refine jD ?_|refine jE ?_|refine jF ?_|refine jG ?_|refine jH ?_|refine jI ?_|refine jJ ?_|refine jK ?_|refine jL ?_|refine jM (by assumption) ?_|refine jN (by assumption) rfl ?_|refine jO (by assumption) ?_|refine jP (by assumption) rfl ?_|refine jQ ?_|refine jR ?_|refine jS ?_|refine jT ?_|refine jU (by assumption) rfl ?_))
              rcases out with _ | ⟨a, _ | ⟨b, rest⟩⟩
              · simp only [List.length_nil]
                (repeat (first|refine ja ?_|refine jb ?_|refine jc ?_|refine jd ?_|refine je ?_|refine jf ?_|refine jg ?_|refine jh ?_|refine ji ?_|refine jj ?_|refine jk ?_|refine jl ?_|refine jm ?_|refine jn ?_|refine jo ?_|refine jp ?_|refine jq ?_|refine jr ?_|refine js ?_|refine jt ?_|refine ju ?_|refine jv ?_|refine jw ?_|refine jx ?_|refine jy ?_|refine jz ?_|refine jA ?_|refine jB ?_|refine jC ?_|refine jD ?_|refine jE ?_|refine jF ?_|refine jG ?_|refine jH ?_|refine jI ?_|refine jJ ?_|refine jK ?_|refine jL ?_|refine jM (by assumption) ?_|refine jN (by assumption) rfl ?_|refine jO (by assumption) ?_|refine jP (by assumption) rfl ?_|refine jQ ?_|refine jR ?_|refine jS ?_|refine jT ?_|refine jU (by assumption) rfl ?_))
                have hemp : openC s c = [] := by
                  cases hoc : openC s c with
                  | nil => rfl
                  | cons y z => have := (hm y).2 (by rw [hoc]; exact List.mem_cons_self); simp at this
                exact ⟨_, [], false, rfl, CloseR.no (st.bot hcm hh hemp), GI.nil _ _, k45⟩
              · have ha : a ∈ openC s c := (hm a).1 (by simp)
                have hall : ∀ y ∈ openC s c, y = a := fun y hy => by simpa using (hm y).2 hy
                obtain ⟨f1, f2, f3, f4⟩ := st.add hcm hh ha hall
                simp only [List.length_cons, List.length_nil]
                (repeat (first|refine ja ?_|refine jb ?_|refine jc ?_|refine jd ?_|refine je ?_|refine jf ?_|refine jg ?_|refine jh ?_|refine ji ?_|refine jj ?_|refine jk ?_|refine jl ?_|refine jm ?_|refine jn ?_|refine jo ?_|refine jp ?_|refine jq ?_|refine jr ?_|refine js ?_|refine jt ?_|refine ju ?_|refine jv ?_|refine jw ?_|refine jx ?_|refine jy ?_|refine jz ?_|refine jA ?_|refine jB ?_|refine jC ?_|refine jD ?_|refine jE ?_|refine jF ?_|refine jG ?_|refine jH ?_|refine jI ?_|refine jJ ?_|refine jK ?_|refine jL ?_|refine jM (by assumption) ?_|refine jN (by assumption) rfl ?_|refine jO (by assumption) ?_|refine jP (by assumption) rfl ?_|refine jQ ?_|refine jR ?_|refine jS ?_|refine jT ?_|refine jU (by assumption) rfl ?_))
                refine M.idxLV_i r5 rfl (by omega) (by simp) (x := a) (by simp) (fun bb oo hA hcc => ?_)
                (repeat (first|refine ja ?_|refine jb ?_|refine jc ?_|refine jd ?_|refine je ?_|refine jf ?_|refine jg ?_|refine jh ?_|refine ji ?_|refine jj ?_|refine jk ?_|refine jl ?_|refine jm ?_|refine jn ?_|refine jo ?_|refine jp ?_|refine jq ?_|refine jr ?_|refine js ?_|refine jt ?_|refine ju ?_|refine jv ?_|refine jw ?_|refine jx ?_|refine jy ?_|refine jz ?_|refine jA ?_|refine jB ?_|refine jC ?_|refine jD ?_|refine jE ?_|refine jF ?_|refine jG ?_|refine jH ?_|refine jI ?_|refine jJ ?_|refine jK ?_|refine jL ?_|refine jM (by assumption) ?_|refine jN (by assumption) rfl ?_|refine jO (by assumption) ?_|refine jP (by assumption) rfl ?_|refine jQ ?_|refine jR ?_|refine jS ?_|refine jT ?_|refine jU (by assumption) rfl ?_))
                refine M.buildSlice_i [vi a] (by kernel_rfl) (fun w6 b6 k6 s6 => ?_)
                have ho := ho.keep k6 (fun _ _ _ h => h)
                refine M.append1_i ho (Row.of_blk' (D := fun _ => True) b6 trivial) rfl (by omega) (fun v7 w7 g7 k7 => ?_)
                have q6 := k6.size
                have hmem' : ∀ y, y ∈ s ++ [a] ↔ y = a ∨ y ∈ s := fun y => by simp [or_comm]
                have hlt7 := leftU_lt (s' := s ++ [a]) (fol_univ f1) f3 hmem'
                refine hK5 _ _ ⟨v7, s ++ [a], true, rfl, g7.mono (fun b hb h => by omega), st.push hmem' f1 f2, by simp; omega, fun h => by simp at h, fun _ => ?_, (k45.trans k6 (fun _ _ h => h)).trans k7 (fun b hb h => by omega)⟩
                cases ag with
                | true => have := hd1 rfl; omega
                | false => have := (hd0 rfl).1; subst this; exact hlt7
              · have hab : a ≠ b := fun e => by
                  have := (List.nodup_cons.1 hn).1
                  exact this (e ▸ List.mem_cons_self)
                simp only [List.length_cons]
                (repeat (first|refine ja ?_|refine jb ?_|refine jc ?_|refine jd ?_|refine je ?_|refine jf ?_|refine jg ?_|refine jh ?_|refine ji ?_|refine jj ?_|refine jk ?_|refine jl ?_|refine jm ?_|refine jn ?_|refine jo ?_|refine jp ?_|refine jq ?_|refine jr ?_|refine js ?_|refine jt ?_|refine ju ?_|refine jv ?_|refine jw ?_|refine jx ?_|refine jy ?_|refine jz ?_|refine jA ?_|refine jB ?_|refine jC ?_|refine jD ?_|refine jE ?_|refine jF ?_|refine jG ?_|refine jH ?_|refine jI ?_|refine jJ ?_|refine jK ?_|refine jL ?_|refine jM (by assumption) ?_|refine jN (by assumption) rfl ?_|refine jO (by assumption) ?_|refine jP (by assumption) rfl ?_|refine jQ ?_|refine jR ?_|refine jS ?_|refine jT ?_|refine jU (by assumption) rfl ?_))
                exact same (.inr ⟨a, b, (hm a).1 (by simp), (hm b).1 (by simp), hab⟩)
        · have : j = l.length := by omega
          subst this
          rw [List.take_length] at hd0
          (repeat (first|refine ja ?_|refine jb ?_|refine jc ?_|refine jd ?_|refine je ?_|refine jf ?_|refine jg ?_|refine jh ?_|refine ji ?_|refine jj ?_|refine jk ?_|refine jl ?_|refine jm ?_|refine jn ?_|refine jo ?_|refine jp ?_|refine jq ?_|refine jr ?_|refine js ?_|refine jt ?_|refine ju ?_|refine jv ?_|refine jw ?_|refine jx ?_|refine jy ?_|refine jz ?_|refine jA ?_|refine jB ?_|refine jC ?_|refine jD ?_|refine jE ?_|refine jF ?_|refine jG ?_|refine jH ?_|refine jI ?_|refine jJ ?_|refine jK ?_|refine jL ?_|refine jM (by assumption) ?_|refine jN (by assumption) rfl ?_|refine jO (by assumption) ?_|refine jP (by assumption) rfl ?_|refine jQ ?_|refine jR ?_|refine jS ?_|refine jT ?_|refine jU (by assumption) rfl ?_))
          refine hK3 (s, ag) _ _ ?_ ⟨vo, rfl, ho, st.fol, st.has, hlen, fun h => ?_, k4⟩
          · show 2 * leftU l set s + (if ag then 1 else 0) < 2 * leftU l set s0 + (if true then 1 else 0)
            cases ag with
            | true => have := hd1 rfl; simp; omega
            | false => have := (hd0 rfl).1; subst this; simp
          · have h : ag = false := h
            obtain ⟨e, hd⟩ := hd0 h
            subst e
            exact ⟨st, hd⟩
end Go.Proofs.Ytnmbgfonlpjicaa
