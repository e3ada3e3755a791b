import Derived.Test.YtnbcglnefoinlaaGreatK3
namespace Go.Proofs.YtnbcglnefoinlaaGreat
open Go.Mw Go.Maps Go.MapKept
set_option linter.unusedVariables false
set_option linter.unusedSimpArgs false
set_option maxRecDepth 100000
attribute [local irreducible] M.val M.unit M.next M.pick M.new M.nilCheck M.load1 M.loadA M.store M.fieldAddr M.indexSl M.indexArr M.slice M.makeSlice M.buildSlice M.len M.lenS M.cap M.append M.extract M.conv M.not M.neg M.bin M.shift M.eqB M.eqNil M.scat M.call M.callv M.gd M.share M.cond M.loop M.draw pureW readW Ret
section
variable {w : World} {D : Nat → Prop} {v : Value} {N : List Nd} {most : Int}
theorem RB.start {A : Option Addr} {c : Nat} {w w1 w2 : World} (b1 : Blk w1 w.heap.size [.slice A N.length c, vi most]) (k1 : Keep w w1 No) (s1 : w1.heap.size = w.heap.size + 1) (b2 : Blk w2 w1.heap.size [.slice none 0 0, vi 0]) (k2 : Keep w1 w2 No) :
    RB w w2 (.agg ⟨[.slice A N.length c, vi most]⟩) w.heap.size w1.heap.size [.slice A N.length c, vi most] :=
  ⟨k1.trans k2 (fun _ _ h => h), b1.keep k2 (fun h => h), ⟨_, _, b2⟩, rfl, rfl, two_one, Nat.le_refl _, by omega, by omega⟩
theorem RB.is {w' : World} {p3 p6 : Nat} {l : List Value} {k : Kt} (h : RB w w' v p3 p6 l) (hd : RD w D v N most) (i : Int) (hk : ∀ w3, RB w w3 v p3 p6 l → k (.bool (isN N i)) w3) :
    M.call Tryz.prog 38 #[v, vi i] k w' := by
  refine M.call_i (ris_ret (hd.keep h.k (fun _ _ _ h => h)) i) ?_
  rintro _ w3 ⟨rfl, k3⟩
  exact hk w3 (h.step k3)
theorem RB.wd {w' : World} {p3 p6 : Nat} {l : List Value} {k : Kt} (h : RB w w' v p3 p6 l) (hd : RD w D v N most) (i : Int) (hk : ∀ w3, RB w w3 v p3 p6 l → k (vi (wdN N i)) w3) :
    M.call Tryz.prog 15 #[v, vi i] k w' := by
  refine M.call_i (rwidth_ret (hd.keep h.k (fun _ _ _ h => h)) i) ?_
  rintro _ w3 ⟨rfl, k3⟩
  exact hk w3 (h.step k3)
theorem RB.load {w' : World} {p3 p6 : Nat} {l : List Value} {k : Kt} (h : RB w w' v p3 p6 l) (hk : k v w') : M.loadA 2 (ptr p3) k w' := by
  refine M.loadAll_i h.b3 h.len ?_
  rw [← h.e]; exact hk
set_option maxHeartbeats 1000000 in
theorem rbinary_ask (hd : RD w D v N most) (hN : N.length ≤ 1000000) (op a b : Int) :
    Ret Tryz.prog 53 #[v, vi op, vi a, vi b] w (RAsk w D most (binaryN most N op a b)) := by
  obtain ⟨A, c, rfl, hr⟩ := id hd
  refine ok53 _ _ _ _ _ _ ?_
  unfold sh53
  refine M.new_i (l := [.slice A N.length c, vi most]) (fun w1 b1 k1 s1 => ?_)
  refine M.new_i (l := [.slice none 0 0, vi 0]) (fun w2 b2 k2 s2 => ?_)
  have hb := RB.start b1 k1 s1 b2 k2
  unfold binaryN
  by_cases ho1 : op < 1
  · rw [if_pos (.inl ho1)]
    (repeat (first|refine ji ?_|refine jk ?_|refine jo ?_|refine jy ?_))
    exact hb.no hd (fun _ _ h => h)
  by_cases ho2 : 14 < op
  · rw [if_pos (.inr ho2)]
    (repeat (first|refine jg ?_|refine jl ?_|refine jo ?_|refine jz ?_|refine jC ?_))
    exact hb.no hd (fun _ _ h => h)
  rw [if_neg (by omega)]
  (repeat (first|refine jg ?_|refine jl ?_|refine jp ?_|refine jz ?_|refine jD ?_))
  refine hb.load ?_
  refine hb.is hd a (fun w3 hb => ?_)
  refine M.not_i ?_
  cases ha : isN N a with
  | false =>
    rw [if_pos (.inl rfl)]
    (repeat (first|refine ji ?_|refine jk ?_|refine jo ?_))
    exact hb.no hd (fun _ _ h => h)
  | true =>
    (repeat (refine jg ?_))
    refine hb.load ?_
    (repeat (refine jg ?_))
    refine hb.is hd b (fun w4 hb => ?_)
    (repeat (refine jg ?_))
    refine M.not_i ?_
    cases hbb : isN N b with
    | false =>
      rw [if_pos (.inr rfl)]
      (repeat (first|refine jl ?_|refine jo ?_))
      exact hb.no hd (fun _ _ h => h)
    | true =>
      rw [if_neg (by simp)]
      (repeat (first|refine jl ?_|refine jp ?_))
      refine hb.load ?_
      refine hb.wd hd a (fun w5 hb => ?_)
      refine hb.load ?_
      refine hb.wd hd b (fun w6 hb => ?_)
      by_cases hw : wdN N a = wdN N b
      rotate_left
      · rw [if_pos hw]
        (repeat (first|refine jo ?_|refine jI ?_))
        exact hb.no hd (fun _ _ h => h)
      · rw [if_neg (by simpa using hw)]
        (repeat (first|refine jp ?_|refine jJ ?_))
        refine M.share_j (fun vals w' => vals = [vi (if 12 ≤ op then 1 else wdN N a)] ∧ w' = w6) ?_ ?_
        · rintro vals w7 ⟨rfl, rfl⟩ _
          simp only [List.getD_cons_zero, List.getD_cons_succ]
          refine hb.load ?_
          refine M.pure_i (encN ⟨op, if 12 ≤ op then 1 else wdN N a, a, b, 0, 0⟩) (fun _ => by kernel_rfl) ?_
          exact hb.make hd hN (fun _ _ h => h)
        · intro K hK
          by_cases h12 : 12 ≤ op
          · rw [if_pos h12] at hK
            (repeat (first|refine jo ?_|refine jE ?_))
            exact hK _ _ ⟨rfl, rfl⟩
          · rw [if_neg h12] at hK
            (repeat (first|refine jp ?_|refine jF ?_))
            exact hK _ _ ⟨rfl, rfl⟩
set_option maxHeartbeats 1000000 in
theorem rite_ask (hd : RD w D v N most) (hN : N.length ≤ 1000000) (cc a b : Int) :
    Ret Tryz.prog 54 #[v, vi cc, vi a, vi b] w (RAsk w D most (iteN most N cc a b)) := by
  obtain ⟨A, c, rfl, hr⟩ := id hd
  refine ok54 _ _ _ _ _ _ ?_
  unfold sh54
  refine M.new_i (l := [.slice A N.length c, vi most]) (fun w1 b1 k1 s1 => ?_)
  refine M.new_i (l := [.slice none 0 0, vi 0]) (fun w2 b2 k2 s2 => ?_)
  have hb := RB.start b1 k1 s1 b2 k2
  unfold iteN
  refine hb.load ?_
  refine hb.is hd cc (fun w3 hb => ?_)
  refine M.not_i ?_
  cases hc : isN N cc with
  | false =>
    rw [if_pos (.inl rfl)]
    (repeat (first|refine ji ?_|refine jk ?_|refine jo ?_))
    exact hb.no hd (fun _ _ h => h)
  | true =>
    (repeat (refine jg ?_))
    refine hb.load ?_
    (repeat (refine jg ?_))
    refine hb.is hd a (fun w4 hb => ?_)
    (repeat (refine jg ?_))
    refine M.not_i ?_
    cases ha : isN N a with
    | false =>
      rw [if_pos (.inr (.inl rfl))]
      (repeat (first|refine ji ?_|refine jk ?_|refine jl ?_|refine jo ?_))
      exact hb.no hd (fun _ _ h => h)
    | true =>
      (repeat (first|refine jg ?_|refine jl ?_))
      refine hb.load ?_
      (repeat (refine jg ?_))
      refine hb.is hd b (fun w5 hb => ?_)
      (repeat (refine jg ?_))
      refine M.not_i ?_
      cases hbb : isN N b with
      | false =>
        rw [if_pos (.inr (.inr rfl))]
        (repeat (first|refine jl ?_|refine jo ?_))
        exact hb.no hd (fun _ _ h => h)
      | true =>
        rw [if_neg (by simp)]
        (repeat (first|refine jd ?_|refine jl ?_|refine jp ?_))
        have hb := hb.step (Keep.drew w5 No)
        refine hb.load ?_
        refine hb.wd hd cc (fun w6 hb => ?_)
        by_cases h1 : wdN N cc = 1
        rotate_left
        · rw [if_pos (.inl h1)]
          (repeat (first|refine ji ?_|refine jk ?_|refine jo ?_|refine jI ?_|refine jT ?_))
          exact hb.no hd (fun _ _ h => h)
        · (repeat (first|refine jg ?_|refine jJ ?_))
          refine hb.load ?_
          (repeat (refine jg ?_))
          refine hb.load ?_
          (repeat (refine jg ?_))
          refine hb.wd hd a (fun w7 hb => ?_)
          refine ⟨M.gd_ff (hb.load rfl), ?_⟩
          (repeat (refine jg ?_))
          refine hb.wd hd b (fun w8 hb => ?_)
          (repeat (refine jg ?_))
          by_cases hw : wdN N a = wdN N b
          rotate_left
          · rw [if_pos (.inr hw)]
            (repeat (first|refine jl ?_|refine jo ?_|refine jI ?_))
            exact hb.no hd (fun _ _ h => h)
          · rw [if_neg (by omega)]
            (repeat (first|refine jd ?_|refine jl ?_|refine jp ?_|refine jJ ?_))
            have hb := hb.step (Keep.drew w8 No)
            refine hb.load ?_
            refine hb.load ?_
            refine hb.wd hd a (fun w9 hb => ?_)
            refine ⟨hb.load rfl, ?_⟩
            refine M.pure_i (encN ⟨22, wdN N a, cc, a, b, 0⟩) (fun _ => by kernel_rfl) ?_
            exact hb.make hd hN (fun _ _ h => h)
set_option maxHeartbeats 1000000 in
theorem rextract_ask (hd : RD w D v N most) (hN : N.length ≤ 1000000) (hg : GoodN N) (a lo n : Int) :
    Ret Tryz.prog 55 #[v, vi a, vi lo, vi n] w (RAsk w D most (extractN most N a lo n)) := by
  obtain ⟨A, c, rfl, hr⟩ := id hd
  refine ok55 _ _ _ _ _ _ ?_
  unfold sh55
  refine M.new_i (l := [.slice A N.length c, vi most]) (fun w1 b1 k1 s1 => ?_)
  refine M.new_i (l := [.slice none 0 0, vi 0]) (fun w2 b2 k2 s2 => ?_)
  have hb := RB.start b1 k1 s1 b2 k2
  unfold extractN
  refine hb.load ?_
  refine hb.is hd a (fun w3 hb => ?_)
  refine M.not_i ?_
  cases ha : isN N a with
  | false =>
    rw [if_pos rfl]
    (repeat (refine jo ?_))
    exact hb.no hd (fun _ _ h => h)
  | true =>
    have hwa := hg.wd ha
    rw [if_neg (by simp)]
    by_cases hn1 : n < 1
    · rw [if_pos (.inl hn1)]
      (repeat (first|refine ji ?_|refine jk ?_|refine jo ?_|refine jp ?_|refine jy ?_))
      exact hb.no hd (fun _ _ h => h)
    (repeat (first|refine jg ?_|refine jp ?_|refine jz ?_))
    refine hb.load ?_
    (repeat (refine jg ?_))
    refine hb.wd hd a (fun w4 hb => ?_)
    (repeat (refine jg ?_))
    by_cases hnw : wdN N a < n
    · rw [if_pos (.inr (.inr (.inl hnw)))]
      (repeat (first|refine ji ?_|refine jk ?_|refine jl ?_|refine jo ?_|refine jC ?_))
      exact hb.no hd (fun _ _ h => h)
    by_cases hlo : lo < 0
    · rw [if_pos (.inr (.inl hlo))]
      (repeat (first|refine jg ?_|refine ji ?_|refine jk ?_|refine jl ?_|refine jo ?_|refine jy ?_|refine jD ?_))
      exact hb.no hd (fun _ _ h => h)
    (repeat (first|refine jg ?_|refine jl ?_|refine jz ?_|refine jD ?_))
    refine hb.load ?_
    (repeat (refine jg ?_))
    refine hb.wd hd a (fun w5 hb => ?_)
    (repeat (first|refine jg ?_|refine jL ?_))
    by_cases hlw : wdN N a - n < lo
    · rw [if_pos (.inr (.inr (.inr hlw)))]
      (repeat (first|refine jl ?_|refine jo ?_|refine jC ?_))
      exact hb.no hd (fun _ _ h => h)
    rw [if_neg (by omega)]
    (repeat (first|refine jl ?_|refine jp ?_|refine jD ?_))
    refine hb.load ?_
    refine M.pure_i (encN ⟨23, n, a, lo, 0, 0⟩) (fun _ => by kernel_rfl) ?_
    exact hb.make hd hN (fun _ _ h => h)
set_option maxHeartbeats 1000000 in
theorem rconcat_ask (hd : RD w D v N most) (hN : N.length ≤ 1000000) (hg : GoodN N) (a b : Int) :
    Ret Tryz.prog 56 #[v, vi a, vi b] w (RAsk w D most (concatN most N a b)) := by
  obtain ⟨A, c, rfl, hr⟩ := id hd
  refine ok56 _ _ _ _ _ ?_
  unfold sh56
  refine M.new_i (l := [.slice A N.length c, vi most]) (fun w1 b1 k1 s1 => ?_)
  refine M.new_i (l := [.slice none 0 0, vi 0]) (fun w2 b2 k2 s2 => ?_)
  have hb := RB.start b1 k1 s1 b2 k2
  unfold concatN
  refine hb.load ?_
  refine hb.is hd a (fun w3 hb => ?_)
  refine M.not_i ?_
  cases ha : isN N a with
  | false =>
    rw [if_pos (.inl rfl)]
    (repeat (first|refine ji ?_|refine jk ?_|refine jo ?_))
    exact hb.no hd (fun _ _ h => h)
  | true =>
    have hwa := hg.wd ha
    (repeat (refine jg ?_))
    refine hb.load ?_
    (repeat (refine jg ?_))
    refine hb.is hd b (fun w4 hb => ?_)
    (repeat (refine jg ?_))
    refine M.not_i ?_
    cases hbb : isN N b with
    | false =>
      rw [if_pos (.inr rfl)]
      (repeat (first|refine jl ?_|refine jo ?_))
      exact hb.no hd (fun _ _ h => h)
    | true =>
      have hwb := hg.wd hbb
      rw [if_neg (by simp)]
      (repeat (first|refine jd ?_|refine jl ?_|refine jp ?_))
      have hb := hb.step (Keep.drew w4 No)
      refine hb.load ?_
      refine hb.load ?_
      refine hb.wd hd a (fun w5 hb => ?_)
      refine ⟨hb.load rfl, ?_⟩
      refine hb.wd hd b (fun w6 hb => ?_)
      (repeat (refine jK ?_))
      by_cases hw : 64 < wdN N a + wdN N b
      · rw [if_pos hw]
        (repeat (first|refine jo ?_|refine jC ?_))
        exact hb.no hd (fun _ _ h => h)
      · rw [if_neg hw]
        (repeat (first|refine jd ?_|refine jp ?_|refine jD ?_))
        have hb := hb.step (Keep.drew w6 No)
        refine hb.load ?_
        refine hb.load ?_
        refine hb.load ?_
        refine hb.wd hd a (fun w7 hb => ?_)
        refine ⟨hb.load rfl, ⟨hb.load rfl, ?_⟩⟩
        refine hb.wd hd b (fun w8 hb => ?_)
        refine ⟨hb.load rfl, ?_⟩
        (repeat (refine jK ?_))
        refine M.pure_i (encN ⟨24, wdN N a + wdN N b, a, b, 0, 0⟩) (fun _ => by kernel_rfl) ?_
        exact hb.make hd hN (fun _ _ h => h)
set_option maxHeartbeats 1000000 in
theorem rextend_ask (hd : RD w D v N most) (hN : N.length ≤ 1000000) (a n : Int) (sg : Bool) :
    Ret Tryz.prog 57 #[v, vi a, vi n, .bool sg] w (RAsk w D most (extendN most N a n sg)) := by
  obtain ⟨A, c, rfl, hr⟩ := id hd
  refine ok57 _ _ _ _ _ _ ?_
  unfold sh57
  refine M.new_i (l := [.slice A N.length c, vi most]) (fun w1 b1 k1 s1 => ?_)
  refine M.new_i (l := [.slice none 0 0, vi 0]) (fun w2 b2 k2 s2 => ?_)
  have hb := RB.start b1 k1 s1 b2 k2
  unfold extendN
  refine hb.load ?_
  refine hb.is hd a (fun w3 hb => ?_)
  refine M.not_i ?_
  cases ha : isN N a with
  | false =>
    rw [if_pos rfl]
    (repeat (refine jo ?_))
    exact hb.no hd (fun _ _ h => h)
  | true =>
    rw [if_neg (by simp)]
    (repeat (refine jp ?_))
    refine hb.load ?_
    refine hb.wd hd a (fun w4 hb => ?_)
    by_cases hn1 : n < wdN N a
    · rw [if_pos (.inl hn1)]
      (repeat (first|refine ji ?_|refine jk ?_|refine jo ?_|refine jy ?_))
      exact hb.no hd (fun _ _ h => h)
    by_cases hn2 : 64 < n
    · rw [if_pos (.inr hn2)]
      (repeat (first|refine jg ?_|refine jl ?_|refine jo ?_|refine jz ?_|refine jC ?_))
      exact hb.no hd (fun _ _ h => h)
    rw [if_neg (by omega)]
    (repeat (first|refine jg ?_|refine jl ?_|refine jp ?_|refine jz ?_|refine jD ?_))
    refine hb.load ?_
    refine hb.wd hd a (fun w5 hb => ?_)
    by_cases hnw : n = wdN N a
    · rw [if_pos hnw]
      (repeat (first|refine jo ?_|refine jG ?_))
      exact hb.no hd (fun _ _ h => h)
    · rw [if_neg hnw]
      cases sg with
      | true =>
        (repeat (first|refine jo ?_|refine jp ?_|refine jH ?_))
        refine hb.load ?_
        refine M.pure_i (encN ⟨26, n, a, 0, 0, 0⟩) (fun _ => by kernel_rfl) ?_
        exact hb.make hd hN (fun _ _ h => h)
      | false =>
        (repeat (first|refine jp ?_|refine jH ?_))
        refine hb.load ?_
        refine M.pure_i (encN ⟨25, n, a, 0, 0, 0⟩) (fun _ => by kernel_rfl) ?_
        exact hb.make hd hN (fun _ _ h => h)
end
end Go.Proofs.YtnbcglnefoinlaaGreat
namespace Go.Proofs.YtnbcglnefoinlaaGreat
open Go.Mw Go.Maps Go.MapKept
set_option linter.unusedVariables false
set_option linter.unusedSimpArgs false
set_option maxRecDepth 100000
attribute [local irreducible] M.val M.unit M.next M.pick M.new M.nilCheck M.load1 M.loadA M.store M.fieldAddr M.indexSl M.indexArr M.slice M.makeSlice M.buildSlice M.len M.lenS M.cap M.append M.extract M.conv M.not M.neg M.bin M.shift M.eqB M.eqNil M.scat M.call M.callv M.gd M.share M.cond M.loop M.draw pureW readW Ret
section
variable {w : World} {D : Nat → Prop} {v : Value} {N : List Nd} {most : Int}
theorem otherW_no {w i : Int} (h : ∀ (j : Nat) m, N[j]? = some m → ¬ (m.op = 21 ∧ m.a = i ∧ m.wd ≠ w)) : otherW N w i = false := by
  unfold otherW
  rw [List.any_eq_false]
  intro m hm
  obtain ⟨j, hj, rfl⟩ := List.mem_iff_getElem.1 hm
  have := h j _ (List.getElem?_eq_getElem hj)
  simp only [Bool.and_eq_true, decide_eq_true_eq]
  rintro ⟨⟨h1, h2⟩, h3⟩
  exact this ⟨h1, h2, h3⟩
theorem otherW_yes {w i : Int} {j : Nat} {m : Nd} (hj : N[j]? = some m) (h1 : m.op = 21) (h2 : m.a = i) (h3 : m.wd ≠ w) : otherW N w i = true := by
  unfold otherW
  rw [List.any_eq_true]
  exact ⟨m, List.mem_of_getElem? hj, by simp [h1, h2, h3]⟩
set_option maxHeartbeats 1000000 in
theorem rvar_ask (hd : RD w D v N most) (hN : N.length ≤ 1000000) (n i : Int) :
    Ret Tryz.prog 51 #[v, vi n, vi i] w (RAsk w D most (varN most N n i)) := by
  obtain ⟨A, c, rfl, hr⟩ := id hd
  refine ok51 _ _ _ _ _ ?_
  unfold sh51
  refine M.new_i (l := [.slice A N.length c, vi most]) (fun w1 b1 k1 s1 => ?_)
  refine M.new_i (l := [.slice none 0 0, vi 0]) (fun w2 b2 k2 s2 => ?_)
  have hb : RB w w2 (.agg ⟨[.slice A N.length c, vi most]⟩) w.heap.size w1.heap.size [.slice A N.length c, vi most] := ⟨k1.trans k2 (fun _ _ h => h), b1.keep k2 (fun h => h), ⟨_, _, b2⟩, rfl, rfl, two_one, Nat.le_refl _, by omega, by omega⟩
  refine M.call_i (rfits_ret n w2) ?_; rintro _ w3 ⟨rfl, rfl⟩
  refine M.not_i ?_
  unfold varN
  cases hf : fitsB n with
  | false =>
    rw [if_pos rfl]
    (repeat (refine jo ?_))
    exact hb.no hd (fun _ _ h => h)
  | true =>
    rw [if_neg (by simp)]
    by_cases h0 : i < 0
    · rw [if_pos (.inl h0)]
      (repeat (first|refine ji ?_|refine jk ?_|refine jo ?_|refine jp ?_|refine jy ?_))
      exact hb.no hd (fun _ _ h => h)
    by_cases h255 : 255 < i
    · rw [if_pos (.inr h255)]
      (repeat (first|refine jg ?_|refine jl ?_|refine jo ?_|refine jp ?_|refine jz ?_|refine jC ?_))
      exact hb.no hd (fun _ _ h => h)
    rw [if_neg (by omega)]
    (repeat (first|refine jg ?_|refine jl ?_|refine jp ?_|refine jz ?_|refine jD ?_))
    refine M.loop_i (σ := Nat) (fun k vals w' => vals = [vi k] ∧ k ≤ N.length ∧ (∀ (j : Nat) m, j < k → N[j]? = some m → ¬ (m.op = 21 ∧ m.a = i ∧ m.wd ≠ n)) ∧ RB w w' (.agg ⟨[.slice A N.length c, vi most]⟩) w.heap.size w1.heap.size [.slice A N.length c, vi most]) (fun k => N.length - k) 0 ⟨rfl, by omega, by simp, hb⟩ ?_
    rintro k vals w4 K ⟨rfl, hk, hno, hb4⟩ hK _
    simp only [List.getD_cons_zero, List.getD_cons_succ]
    have b3 := hb4.b3
    have hr4 := hr.keep hb4.k (fun _ _ _ h => h)
    by_cases hlt : k < N.length
    · obtain ⟨m, hm⟩ : ∃ m, N[k]? = some m := ⟨_, List.getElem?_eq_getElem hlt⟩
      have next : ¬ (m.op = 21 ∧ m.a = i ∧ m.wd ≠ n) → K [vi (k + 1)] w4 := fun h => hK (k + 1) _ _ (by omega) ⟨by simp, by omega, fun j m' hj hm' => by
        by_cases e : j = k
        · subst e
          rw [hm] at hm'
          obtain rfl := Option.some.inj hm'
          exact h
        · exact hno j m' (by omega) hm', hb4⟩
      (repeat (first|refine ja ?_|refine jc ?_|refine jo ?_|refine jy ?_|refine jN (by assumption) rfl ?_))
      refine M.idxN_i hr4 rfl (by omega) (n := m) (by simpa using hm) (fun bb oo hc => ?_)
      have c0 := hc 0 (vi m.op) rfl
      have c1 := hc 1 (vi m.wd) rfl
      have c2 := hc 2 (vi m.a) rfl
      by_cases h21 : m.op = 21
      · (repeat (first|refine jc ?_|refine jf ?_|refine jG ?_|refine jM (by assumption) ?_|refine jN (by assumption) rfl ?_))
        refine M.idxN_i hr4 rfl (by omega) (n := m) (by simpa using hm) (fun bb' oo' hc' => ?_)
        have c2' := hc' 2 (vi m.a) rfl
        by_cases ha : m.a = i
        · (repeat (first|refine jc ?_|refine jf ?_|refine jk ?_|refine jG ?_|refine jM (by assumption) ?_|refine jN (by assumption) rfl ?_))
          refine M.idxN_i hr4 rfl (by omega) (n := m) (by simpa using hm) (fun bb2 oo2 hc2 => ?_)
          have c12 := hc2 1 (vi m.wd) rfl
          by_cases hwd : m.wd = n
          · (repeat (first|refine jc ?_|refine jf ?_|refine jk ?_|refine jp ?_|refine jJ ?_|refine jK ?_|refine jM (by assumption) ?_))
            exact next (fun h => h.2.2 hwd)
          · (repeat (first|refine jc ?_|refine jf ?_|refine jk ?_|refine jo ?_|refine jI ?_|refine jM (by assumption) ?_))
            rw [otherW_yes hm h21 ha hwd, if_pos rfl]
            exact hb4.no hd (fun _ _ h => h)
        · (repeat (first|refine jc ?_|refine jf ?_|refine jh ?_|refine jk ?_|refine jl ?_|refine jp ?_|refine jH ?_|refine jK ?_|refine jM (by assumption) ?_))
          exact next (fun h => ha h.2.1)
      · (repeat (first|refine jc ?_|refine jh ?_|refine jl ?_|refine jp ?_|refine jH ?_|refine jK ?_|refine jM (by assumption) ?_))
        exact next (fun h => h21 h.1)
    · have e : k = N.length := by omega
      subst e
      rw [otherW_no (fun j m hj => hno j m (List.getElem?_eq_some_iff.1 hj).1 hj), if_neg (by simp)]
      (repeat (first|refine ja ?_|refine jc ?_|refine jp ?_|refine jz ?_|refine jN (by assumption) rfl ?_))
      refine M.loadAll_i b3 rfl ?_
      refine M.pure_i (encN ⟨21, n, i, 0, 0, 0⟩) (fun _ => by kernel_rfl) ?_
      exact hb4.make hd hN (fun _ _ h => h)
end
end Go.Proofs.YtnbcglnefoinlaaGreat
namespace Go.Proofs.YtnbcglnefoinlaaGreat
open Go.Mw
set_option linter.unusedVariables false
set_option linter.unusedSimpArgs false
set_option maxRecDepth 100000
attribute [local irreducible] M.val M.unit M.next M.pick M.new M.nilCheck M.load1 M.loadA M.store M.fieldAddr M.indexSl M.indexArr M.slice M.makeSlice M.buildSlice M.len M.lenS M.cap M.append M.extract M.conv M.not M.neg M.bin M.shift M.eqB M.eqNil M.scat M.call M.callv M.gd M.share M.cond M.loop M.draw pureW readW Ret
def oneV (N : List Nd) (n : Nd) (get : Int → W64) (env : List W64) : W64 :=
  if n.op = 20 then n.val
  else if n.op = 21 then (if n.a < (env.length : Int) then cutW n.wd (env.getD n.a.toNat 0) else 0)
  else if n.op = 22 then (if get n.a = 1 then get n.b else get n.c)
  else if n.op = 23 then cutW n.wd (get n.a >>> n.b.toNat)
  else if n.op = 24 then (get n.a <<< (wdN N n.b).toNat) ||| get n.b
  else if n.op = 25 then get n.a
  else if n.op = 26 then cutW n.wd (sgnW (wdN N n.a) (get n.a))
  else if n.op = 15 ∨ n.op = 16 then unW n.op n.wd (get n.a)
  else binW n.op (wdN N n.a) (get n.a) (get n.b)
def valsU (N : List Nd) (env : List W64) : Nat → List W64
  | 0 => []
  | i + 1 => valsU N env i ++ [match N[i]? with
    | some n => oneV N n (fun k => (valsU N env i).getD k.toNat 0) env
    | none => 0]
def wordAt (N : List Nd) (env : List W64) (k : Int) : W64 := (valsU N env N.length).getD k.toNat 0
theorem valsU_len (N : List Nd) (env : List W64) : ∀ i, (valsU N env i).length = i
  | 0 => rfl
  | i + 1 => by simp [valsU, valsU_len N env i]
theorem valsU_get {N : List Nd} {env : List W64} {k : Nat} : ∀ {i j : Nat}, k < i → i ≤ j → (valsU N env j).getD k 0 = (valsU N env i).getD k 0
  | i, 0, h1, h2 => by omega
  | i, j + 1, h1, h2 => by
    by_cases e : i = j + 1
    · rw [e]
    · rw [← valsU_get (i := i) (j := j) h1 (by omega)]
      simp only [valsU, List.getD_eq_getElem?_getD]
      rw [List.getElem?_append_left (by rw [valsU_len]; omega)]
theorem wordAt_pre {N : List Nd} {env : List W64} {k : Int} {i : Nat} (h0 : 0 ≤ k) (h1 : k < i) (h2 : i ≤ N.length) : wordAt N env k = (valsU N env i).getD k.toNat 0 := valsU_get (by omega) h2
theorem oneV_congr {N M : List Nd} {n : Nd} {g g' : Int → W64} {env : List W64} (hg : goodN M n) (h : ∀ k ∈ kidsN n, g k = g' k) : oneV N n g env = oneV N n g' env := by
  obtain ⟨_, _, h3⟩ := hg
  unfold oneV
  rcases h3 with ⟨ho, _⟩ | ⟨ho, _⟩ | ⟨ho, _⟩ | ⟨ho, ho2, _⟩ | ⟨ho, _⟩ | ⟨ho, _⟩ | ⟨ho, _⟩ | ⟨ho, _⟩
  · rw [if_pos ho, if_pos ho]
  · simp only [if_neg (show ¬ n.op = 20 by omega), if_pos ho]
  · have hk : kidsN n = [n.a] := by
      unfold kidsN
      rw [if_neg (by omega), if_neg (by omega), if_neg (by omega)]
    rw [hk] at h
    have ha := h n.a (by simp)
    simp only [if_neg (show ¬ n.op = 20 by omega), if_neg (show ¬ n.op = 21 by omega), if_neg (show ¬ n.op = 22 by omega), if_neg (show ¬ n.op = 23 by omega), if_neg (show ¬ n.op = 24 by omega), if_neg (show ¬ n.op = 25 by omega), if_neg (show ¬ n.op = 26 by omega), if_pos ho, ha]
  · have hk : kidsN n = [n.a, n.b] := by
      unfold kidsN
      rw [if_neg (by omega), if_neg (by omega), if_pos (by omega)]
    rw [hk] at h
    have ha := h n.a (by simp)
    have hb := h n.b (by simp)
    simp only [if_neg (show ¬ n.op = 20 by omega), if_neg (show ¬ n.op = 21 by omega), if_neg (show ¬ n.op = 22 by omega), if_neg (show ¬ n.op = 23 by omega), if_neg (show ¬ n.op = 24 by omega), if_neg (show ¬ n.op = 25 by omega), if_neg (show ¬ n.op = 26 by omega), if_neg (show ¬ (n.op = 15 ∨ n.op = 16) by omega), ha, hb]
  · have hk : kidsN n = [n.a, n.b, n.c] := by
      unfold kidsN
      rw [if_neg (by omega), if_pos ho]
    rw [hk] at h
    have ha := h n.a (by simp)
    have hb := h n.b (by simp)
    have hc := h n.c (by simp)
    simp only [if_neg (show ¬ n.op = 20 by omega), if_neg (show ¬ n.op = 21 by omega), if_pos ho, ha, hb, hc]
  · have hk : kidsN n = [n.a] := by
      unfold kidsN
      rw [if_neg (by omega), if_neg (by omega), if_neg (by omega)]
    rw [hk] at h
    have ha := h n.a (by simp)
    simp only [if_neg (show ¬ n.op = 20 by omega), if_neg (show ¬ n.op = 21 by omega), if_neg (show ¬ n.op = 22 by omega), if_pos ho, ha]
  · have hk : kidsN n = [n.a, n.b] := by
      unfold kidsN
      rw [if_neg (by omega), if_neg (by omega), if_pos (by omega)]
    rw [hk] at h
    have ha := h n.a (by simp)
    have hb := h n.b (by simp)
    simp only [if_neg (show ¬ n.op = 20 by omega), if_neg (show ¬ n.op = 21 by omega), if_neg (show ¬ n.op = 22 by omega), if_neg (show ¬ n.op = 23 by omega), if_pos ho, ha, hb]
  · have hk : kidsN n = [n.a] := by
      unfold kidsN
      rw [if_neg (by omega), if_neg (by omega), if_neg (by omega)]
    rw [hk] at h
    have ha := h n.a (by simp)
    rcases ho with ho | ho
    · simp only [if_neg (show ¬ n.op = 20 by omega), if_neg (show ¬ n.op = 21 by omega), if_neg (show ¬ n.op = 22 by omega), if_neg (show ¬ n.op = 23 by omega), if_neg (show ¬ n.op = 24 by omega), if_pos ho, ha]
    · simp only [if_neg (show ¬ n.op = 20 by omega), if_neg (show ¬ n.op = 21 by omega), if_neg (show ¬ n.op = 22 by omega), if_neg (show ¬ n.op = 23 by omega), if_neg (show ¬ n.op = 24 by omega), if_neg (show ¬ n.op = 25 by omega), if_pos ho, ha]
theorem valsU_at {N : List Nd} {env : List W64} {i : Nat} {n : Nd} (hi : N[i]? = some n) : (valsU N env (i + 1)).getD i 0 = oneV N n (fun k => (valsU N env i).getD k.toNat 0) env := by
  simp only [valsU, List.getD_eq_getElem?_getD, hi]
  rw [List.getElem?_append_right (by rw [valsU_len]; omega), valsU_len]
  simp
theorem wordAt_one {N : List Nd} {env : List W64} (hG : GoodN N) {i : Nat} {n : Nd} (hi : N[i]? = some n) : wordAt N env i = oneV N n (wordAt N env) env := by
  have hl := (List.getElem?_eq_some_iff.1 hi).1
  have hg := hG i n hi
  rw [wordAt_pre (i := i + 1) (by omega) (by omega) (by omega), Int.toNat_natCast, valsU_at hi]
  refine oneV_congr hg (fun k hk => ?_)
  have := isN_iff.1 (hg.2.1 k hk)
  rw [List.length_take] at this
  rw [wordAt_pre (i := i) (by omega) (by omega) (by omega)]
theorem kids_lt {N : List Nd} (hG : GoodN N) {i : Nat} {n : Nd} (hi : N[i]? = some n) {k : Int} (hk : k ∈ kidsN n) : 0 ≤ k ∧ k < i := by
  have := isN_iff.1 ((hG i n hi).2.1 k hk)
  rw [List.length_take] at this
  omega
structure Once (N : List Nd) (id : Int) (st : List Int) (held : List Int) (E : List Int) : Prop where
  rng : ∀ x ∈ st, isN N x = true
  hrng : ∀ x ∈ held, isN N x = true
  first : st = [] → id ∈ held
  clo : ∀ (i : Nat) n, (i : Int) ∈ held → N[i]? = some n → ∀ k ∈ kidsN n, k ∈ held
  ernge : ∀ x ∈ E, isN N x = true
  nodup : E.Nodup
  pos : ∀ (t : Nat) n, (t : Int) ∈ E → (t : Int) ∉ held → N[t]? = some n → ∃ q : Nat, st[q]? = some (t : Int) ∧ (∀ (r : Nat) x, q < r → st[r]? = some x → x < t) ∧ ∀ k ∈ kidsN n, k ∈ held ∨ ∃ r : Nat, q < r ∧ st[r]? = some k
  base : st ≠ [] → st[0]? = some id
def onceM (N : List Nd) (st E : List Int) : Nat := 4 * (N.length - E.length) + st.length
theorem Once.start {N : List Nd} {id : Int} (h : isN N id = true) : Once N id [id] [] [] :=
  ⟨fun x hx => by simp at hx; exact hx ▸ h, by simp, by simp, by simp, by simp, by simp, by simp, by simp⟩
theorem sub_len {α : Type} : ∀ (a b : List α), a.Nodup → (∀ x ∈ a, x ∈ b) → a.length ≤ b.length
  | [], b, _, _ => by simp
  | x :: a, b, hn, hs => by
    obtain ⟨p, q, rfl⟩ := List.append_of_mem (hs x List.mem_cons_self)
    obtain ⟨h1, h2⟩ := List.nodup_cons.1 hn
    have := sub_len a (p ++ q) h2 (fun y hy => by
      rcases List.mem_append.1 (hs y (List.mem_cons_of_mem _ hy)) with h | h
      · exact List.mem_append_left _ h
      · rcases List.mem_cons.1 h with h | h
        · exact absurd (h ▸ hy) h1
        · exact List.mem_append_right _ h)
    simp at this ⊢; omega
theorem nodup_range {N : List Nd} {E : List Int} (h : E.Nodup) (hr : ∀ x ∈ E, isN N x = true) : E.length ≤ N.length := by
  have hsub : ∀ x ∈ E, x ∈ (List.range N.length).map (fun i : Nat => (i : Int)) := fun x hx => by
    have := isN_iff.1 (hr x hx)
    exact List.mem_map.2 ⟨x.toNat, by rw [List.mem_range]; omega, by omega⟩
  have := sub_len _ _ h hsub
  simpa using this
theorem Once.pop {N : List Nd} {id : Int} {st held E : List Int} {t : Nat} {n : Nd} (h : Once N id (st ++ [(t : Int)]) held E) (hn : N[t]? = some n) (hk : ∀ k ∈ kidsN n, k ∈ held) (hG : GoodN N) :
    ∀ held', (∀ x, x ∈ held' ↔ x = (t : Int) ∨ x ∈ held) → Once N id st held' E := by
  intro held' hh
  have htN : isN N t = true := isN_iff.2 ⟨by omega, by have := (List.getElem?_eq_some_iff.1 hn).1; omega⟩
  refine ⟨fun x hx => h.rng x (List.mem_append_left _ hx), fun x hx => ?_, fun he => ?_, fun i m hi hm k hkk => ?_, h.ernge, h.nodup, fun u m hu hnh hm => ?_, fun hne => ?_⟩
  · rcases (hh x).1 hx with rfl | hx
    · exact htN
    · exact h.hrng x hx
  · subst he
    have := h.base (by simp)
    simp at this
    exact (hh id).2 (.inl this.symm)
  · rcases (hh _).1 hi with e | hi
    · have : i = t := by omega
      subst this
      rw [hn] at hm; cases hm
      exact (hh k).2 (.inr (hk k hkk))
    · exact (hh k).2 (.inr (h.clo i m hi hm k hkk))
  · have hut : ¬ (u : Int) = t := fun e => hnh ((hh _).2 (.inl e))
    obtain ⟨q, h1, h2, h3⟩ := h.pos u m hu (fun hc => hnh ((hh _).2 (.inr hc))) hm
    have hq : q < st.length := by
      have h4 := (List.getElem?_eq_some_iff.1 h1).1
      rw [List.length_append, List.length_singleton] at h4
      rcases Nat.lt_or_ge q st.length with h5 | h5
      · exact h5
      · exfalso
        rw [List.getElem?_append_right h5] at h1
        have : q - st.length = 0 := by omega
        rw [this] at h1
        simp at h1
        exact hut h1.symm
    refine ⟨q, by rw [List.getElem?_append_left hq] at h1; exact h1, fun r x hr hx => h2 r x hr ?_, fun k hkk => ?_⟩
    · rw [List.getElem?_append_left (List.getElem?_eq_some_iff.1 hx).1]; exact hx
    · rcases h3 k hkk with h4 | ⟨r, hr, hx⟩
      · exact .inl ((hh k).2 (.inr h4))
      · by_cases hrl : r < st.length
        · exact .inr ⟨r, hr, by rw [List.getElem?_append_left hrl] at hx; exact hx⟩
        · rw [List.getElem?_append_right (by omega)] at hx
          have h5 := (List.getElem?_eq_some_iff.1 hx).1
          simp only [List.length_singleton] at h5
          have : r - st.length = 0 := by omega
          rw [this] at hx
          simp at hx
          exact .inl ((hh k).2 (.inl hx.symm))
  · have := h.base (by simp)
    cases st with
    | nil => exact absurd rfl hne
    | cons a l => simpa using this
theorem Once.push {N : List Nd} {id : Int} {st held E ks : List Int} {t : Nat} {n : Nd} (h : Once N id (st ++ [(t : Int)]) held E) (hn : N[t]? = some n) (hG : GoodN N) (hks : ks = (kidsN n).filter (fun k => decide (k ∉ held))) (hne : ks ≠ []) :
    Once N id (st ++ [(t : Int)] ++ ks) held ((t : Int) :: E) ∧ onceM N (st ++ [(t : Int)] ++ ks) ((t : Int) :: E) < onceM N (st ++ [(t : Int)]) E := by
  have htN : isN N t = true := isN_iff.2 ⟨by omega, by have := (List.getElem?_eq_some_iff.1 hn).1; omega⟩
  have hmem : ∀ k ∈ ks, k ∈ kidsN n ∧ k ∉ held := fun k hk => by
    rw [hks, List.mem_filter] at hk
    exact ⟨hk.1, by simpa using hk.2⟩
  have hkl : ks.length ≤ 3 := by
    rw [hks]
    refine Nat.le_trans (List.length_filter_le _ _) ?_
    unfold kidsN
    split
    · simp
    · split
      · simp
      · split <;> simp
  obtain ⟨k0, hk0⟩ : ∃ k, k ∈ ks := by
    cases ks with
    | nil => exact absurd rfl hne
    | cons a l => exact ⟨a, List.mem_cons_self⟩
  have htop : (st ++ [(t : Int)])[st.length]? = some (t : Int) := by simp
  have htE : (t : Int) ∉ E := fun hE => by
    have hth : (t : Int) ∉ held := fun hh => (hmem k0 hk0).2 (h.clo t n hh hn k0 (hmem k0 hk0).1)
    obtain ⟨q, h1, h2, h3⟩ := h.pos t n hE hth hn
    have hql : q < (st ++ [(t : Int)]).length := (List.getElem?_eq_some_iff.1 h1).1
    rw [List.length_append, List.length_singleton] at hql
    by_cases hq : q < st.length
    · have := h2 st.length t hq htop
      omega
    · have hq : q = st.length := by omega
      subst hq
      rcases h3 k0 (hmem k0 hk0).1 with h4 | ⟨r, hr, hx⟩
      · exact (hmem k0 hk0).2 h4
      · have := (List.getElem?_eq_some_iff.1 hx).1
        rw [List.length_append, List.length_singleton] at this
        omega
  have hlt : ∀ k ∈ ks, 0 ≤ k ∧ k < t := fun k hk => kids_lt hG hn (hmem k hk).1
  have hEn : ((t : Int) :: E).Nodup := List.nodup_cons.2 ⟨htE, h.nodup⟩
  have hEr : ∀ x ∈ (t : Int) :: E, isN N x = true := fun x hx => by
    rcases List.mem_cons.1 hx with rfl | hx
    · exact htN
    · exact h.ernge x hx
  have hEl := nodup_range hEn hEr
  refine ⟨⟨fun x hx => ?_, h.hrng, fun he => by simp at he, h.clo, hEr, hEn, fun u m hu hnh hm => ?_, fun _ => ?_⟩, ?_⟩
  · rcases List.mem_append.1 hx with hx | hx
    · exact h.rng x hx
    · have := hlt x hx
      have := isN_iff.1 htN
      exact isN_iff.2 ⟨by omega, by omega⟩
  · by_cases hut : (u : Int) = t
    · have : u = t := by omega
      subst this
      rw [hn] at hm; cases hm
      refine ⟨st.length, ?_, fun r x hr hx => ?_, fun k hkk => ?_⟩
      · rw [List.getElem?_append_left (by simp)]; exact htop
      · rw [List.getElem?_append_right (by simp; omega)] at hx
        exact (hlt x (List.mem_of_getElem? hx)).2
      · by_cases hkh : k ∈ held
        · exact .inl hkh
        · right
          have : k ∈ ks := by rw [hks, List.mem_filter]; exact ⟨hkk, by simpa using hkh⟩
          obtain ⟨j, hj⟩ := List.mem_iff_getElem?.1 this
          refine ⟨(st ++ [(u : Int)]).length + j, by simp; omega, ?_⟩
          rw [List.getElem?_append_right (by omega)]
          simpa using hj
    · have huE : (u : Int) ∈ E := by
        rcases List.mem_cons.1 hu with h | h
        · exact absurd h hut
        · exact h
      obtain ⟨q, h1, h2, h3⟩ := h.pos u m huE hnh hm
      have hql := (List.getElem?_eq_some_iff.1 h1).1
      have hq : q < st.length := by
        rw [List.length_append, List.length_singleton] at hql
        rcases Nat.lt_or_ge q st.length with h5 | h5
        · exact h5
        · exfalso
          have : q = st.length := by omega
          subst this
          rw [htop] at h1
          exact hut (Option.some.inj h1).symm
      have htu : (t : Int) < u := h2 st.length t hq htop
      refine ⟨q, by rw [List.getElem?_append_left hql]; exact h1, fun r x hr hx => ?_, fun k hkk => ?_⟩
      · by_cases hrl : r < (st ++ [(t : Int)]).length
        · rw [List.getElem?_append_left hrl] at hx
          exact h2 r x hr hx
        · rw [List.getElem?_append_right (by omega)] at hx
          have := hlt x (List.mem_of_getElem? hx)
          omega
      · rcases h3 k hkk with h4 | ⟨r, hr, hx⟩
        · exact .inl h4
        · exact .inr ⟨r, hr, by rw [List.getElem?_append_left (List.getElem?_eq_some_iff.1 hx).1]; exact hx⟩
  · have := h.base (by simp)
    rw [List.getElem?_append_left (by simp)]; exact this
  · unfold onceM
    have e1 : (st ++ [(t : Int)] ++ ks).length = (st ++ [(t : Int)]).length + ks.length := List.length_append
    rw [e1, List.length_cons]
    rw [List.length_cons] at hEl
    have : 1 ≤ ks.length := by
      cases ks with
      | nil => exact absurd rfl hne
      | cons a l => simp
    omega
end Go.Proofs.YtnbcglnefoinlaaGreat
namespace Go.Proofs.YtnbcglnefoinlaaGreat
open Go.Mw Go.Maps Go.MapKept
set_option linter.unusedVariables false
set_option linter.unusedSimpArgs false
set_option maxRecDepth 100000
attribute [local irreducible] M.val M.unit M.next M.pick M.new M.nilCheck M.load1 M.loadA M.store M.fieldAddr M.indexSl M.indexArr M.slice M.makeSlice M.buildSlice M.len M.lenS M.cap M.append M.extract M.conv M.not M.neg M.bin M.shift M.eqB M.eqNil M.scat M.call M.callv M.gd M.share M.cond M.loop M.draw pureW readW Ret
section
variable {N : List Nd} {n : Nd} {f : Int → W64} {env : List W64}
theorem oneV_const (h : n.op = 20) : oneV N n f env = n.val := by
  unfold oneV; rw [if_pos h]
theorem oneV_var (h : n.op = 21) : oneV N n f env = if n.a < (env.length : Int) then cutW n.wd (env.getD n.a.toNat 0) else 0 := by
  unfold oneV
  simp only [if_neg (show ¬ n.op = 20 by omega), if_pos h]
theorem oneV_ite (h : n.op = 22) : oneV N n f env = if f n.a = 1 then f n.b else f n.c := by
  unfold oneV
  simp only [if_neg (show ¬ n.op = 20 by omega), if_neg (show ¬ n.op = 21 by omega), if_pos h]
theorem oneV_ext (h : n.op = 23) : oneV N n f env = cutW n.wd (f n.a >>> n.b.toNat) := by
  unfold oneV
  simp only [if_neg (show ¬ n.op = 20 by omega), if_neg (show ¬ n.op = 21 by omega), if_neg (show ¬ n.op = 22 by omega), if_pos h]
theorem oneV_cat (h : n.op = 24) : oneV N n f env = (f n.a <<< (wdN N n.b).toNat) ||| f n.b := by
  unfold oneV
  simp only [if_neg (show ¬ n.op = 20 by omega), if_neg (show ¬ n.op = 21 by omega), if_neg (show ¬ n.op = 22 by omega), if_neg (show ¬ n.op = 23 by omega), if_pos h]
theorem oneV_zext (h : n.op = 25) : oneV N n f env = f n.a := by
  unfold oneV
  simp only [if_neg (show ¬ n.op = 20 by omega), if_neg (show ¬ n.op = 21 by omega), if_neg (show ¬ n.op = 22 by omega), if_neg (show ¬ n.op = 23 by omega), if_neg (show ¬ n.op = 24 by omega), if_pos h]
theorem oneV_sext (h : n.op = 26) : oneV N n f env = cutW n.wd (sgnW (wdN N n.a) (f n.a)) := by
  unfold oneV
  simp only [if_neg (show ¬ n.op = 20 by omega), if_neg (show ¬ n.op = 21 by omega), if_neg (show ¬ n.op = 22 by omega), if_neg (show ¬ n.op = 23 by omega), if_neg (show ¬ n.op = 24 by omega), if_neg (show ¬ n.op = 25 by omega), if_pos h]
theorem oneV_un (h : n.op = 15 ∨ n.op = 16) : oneV N n f env = unW n.op n.wd (f n.a) := by
  unfold oneV
  simp only [if_neg (show ¬ n.op = 20 by omega), if_neg (show ¬ n.op = 21 by omega), if_neg (show ¬ n.op = 22 by omega), if_neg (show ¬ n.op = 23 by omega), if_neg (show ¬ n.op = 24 by omega), if_neg (show ¬ n.op = 25 by omega), if_neg (show ¬ n.op = 26 by omega), if_pos h]
theorem oneV_bin (h : 1 ≤ n.op) (h2 : n.op ≤ 14) : oneV N n f env = binW n.op (wdN N n.a) (f n.a) (f n.b) := by
  unfold oneV
  simp only [if_neg (show ¬ n.op = 20 by omega), if_neg (show ¬ n.op = 21 by omega), if_neg (show ¬ n.op = 22 by omega), if_neg (show ¬ n.op = 23 by omega), if_neg (show ¬ n.op = 24 by omega), if_neg (show ¬ n.op = 25 by omega), if_neg (show ¬ n.op = 26 by omega), if_neg (show ¬ (n.op = 15 ∨ n.op = 16) by omega)]
end
theorem kids_one {n : Nd} (h : n.op ≠ 20 ∧ n.op ≠ 21 ∧ n.op ≠ 22 ∧ ¬ n.op ≤ 14 ∧ n.op ≠ 24) : kidsN n = [n.a] := by
  unfold kidsN
  rw [if_neg (by omega), if_neg (by omega), if_neg (by omega)]
theorem kids_two {n : Nd} (h : (1 ≤ n.op ∧ n.op ≤ 14) ∨ n.op = 24) : kidsN n = [n.a, n.b] := by
  unfold kidsN
  rw [if_neg (by omega), if_neg (by omega), if_pos (by omega)]
theorem kids_three {n : Nd} (h : n.op = 22) : kidsN n = [n.a, n.b, n.c] := by
  unfold kidsN
  rw [if_neg (by omega), if_pos h]
end Go.Proofs.YtnbcglnefoinlaaGreat
namespace Go.Proofs.YtnbcglnefoinlaaGreat
open Go.Mw Go.Maps Go.MapKept
set_option linter.unusedVariables false
set_option linter.unusedSimpArgs false
set_option maxRecDepth 100000
attribute [local irreducible] M.val M.unit M.next M.pick M.new M.nilCheck M.load1 M.loadA M.store M.fieldAddr M.indexSl M.indexArr M.slice M.makeSlice M.buildSlice M.len M.lenS M.cap M.append M.extract M.conv M.not M.neg M.bin M.shift M.eqB M.eqNil M.scat M.call M.callv M.gd M.share M.cond M.loop M.draw pureW readW Ret
end Go.Proofs.YtnbcglnefoinlaaGreat
namespace Go.Proofs.YtnbcglnefoinlaaGreat
open Go.Mw Go.Maps Go.MapKept
set_option linter.unusedVariables false
set_option linter.unusedSimpArgs false
set_option maxRecDepth 100000
attribute [local irreducible] M.val M.unit M.next M.pick M.new M.nilCheck M.load1 M.loadA M.store M.fieldAddr M.indexSl M.indexArr M.slice M.makeSlice M.buildSlice M.len M.lenS M.cap M.append M.extract M.conv M.not M.neg M.bin M.shift M.eqB M.eqNil M.scat M.call M.callv M.gd M.share M.cond M.loop M.draw pureW readW Ret
def sh35 (x0 x1 x2 x3 : Value) (R : Kt) (w : World) : Prop :=
  M.new 29 (Value.cells x0) (fun t4 w =>
  M.new 73 (Value.cells x1) (fun t5 w =>
  M.fieldAddr 0 t5 (fun t13 w =>
  M.load1 t13 (fun t14 w =>
  M.bin .eql t14 (Value.int IntKind.i64 20) (fun t16 w =>
  M.cond t16
  (M.fieldAddr 5 t5 (fun t17 w =>
  M.load1 t17 (fun t18 w =>
  R t18 w) w) w)
  (M.bin .eql t14 (Value.int IntKind.i64 21) (fun t20 w =>
  M.cond t20
  (M.fieldAddr 2 t5 (fun t21 w =>
  M.load1 t21 (fun t22 w =>
  M.len x3 (fun t24 w =>
  M.bin .lss t22 t24 (fun t25 w =>
  M.cond t25
  (M.draw (fun w =>
  M.fieldAddr 1 t5 (fun t26 w =>
  M.load1 t26 (fun t27 w =>
  M.fieldAddr 2 t5 (fun t29 w =>
  M.load1 t29 (fun t30 w =>
  M.indexSl 1 x3 t30 (fun t31 w =>
  M.load1 t31 (fun t32 w =>
  M.call Tryz.prog 37 #[t27, t32] (fun t33 w =>
  ((M.load1 t29 (fun v' _ => v' = t30) w) ∧ R t33 w)) w) w) w) w) w) w) w) w)
  (R (Value.int IntKind.u64 0) w)) w) w) w) w)
  (M.bin .eql t14 (Value.int IntKind.i64 22) (fun t35 w =>
  M.cond t35
  (M.fieldAddr 2 t5 (fun t37 w =>
  M.load1 t37 (fun t38 w =>
  M.indexSl 1 x2 t38 (fun t39 w =>
  M.load1 t39 (fun t40 w =>
  M.bin .eql t40 (Value.int IntKind.u64 1) (fun t41 w =>
  M.cond t41
  (M.fieldAddr 3 t5 (fun t43 w =>
  M.load1 t43 (fun t44 w =>
  M.indexSl 1 x2 t44 (fun t45 w =>
  M.load1 t45 (fun t46 w =>
  R t46 w) w) w) w) w)
  (M.fieldAddr 4 t5 (fun t48 w =>
  M.load1 t48 (fun t49 w =>
  M.indexSl 1 x2 t49 (fun t50 w =>
  M.load1 t50 (fun t51 w =>
  R t51 w) w) w) w) w)) w) w) w) w) w)
  (M.bin .eql t14 (Value.int IntKind.i64 23) (fun t53 w =>
  M.cond t53
  (M.draw (fun w =>
  M.fieldAddr 1 t5 (fun t54 w =>
  M.load1 t54 (fun t55 w =>
  M.fieldAddr 2 t5 (fun t57 w =>
  M.load1 t57 (fun t58 w =>
  M.indexSl 1 x2 t58 (fun t59 w =>
  M.load1 t59 (fun t60 w =>
  M.fieldAddr 3 t5 (fun t61 w =>
  M.load1 t61 (fun t62 w =>
  M.conv .u64 t62 (fun t63 w =>
  M.shift .shr t60 t63 (fun t64 w =>
  M.call Tryz.prog 37 #[t55, t64] (fun t65 w =>
  ((M.load1 t61 (fun v' _ => v' = t62) w) ∧ ((M.load1 t59 (fun v' _ => v' = t60) w) ∧ ((M.load1 t57 (fun v' _ => v' = t58) w) ∧ R t65 w)))) w) w) w) w) w) w) w) w) w) w) w) w)
  (M.bin .eql t14 (Value.int IntKind.i64 24) (fun t67 w =>
  M.cond t67
  (M.draw (fun w =>
  M.fieldAddr 2 t5 (fun t69 w =>
  M.load1 t69 (fun t70 w =>
  M.indexSl 1 x2 t70 (fun t71 w =>
  M.load1 t71 (fun t72 w =>
  M.loadA 2 t4 (fun t73 w =>
  M.fieldAddr 3 t5 (fun t74 w =>
  M.load1 t74 (fun t75 w =>
  M.fieldAddr 3 t5 (fun t80 w =>
  M.load1 t80 (fun t81 w =>
  M.indexSl 1 x2 t81 (fun t82 w =>
  M.load1 t82 (fun t83 w =>
  M.call Tryz.prog 15 #[t73, t75] (fun t76 w =>
  ((M.load1 t82 (fun v' _ => v' = t83) w) ∧ ((M.load1 t80 (fun v' _ => v' = t81) w) ∧ ((M.load1 t71 (fun v' _ => v' = t72) w) ∧ ((M.load1 t69 (fun v' _ => v' = t70) w) ∧ M.conv .u64 t76 (fun t77 w =>
  M.shift .shl t72 t77 (fun t78 w =>
  M.bin .or t78 t83 (fun t84 w =>
  R t84 w) w) w) w))))) w) w) w) w) w) w) w) w) w) w) w) w) w)
  (M.bin .eql t14 (Value.int IntKind.i64 25) (fun t86 w =>
  M.cond t86
  (M.fieldAddr 2 t5 (fun t88 w =>
  M.load1 t88 (fun t89 w =>
  M.indexSl 1 x2 t89 (fun t90 w =>
  M.load1 t90 (fun t91 w =>
  R t91 w) w) w) w) w)
  (M.bin .eql t14 (Value.int IntKind.i64 26) (fun t93 w =>
  M.cond t93
  (M.draw (fun w =>
  M.fieldAddr 1 t5 (fun t94 w =>
  M.load1 t94 (fun t95 w =>
  M.loadA 2 t4 (fun t96 w =>
  M.fieldAddr 2 t5 (fun t97 w =>
  M.load1 t97 (fun t98 w =>
  M.fieldAddr 2 t5 (fun t101 w =>
  M.load1 t101 (fun t102 w =>
  M.indexSl 1 x2 t102 (fun t103 w =>
  M.load1 t103 (fun t104 w =>
  M.call Tryz.prog 15 #[t96, t98] (fun t99 w =>
  ((M.load1 t103 (fun v' _ => v' = t104) w) ∧ ((M.load1 t101 (fun v' _ => v' = t102) w) ∧ ((M.load1 t94 (fun v' _ => v' = t95) w) ∧ M.call Tryz.prog 72 #[t99, t104] (fun t105 w =>
  ((M.load1 t101 (fun v' _ => v' = t102) w) ∧ ((M.load1 t94 (fun v' _ => v' = t95) w) ∧ M.conv .u64 t105 (fun t106 w =>
  M.call Tryz.prog 37 #[t95, t106] (fun t107 w =>
  ((M.load1 t101 (fun v' _ => v' = t102) w) ∧ R t107 w)) w) w))) w)))) w) w) w) w) w) w) w) w) w) w) w)
  (M.share (fun K1 w =>
  M.bin .eql t14 (Value.int IntKind.i64 15) (fun t109 w =>
  M.cond t109
  (K1 [t109] w)
  (M.bin .eql t14 (Value.int IntKind.i64 16) (fun t110 w =>
  K1 [t110] w) w)) w) (fun s1 w => ∀ _ : List Value,
  M.cond (s1.getD 0 undef)
  (M.draw (fun w =>
  M.fieldAddr 0 t5 (fun t112 w =>
  M.load1 t112 (fun t113 w =>
  M.fieldAddr 1 t5 (fun t114 w =>
  M.load1 t114 (fun t115 w =>
  M.fieldAddr 2 t5 (fun t117 w =>
  M.load1 t117 (fun t118 w =>
  M.indexSl 1 x2 t118 (fun t119 w =>
  M.load1 t119 (fun t120 w =>
  M.call Tryz.prog 73 #[t113, t115, t120] (fun t121 w =>
  ((M.load1 t117 (fun v' _ => v' = t118) w) ∧ M.extract 0 t121 (fun t122 w =>
  M.extract 1 t121 (fun t123 w =>
  R t122 w) w) w)) w) w) w) w) w) w) w) w) w) w)
  (M.draw (fun w =>
  M.fieldAddr 0 t5 (fun t126 w =>
  M.load1 t126 (fun t127 w =>
  M.loadA 2 t4 (fun t128 w =>
  M.fieldAddr 2 t5 (fun t129 w =>
  M.load1 t129 (fun t130 w =>
  M.fieldAddr 2 t5 (fun t133 w =>
  M.load1 t133 (fun t134 w =>
  M.indexSl 1 x2 t134 (fun t135 w =>
  M.load1 t135 (fun t136 w =>
  M.fieldAddr 3 t5 (fun t138 w =>
  M.load1 t138 (fun t139 w =>
  M.indexSl 1 x2 t139 (fun t140 w =>
  M.load1 t140 (fun t141 w =>
  M.call Tryz.prog 15 #[t128, t130] (fun t131 w =>
  ((M.load1 t140 (fun v' _ => v' = t141) w) ∧ ((M.load1 t138 (fun v' _ => v' = t139) w) ∧ ((M.load1 t135 (fun v' _ => v' = t136) w) ∧ ((M.load1 t133 (fun v' _ => v' = t134) w) ∧ ((M.load1 t126 (fun v' _ => v' = t127) w) ∧ M.call Tryz.prog 74 #[t127, t131, t136, t141] (fun t142 w =>
  ((M.load1 t138 (fun v' _ => v' = t139) w) ∧ ((M.load1 t133 (fun v' _ => v' = t134) w) ∧ M.extract 0 t142 (fun t143 w =>
  M.extract 1 t142 (fun t144 w =>
  R t143 w) w) w))) w)))))) w) w) w) w) w) w) w) w) w) w) w) w) w) w) w)) w)) w)) w)) w)) w)) w)) w)) w) w) w) w) w
theorem ok35 (x0 x1 x2 x3 : Value) (R : Kt) (w : World) (h : sh35 x0 x1 x2 x3 R w) : Ret Tryz.prog 35 #[x0, x1, x2, x3] w R :=
  ret_mk <| calls_of_comp mixed (c := Tryz.f35.body.getD .skip) (args := [x0, x1, x2, x3]) (rs := [(ResultVar.tmp 8)]) (Ann.seq Ann.text (Ann.seq (Ann.seq Ann.text (Ann.block (Ann.seq Ann.text (Ann.cond (Ann.seq Ann.text Ann.leaf) (Ann.seq Ann.text (Ann.cond (Ann.seq (Ann.seq Ann.text (Ann.cond (Ann.seq (Ann.draw (Sch.take 0 (Sch.take 1 (Sch.take 2 (Sch.take 3 (Sch.take 4 (Sch.take 5 (Sch.take 6 (Sch.one 7 (Sch.take 8 Sch.done)))))))))) Ann.leaf) Ann.leaf)) (Ann.seq Ann.text Ann.leaf)) (Ann.seq Ann.text (Ann.cond (Ann.seq (Ann.seq Ann.text (Ann.cond (Ann.seq Ann.text Ann.leaf) Ann.leaf)) (Ann.seq Ann.text Ann.leaf)) (Ann.seq Ann.text (Ann.cond (Ann.seq (Ann.draw (Sch.take 0 (Sch.take 1 (Sch.take 2 (Sch.take 3 (Sch.take 4 (Sch.take 5 (Sch.take 6 (Sch.take 7 (Sch.take 8 (Sch.take 9 (Sch.take 10 (Sch.one 11 (Sch.take 12 Sch.done)))))))))))))) Ann.leaf) (Ann.seq Ann.text (Ann.cond (Ann.seq (Ann.draw (Sch.take 0 (Sch.take 1 (Sch.take 2 (Sch.take 3 (Sch.take 4 (Sch.take 5 (Sch.take 6 (Sch.take 7 (Sch.take 11 (Sch.take 12 (Sch.take 13 (Sch.take 14 (Sch.take 15 (Sch.one 8 (Sch.take 9 (Sch.take 10 (Sch.take 16 (Sch.take 17 Sch.done))))))))))))))))))) Ann.leaf) (Ann.seq Ann.text (Ann.cond (Ann.seq Ann.text Ann.leaf) (Ann.seq Ann.text (Ann.cond (Ann.seq (Ann.draw (Sch.take 0 (Sch.take 1 (Sch.take 2 (Sch.take 3 (Sch.take 4 (Sch.take 6 (Sch.take 7 (Sch.take 8 (Sch.take 9 (Sch.take 10 (Sch.one 5 (Sch.one 11 (Sch.take 12 (Sch.one 13 (Sch.take 14 Sch.done)))))))))))))))) Ann.leaf) (Ann.join [108] [109, 110] (Ann.seq Ann.text (Ann.cond Ann.leaf Ann.text)) (Ann.cond (Ann.seq (Ann.draw (Sch.take 0 (Sch.take 1 (Sch.take 2 (Sch.take 3 (Sch.take 4 (Sch.take 5 (Sch.take 6 (Sch.take 7 (Sch.take 8 (Sch.one 9 (Sch.take 10 (Sch.take 11 (Sch.take 12 (Sch.take 13 (Sch.take 14 Sch.done)))))))))))))))) (Ann.seq Ann.text Ann.leaf)) Ann.leaf)))))))))))))))))) (Ann.seq (Ann.draw (Sch.take 0 (Sch.take 1 (Sch.take 2 (Sch.take 3 (Sch.take 4 (Sch.take 6 (Sch.take 7 (Sch.take 8 (Sch.take 9 (Sch.take 10 (Sch.take 11 (Sch.take 12 (Sch.take 13 (Sch.take 14 (Sch.take 15 (Sch.one 5 (Sch.one 16 (Sch.take 17 (Sch.take 18 (Sch.take 19 (Sch.take 20 (Sch.take 21 Sch.done))))))))))))))))))))))) (Ann.seq Ann.text Ann.leaf))))
    Tryz.func35 (by kernel_rfl) (by kernel_rfl)
    (Eq.mp (by kernel_rfl) h)
def sh13 (x0 x1 : Value) (R : Kt) (w : World) : Prop :=
  M.new 29 (Value.cells x0) (fun t2 w =>
  M.loop [(Value.slice none 0 0), (Value.int IntKind.i64 0)] (fun s1 K1 w => ∀ _ : List Value,
  M.fieldAddr 0 t2 (fun t8 w =>
  M.load1 t8 (fun t9 w =>
  M.len t9 (fun t10 w =>
  M.bin .lss (s1.getD 1 undef) t10 (fun t11 w =>
  M.cond t11
  (M.draw (fun w =>
  M.loadA 2 t2 (fun t15 w =>
  M.fieldAddr 0 t2 (fun t16 w =>
  M.load1 t16 (fun t17 w =>
  M.indexSl 6 t17 (s1.getD 1 undef) (fun t19 w =>
  M.loadA 6 t19 (fun t20 w =>
  M.call Tryz.prog 35 #[t15, t20, (s1.getD 0 undef), x1] (fun t23 w =>
  ((M.load1 t16 (fun v' _ => v' = t17) w) ∧ M.buildSlice 53 1 #[.int .u64 0] 1 [(0, t23)] (fun t24 w =>
  ((M.load1 t16 (fun v' _ => v' = t17) w) ∧ M.append 53 1 8 #[.int .u64 0] (s1.getD 0 undef) t24 (fun t25 w =>
  ((M.load1 t16 (fun v' _ => v' = t17) w) ∧ M.bin .add (s1.getD 1 undef) (Value.int IntKind.i64 1) (fun t13 w =>
  K1 [t25, t13] w) w)) w)) w)) w) w) w) w) w) w) w)
  (R (s1.getD 0 undef) w)) w) w) w) w) w) w
theorem ok13 (x0 x1 : Value) (R : Kt) (w : World) (h : sh13 x0 x1 R w) : Ret Tryz.prog 13 #[x0, x1] w R :=
  ret_mk <| calls_of_comp mixed (c := Tryz.f13.body.getD .skip) (args := [x0, x1]) (rs := [(ResultVar.tmp 4)]) (Ann.seq Ann.text (Ann.seq Ann.text (Ann.seq (Ann.seq Ann.text (Ann.block (Ann.loop [5, 6] [7, 8, 9, 10, 11, 12, 13, 14, 15, 16, 17, 18, 19, 20, 21, 22, 23, 24, 25] (Ann.seq (Ann.seq Ann.text (Ann.cond Ann.leaf Ann.leaf)) (Ann.seq (Ann.block (Ann.draw (Sch.take 0 (Sch.take 1 (Sch.take 2 (Sch.take 3 (Sch.take 4 (Sch.take 5 (Sch.take 6 (Sch.take 7 (Sch.take 8 (Sch.one 9 (Sch.one 10 (Sch.one 11 (Sch.take 12 Sch.done))))))))))))))) Ann.text))))) (Ann.seq Ann.text Ann.leaf))))
    Tryz.func13 (by kernel_rfl) (by kernel_rfl)
    (Eq.mp (by kernel_rfl) h)
theorem M.wat_i {K : Kt} {w : World} {D : Nat → Prop} {A : Option Addr} {vals : List W64} {n c : Nat} {k : Int} (hr : Row w D A (vals.map vw)) (hn : vals.length = n) (h0 : 0 ≤ k) (h1 : k < vals.length)
    (h : ∀ b o, w.cell? ⟨b, o, none⟩ = some (vw (vals.getD k.toNat 0)) → K (.pointer (some ⟨b, o, none⟩)) w) : M.indexSl 1 (.slice A n c) (vi k) K w := by
  have hl : k.toNat < vals.length := by omega
  refine M.idxLV_i hr hn h0 (by omega) (x := vals.getD k.toNat 0) ?_ (fun b o _ hc => h b _ hc)
  rw [List.getD_eq_getElem?_getD, List.getElem?_eq_getElem hl]; rfl
theorem ofI_nat {n : Int} (h0 : 0 ≤ n) (h1 : n ≤ 64) : (BitVec.ofInt 64 n).toNat = n.toNat := by
  rw [BitVec.toNat_ofInt]
  omega
section
variable {w : World} {D : Nat → Prop} {v : Value} {N : List Nd} {most : Int}
set_option maxHeartbeats 4000000 in
theorem rone_ret {D2 De : Nat → Prop} {vv ev : Value} {Mx : List Nd} {n : Nd} {vals env : List W64} (hd : RD w D v N most) (hn : goodN Mx n) (hkl : ∀ k ∈ kidsN n, 0 ≤ k ∧ k < vals.length) (hwd : ∀ k ∈ kidsN n, 1 ≤ wdN N k ∧ wdN N k ≤ 64) (hv : LV vw w D2 vv vals) (he : LV vw w De ev env) (hel : env.length ≤ 1000000) :
    Ret Tryz.prog 35 #[v, encN n, vv, ev] w (fun r w' => r = vw (oneV N n (fun k => vals.getD k.toNat 0) env) ∧ Keep w w' No) := by
  obtain ⟨A, c, rfl, hr⟩ := id hd
  obtain ⟨B, cv, rfl, hvr, _⟩ := hv
  obtain ⟨E, ce, rfl, her, _⟩ := he
  refine ok35 _ _ _ _ _ _ ?_
  unfold sh35
  refine M.new_i (l := [.slice A N.length c, vi most]) (fun w1 b1 k1 s1 => ?_)
  refine M.new_i (l := n.cells) (fun w2 b2 k2 s2 => ?_)
  have b1 := b1.keep k2 (fun h => h)
  have b2 : Blk w2 w1.heap.size [vi n.op, vi n.wd, vi n.a, vi n.b, vi n.c, vw n.val] := b2
  have k02 := k1.trans k2 (fun _ _ h => h)
  have hvr := hvr.keep k02 (fun _ _ _ h => h)
  have her := her.keep k02 (fun _ _ _ h => h)
  have hd2 := hd.keep k02 (fun _ _ _ h => h)
  have kd := Keep.drew w2 No
  have d1 := b1.keep kd (fun h => h)
  have d2 := b2.keep kd (fun h => h)
  have hvd := hvr.keep kd (fun _ _ _ h => h)
  have hed := her.keep kd (fun _ _ _ h => h)
  have hdd := hd2.keep kd (fun _ _ _ h => h)
  have k0d := k02.trans kd (fun _ _ h => h)
  obtain ⟨hw64, _, h3⟩ := hn
  rcases h3 with ⟨ho, _⟩ | ⟨ho, ha0, ha1, _⟩ | ⟨ho, _⟩ | ⟨ho, ho2, _⟩ | ⟨ho, _⟩ | ⟨ho, hb0, hb64, _⟩ | ⟨ho, _⟩ | ⟨ho, _⟩
  · (repeat (first|refine jc ?_|refine jo ?_|refine jG ?_|refine jN (by assumption) rfl ?_))
    exact ⟨by rw [oneV_const ho], k02⟩
  · by_cases hlt : n.a < (env.length : Int)
    · obtain ⟨x, hx⟩ : ∃ x, env[n.a.toNat]? = some x := ⟨_, List.getElem?_eq_getElem (by omega)⟩
      (repeat (first|refine ja ?_|refine jc ?_|refine jd ?_|refine jo ?_|refine jp ?_|refine jy ?_|refine jG ?_|refine jH ?_|refine jN (by assumption) rfl ?_))
      refine M.idxLV_i hed rfl ha0 hlt (x := x) hx (fun bb oo hA hcc => ?_)
      (repeat (refine jM (by assumption) ?_))
      refine M.call_i (rcut_ret n.wd x w2.drew) ?_; rintro _ w3 ⟨rfl, rfl⟩
      (repeat (refine jP (by assumption) rfl ?_))
      refine ⟨?_, k0d⟩
      rw [oneV_var ho, if_pos hlt, List.getD_eq_getElem?_getD, hx]; rfl
    · (repeat (first|refine ja ?_|refine jc ?_|refine jo ?_|refine jp ?_|refine jz ?_|refine jG ?_|refine jH ?_|refine jN (by assumption) rfl ?_))
      refine ⟨?_, k02⟩
      rw [oneV_var ho, if_neg hlt]; rfl
  · have hk := kids_one (n := n) (by omega)
    have ka := hkl n.a (by rw [hk]; simp)
    (repeat (first|refine jc ?_|refine jp ?_|refine jH ?_|refine jN (by assumption) rfl ?_))
    refine M.share_i ?_
    rcases ho with ho' | ho'
    · (repeat (first|refine jo ?_|refine jG ?_))
      intro _
      simp only [List.getD_cons_zero, List.getD_cons_succ]
      (repeat (first|refine jc ?_|refine jd ?_|refine jo ?_|refine jN (by assumption) rfl ?_))
      refine M.wat_i hvd rfl ka.1 ka.2 (fun bb oo hcc => ?_)
      (repeat (refine jM (by assumption) ?_))
      refine M.call_i (runary_ret n.op n.wd (vals.getD n.a.toNat 0) w2.drew) ?_; rintro _ w3 ⟨rfl, rfl⟩
      (repeat (refine jP (by assumption) rfl ?_))
      refine M.extract_i rfl ?_
      refine M.extract_i rfl ?_
      exact ⟨by rw [oneV_un (.inl ho')]; rfl, k0d⟩
    · (repeat (first|refine jp ?_|refine jG ?_|refine jH ?_))
      intro _
      simp only [List.getD_cons_zero, List.getD_cons_succ]
      (repeat (first|refine jc ?_|refine jd ?_|refine jo ?_|refine jN (by assumption) rfl ?_))
      refine M.wat_i hvd rfl ka.1 ka.2 (fun bb oo hcc => ?_)
      (repeat (refine jM (by assumption) ?_))
      refine M.call_i (runary_ret n.op n.wd (vals.getD n.a.toNat 0) w2.drew) ?_; rintro _ w3 ⟨rfl, rfl⟩
      (repeat (refine jP (by assumption) rfl ?_))
      refine M.extract_i rfl ?_
      refine M.extract_i rfl ?_
      exact ⟨by rw [oneV_un (.inr ho')]; rfl, k0d⟩
  · have hk := kids_two (n := n) (by omega)
    have ka := hkl n.a (by rw [hk]; simp)
    have kb := hkl n.b (by rw [hk]; simp)
    (repeat (first|refine jc ?_|refine jp ?_|refine jH ?_|refine jN (by assumption) rfl ?_))
    refine M.share_i ?_
    (repeat (first|refine jp ?_|refine jH ?_))
    intro _
    simp only [List.getD_cons_zero, List.getD_cons_succ]
    (repeat (first|refine jc ?_|refine jd ?_|refine jp ?_|refine jN (by assumption) rfl ?_))
    refine M.loadAll_i d1 rfl ?_
    (repeat (first|refine jc ?_|refine jN (by assumption) rfl ?_))
    refine M.wat_i hvd rfl ka.1 ka.2 (fun bb oo hcc => ?_)
    (repeat (first|refine jc ?_|refine jM (by assumption) ?_|refine jN (by assumption) rfl ?_))
    refine M.wat_i hvd rfl kb.1 kb.2 (fun bb' oo' hcc' => ?_)
    (repeat (refine jM (by assumption) ?_))
    refine M.call_i (rwidth_ret hdd n.a) ?_; rintro _ w3 ⟨rfl, k3⟩
    have d2 := d2.keep k3 (fun h => h)
    have hcc := k3.cell (fun h => h) hcc
    have hcc' := k3.cell (fun h => h) hcc'
    (repeat (first|refine jO (by assumption) ?_|refine jP (by assumption) rfl ?_))
    refine M.call_i (rbinary_ret n.op (wdN N n.a) (vals.getD n.a.toNat 0) (vals.getD n.b.toNat 0) w3) ?_; rintro _ w5 ⟨rfl, rfl⟩
    (repeat (refine jP (by assumption) rfl ?_))
    refine M.extract_i rfl ?_
    refine M.extract_i rfl ?_
    exact ⟨by rw [oneV_bin ho ho2]; rfl, k0d.trans k3 (fun _ _ h => h)⟩
  · have hk := kids_three ho
    have ka := hkl n.a (by rw [hk]; simp)
    have kb := hkl n.b (by rw [hk]; simp)
    have kc := hkl n.c (by rw [hk]; simp)
    (repeat (first|refine jc ?_|refine jo ?_|refine jp ?_|refine jG ?_|refine jH ?_|refine jN (by assumption) rfl ?_))
    refine M.wat_i hvr rfl ka.1 ka.2 (fun bb oo hcc => ?_)
    refine M.load_i hcc ?_
    change M.bin .eql (vw (vals.getD n.a.toNat 0)) (vw 1) _ _
    refine M.eqlW_i ?_
    refine M.cond_i (fun h1 => ?_) (fun h1 => ?_)
    · (repeat (first|refine jc ?_|refine jN (by assumption) rfl ?_))
      refine M.wat_i hvr rfl kb.1 kb.2 (fun bb oo hcc => ?_)
      refine M.load_i hcc ?_
      exact ⟨by rw [oneV_ite ho, if_pos h1], k02⟩
    · (repeat (first|refine jc ?_|refine jN (by assumption) rfl ?_))
      refine M.wat_i hvr rfl kc.1 kc.2 (fun bb oo hcc => ?_)
      refine M.load_i hcc ?_
      exact ⟨by rw [oneV_ite ho, if_neg h1], k02⟩
  · have hk := kids_one (n := n) (by omega)
    have ka := hkl n.a (by rw [hk]; simp)
    (repeat (first|refine jc ?_|refine jd ?_|refine jo ?_|refine jp ?_|refine jG ?_|refine jH ?_|refine jN (by assumption) rfl ?_))
    refine M.wat_i hvd rfl ka.1 ka.2 (fun bb oo hcc => ?_)
    (repeat (first|refine jc ?_|refine jM (by assumption) ?_|refine jN (by assumption) rfl ?_))
    refine M.toWord_i ?_
    refine M.shrW_i ?_
    rw [ofI_nat hb0 hb64]
    refine M.call_i (rcut_ret n.wd (vals.getD n.a.toNat 0 >>> n.b.toNat) w2.drew) ?_; rintro _ w3 ⟨rfl, rfl⟩
    (repeat (first|refine jO (by assumption) ?_|refine jP (by assumption) rfl ?_))
    exact ⟨by rw [oneV_ext ho], k0d⟩
  · have hk := kids_two (n := n) (by omega)
    have ka := hkl n.a (by rw [hk]; simp)
    have kb := hkl n.b (by rw [hk]; simp)
    have hwb := hwd n.b (by rw [hk]; simp)
    (repeat (first|refine jc ?_|refine jd ?_|refine jo ?_|refine jp ?_|refine jG ?_|refine jH ?_|refine jN (by assumption) rfl ?_))
    refine M.wat_i hvd rfl ka.1 ka.2 (fun bb oo hcc => ?_)
    (repeat (refine jM (by assumption) ?_))
    refine M.loadAll_i d1 rfl ?_
    (repeat (first|refine jc ?_|refine jN (by assumption) rfl ?_))
    refine M.wat_i hvd rfl kb.1 kb.2 (fun bb' oo' hcc' => ?_)
    (repeat (refine jM (by assumption) ?_))
    refine M.call_i (rwidth_ret hdd n.b) ?_; rintro _ w3 ⟨rfl, k3⟩
    have d2 := d2.keep k3 (fun h => h)
    have hcc := k3.cell (fun h => h) hcc
    have hcc' := k3.cell (fun h => h) hcc'
    (repeat (first|refine jO (by assumption) ?_|refine jP (by assumption) rfl ?_))
    refine M.toWord_i ?_
    refine M.shlW_i ?_
    rw [ofI_nat (by omega) hwb.2]
    refine M.orW_i ?_
    exact ⟨by rw [oneV_cat ho], k0d.trans k3 (fun _ _ h => h)⟩
  · have hk := kids_one (n := n) (by omega)
    have ka := hkl n.a (by rw [hk]; simp)
    rcases ho with ho | ho
    · (repeat (first|refine jc ?_|refine jo ?_|refine jp ?_|refine jG ?_|refine jH ?_|refine jN (by assumption) rfl ?_))
      refine M.wat_i hvr rfl ka.1 ka.2 (fun bb oo hcc => ?_)
      refine M.load_i hcc ?_
      exact ⟨by rw [oneV_zext ho], k02⟩
    · (repeat (first|refine jc ?_|refine jd ?_|refine jo ?_|refine jp ?_|refine jG ?_|refine jH ?_|refine jN (by assumption) rfl ?_))
      refine M.loadAll_i d1 rfl ?_
      (repeat (first|refine jc ?_|refine jN (by assumption) rfl ?_))
      refine M.wat_i hvd rfl ka.1 ka.2 (fun bb oo hcc => ?_)
      (repeat (refine jM (by assumption) ?_))
      refine M.call_i (rwidth_ret hdd n.a) ?_; rintro _ w3 ⟨rfl, k3⟩
      have d2 := d2.keep k3 (fun h => h)
      have hcc := k3.cell (fun h => h) hcc
      (repeat (first|refine jO (by assumption) ?_|refine jP (by assumption) rfl ?_))
      refine M.call_i (rsigned_ret (wdN N n.a) (vals.getD n.a.toNat 0) w3) ?_; rintro _ w4 ⟨rfl, rfl⟩
      (repeat (refine jP (by assumption) rfl ?_))
      refine M.toWord_i ?_
      rw [ofInt_toInt]
      refine M.call_i (rcut_ret n.wd (sgnW (wdN N n.a) (vals.getD n.a.toNat 0)) w4) ?_; rintro _ w5 ⟨rfl, rfl⟩
      (repeat (refine jP (by assumption) rfl ?_))
      exact ⟨by rw [oneV_sext ho], k0d.trans k3 (fun _ _ h => h)⟩
theorem rall_ret {De : Nat → Prop} {ev : Value} {env : List W64} (hd : RD w D v N most) (hN : N.length ≤ 1000000) (hG : GoodN N) (he : LV vw w De ev env) (hel : env.length ≤ 1000000) :
    Ret Tryz.prog 13 #[v, ev] w (fun r w' => LV vw w' (w.heap.size ≤ ·) r (valsU N env N.length) ∧ Keep w w' No) := by
  obtain ⟨A, c, rfl, hr⟩ := id hd
  refine ok13 _ _ _ _ ?_
  unfold sh13
  refine M.new_i (l := [.slice A N.length c, vi most]) (fun w1 b1 k1 s1 => ?_)
  refine M.loop_i (σ := Nat) (fun m vals w' => ∃ (i : Nat) (sv : Value), m = N.length - i ∧ i ≤ N.length ∧ vals = [sv, vi i] ∧ GW w' (w1.heap.size ≤ ·) sv (valsU N env i) ∧ Blk w' w.heap.size [.slice A N.length c, vi most] ∧ Keep w1 w' No) id N.length
    ⟨0, _, by omega, by omega, rfl, GC.nil _ _ _, b1, Keep.refl _ _⟩ ?_
  rintro m vals w2 K ⟨i, sv, rfl, hi, rfl, g2, b2, k12⟩ hK _
  simp only [List.getD_cons_zero, List.getD_cons_succ]
  have k2 := k1.trans k12 (fun _ _ h => h)
  have q12 := k12.size
  by_cases hlt : i < N.length
  · obtain ⟨n, hn⟩ : ∃ n, N[i]? = some n := ⟨_, List.getElem?_eq_getElem hlt⟩
    have kd := Keep.drew w2 No
    have k2d := k2.trans kd (fun _ _ h => h)
    have d2 := b2.keep kd (fun h => h)
    have gd := g2.keep kd (fun _ _ _ h => h)
    have hrd := hr.keep k2d (fun _ _ _ h => h)
    (repeat (first|refine ja ?_|refine jc ?_|refine jd ?_|refine jo ?_|refine jy ?_|refine jN (by assumption) rfl ?_))
    refine M.loadAll_i d2 rfl ?_
    (repeat (first|refine jc ?_|refine jN (by assumption) rfl ?_))
    refine M.idxN_i hrd rfl (by omega) (n := n) (by simpa using hn) (fun bb oo hc => ?_)
    refine M.loadN_i hc ?_
    have hgn := hG i n hn
    have hkw : ∀ k ∈ kidsN n, 1 ≤ wdN N k ∧ wdN N k ≤ 64 := fun k hk => by
      have := kids_lt hG hn hk
      exact hG.wd (isN_iff.2 ⟨by omega, by omega⟩)
    have hkl : ∀ k ∈ kidsN n, 0 ≤ k ∧ k < (valsU N env i).length := fun k hk => by rw [valsU_len]; exact kids_lt hG hn hk
    refine M.call_i (rone_ret (hd.keep k2d (fun _ _ _ h => h)) hgn hkl hkw (GW.lv gd) (he.keep k2d (fun _ _ _ h => h)) hel) ?_; rintro _ w3 ⟨rfl, k3⟩
    have d3 := d2.keep k3 (fun h => h)
    have g3 := gd.keep k3 (fun _ _ _ h => h)
    have k03 := k2d.trans k3 (fun _ _ h => h)
    have q3 := k03.size; have q1 := k1.size; have qq := (kd.trans k3 (fun _ _ h => h)).size
    (repeat (refine jP (by assumption) rfl ?_))
    refine M.buildSlice_i [vw (oneV N n (fun k => (valsU N env i).getD k.toNat 0) env)] (by kernel_rfl) (fun w4 b4 k4 s4 => ?_)
    have d4 := d3.keep k4 (fun h => h)
    have g4 := g3.keep k4 (fun _ _ _ h => h)
    (repeat (refine jP (by assumption) rfl ?_))
    have hlv := valsU_len N env i
    refine M.append_i g4 (Row.of_blk' (D := fun _ => True) b4 trivial) rfl (by simp; rfl) rfl (by omega) (by omega) (fun v5 w5 g5 k5 => ?_)
    have d5 := d4.keep k5 (fun h => by have h : w1.heap.size ≤ w.heap.size := h; omega)
    have q4 := k4.size
    have k24 := (kd.trans k3 (fun _ _ h => h)).trans k4 (fun _ _ h => h)
    have q24 := k24.size
    (repeat (first|refine jK ?_|refine jP (by assumption) rfl ?_))
    refine hK (N.length - (i + 1)) _ _ (by show N.length - (i + 1) < N.length - i; omega) ⟨i + 1, _, rfl, by omega, rfl, ?_, d5, (k12.trans k24 (fun _ _ h => h)).trans k5 (fun b hb h => by have h : w1.heap.size ≤ b := h; omega)⟩
    have e : valsU N env (i + 1) = valsU N env i ++ [oneV N n (fun k => (valsU N env i).getD k.toNat 0) env] := by
      rw [valsU, hn]
    rw [e]
    have := g5.mono (L' := (w1.heap.size ≤ ·)) (fun b hb h => by rcases h with h | h; exact h; (show w1.heap.size ≤ b); omega)
    simpa [GW] using this
  · have e : i = N.length := by omega
    subst e
    (repeat (first|refine ja ?_|refine jc ?_|refine jp ?_|refine jz ?_|refine jN (by assumption) rfl ?_))
    exact ⟨(GW.lv g2).mono (fun b _ h => by have h : w1.heap.size ≤ b := h; show w.heap.size ≤ b; omega), k2⟩
end
end Go.Proofs.YtnbcglnefoinlaaGreat
namespace Go.Proofs.YtnbcglnefoinlaaGreat
open Go.Mw Go.Maps Go.MapKept
set_option linter.unusedVariables false
set_option linter.unusedSimpArgs false
set_option maxRecDepth 100000
attribute [local irreducible] M.val M.unit M.next M.pick M.new M.nilCheck M.load1 M.loadA M.store M.fieldAddr M.indexSl M.indexArr M.slice M.makeSlice M.buildSlice M.len M.lenS M.cap M.append M.extract M.conv M.not M.neg M.bin M.shift M.eqB M.eqNil M.scat M.call M.callv M.gd M.share M.cond M.loop M.draw pureW readW Ret
def sh23 (x0 x1 : Value) (R : Kt) (w : World) : Prop :=
  M.new 65 (Value.cells x1) (fun t3 w =>
  M.fieldAddr 0 t3 (fun t6 w =>
  M.load1 t6 (fun t7 w =>
  M.bin .eql t7 (Value.int IntKind.i64 0) (fun t9 w =>
  M.cond t9
  (M.fieldAddr 1 t3 (fun t11 w =>
  M.load1 t11 (fun t12 w =>
  M.fieldAddr 5 t3 (fun t13 w =>
  M.load1 t13 (fun t14 w =>
  M.call Tryz.prog 19 #[x0, t12, t14] (fun t15 w =>
  M.extract 0 t15 (fun t16 w =>
  M.extract 1 t15 (fun t17 w =>
  R (.tuple #[t16, t17]) w) w) w) w) w) w) w) w)
  (M.bin .eql t7 (Value.int IntKind.i64 1) (fun t19 w =>
  M.cond t19
  (M.fieldAddr 1 t3 (fun t21 w =>
  M.load1 t21 (fun t22 w =>
  M.fieldAddr 2 t3 (fun t23 w =>
  M.load1 t23 (fun t24 w =>
  M.call Tryz.prog 17 #[x0, t22, t24] (fun t25 w =>
  M.extract 0 t25 (fun t26 w =>
  M.extract 1 t25 (fun t27 w =>
  R (.tuple #[t26, t27]) w) w) w) w) w) w) w) w)
  (M.bin .eql t7 (Value.int IntKind.i64 2) (fun t29 w =>
  M.cond t29
  (M.fieldAddr 2 t3 (fun t31 w =>
  M.load1 t31 (fun t32 w =>
  M.fieldAddr 3 t3 (fun t33 w =>
  M.load1 t33 (fun t34 w =>
  M.call Tryz.prog 45 #[x0, t32, t34] (fun t35 w =>
  M.extract 0 t35 (fun t36 w =>
  M.extract 1 t35 (fun t37 w =>
  R (.tuple #[t36, t37]) w) w) w) w) w) w) w) w)
  (M.bin .eql t7 (Value.int IntKind.i64 3) (fun t39 w =>
  M.cond t39
  (M.fieldAddr 2 t3 (fun t41 w =>
  M.load1 t41 (fun t42 w =>
  M.fieldAddr 3 t3 (fun t43 w =>
  M.load1 t43 (fun t44 w =>
  M.fieldAddr 4 t3 (fun t45 w =>
  M.load1 t45 (fun t46 w =>
  M.call Tryz.prog 18 #[x0, t42, t44, t46] (fun t47 w =>
  M.extract 0 t47 (fun t48 w =>
  M.extract 1 t47 (fun t49 w =>
  R (.tuple #[t48, t49]) w) w) w) w) w) w) w) w) w) w)
  (M.bin .eql t7 (Value.int IntKind.i64 4) (fun t51 w =>
  M.cond t51
  (M.fieldAddr 2 t3 (fun t53 w =>
  M.load1 t53 (fun t54 w =>
  M.fieldAddr 3 t3 (fun t55 w =>
  M.load1 t55 (fun t56 w =>
  M.fieldAddr 4 t3 (fun t57 w =>
  M.load1 t57 (fun t58 w =>
  M.call Tryz.prog 46 #[x0, t54, t56, t58] (fun t59 w =>
  M.extract 0 t59 (fun t60 w =>
  M.extract 1 t59 (fun t61 w =>
  R (.tuple #[t60, t61]) w) w) w) w) w) w) w) w) w) w)
  (M.bin .eql t7 (Value.int IntKind.i64 5) (fun t63 w =>
  M.cond t63
  (M.fieldAddr 2 t3 (fun t65 w =>
  M.load1 t65 (fun t66 w =>
  M.fieldAddr 3 t3 (fun t67 w =>
  M.load1 t67 (fun t68 w =>
  M.fieldAddr 1 t3 (fun t69 w =>
  M.load1 t69 (fun t70 w =>
  M.call Tryz.prog 47 #[x0, t66, t68, t70] (fun t71 w =>
  M.extract 0 t71 (fun t72 w =>
  M.extract 1 t71 (fun t73 w =>
  R (.tuple #[t72, t73]) w) w) w) w) w) w) w) w) w) w)
  (M.bin .eql t7 (Value.int IntKind.i64 6) (fun t75 w =>
  M.cond t75
  (M.fieldAddr 2 t3 (fun t77 w =>
  M.load1 t77 (fun t78 w =>
  M.fieldAddr 3 t3 (fun t79 w =>
  M.load1 t79 (fun t80 w =>
  M.call Tryz.prog 48 #[x0, t78, t80] (fun t81 w =>
  M.extract 0 t81 (fun t82 w =>
  M.extract 1 t81 (fun t83 w =>
  R (.tuple #[t82, t83]) w) w) w) w) w) w) w) w)
  (M.fieldAddr 2 t3 (fun t85 w =>
  M.load1 t85 (fun t86 w =>
  M.fieldAddr 1 t3 (fun t87 w =>
  M.load1 t87 (fun t88 w =>
  M.fieldAddr 3 t3 (fun t89 w =>
  M.load1 t89 (fun t90 w =>
  M.bin .rem t90 (Value.int IntKind.i64 2) (fun t91 w =>
  M.bin .neq t91 (Value.int IntKind.i64 0) (fun t92 w =>
  M.call Tryz.prog 49 #[x0, t86, t88, t92] (fun t93 w =>
  M.extract 0 t93 (fun t94 w =>
  M.extract 1 t93 (fun t95 w =>
  R (.tuple #[t94, t95]) w) w) w) w) w) w) w) w) w) w) w) w)) w)) w)) w)) w)) w)) w)) w) w) w) w
theorem ok23 (x0 x1 : Value) (R : Kt) (w : World) (h : sh23 x0 x1 R w) : Ret Tryz.prog 23 #[x0, x1] w R :=
  ret_mk <| calls_of_comp mixed (c := Tryz.f23.body.getD .skip) (args := [x0, x1]) (rs := [(ResultVar.tmp 4), (ResultVar.tmp 5)]) (Ann.seq Ann.text (Ann.seq (Ann.seq Ann.text (Ann.block (Ann.seq Ann.text (Ann.cond (Ann.seq Ann.text Ann.leaf) (Ann.seq Ann.text (Ann.cond (Ann.seq Ann.text Ann.leaf) (Ann.seq Ann.text (Ann.cond (Ann.seq Ann.text Ann.leaf) (Ann.seq Ann.text (Ann.cond (Ann.seq Ann.text Ann.leaf) (Ann.seq Ann.text (Ann.cond (Ann.seq Ann.text Ann.leaf) (Ann.seq Ann.text (Ann.cond (Ann.seq Ann.text Ann.leaf) (Ann.seq Ann.text (Ann.cond (Ann.seq Ann.text Ann.leaf) Ann.leaf)))))))))))))))) (Ann.seq Ann.text Ann.leaf)))
    Tryz.func23 (by kernel_rfl) (by kernel_rfl)
    (Eq.mp (by kernel_rfl) h)
def sh24 (x0 x1 : Value) (R : Kt) (w : World) : Prop :=
  M.new 29 (Value.cells x0) (fun t2 w =>
  M.new 65 (Value.cells x1) (fun t3 w =>
  M.new 29 #[.slice none 0 0, .int .i64 0] (fun t4 w =>
  M.fieldAddr 0 t3 (fun t7 w =>
  M.load1 t7 (fun t8 w =>
  M.bin .eql t8 (Value.int IntKind.i64 0) (fun t10 w =>
  M.cond t10
  (M.loadA 2 t2 (fun t11 w =>
  M.fieldAddr 1 t3 (fun t12 w =>
  M.load1 t12 (fun t13 w =>
  M.fieldAddr 5 t3 (fun t14 w =>
  M.load1 t14 (fun t15 w =>
  M.call Tryz.prog 50 #[t11, t13, t15] (fun t16 w =>
  M.extract 0 t16 (fun t17 w =>
  M.extract 1 t16 (fun t18 w =>
  M.extract 2 t16 (fun t19 w =>
  M.store 2 t4 t17 (fun _ w =>
  M.loadA 2 t4 (fun r0 w => R (.tuple #[r0, t18, t19]) w) w) w) w) w) w) w) w) w) w) w) w)
  (M.bin .eql t8 (Value.int IntKind.i64 1) (fun t21 w =>
  M.cond t21
  (M.loadA 2 t2 (fun t22 w =>
  M.fieldAddr 1 t3 (fun t23 w =>
  M.load1 t23 (fun t24 w =>
  M.fieldAddr 2 t3 (fun t25 w =>
  M.load1 t25 (fun t26 w =>
  M.call Tryz.prog 51 #[t22, t24, t26] (fun t27 w =>
  M.extract 0 t27 (fun t28 w =>
  M.extract 1 t27 (fun t29 w =>
  M.extract 2 t27 (fun t30 w =>
  M.store 2 t4 t28 (fun _ w =>
  M.loadA 2 t4 (fun r0 w => R (.tuple #[r0, t29, t30]) w) w) w) w) w) w) w) w) w) w) w) w)
  (M.bin .eql t8 (Value.int IntKind.i64 2) (fun t32 w =>
  M.cond t32
  (M.loadA 2 t2 (fun t33 w =>
  M.fieldAddr 2 t3 (fun t34 w =>
  M.load1 t34 (fun t35 w =>
  M.fieldAddr 3 t3 (fun t36 w =>
  M.load1 t36 (fun t37 w =>
  M.call Tryz.prog 52 #[t33, t35, t37] (fun t38 w =>
  M.extract 0 t38 (fun t39 w =>
  M.extract 1 t38 (fun t40 w =>
  M.extract 2 t38 (fun t41 w =>
  M.store 2 t4 t39 (fun _ w =>
  M.loadA 2 t4 (fun r0 w => R (.tuple #[r0, t40, t41]) w) w) w) w) w) w) w) w) w) w) w) w)
  (M.bin .eql t8 (Value.int IntKind.i64 3) (fun t43 w =>
  M.cond t43
  (M.loadA 2 t2 (fun t44 w =>
  M.fieldAddr 2 t3 (fun t45 w =>
  M.load1 t45 (fun t46 w =>
  M.fieldAddr 3 t3 (fun t47 w =>
  M.load1 t47 (fun t48 w =>
  M.fieldAddr 4 t3 (fun t49 w =>
  M.load1 t49 (fun t50 w =>
  M.call Tryz.prog 53 #[t44, t46, t48, t50] (fun t51 w =>
  M.extract 0 t51 (fun t52 w =>
  M.extract 1 t51 (fun t53 w =>
  M.extract 2 t51 (fun t54 w =>
  M.store 2 t4 t52 (fun _ w =>
  M.loadA 2 t4 (fun r0 w => R (.tuple #[r0, t53, t54]) w) w) w) w) w) w) w) w) w) w) w) w) w) w)
  (M.bin .eql t8 (Value.int IntKind.i64 4) (fun t56 w =>
  M.cond t56
  (M.loadA 2 t2 (fun t57 w =>
  M.fieldAddr 2 t3 (fun t58 w =>
  M.load1 t58 (fun t59 w =>
  M.fieldAddr 3 t3 (fun t60 w =>
  M.load1 t60 (fun t61 w =>
  M.fieldAddr 4 t3 (fun t62 w =>
  M.load1 t62 (fun t63 w =>
  M.call Tryz.prog 54 #[t57, t59, t61, t63] (fun t64 w =>
  M.extract 0 t64 (fun t65 w =>
  M.extract 1 t64 (fun t66 w =>
  M.extract 2 t64 (fun t67 w =>
  M.store 2 t4 t65 (fun _ w =>
  M.loadA 2 t4 (fun r0 w => R (.tuple #[r0, t66, t67]) w) w) w) w) w) w) w) w) w) w) w) w) w) w)
  (M.bin .eql t8 (Value.int IntKind.i64 5) (fun t69 w =>
  M.cond t69
  (M.loadA 2 t2 (fun t70 w =>
  M.fieldAddr 2 t3 (fun t71 w =>
  M.load1 t71 (fun t72 w =>
  M.fieldAddr 3 t3 (fun t73 w =>
  M.load1 t73 (fun t74 w =>
  M.fieldAddr 1 t3 (fun t75 w =>
  M.load1 t75 (fun t76 w =>
  M.call Tryz.prog 55 #[t70, t72, t74, t76] (fun t77 w =>
  M.extract 0 t77 (fun t78 w =>
  M.extract 1 t77 (fun t79 w =>
  M.extract 2 t77 (fun t80 w =>
  M.store 2 t4 t78 (fun _ w =>
  M.loadA 2 t4 (fun r0 w => R (.tuple #[r0, t79, t80]) w) w) w) w) w) w) w) w) w) w) w) w) w) w)
  (M.bin .eql t8 (Value.int IntKind.i64 6) (fun t82 w =>
  M.cond t82
  (M.loadA 2 t2 (fun t83 w =>
  M.fieldAddr 2 t3 (fun t84 w =>
  M.load1 t84 (fun t85 w =>
  M.fieldAddr 3 t3 (fun t86 w =>
  M.load1 t86 (fun t87 w =>
  M.call Tryz.prog 56 #[t83, t85, t87] (fun t88 w =>
  M.extract 0 t88 (fun t89 w =>
  M.extract 1 t88 (fun t90 w =>
  M.extract 2 t88 (fun t91 w =>
  M.store 2 t4 t89 (fun _ w =>
  M.loadA 2 t4 (fun r0 w => R (.tuple #[r0, t90, t91]) w) w) w) w) w) w) w) w) w) w) w) w)
  (M.loadA 2 t2 (fun t92 w =>
  M.fieldAddr 2 t3 (fun t93 w =>
  M.load1 t93 (fun t94 w =>
  M.fieldAddr 1 t3 (fun t95 w =>
  M.load1 t95 (fun t96 w =>
  M.fieldAddr 3 t3 (fun t97 w =>
  M.load1 t97 (fun t98 w =>
  M.bin .rem t98 (Value.int IntKind.i64 2) (fun t99 w =>
  M.bin .neq t99 (Value.int IntKind.i64 0) (fun t100 w =>
  M.call Tryz.prog 57 #[t92, t94, t96, t100] (fun t101 w =>
  M.extract 0 t101 (fun t102 w =>
  M.extract 1 t101 (fun t103 w =>
  M.extract 2 t101 (fun t104 w =>
  M.store 2 t4 t102 (fun _ w =>
  M.loadA 2 t4 (fun r0 w => R (.tuple #[r0, t103, t104]) w) w) w) w) w) w) w) w) w) w) w) w) w) w) w) w)) w)) w)) w)) w)) w)) w)) w) w) w) w) w) w
theorem ok24 (x0 x1 : Value) (R : Kt) (w : World) (h : sh24 x0 x1 R w) : Ret Tryz.prog 24 #[x0, x1] w R :=
  ret_mk <| calls_of_comp mixed (c := Tryz.f24.body.getD .skip) (args := [x0, x1]) (rs := [(ResultVar.cell 4 29), (ResultVar.tmp 5), (ResultVar.tmp 6)]) (Ann.seq Ann.text (Ann.seq (Ann.seq Ann.text (Ann.block (Ann.seq Ann.text (Ann.cond (Ann.seq Ann.text Ann.leaf) (Ann.seq Ann.text (Ann.cond (Ann.seq Ann.text Ann.leaf) (Ann.seq Ann.text (Ann.cond (Ann.seq Ann.text Ann.leaf) (Ann.seq Ann.text (Ann.cond (Ann.seq Ann.text Ann.leaf) (Ann.seq Ann.text (Ann.cond (Ann.seq Ann.text Ann.leaf) (Ann.seq Ann.text (Ann.cond (Ann.seq Ann.text Ann.leaf) (Ann.seq Ann.text (Ann.cond (Ann.seq Ann.text Ann.leaf) Ann.leaf)))))))))))))))) (Ann.seq Ann.text Ann.leaf)))
    Tryz.func24 (by kernel_rfl) (by kernel_rfl)
    (Eq.mp (by kernel_rfl) h)
def sh5 (x0 x1 : Value) (R : Kt) (w : World) : Prop :=
  M.new 29 #[.slice none 0 0, .int .i64 0] (fun t5 w =>
  M.call Tryz.prog 16 #[x0] (fun t15 w =>
  M.call Tryz.prog 22 #[x0] (fun t17 w =>
  M.new 29 #[.slice none 0 0, .int .i64 0] (fun t7 w =>
  M.store 2 t7 t17 (fun _ w =>
  M.eqNil 0 false t15 (fun t19 w =>
  M.cond t19
  (M.draw (fun w =>
  M.loadA 2 t7 (fun t20 w =>
  M.store 2 t5 t20 (fun _ w =>
  M.loadA 2 t5 (fun r1 w => R (.tuple #[(Value.pointer none), r1]) w) w) w) w) w)
  (M.loop [(Value.int IntKind.i64 0)] (fun s1 K1 w => ∀ _ : List Value,
  M.len x1 (fun t23 w =>
  M.bin .lss (s1.getD 0 undef) t23 (fun t24 w =>
  M.cond t24
  (M.indexSl 6 x1 (s1.getD 0 undef) (fun t31 w =>
  M.loadA 6 t31 (fun t32 w =>
  M.call Tryz.prog 23 #[t15, t32] (fun t33 w =>
  M.extract 0 t33 (fun t34 w =>
  M.extract 1 t33 (fun t35 w =>
  M.share (fun K2 w =>
  M.draw (fun w =>
  M.loadA 2 t7 (fun t37 w =>
  M.indexSl 6 x1 (s1.getD 0 undef) (fun t40 w =>
  M.loadA 6 t40 (fun t41 w =>
  ((M.call Tryz.prog 24 #[t37, t41] (fun t42 w =>
  M.extract 0 t42 (fun t43 w =>
  M.extract 1 t42 (fun t44 w =>
  M.extract 2 t42 (fun t45 w =>
  M.new 29 #[.slice none 0 0, .int .i64 0] (fun t11 w =>
  M.store 2 t11 t43 (fun _ w =>
  K2 [t11, t44, t45] w) w) w) w) w) w) w) ∧
   (M.new 29 #[.slice none 0 0, .int .i64 0] (fun t11_2 w =>
  ((M.loadA 6 t40 (fun v' _ => v' = t41) w) ∧ ((M.loadA 2 t7 (fun v' _ => v' = t37) w) ∧ M.call Tryz.prog 24 #[t37, t41] (fun t42_2 w =>
  M.extract 0 t42_2 (fun t43_2 w =>
  M.extract 1 t42_2 (fun t44_2 w =>
  M.extract 2 t42_2 (fun t45_2 w =>
  M.store 2 t11_2 t43_2 (fun _ w =>
  K2 [t11_2, t44_2, t45_2] w) w) w) w) w) w))) w))) w) w) w) w) (fun s2 w => ∀ _ : List Value,
  M.loadA 2 (s2.getD 0 undef) (fun t46 w =>
  M.store 2 t7 t46 (fun _ w =>
  M.draw (fun w =>
  M.bin .neq t34 (s2.getD 1 undef) (fun t49 w =>
  M.gd t49 false (fun k w => k t35 w) (fun t51 w =>
  M.gd t49 false (fun k w => k (s2.getD 2 undef) w) (fun t52 w =>
  M.gd t49 false (fun k w => M.bin .neq t51 t52 k w) (fun t53 w =>
  M.pick t49 (Value.bool true) t53 (fun t54 w =>
  M.gd t54 false (fun k w => k t15 w) (fun t56 w =>
  M.gd t54 false (fun k w => M.fieldAddr 0 t7 k w) (fun t58 w =>
  M.gd t54 false (fun k w => M.load1 t58 k w) (fun t59 w =>
  M.gd t54 false (fun k w => M.len t59 k w) (fun t60 w =>
  M.gd t54 false (fun k w => M.call Tryz.prog 25 #[t56] k w) (fun t57 w =>
  ((M.gd t54 false (fun k w => M.load1 t58 k w) (fun v' _ => v' = t59) w) ∧ M.gd t54 false (fun k w => M.bin .neq t57 t60 k w) (fun t61 w =>
  M.pick t54 (Value.bool true) t61 (fun t62 w =>
  M.cond t62
  (M.draw (fun w =>
  M.loadA 2 t7 (fun t63 w =>
  M.store 2 t5 t63 (fun _ w =>
  M.loadA 2 t5 (fun r1 w => R (.tuple #[(Value.pointer none), r1]) w) w) w) w) w)
  (M.bin .add (s1.getD 0 undef) (Value.int IntKind.i64 1) (fun t26 w =>
  K1 [t26] w) w)) w) w)) w) w) w) w) w) w) w) w) w) w) w) w) w) w) w) w) w) w) w)
  (M.draw (fun w =>
  M.loadA 2 t7 (fun t65 w =>
  M.store 2 t5 t65 (fun _ w =>
  M.loadA 2 t5 (fun r1 w => R (.tuple #[t15, r1]) w) w) w) w) w)) w) w) w)) w) w) w) w) w) w
theorem ok5 (x0 x1 : Value) (R : Kt) (w : World) (h : sh5 x0 x1 R w) : Ret Tryz.prog 5 #[x0, x1] w R :=
  ret_mk <| calls_of_comp mixed (c := Tryz.f5.body.getD .skip) (args := [x0, x1]) (rs := [(ResultVar.tmp 4), (ResultVar.cell 5 29)]) (Ann.seq Ann.text (Ann.seq Ann.text (Ann.seq (Ann.seq Ann.text (Ann.cond (Ann.seq (Ann.draw (Sch.take 0 (Sch.take 1 (Sch.one 2 Sch.done)))) Ann.leaf) Ann.leaf)) (Ann.seq (Ann.seq Ann.text (Ann.block (Ann.loop [8] [4, 9, 10, 11, 12, 13, 21, 22, 23, 24, 25, 26, 27, 28, 29, 30, 31, 32, 33, 34, 35, 36, 37, 38, 39, 40, 41, 42, 43, 44, 45, 46, 47, 48, 49, 50, 51, 52, 53, 54, 55, 56, 57, 58, 59, 60, 61, 62, 63] (Ann.seq (Ann.seq Ann.text (Ann.cond Ann.leaf Ann.leaf)) (Ann.seq (Ann.block (Ann.seq Ann.text (Ann.join [11, 12, 13] [36, 37, 38, 39, 40, 41, 42, 43, 44, 45] (Ann.draw (Sch.take 0 (Sch.take 1 (Sch.take 2 (Sch.take 3 (Sch.take 4 (Sch.two 5 10 (Sch.take 6 (Sch.take 7 (Sch.take 8 (Sch.take 9 (Sch.one 10 (Sch.one 11 (Sch.take 12 (Sch.take 13 Sch.done)))))))) (Sch.one 5 (Sch.take 6 (Sch.take 7 (Sch.take 8 (Sch.take 9 (Sch.one 11 (Sch.take 12 (Sch.take 13 Sch.done))))))))))))))) (Ann.seq Ann.text (Ann.seq (Ann.draw (Sch.take 0 (Sch.take 1 (Sch.take 2 (Sch.take 3 (Sch.take 4 (Sch.take 5 (Sch.take 6 (Sch.take 7 (Sch.take 8 (Sch.take 9 (Sch.take 11 (Sch.take 12 (Sch.take 13 (Sch.one 10 (Sch.take 14 (Sch.take 15 Sch.done))))))))))))))))) (Ann.cond (Ann.seq (Ann.draw (Sch.take 0 (Sch.take 1 (Sch.one 2 Sch.done)))) Ann.leaf) Ann.leaf)))))) Ann.text))))) (Ann.seq (Ann.draw (Sch.take 0 (Sch.take 1 (Sch.take 2 (Sch.one 3 Sch.done))))) Ann.leaf)))))
    Tryz.func5 (by kernel_rfl) (by kernel_rfl)
    (Eq.mp (by kernel_rfl) h)
def askN (most : Int) (N : List Nd) (x : Nd) : List Nd × Int × Int :=
  if x.op = 0 then constN most N x.wd x.val else if x.op = 1 then varN most N x.wd x.a else if x.op = 2 then unaryN most N x.a x.b
  else if x.op = 3 then binaryN most N x.a x.b x.c else if x.op = 4 then iteN most N x.a x.b x.c else if x.op = 5 then extractN most N x.a x.b x.wd
  else if x.op = 6 then concatN most N x.a x.b else extendN most N x.a x.wd (decide (x.b.tmod 2 ≠ 0))
theorem rem2 (b : Int) : ibin .rem .i64 b 2 = some (vi (b.tmod 2)) := by
  simp only [ibin]
  rw [if_neg (by omega)]
section
variable {w : World} {F : Nat → Prop} {p : Nat} {N : List Nd} {most : Int}
theorem AskO.out {w1 w2 : World} {res : List Nd × Int × Int} {r : Value} (k : Keep w w1 No) (g : AskO w1 F p most res r w2) :
    M.extract 0 r (fun t w' => M.extract 1 r (fun t2 w'' => AskO w F p most res (.tuple #[t, t2]) w'') w') w2 := by
  obtain ⟨F', rfl, h2, h3, h4⟩ := g
  refine M.extract_i rfl ?_
  refine M.extract_i rfl ?_
  exact AskO.from k ⟨F', rfl, h2, h3, h4⟩
theorem made_ret (h : DagO w F p N most) (x : Nd) : Ret Tryz.prog 23 #[ptr p, encN x] w (AskO w F p most (askN most N x)) := by
  refine ok23 _ _ _ _ ?_
  unfold sh23
  refine M.new_i (l := x.cells) (fun w1 b1 k1 s1 => ?_)
  have b1 : Blk w1 w.heap.size [vi x.op, vi x.wd, vi x.a, vi x.b, vi x.c, vw x.val] := b1
  have hd := h.keepN k1
  unfold askN
  by_cases h0 : x.op = 0
  · rw [if_pos h0]
    (repeat (first|refine jc ?_|refine jo ?_|refine jG ?_|refine jN (by assumption) rfl ?_))
    exact M.call_i (const_ret hd x.wd x.val) (fun _ _ g => AskO.out k1 g)
  by_cases h1 : x.op = 1
  · rw [if_neg h0, if_pos h1]
    (repeat (first|refine jc ?_|refine jo ?_|refine jp ?_|refine jG ?_|refine jH ?_|refine jN (by assumption) rfl ?_))
    exact M.call_i (dvar_ret hd x.wd x.a) (fun _ _ g => AskO.out k1 g)
  by_cases h2 : x.op = 2
  · rw [if_neg h0, if_neg h1, if_pos h2]
    (repeat (first|refine jc ?_|refine jo ?_|refine jp ?_|refine jG ?_|refine jH ?_|refine jN (by assumption) rfl ?_))
    exact M.call_i (unary_ret hd x.a x.b) (fun _ _ g => AskO.out k1 g)
  by_cases h3 : x.op = 3
  · rw [if_neg h0, if_neg h1, if_neg h2, if_pos h3]
    (repeat (first|refine jc ?_|refine jo ?_|refine jp ?_|refine jG ?_|refine jH ?_|refine jN (by assumption) rfl ?_))
    exact M.call_i (binary_ret hd x.a x.b x.c) (fun _ _ g => AskO.out k1 g)
  by_cases h4 : x.op = 4
  · rw [if_neg h0, if_neg h1, if_neg h2, if_neg h3, if_pos h4]
    (repeat (first|refine jc ?_|refine jo ?_|refine jp ?_|refine jG ?_|refine jH ?_|refine jN (by assumption) rfl ?_))
    exact M.call_i (ite_ret hd x.a x.b x.c) (fun _ _ g => AskO.out k1 g)
  by_cases h5 : x.op = 5
  · rw [if_neg h0, if_neg h1, if_neg h2, if_neg h3, if_neg h4, if_pos h5]
    (repeat (first|refine jc ?_|refine jo ?_|refine jp ?_|refine jG ?_|refine jH ?_|refine jN (by assumption) rfl ?_))
    exact M.call_i (extract_ret hd x.a x.b x.wd) (fun _ _ g => AskO.out k1 g)
  by_cases h6 : x.op = 6
  · rw [if_neg h0, if_neg h1, if_neg h2, if_neg h3, if_neg h4, if_neg h5, if_pos h6]
    (repeat (first|refine jc ?_|refine jo ?_|refine jp ?_|refine jG ?_|refine jH ?_|refine jN (by assumption) rfl ?_))
    exact M.call_i (concat_ret hd x.a x.b) (fun _ _ g => AskO.out k1 g)
  rw [if_neg h0, if_neg h1, if_neg h2, if_neg h3, if_neg h4, if_neg h5, if_neg h6]
  (repeat (first|refine jc ?_|refine jp ?_|refine jH ?_|refine jN (by assumption) rfl ?_))
  refine M.bin_i (rem2 x.b) ?_
  refine M.neq_i ?_
  exact M.call_i (extend_ret hd x.a x.wd (decide (x.b.tmod 2 ≠ 0))) (fun _ _ g => AskO.out k1 g)
end
section
variable {w : World} {D : Nat → Prop} {v : Value} {N : List Nd} {most : Int}
theorem RAsk.out {w0 w1 w2 : World} {res : List Nd × Int × Int} {r : Value} {p4 : Nat} {x y : Value} (k : Keep w0 w1 No) (hp : w0.heap.size ≤ p4) (b4 : Blk w1 p4 [x, y]) (g : RAsk w1 (fun b => D b ∧ b < w0.heap.size) most res r w2) :
    M.extract 0 r (fun t17 w => M.extract 1 r (fun t18 w => M.extract 2 r (fun t19 w => M.store 2 (ptr p4) t17 (fun _ w => M.loadA 2 (ptr p4) (fun r0 w' => RAsk w0 D most res (.tuple #[r0, t18, t19]) w') w) w) w) w) w2 := by
  obtain ⟨d, rfl, h2, h3⟩ := g
  obtain ⟨A, c, rfl, hr⟩ := id h2
  refine M.extract_i rfl ?_
  refine M.extract_i rfl ?_
  refine M.extract_i rfl ?_
  have hl := b4.lt
  refine rout (R := fun r0 w' => RAsk w0 D most res (.tuple #[r0, vi res.2.1, vi res.2.2]) w') (b4.keep h3 (fun h => h)) rfl two_one (fun w3 k3 => ?_)
  have q := k.size
  refine ⟨_, rfl, (h2.keep k3 (fun b _ h e => ?_)).mono (fun b _ h => ?_), (k.trans h3 (fun _ _ h => h)).trans k3 (fun b hb h => by omega)⟩
  · have e : b = p4 := e
    rcases h with h | h
    · have := h.2; omega
    · omega
  · rcases h with h | h
    · exact .inl h.1
    · exact .inr (by omega)
theorem meant_ret (h : RD w D v N most) (hN : N.length ≤ 1000000) (hg : GoodN N) (x : Nd) : Ret Tryz.prog 24 #[v, encN x] w (RAsk w D most (askN most N x)) := by
  have h := h.mono (D' := fun b => D b ∧ b < w.heap.size) (fun b hb h => ⟨h, hb⟩)
  obtain ⟨A, c, rfl, hr⟩ := id h
  refine ok24 _ _ _ _ ?_
  unfold sh24
  refine M.new_i (l := [.slice A N.length c, vi most]) (fun w1 b1 k1 s1 => ?_)
  refine M.new_i (l := x.cells) (fun w2 b2 k2 s2 => ?_)
  refine M.new_i (l := [.slice none 0 0, vi 0]) (fun w3 b3 k3 s3 => ?_)
  have b1 := (b1.keep k2 (fun h => h)).keep k3 (fun h => h)
  have b2 : Blk w3 w1.heap.size [vi x.op, vi x.wd, vi x.a, vi x.b, vi x.c, vw x.val] := b2.keep k3 (fun h => h)
  have k03 := (k1.trans k2 (fun _ _ h => h)).trans k3 (fun _ _ h => h)
  have hd := h.keep k03 (fun _ _ _ h => h)
  have hp : w.heap.size ≤ w2.heap.size := by omega
  unfold askN
  by_cases h0 : x.op = 0
  · rw [if_pos h0]
    (repeat (first|refine jc ?_|refine jo ?_|refine jG ?_|refine jN (by assumption) rfl ?_))
    refine M.loadAll_i b1 rfl ?_
    (repeat (first|refine jc ?_|refine jN (by assumption) rfl ?_))
    exact M.call_i (rconst_ret hd hN x.wd x.val) (fun _ _ g => RAsk.out k03 hp b3 g)
  by_cases h1 : x.op = 1
  · rw [if_neg h0, if_pos h1]
    (repeat (first|refine jc ?_|refine jo ?_|refine jp ?_|refine jG ?_|refine jH ?_|refine jN (by assumption) rfl ?_))
    refine M.loadAll_i b1 rfl ?_
    (repeat (first|refine jc ?_|refine jN (by assumption) rfl ?_))
    exact M.call_i (rvar_ask hd hN x.wd x.a) (fun _ _ g => RAsk.out k03 hp b3 g)
  by_cases h2 : x.op = 2
  · rw [if_neg h0, if_neg h1, if_pos h2]
    (repeat (first|refine jc ?_|refine jo ?_|refine jp ?_|refine jG ?_|refine jH ?_|refine jN (by assumption) rfl ?_))
    refine M.loadAll_i b1 rfl ?_
    (repeat (first|refine jc ?_|refine jN (by assumption) rfl ?_))
    exact M.call_i (runary_ask hd hN x.a x.b) (fun _ _ g => RAsk.out k03 hp b3 g)
  by_cases h3 : x.op = 3
  · rw [if_neg h0, if_neg h1, if_neg h2, if_pos h3]
    (repeat (first|refine jc ?_|refine jo ?_|refine jp ?_|refine jG ?_|refine jH ?_|refine jN (by assumption) rfl ?_))
    refine M.loadAll_i b1 rfl ?_
    (repeat (first|refine jc ?_|refine jN (by assumption) rfl ?_))
    exact M.call_i (rbinary_ask hd hN x.a x.b x.c) (fun _ _ g => RAsk.out k03 hp b3 g)
  by_cases h4 : x.op = 4
  · rw [if_neg h0, if_neg h1, if_neg h2, if_neg h3, if_pos h4]
    (repeat (first|refine jc ?_|refine jo ?_|refine jp ?_|refine jG ?_|refine jH ?_|refine jN (by assumption) rfl ?_))
    refine M.loadAll_i b1 rfl ?_
    (repeat (first|refine jc ?_|refine jN (by assumption) rfl ?_))
    exact M.call_i (rite_ask hd hN x.a x.b x.c) (fun _ _ g => RAsk.out k03 hp b3 g)
  by_cases h5 : x.op = 5
  · rw [if_neg h0, if_neg h1, if_neg h2, if_neg h3, if_neg h4, if_pos h5]
    (repeat (first|refine jc ?_|refine jo ?_|refine jp ?_|refine jG ?_|refine jH ?_|refine jN (by assumption) rfl ?_))
    refine M.loadAll_i b1 rfl ?_
    (repeat (first|refine jc ?_|refine jN (by assumption) rfl ?_))
    exact M.call_i (rextract_ask hd hN hg x.a x.b x.wd) (fun _ _ g => RAsk.out k03 hp b3 g)
  by_cases h6 : x.op = 6
  · rw [if_neg h0, if_neg h1, if_neg h2, if_neg h3, if_neg h4, if_neg h5, if_pos h6]
    (repeat (first|refine jc ?_|refine jo ?_|refine jp ?_|refine jG ?_|refine jH ?_|refine jN (by assumption) rfl ?_))
    refine M.loadAll_i b1 rfl ?_
    (repeat (first|refine jc ?_|refine jN (by assumption) rfl ?_))
    exact M.call_i (rconcat_ask hd hN hg x.a x.b) (fun _ _ g => RAsk.out k03 hp b3 g)
  rw [if_neg h0, if_neg h1, if_neg h2, if_neg h3, if_neg h4, if_neg h5, if_neg h6]
  (repeat (first|refine jc ?_|refine jp ?_|refine jH ?_|refine jN (by assumption) rfl ?_))
  refine M.loadAll_i b1 rfl ?_
  (repeat (first|refine jc ?_|refine jN (by assumption) rfl ?_))
  refine M.bin_i (rem2 x.b) ?_
  refine M.neq_i ?_
  exact M.call_i (rextend_ask hd hN x.a x.wd (decide (x.b.tmod 2 ≠ 0))) (fun _ _ g => RAsk.out k03 hp b3 g)
end
end Go.Proofs.YtnbcglnefoinlaaGreat
namespace Go.Proofs.YtnbcglnefoinlaaGreat
open Go.Mw Go.Maps Go.MapKept
set_option linter.unusedVariables false
set_option linter.unusedSimpArgs false
set_option maxRecDepth 100000
attribute [local irreducible] M.val M.unit M.next M.pick M.new M.nilCheck M.load1 M.loadA M.store M.fieldAddr M.indexSl M.indexArr M.slice M.makeSlice M.buildSlice M.len M.lenS M.cap M.append M.extract M.conv M.not M.neg M.bin M.shift M.eqB M.eqNil M.scat M.call M.callv M.gd M.share M.cond M.loop M.draw pureW readW Ret
theorem M.stN_i {w : World} {b o : Nat} {n : Nd} {X : Prop} (hc : ∀ (j : Nat) v, n.cells[j]? = some v → w.cell? ⟨b, o + j, none⟩ = some v) (h : X) : M.loadA 6 (.pointer (some ⟨b, o, none⟩)) (fun v' _ => v' = encN n) w ∧ X := ⟨M.loadN_i hc rfl, h⟩
end Go.Proofs.YtnbcglnefoinlaaGreat
namespace Go.Proofs.YtnbcglnefoinlaaGreat
open Go.Mw Go.Maps Go.MapKept
set_option linter.unusedVariables false
set_option linter.unusedSimpArgs false
set_option maxRecDepth 100000
attribute [local irreducible] M.val M.unit M.next M.pick M.new M.nilCheck M.load1 M.loadA M.store M.fieldAddr M.indexSl M.indexArr M.slice M.makeSlice M.buildSlice M.len M.lenS M.cap M.append M.extract M.conv M.not M.neg M.bin M.shift M.eqB M.eqNil M.scat M.call M.callv M.gd M.share M.cond M.loop M.draw pureW readW Ret
theorem ask_N {most : Int} {N : List Nd} (h : GoodN N) (x : Nd) : AskR most N (askN most N x) := by
  unfold askN
  repeat' split
  · exact ask_const h _ _
  · exact ask_var h _ _
  · exact ask_unary h _ _
  · exact ask_binary h _ _ _
  · exact ask_ite h _ _ _
  · exact ask_extract h _ _ _
  · exact ask_concat h _ _
  · exact ask_extend h _ _ _
theorem ask_len {most : Int} {N : List Nd} (h : GoodN N) (hm : (N.length : Int) ≤ most ∨ N = []) (x : Nd) : ((askN most N x).1.length : Int) ≤ most ∨ (askN most N x).1 = [] := by
  rcases (ask_N (most := most) h x).len with g | g
  · exact .inl g
  · rw [g]; exact hm
set_option maxHeartbeats 2000000 in
theorem buildL_ret {w : World} {D : Nat → Prop} {lv : Value} {l : List Nd} (hl : LN Nd.cells w D lv l) (hf : l.length ≤ 1000000) (most : Int) :
    Ret Tryz.prog 5 #[vi most, lv] w (fun r w' => ∃ F p v N, r = .tuple #[ptr p, v] ∧ DagO w' F p N (if most < 0 ∨ 65536 < most then 0 else most) ∧ RD w' (fun b => ¬ F b) v N (if most < 0 ∨ 65536 < most then 0 else most) ∧ ((N.length : Int) ≤ (if most < 0 ∨ 65536 < most then 0 else most) ∨ N = []) ∧ (∀ b, F b → w.heap.size ≤ b) ∧ Keep w w' No) := by
  have hl := hl.mono (D' := fun b => b < w.heap.size) (fun b hb _ => hb)
  obtain ⟨A, c, rfl, hr, _⟩ := hl
  refine ok5 _ _ _ _ ?_
  unfold sh5
  refine M.new_i (l := [.slice none 0 0, vi 0]) (fun w1 b1 k1 s1 => ?_)
  refine M.call_i (new_ret most w1) ?_; rintro _ w2 ⟨F, p, rfl, hd, hF, k2⟩
  refine M.call_i (rnew_ret (D := No) most w2) ?_; rintro dv w3 ⟨hr3, k3⟩
  have hFlt : ∀ b, F b → b < w2.heap.size := fun b hb => hd.lt hb
  generalize (if most < 0 ∨ 65536 < most then 0 else most) = mo at hd hr3
  have hd := hd.keepN k3
  obtain ⟨A3, c3, rfl, _⟩ := id hr3
  refine M.new_i (l := [.slice none 0 0, vi 0]) (fun w4 b4 k4 s4 => ?_)
  refine M.storeAll_i b4 rfl rfl (List.all_eq_true.1 rfl) (fun w5 b5 k5 s5 => ?_)
  have k35 : Keep w3 w5 No := k4.trans k5 (fun b hb h => by omega)
  have b1 := ((b1.keep k2 (fun h => h)).keep k3 (fun h => h)).keep k35 (fun h => h)
  have hd := hd.keepN k35
  have hr3 := hr3.keep k35 (fun _ _ _ h => h)
  have k05 := ((k1.trans k2 (fun _ _ h => h)).trans k3 (fun _ _ h => h)).trans k35 (fun _ _ h => h)
  have q2 := k2.size; have q3 := k3.size
  (repeat (first|refine jp ?_|refine jt ?_))
  refine M.loop_i (σ := Nat) (fun m vals w' => ∃ (i : Nat) (N : List Nd) (F' : Nat → Prop) (X : Option Addr) (xc : Nat), m = l.length - i ∧ i ≤ l.length ∧ vals = [vi i] ∧ DagO w' F' p N mo ∧ RD w' (fun b => ¬ F' b ∧ b ≠ w.heap.size ∧ b ≠ w3.heap.size) (.agg ⟨[.slice X N.length xc, vi mo]⟩) N mo ∧ ((N.length : Int) ≤ mo ∨ N = []) ∧ (∀ b, b < w5.heap.size → F' b → F b) ∧ Blk w' w.heap.size [.slice none 0 0, vi 0] ∧ Blk w' w3.heap.size [.slice X N.length xc, vi mo] ∧ Keep w5 w' (fun b => F b ∨ b = w3.heap.size)) id l.length
    ⟨0, [], F, A3, c3, by omega, by omega, rfl, hd, hr3.mono (fun b _ h => h.elim), .inr rfl, fun _ _ h => h, b1, b5, Keep.refl _ _⟩ ?_
  rintro m vals w6 K ⟨i, N, F6, X, xc, rfl, hi, rfl, h6, r6, hml, hF6, b1, b5, k6⟩ hK _
  simp only [List.getD_cons_zero, List.getD_cons_succ]
  have q6 := k6.size
  have nF : ∀ b, b < w1.heap.size → ¬ F b := fun b hb h => by have := hF b h; omega
  have nF3 : ¬ F w3.heap.size := fun h => by have := hFlt _ h; omega
  have nF6 : ∀ b, b < w1.heap.size → ¬ F6 b := fun b hb h => nF b hb (hF6 b (by omega) h)
  have nF63 : ¬ F6 w3.heap.size := fun h => nF3 (hF6 _ (by omega) h)
  have k06 : Keep w w6 No := k05.trans k6 (fun b hb h => by rcases h with h | h; exact nF b (by omega) h; omega)
  have hr6 := hr.keep k06 (fun _ _ _ h => h)
  by_cases hlt : i < l.length
  · obtain ⟨x, hx⟩ : ∃ x, l[i]? = some x := ⟨_, List.getElem?_eq_getElem hlt⟩
    (repeat (first|refine ja ?_|refine jo ?_|refine jy ?_))
    refine M.idxN_i hr6 rfl (by omega) (n := x) (by simpa using hx) (fun bb oo hc => ?_)
    refine M.loadN_i hc ?_
    refine M.call_i (made_ret h6 x) ?_; rintro _ w7 ⟨F7, rfl, h7, hF7, k7⟩
    refine M.extract_i (v := vi (askN mo N x).2.1) rfl ?_
    refine M.extract_i (v := vi (askN mo N x).2.2) rfl ?_
    have q7 := k7.size
    have hNl := h6.len.1
    have hg6 := h6.good
    have b1 := b1.keep k7 (nF6 _ (by omega))
    have b5 := b5.keep k7 nF63
    have k07 : Keep w w7 No := k06.trans k7 (fun b hb h => nF6 b (by omega) h)
    have nF7 : ∀ b, b < w1.heap.size → ¬ F7 b := fun b hb h => nF6 b hb (hF7 b (by omega) h)
    have nF73 : ¬ F7 w3.heap.size := fun h => nF63 (hF7 _ (by omega) h)
    have r7 : RD w7 (fun b => ¬ F7 b ∧ b ≠ w.heap.size ∧ b ≠ w3.heap.size) (.agg ⟨[.slice X N.length xc, vi mo]⟩) N mo :=
      (RD.keep (RD.mono (D' := fun b => ¬ F6 b ∧ ¬ F7 b ∧ b ≠ w.heap.size ∧ b ≠ w3.heap.size) r6 (fun b hb h => ⟨h.1, fun e => h.1 (hF7 b hb e), h.2⟩)) k7 (fun b _ h e => h.1 e)).mono (fun b _ h => h.2)
    have hr7 := hr.keep k07 (fun _ _ _ h => h)
    refine M.share_j (fun vals w' => ∃ pn Y yc, vals = [ptr pn, vi (askN mo N x).2.1, vi (askN mo N x).2.2] ∧ w7.heap.size ≤ pn ∧ Blk w' pn [.slice Y (askN mo N x).1.length yc, vi mo] ∧ RD w' (fun b => ¬ F7 b ∧ b ≠ w.heap.size ∧ b ≠ w3.heap.size) (.agg ⟨[.slice Y (askN mo N x).1.length yc, vi mo]⟩) (askN mo N x).1 mo ∧ Keep w7 w' No) ?_ ?_
    · rintro vals w8 ⟨pn, Y, yc, rfl, hpn, bn, r8, k8⟩ _
      simp only [List.getD_cons_zero, List.getD_cons_succ]
      have b1 := b1.keep k8 (fun h => h)
      have b5 := b5.keep k8 (fun h => h)
      refine M.loadAll_i bn rfl ?_
      refine M.storeAll_i b5 rfl rfl (List.all_eq_true.1 rfl) (fun w9 b9 k9 s9 => ?_)
      have h9 := (h7.keepN k8).keep k9 (fun b hb h => nF73 (h ▸ hb))
      have b1 := b1.keep k9 (fun h => by omega)
      have r9 := r8.keep k9 (fun b _ h e => h.2.2 e)
      have q8 := k8.size
      have kd := Keep.drew w9 No
      have b9 := b9.keep kd (fun h => h)
      refine M.draw_i ?_
      (repeat (first|refine ja ?_|refine jc ?_|refine jg ?_|refine jl ?_|refine jJ ?_|refine jN (by assumption) rfl ?_))
      refine M.call_i ((h9.keepN kd).dlen) ?_; rintro _ w10 ⟨rfl, rfl⟩
      (repeat (first|refine jg ?_|refine jl ?_|refine jp ?_|refine jJ ?_|refine jK ?_|refine jP (by assumption) rfl ?_|refine jQ ?_))
      refine hK (l.length - (i + 1)) _ _ (by show l.length - (i + 1) < l.length - i; omega) ⟨i + 1, (askN mo N x).1, F7, Y, yc, rfl, by omega, rfl, h9.keepN kd, r9.keep kd (fun _ _ _ h => h), ask_len hg6 hml x, fun b hb h => hF6 b hb (hF7 b (by omega) h), b1.keep kd (fun h => h), b9, ?_⟩
      exact (((k6.trans k7 (fun b hb h => .inl (hF6 b hb h))).trans k8 (fun _ _ h => h.elim)).trans k9 (fun b hb h => .inr h)).trans kd (fun _ _ h => h.elim)
    · intro K2 hK2
      refine M.draw_i ?_
      have kd := Keep.drew w7 No
      have b5 := b5.keep kd (fun h => h)
      have r8 := r7.keep kd (fun _ _ _ h => h)
      have hr8 := hr7.keep kd (fun _ _ _ h => h)
      have h8 := h7.keepN kd
      have e3 : w7.drew.heap.size = w7.heap.size := rfl
      revert kd b5 r8 hr8 h8 e3
      generalize w7.drew = w8
      intro kd b5 r8 hr8 h8 e3
      refine M.loadAll_i b5 rfl ?_
      refine M.idxN_i hr8 rfl (by omega) (n := x) (by simpa using hx) (fun bb oo hc => ?_)
      refine M.loadN_i hc ?_
      refine ⟨?_, ?_⟩
      · refine M.call_i (meant_ret r8 (by omega) hg6 x) ?_; rintro _ w9 ⟨d9, rfl, r9, k9⟩
        obtain ⟨Y, yc, rfl, _⟩ := id r9
        have q9 := k9.size
        refine M.extract_i (v := .agg ⟨[.slice Y (askN mo N x).1.length yc, vi mo]⟩) rfl ?_
        refine M.extract_i (v := vi (askN mo N x).2.1) rfl ?_
        refine M.extract_i (v := vi (askN mo N x).2.2) rfl ?_
        refine M.new_i (l := [.slice none 0 0, vi 0]) (fun w10 b10 k10 s10 => ?_)
        refine M.storeAll_i b10 rfl rfl (List.all_eq_true.1 rfl) (fun w11 b11 k11 s11 => ?_)
        have k911 : Keep w9 w11 No := k10.trans k11 (fun b hb h => by omega)
        refine hK2 _ _ ⟨_, Y, yc, rfl, by omega, b11, ?_, (kd.trans k9 (fun _ _ h => h)).trans k911 (fun _ _ h => h)⟩
        refine (r9.mono (fun b hb h => ?_)).keep k911 (fun _ _ _ h => h)
        rcases h with h | h
        · exact h
        · exact ⟨fun e => by have := h8.lt e; omega, by have := k06.size; omega, by omega⟩
      · refine M.new_i (l := [.slice none 0 0, vi 0]) (fun w9 b9 k9 s9 => ?_)
        have b5 := b5.keep k9 (fun h => h)
        refine M.stN_i (fun j v hv => k9.cell (fun h => h) (hc j v hv)) ?_
        refine M.stAll_i b5 rfl ?_
        have r9 := (r8.mono (D' := fun b => (¬ F7 b ∧ b ≠ w.heap.size ∧ b ≠ w3.heap.size) ∧ b < w8.heap.size) (fun b hb h => ⟨h, hb⟩)).keep k9 (fun _ _ _ h => h)
        refine M.call_i (meant_ret r9 (by omega) hg6 x) ?_; rintro _ w10 ⟨d10, rfl, r10, k10⟩
        obtain ⟨Y, yc, rfl, _⟩ := id r10
        have q10 := k10.size
        refine M.extract_i (v := .agg ⟨[.slice Y (askN mo N x).1.length yc, vi mo]⟩) rfl ?_
        refine M.extract_i (v := vi (askN mo N x).2.1) rfl ?_
        refine M.extract_i (v := vi (askN mo N x).2.2) rfl ?_
        have b9 := b9.keep k10 (fun h => h)
        refine M.storeAll_i b9 rfl rfl (List.all_eq_true.1 rfl) (fun w11 b11 k11 s11 => ?_)
        refine hK2 _ _ ⟨_, Y, yc, rfl, by omega, b11, ?_, ((kd.trans k9 (fun _ _ h => h)).trans k10 (fun _ _ h => h)).trans k11 (fun b hb h => by omega)⟩
        refine (r10.keep k11 (fun b _ h e => by rcases h with h | h; have := h.2; omega; omega)).mono (fun b hb h => ?_)
        rcases h with h | h
        · exact h.1
        · exact ⟨fun e => by have := h8.lt e; omega, by have := k06.size; omega, by omega⟩
  · (repeat (first|refine ja ?_|refine jd ?_|refine jp ?_|refine jz ?_))
    have kd := Keep.drew w6 No
    have b1 := b1.keep kd (fun h => h)
    have b5 := b5.keep kd (fun h => h)
    refine M.loadAll_i b5 rfl ?_
    refine M.storeAll_i b1 rfl rfl (List.all_eq_true.1 rfl) (fun w7 b7 k7 s7 => ?_)
    refine M.loadAll_i b7 rfl ?_
    refine ⟨F6, p, _, N, rfl, (h6.keepN kd).keep k7 (fun b hb h => nF6 w.heap.size (by omega) (h ▸ hb)), ((r6.keep kd (fun _ _ _ h => h)).keep k7 (fun b _ h e => h.2.1 e)).mono (fun b _ h => h.1), hml, fun b h => ?_, (k06.trans kd (fun _ _ h => h)).trans k7 (fun b hb h => by omega)⟩
    by_cases hb : b < w5.heap.size
    · have := hF b (hF6 b hb h); omega
    · have := k05.size; omega
end Go.Proofs.YtnbcglnefoinlaaGreat
namespace Go.Proofs.YtnbcglnefoinlaaGreat
open Go.Mw
set_option linter.unusedVariables false
set_option linter.unusedSimpArgs false
set_option maxRecDepth 100000
attribute [local irreducible] M.val M.unit M.next M.pick M.new M.nilCheck M.load1 M.loadA M.store M.fieldAddr M.indexSl M.indexArr M.slice M.makeSlice M.buildSlice M.len M.lenS M.cap M.append M.extract M.conv M.not M.neg M.bin M.shift M.eqB M.eqNil M.scat M.call M.callv M.gd M.share M.cond M.loop M.draw pureW readW Ret
end Go.Proofs.YtnbcglnefoinlaaGreat
namespace Go.Proofs.YtnbcglnefoinlaaGreat
open Go.Mw
set_option linter.unusedVariables false
set_option linter.unusedSimpArgs false
inductive Fol (l : List (List Int)) (set : List Int) : Int → Prop where
  | base (x : Int) : x ∈ set → ¬ x < 0 → Fol l set x
  | step (c : List Int) (x : Int) : c ∈ l → x ∈ c → ¬ x < 0 → (∀ y ∈ c, ¬ y < 0 → y ≠ x → Fol l set (notOf y)) → Fol l set x
def Bot (l : List (List Int)) (set : List Int) : Prop := (∃ x, Fol l set x ∧ Fol l set (notOf x)) ∨ ∃ c ∈ l, ∀ y ∈ c, ¬ y < 0 → Fol l set (notOf y)
theorem Fol.nonneg {l : List (List Int)} {set : List Int} {x : Int} (h : Fol l set x) : ¬ x < 0 := by
  cases h with
  | base _ _ h => exact h
  | step _ _ _ _ h _ => exact h
theorem notOf_notOf (x : Int) : notOf (notOf x) = x := by
  unfold notOf flip1
  by_cases h : x < 0
  · simp [h]
  · by_cases h2 : x % 2 = 0
    · have h3 : ¬ x + 1 < 0 := by omega
      have h4 : ¬ (x + 1) % 2 = 0 := by omega
      simp [h, h2, h3, h4]
    · have h3 : ¬ x - 1 < 0 := by omega
      have h4 : (x - 1) % 2 = 0 := by omega
      simp [h, h2, h3, h4]
theorem notOf_ne {x : Int} (h : ¬ x < 0) : notOf x ≠ x := by
  unfold notOf flip1
  rw [if_neg h]
  split <;> omega
def heldC (s c : List Int) : Bool := c.any (fun x => decide (0 ≤ x) && decide (x ∈ s))
def openC (s c : List Int) : List Int := c.filter (fun x => decide (0 ≤ x) && (decide (x ∉ s) && decide (notOf x ∉ s)))
structure Stp (l : List (List Int)) (set s : List Int) : Prop where
  fol : ∀ x ∈ s, Fol l set x
  has : ∀ x ∈ set, ¬ x < 0 → x ∈ s
  cons : ∀ x ∈ s, notOf x ∉ s
theorem heldC_iff {s c : List Int} : heldC s c = true ↔ ∃ x ∈ c, 0 ≤ x ∧ x ∈ s := by
  simp [heldC, List.any_eq_true]
theorem mem_openC {s c : List Int} {x : Int} : x ∈ openC s c ↔ x ∈ c ∧ 0 ≤ x ∧ x ∉ s ∧ notOf x ∉ s := by
  simp [openC, List.mem_filter]
theorem Stp.add {l : List (List Int)} {set s c : List Int} {x : Int} (h : Stp l set s) (hc : c ∈ l) (hh : heldC s c = false) (hx : x ∈ openC s c) (ho : ∀ y ∈ openC s c, y = x) : Fol l set x ∧ notOf x ∉ s ∧ x ∉ s ∧ ¬ x < 0 := by
  obtain ⟨h1, h2, h3, h4⟩ := mem_openC.1 hx
  refine ⟨.step c x hc h1 (by omega) (fun y hy hy0 hne => ?_), h4, h3, by omega⟩
  by_cases hn : notOf y ∈ s
  · exact h.fol _ hn
  · exfalso
    by_cases hs : y ∈ s
    · have : heldC s c = true := heldC_iff.2 ⟨y, hy, by omega, hs⟩
      rw [hh] at this; simp at this
    · exact hne (ho y (mem_openC.2 ⟨hy, by omega, hs, hn⟩))
theorem Stp.push {l : List (List Int)} {set s s' : List Int} {x : Int} (h : Stp l set s) (hs : ∀ y, y ∈ s' ↔ y = x ∨ y ∈ s) (hf : Fol l set x) (hn : notOf x ∉ s) : Stp l set s' := by
  refine ⟨fun y hy => ?_, fun y hy hy0 => (hs y).2 (.inr (h.has y hy hy0)), fun y hy hny => ?_⟩
  · rcases (hs y).1 hy with rfl | hy
    · exact hf
    · exact h.fol y hy
  · rcases (hs _).1 hny with e | hny
    · rcases (hs y).1 hy with rfl | hy
      · exact notOf_ne hf.nonneg e
      · exact hn (by rw [← e, notOf_notOf]; exact hy)
    · rcases (hs y).1 hy with rfl | hy
      · exact hn hny
      · exact h.cons y hy hny
theorem Stp.done {l : List (List Int)} {set s : List Int} (h : Stp l set s) (hd : ∀ c ∈ l, heldC s c = true ∨ ∃ x y, x ∈ openC s c ∧ y ∈ openC s c ∧ x ≠ y) : (∀ x, x ∈ s ↔ Fol l set x) ∧ ¬ Bot l set := by
  have key : ∀ x, Fol l set x → x ∈ s := by
    intro x hx
    induction hx with
    | base x h1 h2 => exact h.has x h1 h2
    | step c x hc hxc hx0 _ ih =>
      rcases hd c hc with hh | ⟨a, b, ha, hb, hab⟩
      · obtain ⟨y, hy, hy0, hys⟩ := heldC_iff.1 hh
        by_cases hyx : y = x
        · exact hyx ▸ hys
        · exact absurd (ih y hy (by omega) hyx) (h.cons y hys)
      · exfalso
        obtain ⟨a1, a2, a3, a4⟩ := mem_openC.1 ha
        obtain ⟨b1, b2, b3, b4⟩ := mem_openC.1 hb
        by_cases hax : a = x
        · exact b4 (ih b b1 (by omega) (fun e => hab (by rw [hax, e])))
        · exact a4 (ih a a1 (by omega) hax)
  refine ⟨fun x => ⟨h.fol x, key x⟩, ?_⟩
  rintro (⟨x, h1, h2⟩ | ⟨c, hc, hall⟩)
  · exact h.cons x (key x h1) (key _ h2)
  · rcases hd c hc with hh | ⟨a, b, ha, _, _⟩
    · obtain ⟨y, hy, hy0, hys⟩ := heldC_iff.1 hh
      exact h.cons y hys (key _ (hall y hy (by omega)))
    · obtain ⟨a1, a2, a3, a4⟩ := mem_openC.1 ha
      exact a4 (key _ (hall a a1 (by omega)))
def CloseR (l : List (List Int)) (set out : List Int) (ok : Bool) : Prop := (ok = false ∧ out = [] ∧ Bot l set) ∨ (ok = true ∧ ¬ Bot l set ∧ out.Pairwise (· < ·) ∧ ∀ y, y ∈ out ↔ Fol l set y)
theorem CloseR.ok {l : List (List Int)} {set s : List Int} (h : Stp l set s) (hd : ∀ c ∈ l, heldC s c = true ∨ ∃ x y, x ∈ openC s c ∧ y ∈ openC s c ∧ x ≠ y) : CloseR l set (srt s) true := by
  obtain ⟨h1, h2⟩ := h.done hd
  exact .inr ⟨rfl, h2, srt_lt _, fun y => by rw [mem_srt, h1]⟩
theorem CloseR.no {l : List (List Int)} {set : List Int} (h : Bot l set) : CloseR l set [] false := .inl ⟨rfl, rfl, h⟩
end Go.Proofs.YtnbcglnefoinlaaGreat
namespace Go.Proofs.YtnbcglnefoinlaaGreat
open Go.Mw
set_option linter.unusedVariables false
set_option linter.unusedSimpArgs false
set_option maxRecDepth 100000
attribute [local irreducible] M.val M.unit M.next M.pick M.new M.nilCheck M.load1 M.loadA M.store M.fieldAddr M.indexSl M.indexArr M.slice M.makeSlice M.buildSlice M.len M.lenS M.cap M.append M.extract M.conv M.not M.neg M.bin M.shift M.eqB M.eqNil M.scat M.call M.callv M.gd M.share M.cond M.loop M.draw pureW readW Ret
structure LLr (w : World) (D : Nat → Prop) (A : Option Addr) (vs : List Value) (l : List (List Int)) : Prop where
  row : Row w D A vs
  len : vs.length = l.length
  all : ∀ (i : Nat) c, l[i]? = some c → ∃ u, vs[i]? = some u ∧ LV vi w D u c
def LL (w : World) (D : Nat → Prop) (v : Value) (l : List (List Int)) : Prop := ∃ A c vs, v = .slice A l.length c ∧ LLr w D A vs l ∧ l.length ≤ c
theorem LLr.keep {w w' : World} {D S : Nat → Prop} {A : Option Addr} {vs : List Value} {l : List (List Int)} (h : LLr w D A vs l) (k : Keep w w' S) (hs : ∀ b, b < w.heap.size → D b → ¬ S b) : LLr w' D A vs l :=
  ⟨h.row.keep k hs, h.len, fun i c hc => by obtain ⟨u, g1, g2⟩ := h.all i c hc; exact ⟨u, g1, g2.keep k hs⟩⟩
theorem LL.keep {w w' : World} {D S : Nat → Prop} {v : Value} {l : List (List Int)} (h : LL w D v l) (k : Keep w w' S) (hs : ∀ b, b < w.heap.size → D b → ¬ S b) : LL w' D v l := by
  obtain ⟨A, c, vs, h1, h2, h3⟩ := h
  exact ⟨A, c, vs, h1, h2.keep k hs, h3⟩
theorem M.idxLL_i {k : Kt} {w : World} {D : Nat → Prop} {A : Option Addr} {vs : List Value} {l : List (List Int)} {n cc : Nat} {d : IntKind} {i : Int} (h : LLr w D A vs l) (hn : l.length = n) (h0 : 0 ≤ i) {c : List Int} (hc : l[i.toNat]? = some c)
    (hk : ∀ b o u, w.cell? ⟨b, o + i.toNat, none⟩ = some u → LV vi w D u c → k (.pointer (some ⟨b, o + i.toNat, none⟩)) w) : M.indexSl 1 (.slice A n cc) (.int d i) k w := by
  obtain ⟨u, g1, g2⟩ := h.all _ _ hc
  have hlt := (List.getElem?_eq_some_iff.1 hc).1
  refine M.idxRow_i h.row (by rw [h.len, hn]) h0 (by omega) (fun b o hA hcc => hk b o u ?_ g2)
  rw [hcc, g1]
end Go.Proofs.YtnbcglnefoinlaaGreat
