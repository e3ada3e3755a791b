import Derived.Test.YthkkjjbjpbgcpaaRef15
namespace Go.Proofs.Ythkkjjbjpbgcpaa
open Go.Mw Go.Maps Go.MapKept
set_option linter.unusedVariables false
set_option linter.unusedSimpArgs false
set_option maxRecDepth 100000
attribute [local irreducible] M.val M.unit M.next M.pick M.new M.nilCheck M.load1 M.loadA M.store M.fieldAddr M.indexSl M.indexArr M.slice M.makeSlice M.buildSlice M.len M.lenS M.cap M.append M.extract M.conv M.not M.neg M.bin M.shift M.eqB M.eqNil M.scat M.call M.callv M.gd M.share M.cond M.loop M.draw pureW readW Ret
section
variable {w : World} {D : Nat → Prop} {v : Value} {N : List Nd} {most : Int}
theorem rnew_ret (most : Int) (w : World) : Ret Try.prog 16 #[vi most] w (fun r w' => RD w' D r [] (if most < 0 ∨ 65536 < most then 0 else most) ∧ Keep w w' No) := by
  refine ok16 _ _ _ ?_
  unfold sh16
  refine M.new_i (l := [.slice none 0 0, vi 0]) (fun w1 b1 k1 s1 => ?_)
  refine M.share_j (fun vals w' => vals = [vi (if most < 0 ∨ 65536 < most then 0 else most)] ∧ w' = w1) ?_ ?_
  · rintro vals w2 ⟨rfl, rfl⟩ _
    simp only [List.getD_cons_zero, List.getD_cons_succ]
    refine M.pure_i (.agg ⟨[.slice none 0 0, vi (if most < 0 ∨ 65536 < most then 0 else most)]⟩) (fun _ => by kernel_rfl) ?_
    refine rout b1 rfl two_one (fun w3 k3 => ?_)
    exact ⟨⟨none, 0, rfl, .inl rfl⟩, k1.trans k3 (fun b hb h => by omega)⟩
  · intro K hK
    by_cases h1 : most < 0
    · rw [if_pos (.inl h1)] at hK
      (repeat (first|refine ja ?_|refine jb ?_|refine jc ?_|refine jd ?_|refine je ?_|refine jf ?_|refine jg ?_|refine jh ?_|refine ji ?_|refine jj ?_|refine jk ?_|refine jl ?_|refine jm ?_|refine jn ?_|refine jo ?_|refine jp ?_|refine jq ?_|refine jr ?_|refine js ?_|refine jt ?_|refine ju ?_|refine jv ?_|refine jw ?_|refine jx ?_|refine jy ?_|refine jz ?_|refine jA ?_|refine jB ?_|refine jC ?_|refine jD ?_|refine jE ?_|refine jF ?_|refine jG ?_|refine jH ?_|refine jI ?_|refine jJ ?_|refine jK ?_|refine jL ?_|refine jM (by assumption) ?_|refine jN (by assumption) rfl ?_|refine jO (by assumption) ?_|refine jP (by assumption) rfl ?_|refine jQ ?_|refine jR ?_|refine jS ?_|refine jT ?_|refine jU (by assumption) rfl ?_))
      exact hK _ _ ⟨rfl, rfl⟩
    · by_cases h2 : 65536 < most
      · rw [if_pos (.inr h2)] at hK
        (repeat (first|refine ja ?_|refine jb ?_|refine jc ?_|refine jd ?_|refine je ?_|refine jf ?_|refine jg ?_|refine jh ?_|refine ji ?_|refine jj ?_|refine jk ?_|refine jl ?_|refine jm ?_|refine jn ?_|refine jo ?_|refine jp ?_|refine jq ?_|refine jr ?_|refine js ?_|refine jt ?_|refine ju ?_|refine jv ?_|refine jw ?_|refine jx ?_|refine jy ?_|refine jz ?_|refine jA ?_|refine jB ?_|refine jC ?_|refine jD ?_|refine jE ?_|refine jF ?_|refine jG ?_|refine jH ?_|refine jI ?_|refine jJ ?_|refine jK ?_|refine jL ?_|refine jM (by assumption) ?_|refine jN (by assumption) rfl ?_|refine jO (by assumption) ?_|refine jP (by assumption) rfl ?_|refine jQ ?_|refine jR ?_|refine jS ?_|refine jT ?_|refine jU (by assumption) rfl ?_))
        exact hK _ _ ⟨rfl, rfl⟩
      · rw [if_neg (by omega)] at hK
        (repeat (first|refine ja ?_|refine jb ?_|refine jc ?_|refine jd ?_|refine je ?_|refine jf ?_|refine jg ?_|refine jh ?_|refine ji ?_|refine jj ?_|refine jk ?_|refine jl ?_|refine jm ?_|refine jn ?_|refine jo ?_|refine jp ?_|refine jq ?_|refine jr ?_|refine js ?_|refine jt ?_|refine ju ?_|refine jv ?_|refine jw ?_|refine jx ?_|refine jy ?_|refine jz ?_|refine jA ?_|refine jB ?_|refine jC ?_|refine jD ?_|refine jE ?_|refine jF ?_|refine jG ?_|refine jH ?_|refine jI ?_|refine jJ ?_|refine jK ?_|refine jL ?_|refine jM (by assumption) ?_|refine jN (by assumption) rfl ?_|refine jO (by assumption) ?_|refine jP (by assumption) rfl ?_|refine jQ ?_|refine jR ?_|refine jS ?_|refine jT ?_|refine jU (by assumption) rfl ?_))
        exact hK _ _ ⟨rfl, rfl⟩
/-- The two blocks of an asking. -/
structure RB (w w' : World) (v : Value) (p3 p6 : Nat) (l : List Value) : Prop where
  k : Keep w w' No
  b3 : Blk w' p3 l
  b6 : ∃ x y, Blk w' p6 [x, y]
  e : v = .agg ⟨l⟩
  len : l.length = 2
  one : ∀ x ∈ l, x.oneCell' = true
  n3 : w.heap.size ≤ p3
  n6 : w.heap.size ≤ p6
  ne : p3 ≠ p6
theorem RB.step {w w' w2 : World} {v : Value} {p3 p6 : Nat} {l : List Value} (h : RB w w' v p3 p6 l) (k : Keep w' w2 No) : RB w w2 v p3 p6 l :=
  ⟨h.k.trans k (fun _ _ h => h), h.b3.keep k (fun h => h), by obtain ⟨x, y, b⟩ := h.b6; exact ⟨x, y, b.keep k (fun h => h)⟩, h.e, h.len, h.one, h.n3, h.n6, h.ne⟩
/-- The answer of one that fails. -/
theorem RB.no {w w' : World} {p3 p6 : Nat} {l : List Value} {k : Kt} {i e : Int} (h : RB w w' v p3 p6 l) (hd : RD w D v N most) (hk : ∀ r w', RAsk w D most (N, i, e) r w' → k r w') :
    M.loadA 2 (ptr p3) (fun t w => M.store 2 (ptr p6) t (fun _ w => M.loadA 2 (ptr p6) (fun r0 w => k (.tuple #[r0, vi i, vi e]) w) w) w) w' := by
  obtain ⟨x, y, b6⟩ := h.b6
  have n6 := h.n6
  refine rback (R := fun r0 w => k (.tuple #[r0, vi i, vi e]) w) h.b3 b6 h.len h.one (fun w2 k2 => hk _ _ ?_)
  have k2' : Keep w w2 No := h.k.trans k2 (fun b hb h => by omega)
  rw [← h.e]
  exact ⟨v, rfl, (hd.keep k2' (fun _ _ _ h => h)).mono (fun _ _ h => .inl h), k2'⟩
/-- The answer of one that makes a term. -/
theorem RB.make {w w' : World} {p3 p6 : Nat} {l : List Value} {k : Kt} {n : Nd} (h : RB w w' v p3 p6 l) (hd : RD w D v N most) (hN : N.length ≤ 1000000) (hk : ∀ r w', RAsk w D most (madeN most N n) r w' → k r w') :
    M.call Try.prog 65 #[v, encN n] (fun t28 w => M.extract 0 t28 (fun t29 w => M.extract 1 t28 (fun t30 w => M.extract 2 t28 (fun t31 w => M.store 2 (ptr p6) t29 (fun _ w => M.loadA 2 (ptr p6) (fun r0 w => k (.tuple #[r0, t30, t31]) w) w) w) w) w) w) w' := by
  have hd0 := (hd.mono (D' := fun b => D b ∧ b < w.heap.size) (fun b hb h => ⟨h, hb⟩)).keep h.k (fun _ _ _ h => h)
  refine M.call_i (rmade_ret hd0 hN n) ?_
  rintro _ w2 ⟨d, rfl, hd2, k2⟩
  have hp6 : p6 < w'.heap.size := by
    obtain ⟨x, y, b6⟩ := h.b6
    exact b6.lt
  refine M.extract_i rfl ?_
  refine M.extract_i rfl ?_
  refine M.extract_i rfl ?_
  have h2 := h.step k2
  obtain ⟨x, y, b6⟩ := h2.b6
  obtain ⟨A, c, rfl, hr⟩ := id hd2
  have n6 := h.n6
  refine rout (R := fun r0 w => k (.tuple #[r0, vi (madeN most N n).2.1, vi (madeN most N n).2.2]) w) b6 rfl two_one (fun w3 k3 => hk _ _ ?_)
  have k3' : Keep w w3 No := h2.k.trans k3 (fun b hb h => by omega)
  have q := h.k.size
  refine ⟨_, rfl, (hd2.keep k3 (fun b hb h1 h2 => ?_)).mono (fun b _ h => ?_), k3'⟩
  · have h2 : b = p6 := h2
    rcases h1 with h1 | h1 <;> omega
  · rcases h with h | h
    · exact .inl h.1
    · exact .inr (by omega)
theorem rconst_ret (hd : RD w D v N most) (hN : N.length ≤ 1000000) (n : Int) (x : W64) :
    Ret Try.prog 44 #[v, vi n, vw x] w (RAsk w D most (constN most N n x)) := by
  obtain ⟨A, c, rfl, hr⟩ := id hd
  refine ok44 _ _ _ _ _ ?_
  unfold sh44
  refine M.new_i (l := [.slice A N.length c, vi most]) (fun w1 b1 k1 s1 => ?_)
  refine M.new_i (l := [.slice none 0 0, vi 0]) (fun w2 b2 k2 s2 => ?_)
  have hb : RB w w2 (.agg ⟨[.slice A N.length c, vi most]⟩) w.heap.size w1.heap.size [.slice A N.length c, vi most] := ⟨k1.trans k2 (fun _ _ h => h), b1.keep k2 (fun h => h), ⟨_, _, b2⟩, rfl, rfl, two_one, Nat.le_refl _, by omega, by omega⟩
  refine M.call_i (rfits_ret n w2) ?_; rintro _ w3 ⟨rfl, rfl⟩
  refine M.not_i ?_
  unfold constN
  cases hf : fitsB n with
  | false =>
    (repeat (first|refine ja ?_|refine jb ?_|refine jc ?_|refine jd ?_|refine je ?_|refine jf ?_|refine jg ?_|refine jh ?_|refine ji ?_|refine jj ?_|refine jk ?_|refine jl ?_|refine jm ?_|refine jn ?_|refine jo ?_|refine jp ?_|refine jq ?_|refine jr ?_|refine js ?_|refine jt ?_|refine ju ?_|refine jv ?_|refine jw ?_|refine jx ?_|refine jy ?_|refine jz ?_|refine jA ?_|refine jB ?_|refine jC ?_|refine jD ?_|refine jE ?_|refine jF ?_|refine jG ?_|refine jH ?_|refine jI ?_|refine jJ ?_|refine jK ?_|refine jL ?_|refine jM (by assumption) ?_|refine jN (by assumption) rfl ?_|refine jO (by assumption) ?_|refine jP (by assumption) rfl ?_|refine jQ ?_|refine jR ?_|refine jS ?_|refine jT ?_|refine jU (by assumption) rfl ?_))
    exact hb.no hd (fun _ _ h => h)
  | true =>
    (repeat (first|refine ja ?_|refine jb ?_|refine jc ?_|refine jd ?_|refine je ?_|refine jf ?_|refine jg ?_|refine jh ?_|refine ji ?_|refine jj ?_|refine jk ?_|refine jl ?_|refine jm ?_|refine jn ?_|refine jo ?_|refine jp ?_|refine jq ?_|refine jr ?_|refine js ?_|refine jt ?_|refine ju ?_|refine jv ?_|refine jw ?_|refine jx ?_|refine jy ?_|refine jz ?_|refine jA ?_|refine jB ?_|refine jC ?_|refine jD ?_|refine jE ?_|refine jF ?_|refine jG ?_|refine jH ?_|refine jI ?_|refine jJ ?_|refine jK ?_|refine jL ?_|refine jM (by assumption) ?_|refine jN (by assumption) rfl ?_|refine jO (by assumption) ?_|refine jP (by assumption) rfl ?_|refine jQ ?_|refine jR ?_|refine jS ?_|refine jT ?_|refine jU (by assumption) rfl ?_))
    have hb := hb.step (Keep.drew w3 No)
    have b3 := hb.b3
    refine M.loadAll_i b3 rfl ?_
    refine M.call_i (rcut_ret n x w3.drew) ?_; rintro _ w4 ⟨rfl, rfl⟩
    refine ⟨M.loadAll_i b3 rfl rfl, ?_⟩
    refine M.pure_i (encN ⟨20, n, 0, 0, 0, cutW n x⟩) (fun _ => by kernel_rfl) ?_
    exact hb.make hd hN (fun _ _ h => h)
theorem runary_ask (hd : RD w D v N most) (hN : N.length ≤ 1000000) (op a : Int) :
    Ret Try.prog 46 #[v, vi op, vi a] w (RAsk w D most (unaryN most N op a)) := by
  obtain ⟨A, c, rfl, hr⟩ := id hd
  refine ok46 _ _ _ _ _ ?_
  unfold sh46
  refine M.new_i (l := [.slice A N.length c, vi most]) (fun w1 b1 k1 s1 => ?_)
  refine M.new_i (l := [.slice none 0 0, vi 0]) (fun w2 b2 k2 s2 => ?_)
  have hb : RB w w2 (.agg ⟨[.slice A N.length c, vi most]⟩) w.heap.size w1.heap.size [.slice A N.length c, vi most] := ⟨k1.trans k2 (fun _ _ h => h), b1.keep k2 (fun h => h), ⟨_, _, b2⟩, rfl, rfl, two_one, Nat.le_refl _, by omega, by omega⟩
  unfold unaryN
  by_cases ho : op ≠ 15 ∧ op ≠ 16
  · have h1 := ho.1
    have h2 := ho.2
    rw [if_pos ho]
    (repeat (first|refine ja ?_|refine jb ?_|refine jc ?_|refine jd ?_|refine je ?_|refine jf ?_|refine jg ?_|refine jh ?_|refine ji ?_|refine jj ?_|refine jk ?_|refine jl ?_|refine jm ?_|refine jn ?_|refine jo ?_|refine jp ?_|refine jq ?_|refine jr ?_|refine js ?_|refine jt ?_|refine ju ?_|refine jv ?_|refine jw ?_|refine jx ?_|refine jy ?_|refine jz ?_|refine jA ?_|refine jB ?_|refine jC ?_|refine jD ?_|refine jE ?_|refine jF ?_|refine jG ?_|refine jH ?_|refine jI ?_|refine jJ ?_|refine jK ?_|refine jL ?_|refine jM (by assumption) ?_|refine jN (by assumption) rfl ?_|refine jO (by assumption) ?_|refine jP (by assumption) rfl ?_|refine jQ ?_|refine jR ?_|refine jS ?_|refine jT ?_|refine jU (by assumption) rfl ?_))
    exact hb.no hd (fun _ _ h => h)
  rw [if_neg ho]
  have go : ∀ {k : Kt}, (isN N a = false → ∀ w3, RB w w3 (.agg ⟨[.slice A N.length c, vi most]⟩) w.heap.size w1.heap.size [.slice A N.length c, vi most] → k (.bool true) w3) → (isN N a = true → ∀ w3, RB w w3 (.agg ⟨[.slice A N.length c, vi most]⟩) w.heap.size w1.heap.size [.slice A N.length c, vi most] → k (.bool false) w3) →
      M.loadA 2 (ptr w.heap.size) (fun t16 w => M.call Try.prog 25 #[t16, vi a] (fun t18 w => M.not t18 k w) w) w2 := by
    intro k h1 h2
    refine M.loadAll_i hb.b3 rfl ?_
    refine M.call_i (ris_ret (hd.keep hb.k (fun _ _ _ h => h)) a) ?_; rintro _ w3 ⟨rfl, k3⟩
    refine M.not_i ?_
    cases ha : isN N a with
    | false => exact h1 ha w3 (hb.step k3)
    | true => exact h2 ha w3 (hb.step k3)
  have rest : isN N a = true → ∀ w3, RB w w3 (.agg ⟨[.slice A N.length c, vi most]⟩) w.heap.size w1.heap.size [.slice A N.length c, vi most] → ∀ {k : Kt}, (∀ w4, RB w w4 (.agg ⟨[.slice A N.length c, vi most]⟩) w.heap.size w1.heap.size [.slice A N.length c, vi most] → k (vi (wdN N a)) w4) → M.call Try.prog 31 #[.agg ⟨[.slice A N.length c, vi most]⟩, vi a] k w3 := by
    intro ha w3 h3 k hk
    refine M.call_i (rwidth_ret (hd.keep h3.k (fun _ _ _ h => h)) a) ?_; rintro _ w4 ⟨rfl, k4⟩
    exact hk w4 (h3.step k4)
  rcases (by omega : op = 15 ∨ op = 16) with rfl | rfl
  · (repeat (first|refine ja ?_|refine jb ?_|refine jc ?_|refine jd ?_|refine je ?_|refine jf ?_|refine jg ?_|refine jh ?_|refine ji ?_|refine jj ?_|refine jk ?_|refine jl ?_|refine jm ?_|refine jn ?_|refine jo ?_|refine jp ?_|refine jq ?_|refine jr ?_|refine js ?_|refine jt ?_|refine ju ?_|refine jv ?_|refine jw ?_|refine jx ?_|refine jy ?_|refine jz ?_|refine jA ?_|refine jB ?_|refine jC ?_|refine jD ?_|refine jE ?_|refine jF ?_|refine jG ?_|refine jH ?_|refine jI ?_|refine jJ ?_|refine jK ?_|refine jL ?_|refine jM (by assumption) ?_|refine jN (by assumption) rfl ?_|refine jO (by assumption) ?_|refine jP (by assumption) rfl ?_|refine jQ ?_|refine jR ?_|refine jS ?_|refine jT ?_|refine jU (by assumption) rfl ?_))
    refine go (fun ha w3 h3 => ?_) (fun ha w3 h3 => ?_)
    · rw [if_pos ha]
      (repeat (first|refine ja ?_|refine jb ?_|refine jc ?_|refine jd ?_|refine je ?_|refine jf ?_|refine jg ?_|refine jh ?_|refine ji ?_|refine jj ?_|refine jk ?_|refine jl ?_|refine jm ?_|refine jn ?_|refine jo ?_|refine jp ?_|refine jq ?_|refine jr ?_|refine js ?_|refine jt ?_|refine ju ?_|refine jv ?_|refine jw ?_|refine jx ?_|refine jy ?_|refine jz ?_|refine jA ?_|refine jB ?_|refine jC ?_|refine jD ?_|refine jE ?_|refine jF ?_|refine jG ?_|refine jH ?_|refine jI ?_|refine jJ ?_|refine jK ?_|refine jL ?_|refine jM (by assumption) ?_|refine jN (by assumption) rfl ?_|refine jO (by assumption) ?_|refine jP (by assumption) rfl ?_|refine jQ ?_|refine jR ?_|refine jS ?_|refine jT ?_|refine jU (by assumption) rfl ?_))
      exact h3.no hd (fun _ _ h => h)
    · rw [if_neg (by simp [ha])]
      (repeat (first|refine ja ?_|refine jb ?_|refine jc ?_|refine jd ?_|refine je ?_|refine jf ?_|refine jg ?_|refine jh ?_|refine ji ?_|refine jj ?_|refine jk ?_|refine jl ?_|refine jm ?_|refine jn ?_|refine jo ?_|refine jp ?_|refine jq ?_|refine jr ?_|refine js ?_|refine jt ?_|refine ju ?_|refine jv ?_|refine jw ?_|refine jx ?_|refine jy ?_|refine jz ?_|refine jA ?_|refine jB ?_|refine jC ?_|refine jD ?_|refine jE ?_|refine jF ?_|refine jG ?_|refine jH ?_|refine jI ?_|refine jJ ?_|refine jK ?_|refine jL ?_|refine jM (by assumption) ?_|refine jN (by assumption) rfl ?_|refine jO (by assumption) ?_|refine jP (by assumption) rfl ?_|refine jQ ?_|refine jR ?_|refine jS ?_|refine jT ?_|refine jU (by assumption) rfl ?_))
      have h4 := h3.step (Keep.drew w3 No)
      refine M.loadAll_i h4.b3 rfl ?_
      refine M.loadAll_i h4.b3 rfl ?_
      refine rest ha _ h4 (fun w5 h5 => ?_)
      refine ⟨M.loadAll_i h5.b3 rfl rfl, ?_⟩
      refine M.pure_i (encN ⟨15, wdN N a, a, 0, 0, 0⟩) (fun _ => by kernel_rfl) ?_
      exact h5.make hd hN (fun _ _ h => h)
  · (repeat (first|refine ja ?_|refine jb ?_|refine jc ?_|refine jd ?_|refine je ?_|refine jf ?_|refine jg ?_|refine jh ?_|refine ji ?_|refine jj ?_|refine jk ?_|refine jl ?_|refine jm ?_|refine jn ?_|refine jo ?_|refine jp ?_|refine jq ?_|refine jr ?_|refine js ?_|refine jt ?_|refine ju ?_|refine jv ?_|refine jw ?_|refine jx ?_|refine jy ?_|refine jz ?_|refine jA ?_|refine jB ?_|refine jC ?_|refine jD ?_|refine jE ?_|refine jF ?_|refine jG ?_|refine jH ?_|refine jI ?_|refine jJ ?_|refine jK ?_|refine jL ?_|refine jM (by assumption) ?_|refine jN (by assumption) rfl ?_|refine jO (by assumption) ?_|refine jP (by assumption) rfl ?_|refine jQ ?_|refine jR ?_|refine jS ?_|refine jT ?_|refine jU (by assumption) rfl ?_))
    refine go (fun ha w3 h3 => ?_) (fun ha w3 h3 => ?_)
    · rw [if_pos ha]
      (repeat (first|refine ja ?_|refine jb ?_|refine jc ?_|refine jd ?_|refine je ?_|refine jf ?_|refine jg ?_|refine jh ?_|refine ji ?_|refine jj ?_|refine jk ?_|refine jl ?_|refine jm ?_|refine jn ?_|refine jo ?_|refine jp ?_|refine jq ?_|refine jr ?_|refine js ?_|refine jt ?_|refine ju ?_|refine jv ?_|refine jw ?_|refine jx ?_|refine jy ?_|refine jz ?_|refine jA ?_|refine jB ?_|refine jC ?_|refine jD ?_|refine jE ?_|refine jF ?_|refine jG ?_|refine jH ?_|refine jI ?_|refine jJ ?_|refine jK ?_|refine jL ?_|refine jM (by assumption) ?_|refine jN (by assumption) rfl ?_|refine jO (by assumption) ?_|refine jP (by assumption) rfl ?_|refine jQ ?_|refine jR ?_|refine jS ?_|refine jT ?_|refine jU (by assumption) rfl ?_))
      exact h3.no hd (fun _ _ h => h)
    · rw [if_neg (by simp [ha])]
      (repeat (first|refine ja ?_|refine jb ?_|refine jc ?_|refine jd ?_|refine je ?_|refine jf ?_|refine jg ?_|refine jh ?_|refine ji ?_|refine jj ?_|refine jk ?_|refine jl ?_|refine jm ?_|refine jn ?_|refine jo ?_|refine jp ?_|refine jq ?_|refine jr ?_|refine js ?_|refine jt ?_|refine ju ?_|refine jv ?_|refine jw ?_|refine jx ?_|refine jy ?_|refine jz ?_|refine jA ?_|refine jB ?_|refine jC ?_|refine jD ?_|refine jE ?_|refine jF ?_|refine jG ?_|refine jH ?_|refine jI ?_|refine jJ ?_|refine jK ?_|refine jL ?_|refine jM (by assumption) ?_|refine jN (by assumption) rfl ?_|refine jO (by assumption) ?_|refine jP (by assumption) rfl ?_|refine jQ ?_|refine jR ?_|refine jS ?_|refine jT ?_|refine jU (by assumption) rfl ?_))
      have h4 := h3.step (Keep.drew w3 No)
      refine M.loadAll_i h4.b3 rfl ?_
      refine M.loadAll_i h4.b3 rfl ?_
      refine rest ha _ h4 (fun w5 h5 => ?_)
      refine ⟨M.loadAll_i h5.b3 rfl rfl, ?_⟩
      refine M.pure_i (encN ⟨16, wdN N a, a, 0, 0, 0⟩) (fun _ => by kernel_rfl) ?_
      exact h5.make hd hN (fun _ _ h => h)
end
end Go.Proofs.Ythkkjjbjpbgcpaa
