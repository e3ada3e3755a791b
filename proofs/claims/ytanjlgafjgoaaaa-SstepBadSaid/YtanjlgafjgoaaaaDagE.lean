import Derived.Test.YtanjlgafjgoaaaaDagD
namespace Go.Proofs.Ytanjlgafjgoaaaa
open Go.Mw Go.Maps Go.MapKept
set_option linter.unusedVariables false
set_option linter.unusedSimpArgs false
set_option maxRecDepth 100000
attribute [local irreducible] M.val M.unit M.next M.pick M.new M.nilCheck M.load1 M.loadA M.store M.fieldAddr M.indexSl M.indexArr M.slice M.makeSlice M.buildSlice M.len M.lenS M.cap M.append M.extract M.conv M.not M.neg M.bin M.shift M.eqB M.eqNil M.scat M.call M.callv M.gd M.share M.cond M.loop M.draw pureW readW Ret
section
variable {w : World} {F : Nat → Prop} {p : Nat} {N : List Nd} {most : Int}
theorem DagO.none (h : DagO w F p N most) {D : Nat → Prop} {v : Value} {ids : List Int} (hl : LV vi w D v ids) (hf : ids.length ≤ 1000000) :
    Ret Try.prog 66 #[ptr p, v] w (fun r w' => r = .bool (ids.any (fun i => !isN N i)) ∧ w' = w) := by
  obtain ⟨kw, hd, _⟩ := h
  exact none_ret hd hl hf
theorem DagO.width (h : DagO w F p N most) (i : Int) :
    Ret Try.prog 23 #[ptr p, vi i] w (fun r w' => r = vi (wdN N i) ∧ Keep w w' No) := by
  obtain ⟨kw, hd, _⟩ := h
  exact width_ret hd i
theorem DagO.node (h : DagO w F p N most) (i : Int) :
    Ret Try.prog 42 #[ptr p, vi i] w (fun r w' => r = .tuple #[encN (nodeAt N i), .bool (isN N i)] ∧ Keep w w' No) := by
  obtain ⟨kw, hd, _⟩ := h
  exact node_ret hd i
theorem DagO.dlen (h : DagO w F p N most) : Ret Try.prog 11 #[ptr p] w (fun r w' => r = vi N.length ∧ w' = w) := by
  obtain ⟨kw, hd, _⟩ := h
  exact dlen_ret hd
theorem blk1 {w : World} {b : Nat} {x : Int} (h : Blk w b [vi x]) : LV vi w (fun _ => True) (.slice (some ⟨b, 0, none⟩) 1 1) [x] := ⟨_, _, rfl, Row.of_blk' h trivial, Nat.le_refl _⟩
theorem blk2 {w : World} {b : Nat} {x y : Int} (h : Blk w b [vi x, vi y]) : LV vi w (fun _ => True) (.slice (some ⟨b, 0, none⟩) 2 2) [x, y] := ⟨_, _, rfl, Row.of_blk' h trivial, Nat.le_refl _⟩
theorem blk3 {w : World} {b : Nat} {x y z : Int} (h : Blk w b [vi x, vi y, vi z]) : LV vi w (fun _ => True) (.slice (some ⟨b, 0, none⟩) 3 3) [x, y, z] := ⟨_, _, rfl, Row.of_blk' h trivial, Nat.le_refl _⟩
theorem unary_ret (h : DagO w F p N most) (op a : Int) :
    Ret Try.prog 51 #[ptr p, vi op, vi a] w (AskO w F p most (unaryN most N op a)) := by
  refine ok51 _ _ _ _ _ ?_
  unfold sh51
  unfold unaryN
  by_cases ho : op ≠ 15 ∧ op ≠ 16
  · have h1 := ho.1
    have h2 := ho.2
    rw [if_pos ho]
    (repeat (first|refine ja ?_|refine jb ?_|refine jc ?_|refine jd ?_|refine je ?_|refine jf ?_|refine jg ?_|refine jh ?_|refine ji ?_|refine jj ?_|refine jk ?_|refine jl ?_|refine jm ?_|refine jn ?_|refine jo ?_|refine jp ?_|refine jq ?_|refine jr ?_|refine js ?_|refine jt ?_|refine ju ?_|refine jv ?_|refine jw ?_|refine jx ?_|refine jy ?_|refine jz ?_|refine jA ?_|refine jB ?_|refine jC ?_|refine jD ?_|refine jE ?_|refine jF ?_|refine jG ?_|refine jH ?_|refine jI ?_|refine jJ ?_|refine jK ?_|refine jL ?_|refine jM (by assumption) ?_|refine jN (by assumption) rfl ?_|refine jO (by assumption) ?_|refine jP (by assumption) rfl ?_|refine jQ ?_|refine jR ?_|refine jS ?_|refine jT ?_|refine jU (by assumption) rfl ?_))
    exact AskO.same (Keep.refl _ _) h 0 3
  rw [if_neg ho]
  have go : ∀ {R : Kt}, R = AskO w F p most (if isN N a = false then (N, 0, 11) else madeN most N ⟨op, wdN N a, a, 0, 0, 0⟩) → M.buildSlice 3 1 #[.int .i64 0] 1 [(0, vi a)] (fun t21 w => M.call Try.prog 66 #[ptr p, t21] (fun t22 w => M.cond t22 (R (.tuple #[vi 0, vi 11]) w)
      (M.call Try.prog 23 #[ptr p, vi a] (fun t27 w => pureW Try.prog (Instr.build 61 #[(0, vi op), (1, t27), (2, vi a)]) (fun t29 w => M.call Try.prog 13 #[ptr p, t29] (fun t30 w => M.extract 0 t30 (fun t31 w => M.extract 1 t30 (fun t32 w => R (.tuple #[t31, t32]) w) w) w) w) w) w)) w) w := by
    rintro R rfl
    refine M.buildSlice_i [vi a] (by kernel_rfl) (fun w1 b1 k1 s1 => ?_)
    have h1 := h.keepN k1
    refine M.call_i (h1.none (blk1 b1) (by show 1 ≤ 1000000; omega)) ?_; rintro _ w2 ⟨rfl, rfl⟩
    rw [show ([a] : List Int).any (fun i => !isN N i) = !isN N a by simp]
    cases ha : isN N a with
    | false =>
      rw [if_pos rfl]
      (repeat (first|refine ja ?_|refine jb ?_|refine jc ?_|refine jd ?_|refine je ?_|refine jf ?_|refine jg ?_|refine jh ?_|refine ji ?_|refine jj ?_|refine jk ?_|refine jl ?_|refine jm ?_|refine jn ?_|refine jo ?_|refine jp ?_|refine jq ?_|refine jr ?_|refine js ?_|refine jt ?_|refine ju ?_|refine jv ?_|refine jw ?_|refine jx ?_|refine jy ?_|refine jz ?_|refine jA ?_|refine jB ?_|refine jC ?_|refine jD ?_|refine jE ?_|refine jF ?_|refine jG ?_|refine jH ?_|refine jI ?_|refine jJ ?_|refine jK ?_|refine jL ?_|refine jM (by assumption) ?_|refine jN (by assumption) rfl ?_|refine jO (by assumption) ?_|refine jP (by assumption) rfl ?_|refine jQ ?_|refine jR ?_|refine jS ?_|refine jT ?_|refine jU (by assumption) rfl ?_))
      exact AskO.same k1 h1 0 11
    | true =>
      rw [if_neg (by simp)]
      (repeat (first|refine ja ?_|refine jb ?_|refine jc ?_|refine jd ?_|refine je ?_|refine jf ?_|refine jg ?_|refine jh ?_|refine ji ?_|refine jj ?_|refine jk ?_|refine jl ?_|refine jm ?_|refine jn ?_|refine jo ?_|refine jp ?_|refine jq ?_|refine jr ?_|refine js ?_|refine jt ?_|refine ju ?_|refine jv ?_|refine jw ?_|refine jx ?_|refine jy ?_|refine jz ?_|refine jA ?_|refine jB ?_|refine jC ?_|refine jD ?_|refine jE ?_|refine jF ?_|refine jG ?_|refine jH ?_|refine jI ?_|refine jJ ?_|refine jK ?_|refine jL ?_|refine jM (by assumption) ?_|refine jN (by assumption) rfl ?_|refine jO (by assumption) ?_|refine jP (by assumption) rfl ?_|refine jQ ?_|refine jR ?_|refine jS ?_|refine jT ?_|refine jU (by assumption) rfl ?_))
      refine M.call_i (h1.width a) ?_; rintro _ w3 ⟨rfl, k3⟩
      refine M.pure_i (encN ⟨op, wdN N a, a, 0, 0, 0⟩) (fun _ => by kernel_rfl) ?_
      have hg : goodN N ⟨op, wdN N a, a, 0, 0, 0⟩ := by
        refine ⟨h.good.wd ha, fun k hk => ?_, .inr (.inr (.inl ⟨by show op = 15 ∨ op = 16; omega, rfl, rfl, rfl, rfl⟩))⟩
        unfold kidsN at hk
        rw [if_neg (by show ¬ (op = 20 ∨ op = 21); omega), if_neg (by show ¬ op = 22; omega), if_neg (by show ¬ (op ≤ 14 ∨ op = 24); omega)] at hk
        simp at hk; subst hk; exact ha
      refine M.call_i (makeO (h1.keepN k3) hg (by show op ≠ 21; omega)) ?_
      rintro _ w4 ⟨F', rfl, h4⟩
      refine M.extract_i rfl ?_
      refine M.extract_i rfl ?_
      exact AskO.from (k1.trans k3 (fun _ _ h => h)) ⟨F', rfl, h4⟩
  rcases (by omega : op = 15 ∨ op = 16) with rfl | rfl
  · (repeat (first|refine ja ?_|refine jb ?_|refine jc ?_|refine jd ?_|refine je ?_|refine jf ?_|refine jg ?_|refine jh ?_|refine ji ?_|refine jj ?_|refine jk ?_|refine jl ?_|refine jm ?_|refine jn ?_|refine jo ?_|refine jp ?_|refine jq ?_|refine jr ?_|refine js ?_|refine jt ?_|refine ju ?_|refine jv ?_|refine jw ?_|refine jx ?_|refine jy ?_|refine jz ?_|refine jA ?_|refine jB ?_|refine jC ?_|refine jD ?_|refine jE ?_|refine jF ?_|refine jG ?_|refine jH ?_|refine jI ?_|refine jJ ?_|refine jK ?_|refine jL ?_|refine jM (by assumption) ?_|refine jN (by assumption) rfl ?_|refine jO (by assumption) ?_|refine jP (by assumption) rfl ?_|refine jQ ?_|refine jR ?_|refine jS ?_|refine jT ?_|refine jU (by assumption) rfl ?_))
    exact go rfl
  · (repeat (first|refine ja ?_|refine jb ?_|refine jc ?_|refine jd ?_|refine je ?_|refine jf ?_|refine jg ?_|refine jh ?_|refine ji ?_|refine jj ?_|refine jk ?_|refine jl ?_|refine jm ?_|refine jn ?_|refine jo ?_|refine jp ?_|refine jq ?_|refine jr ?_|refine js ?_|refine jt ?_|refine ju ?_|refine jv ?_|refine jw ?_|refine jx ?_|refine jy ?_|refine jz ?_|refine jA ?_|refine jB ?_|refine jC ?_|refine jD ?_|refine jE ?_|refine jF ?_|refine jG ?_|refine jH ?_|refine jI ?_|refine jJ ?_|refine jK ?_|refine jL ?_|refine jM (by assumption) ?_|refine jN (by assumption) rfl ?_|refine jO (by assumption) ?_|refine jP (by assumption) rfl ?_|refine jQ ?_|refine jR ?_|refine jS ?_|refine jT ?_|refine jU (by assumption) rfl ?_))
    exact go rfl
set_option maxHeartbeats 1000000 in
theorem binary_ret (h : DagO w F p N most) (op a b : Int) :
    Ret Try.prog 68 #[ptr p, vi op, vi a, vi b] w (AskO w F p most (binaryN most N op a b)) := by
  refine ok68 _ _ _ _ _ _ ?_
  unfold sh68
  unfold binaryN
  by_cases ho1 : op < 1
  · rw [if_pos (.inl ho1)]
    (repeat (first|refine ja ?_|refine jb ?_|refine jc ?_|refine jd ?_|refine je ?_|refine jf ?_|refine jg ?_|refine jh ?_|refine ji ?_|refine jj ?_|refine jk ?_|refine jl ?_|refine jm ?_|refine jn ?_|refine jo ?_|refine jp ?_|refine jq ?_|refine jr ?_|refine js ?_|refine jt ?_|refine ju ?_|refine jv ?_|refine jw ?_|refine jx ?_|refine jy ?_|refine jz ?_|refine jA ?_|refine jB ?_|refine jC ?_|refine jD ?_|refine jE ?_|refine jF ?_|refine jG ?_|refine jH ?_|refine jI ?_|refine jJ ?_|refine jK ?_|refine jL ?_|refine jM (by assumption) ?_|refine jN (by assumption) rfl ?_|refine jO (by assumption) ?_|refine jP (by assumption) rfl ?_|refine jQ ?_|refine jR ?_|refine jS ?_|refine jT ?_|refine jU (by assumption) rfl ?_))
    exact AskO.same (Keep.refl _ _) h 0 3
  by_cases ho2 : 14 < op
  · rw [if_pos (.inr ho2)]
    (repeat (first|refine ja ?_|refine jb ?_|refine jc ?_|refine jd ?_|refine je ?_|refine jf ?_|refine jg ?_|refine jh ?_|refine ji ?_|refine jj ?_|refine jk ?_|refine jl ?_|refine jm ?_|refine jn ?_|refine jo ?_|refine jp ?_|refine jq ?_|refine jr ?_|refine js ?_|refine jt ?_|refine ju ?_|refine jv ?_|refine jw ?_|refine jx ?_|refine jy ?_|refine jz ?_|refine jA ?_|refine jB ?_|refine jC ?_|refine jD ?_|refine jE ?_|refine jF ?_|refine jG ?_|refine jH ?_|refine jI ?_|refine jJ ?_|refine jK ?_|refine jL ?_|refine jM (by assumption) ?_|refine jN (by assumption) rfl ?_|refine jO (by assumption) ?_|refine jP (by assumption) rfl ?_|refine jQ ?_|refine jR ?_|refine jS ?_|refine jT ?_|refine jU (by assumption) rfl ?_))
    exact AskO.same (Keep.refl _ _) h 0 3
  rw [if_neg (by omega)]
  (repeat (first|refine ja ?_|refine jb ?_|refine jc ?_|refine jd ?_|refine je ?_|refine jf ?_|refine jg ?_|refine jh ?_|refine ji ?_|refine jj ?_|refine jk ?_|refine jl ?_|refine jm ?_|refine jn ?_|refine jo ?_|refine jp ?_|refine jq ?_|refine jr ?_|refine js ?_|refine jt ?_|refine ju ?_|refine jv ?_|refine jw ?_|refine jx ?_|refine jy ?_|refine jz ?_|refine jA ?_|refine jB ?_|refine jC ?_|refine jD ?_|refine jE ?_|refine jF ?_|refine jG ?_|refine jH ?_|refine jI ?_|refine jJ ?_|refine jK ?_|refine jL ?_|refine jM (by assumption) ?_|refine jN (by assumption) rfl ?_|refine jO (by assumption) ?_|refine jP (by assumption) rfl ?_|refine jQ ?_|refine jR ?_|refine jS ?_|refine jT ?_|refine jU (by assumption) rfl ?_))
  refine M.buildSlice_i [vi a, vi b] (by kernel_rfl) (fun w1 b1 k1 s1 => ?_)
  have h1 := h.keepN k1
  refine M.call_i (h1.none (blk2 b1) (by show 2 ≤ 1000000; omega)) ?_; rintro _ w2 ⟨rfl, rfl⟩
  by_cases hab : isN N a = false ∨ isN N b = false
  · rw [if_pos hab, show ([a, b] : List Int).any (fun i => !isN N i) = true by rcases hab with h | h <;> simp [h]]
    (repeat (first|refine ja ?_|refine jb ?_|refine jc ?_|refine jd ?_|refine je ?_|refine jf ?_|refine jg ?_|refine jh ?_|refine ji ?_|refine jj ?_|refine jk ?_|refine jl ?_|refine jm ?_|refine jn ?_|refine jo ?_|refine jp ?_|refine jq ?_|refine jr ?_|refine js ?_|refine jt ?_|refine ju ?_|refine jv ?_|refine jw ?_|refine jx ?_|refine jy ?_|refine jz ?_|refine jA ?_|refine jB ?_|refine jC ?_|refine jD ?_|refine jE ?_|refine jF ?_|refine jG ?_|refine jH ?_|refine jI ?_|refine jJ ?_|refine jK ?_|refine jL ?_|refine jM (by assumption) ?_|refine jN (by assumption) rfl ?_|refine jO (by assumption) ?_|refine jP (by assumption) rfl ?_|refine jQ ?_|refine jR ?_|refine jS ?_|refine jT ?_|refine jU (by assumption) rfl ?_))
    exact AskO.same k1 h1 0 11
  · have ha : isN N a = true := by
      cases hh : isN N a
      · exact absurd (.inl hh) hab
      · rfl
    have hb : isN N b = true := by
      cases hh : isN N b
      · exact absurd (.inr hh) hab
      · rfl
    rw [if_neg hab, show ([a, b] : List Int).any (fun i => !isN N i) = false by simp [ha, hb]]
    have hwa := h.good.wd ha
    (repeat (first|refine ja ?_|refine jb ?_|refine jc ?_|refine jd ?_|refine je ?_|refine jf ?_|refine jg ?_|refine jh ?_|refine ji ?_|refine jj ?_|refine jk ?_|refine jl ?_|refine jm ?_|refine jn ?_|refine jo ?_|refine jp ?_|refine jq ?_|refine jr ?_|refine js ?_|refine jt ?_|refine ju ?_|refine jv ?_|refine jw ?_|refine jx ?_|refine jy ?_|refine jz ?_|refine jA ?_|refine jB ?_|refine jC ?_|refine jD ?_|refine jE ?_|refine jF ?_|refine jG ?_|refine jH ?_|refine jI ?_|refine jJ ?_|refine jK ?_|refine jL ?_|refine jM (by assumption) ?_|refine jN (by assumption) rfl ?_|refine jO (by assumption) ?_|refine jP (by assumption) rfl ?_|refine jQ ?_|refine jR ?_|refine jS ?_|refine jT ?_|refine jU (by assumption) rfl ?_))
    refine M.call_i (h1.width a) ?_; rintro _ w3 ⟨rfl, k3⟩
    refine M.call_i ((h1.keepN k3).width b) ?_; rintro _ w4 ⟨rfl, k4⟩
    have k14 := (k1.trans k3 (fun _ _ h => h)).trans k4 (fun _ _ h => h)
    have h4 := h.keepN k14
    by_cases hw : wdN N a = wdN N b
    rotate_left
    · rw [if_pos hw]
      (repeat (first|refine ja ?_|refine jb ?_|refine jc ?_|refine jd ?_|refine je ?_|refine jf ?_|refine jg ?_|refine jh ?_|refine ji ?_|refine jj ?_|refine jk ?_|refine jl ?_|refine jm ?_|refine jn ?_|refine jo ?_|refine jp ?_|refine jq ?_|refine jr ?_|refine js ?_|refine jt ?_|refine ju ?_|refine jv ?_|refine jw ?_|refine jx ?_|refine jy ?_|refine jz ?_|refine jA ?_|refine jB ?_|refine jC ?_|refine jD ?_|refine jE ?_|refine jF ?_|refine jG ?_|refine jH ?_|refine jI ?_|refine jJ ?_|refine jK ?_|refine jL ?_|refine jM (by assumption) ?_|refine jN (by assumption) rfl ?_|refine jO (by assumption) ?_|refine jP (by assumption) rfl ?_|refine jQ ?_|refine jR ?_|refine jS ?_|refine jT ?_|refine jU (by assumption) rfl ?_))
      exact AskO.same k14 h4 0 2
    · rw [if_neg (by simpa using hw)]
      (repeat (first|refine ja ?_|refine jb ?_|refine jc ?_|refine jd ?_|refine je ?_|refine jf ?_|refine jg ?_|refine jh ?_|refine ji ?_|refine jj ?_|refine jk ?_|refine jl ?_|refine jm ?_|refine jn ?_|refine jo ?_|refine jp ?_|refine jq ?_|refine jr ?_|refine js ?_|refine jt ?_|refine ju ?_|refine jv ?_|refine jw ?_|refine jx ?_|refine jy ?_|refine jz ?_|refine jA ?_|refine jB ?_|refine jC ?_|refine jD ?_|refine jE ?_|refine jF ?_|refine jG ?_|refine jH ?_|refine jI ?_|refine jJ ?_|refine jK ?_|refine jL ?_|refine jM (by assumption) ?_|refine jN (by assumption) rfl ?_|refine jO (by assumption) ?_|refine jP (by assumption) rfl ?_|refine jQ ?_|refine jR ?_|refine jS ?_|refine jT ?_|refine jU (by assumption) rfl ?_))
      refine M.call_i (h4.width a) ?_; rintro _ w5 ⟨rfl, k5⟩
      have k15 := k14.trans k5 (fun _ _ h => h)
      have h5 := h.keepN k15
      refine M.share_j (fun vals w' => vals = [vi (if 12 ≤ op then 1 else wdN N a)] ∧ w' = w5) ?_ ?_
      · rintro vals w6 ⟨rfl, rfl⟩ _
        simp only [List.getD_cons_zero, List.getD_cons_succ]
        refine M.pure_i (encN ⟨op, if 12 ≤ op then 1 else wdN N a, a, b, 0, 0⟩) (fun _ => by kernel_rfl) ?_
        have hg : goodN N ⟨op, if 12 ≤ op then 1 else wdN N a, a, b, 0, 0⟩ := by
          refine ⟨?_, fun k hk => ?_, .inr (.inr (.inr (.inl ⟨by show 1 ≤ op; omega, by show op ≤ 14; omega, hw, rfl, rfl, rfl⟩)))⟩
          · show 1 ≤ (if 12 ≤ op then (1 : Int) else wdN N a) ∧ (if 12 ≤ op then (1 : Int) else wdN N a) ≤ 64
            split <;> omega
          · unfold kidsN at hk
            rw [if_neg (by show ¬ (op = 20 ∨ op = 21); omega), if_neg (by show ¬ op = 22; omega), if_pos (by show op ≤ 14 ∨ op = 24; omega)] at hk
            simp at hk
            rcases hk with rfl | rfl
            · exact ha
            · exact hb
        refine M.call_i (makeO h5 hg (by show op ≠ 21; omega)) ?_
        rintro _ w7 ⟨F', rfl, h7⟩
        refine M.extract_i rfl ?_
        refine M.extract_i rfl ?_
        exact AskO.from k15 ⟨F', rfl, h7⟩
      · intro K hK
        by_cases h12 : 12 ≤ op
        · rw [if_pos h12] at hK
          rcases (by omega : op = 12 ∨ op = 13 ∨ op = 14) with rfl | rfl | rfl
          · (repeat (first|refine ja ?_|refine jb ?_|refine jc ?_|refine jd ?_|refine je ?_|refine jf ?_|refine jg ?_|refine jh ?_|refine ji ?_|refine jj ?_|refine jk ?_|refine jl ?_|refine jm ?_|refine jn ?_|refine jo ?_|refine jp ?_|refine jq ?_|refine jr ?_|refine js ?_|refine jt ?_|refine ju ?_|refine jv ?_|refine jw ?_|refine jx ?_|refine jy ?_|refine jz ?_|refine jA ?_|refine jB ?_|refine jC ?_|refine jD ?_|refine jE ?_|refine jF ?_|refine jG ?_|refine jH ?_|refine jI ?_|refine jJ ?_|refine jK ?_|refine jL ?_|refine jM (by assumption) ?_|refine jN (by assumption) rfl ?_|refine jO (by assumption) ?_|refine jP (by assumption) rfl ?_|refine jQ ?_|refine jR ?_|refine jS ?_|refine jT ?_|refine jU (by assumption) rfl ?_))
            exact hK _ _ ⟨rfl, rfl⟩
          · (repeat (first|refine ja ?_|refine jb ?_|refine jc ?_|refine jd ?_|refine je ?_|refine jf ?_|refine jg ?_|refine jh ?_|refine ji ?_|refine jj ?_|refine jk ?_|refine jl ?_|refine jm ?_|refine jn ?_|refine jo ?_|refine jp ?_|refine jq ?_|refine jr ?_|refine js ?_|refine jt ?_|refine ju ?_|refine jv ?_|refine jw ?_|refine jx ?_|refine jy ?_|refine jz ?_|refine jA ?_|refine jB ?_|refine jC ?_|refine jD ?_|refine jE ?_|refine jF ?_|refine jG ?_|refine jH ?_|refine jI ?_|refine jJ ?_|refine jK ?_|refine jL ?_|refine jM (by assumption) ?_|refine jN (by assumption) rfl ?_|refine jO (by assumption) ?_|refine jP (by assumption) rfl ?_|refine jQ ?_|refine jR ?_|refine jS ?_|refine jT ?_|refine jU (by assumption) rfl ?_))
            exact hK _ _ ⟨rfl, rfl⟩
          · (repeat (first|refine ja ?_|refine jb ?_|refine jc ?_|refine jd ?_|refine je ?_|refine jf ?_|refine jg ?_|refine jh ?_|refine ji ?_|refine jj ?_|refine jk ?_|refine jl ?_|refine jm ?_|refine jn ?_|refine jo ?_|refine jp ?_|refine jq ?_|refine jr ?_|refine js ?_|refine jt ?_|refine ju ?_|refine jv ?_|refine jw ?_|refine jx ?_|refine jy ?_|refine jz ?_|refine jA ?_|refine jB ?_|refine jC ?_|refine jD ?_|refine jE ?_|refine jF ?_|refine jG ?_|refine jH ?_|refine jI ?_|refine jJ ?_|refine jK ?_|refine jL ?_|refine jM (by assumption) ?_|refine jN (by assumption) rfl ?_|refine jO (by assumption) ?_|refine jP (by assumption) rfl ?_|refine jQ ?_|refine jR ?_|refine jS ?_|refine jT ?_|refine jU (by assumption) rfl ?_))
            exact hK _ _ ⟨rfl, rfl⟩
        · rw [if_neg h12] at hK
          (repeat (first|refine ja ?_|refine jb ?_|refine jc ?_|refine jd ?_|refine je ?_|refine jf ?_|refine jg ?_|refine jh ?_|refine ji ?_|refine jj ?_|refine jk ?_|refine jl ?_|refine jm ?_|refine jn ?_|refine jo ?_|refine jp ?_|refine jq ?_|refine jr ?_|refine js ?_|refine jt ?_|refine ju ?_|refine jv ?_|refine jw ?_|refine jx ?_|refine jy ?_|refine jz ?_|refine jA ?_|refine jB ?_|refine jC ?_|refine jD ?_|refine jE ?_|refine jF ?_|refine jG ?_|refine jH ?_|refine jI ?_|refine jJ ?_|refine jK ?_|refine jL ?_|refine jM (by assumption) ?_|refine jN (by assumption) rfl ?_|refine jO (by assumption) ?_|refine jP (by assumption) rfl ?_|refine jQ ?_|refine jR ?_|refine jS ?_|refine jT ?_|refine jU (by assumption) rfl ?_))
          exact hK _ _ ⟨rfl, rfl⟩
set_option maxHeartbeats 1000000 in
theorem extend_ret (h : DagO w F p N most) (a n : Int) (sg : Bool) :
    Ret Try.prog 73 #[ptr p, vi a, vi n, .bool sg] w (AskO w F p most (extendN most N a n sg)) := by
  refine ok73 _ _ _ _ _ _ ?_
  unfold sh73
  unfold extendN
  (repeat (first|refine ja ?_|refine jb ?_|refine jc ?_|refine jd ?_|refine je ?_|refine jf ?_|refine jg ?_|refine jh ?_|refine ji ?_|refine jj ?_|refine jk ?_|refine jl ?_|refine jm ?_|refine jn ?_|refine jo ?_|refine jp ?_|refine jq ?_|refine jr ?_|refine js ?_|refine jt ?_|refine ju ?_|refine jv ?_|refine jw ?_|refine jx ?_|refine jy ?_|refine jz ?_|refine jA ?_|refine jB ?_|refine jC ?_|refine jD ?_|refine jE ?_|refine jF ?_|refine jG ?_|refine jH ?_|refine jI ?_|refine jJ ?_|refine jK ?_|refine jL ?_|refine jM (by assumption) ?_|refine jN (by assumption) rfl ?_|refine jO (by assumption) ?_|refine jP (by assumption) rfl ?_|refine jQ ?_|refine jR ?_|refine jS ?_|refine jT ?_|refine jU (by assumption) rfl ?_))
  refine M.buildSlice_i [vi a] (by kernel_rfl) (fun w1 b1 k1 s1 => ?_)
  have h1 := h.keepN k1
  refine M.call_i (h1.none (blk1 b1) (by show 1 ≤ 1000000; omega)) ?_; rintro _ w2 ⟨rfl, rfl⟩
  rw [show ([a] : List Int).any (fun i => !isN N i) = !isN N a by simp]
  cases ha : isN N a with
  | false =>
    rw [if_pos rfl]
    (repeat (first|refine ja ?_|refine jb ?_|refine jc ?_|refine jd ?_|refine je ?_|refine jf ?_|refine jg ?_|refine jh ?_|refine ji ?_|refine jj ?_|refine jk ?_|refine jl ?_|refine jm ?_|refine jn ?_|refine jo ?_|refine jp ?_|refine jq ?_|refine jr ?_|refine js ?_|refine jt ?_|refine ju ?_|refine jv ?_|refine jw ?_|refine jx ?_|refine jy ?_|refine jz ?_|refine jA ?_|refine jB ?_|refine jC ?_|refine jD ?_|refine jE ?_|refine jF ?_|refine jG ?_|refine jH ?_|refine jI ?_|refine jJ ?_|refine jK ?_|refine jL ?_|refine jM (by assumption) ?_|refine jN (by assumption) rfl ?_|refine jO (by assumption) ?_|refine jP (by assumption) rfl ?_|refine jQ ?_|refine jR ?_|refine jS ?_|refine jT ?_|refine jU (by assumption) rfl ?_))
    exact AskO.same k1 h1 0 11
  | true =>
    have hwa := h.good.wd ha
    rw [if_neg (by simp)]
    (repeat (first|refine ja ?_|refine jb ?_|refine jc ?_|refine jd ?_|refine je ?_|refine jf ?_|refine jg ?_|refine jh ?_|refine ji ?_|refine jj ?_|refine jk ?_|refine jl ?_|refine jm ?_|refine jn ?_|refine jo ?_|refine jp ?_|refine jq ?_|refine jr ?_|refine js ?_|refine jt ?_|refine ju ?_|refine jv ?_|refine jw ?_|refine jx ?_|refine jy ?_|refine jz ?_|refine jA ?_|refine jB ?_|refine jC ?_|refine jD ?_|refine jE ?_|refine jF ?_|refine jG ?_|refine jH ?_|refine jI ?_|refine jJ ?_|refine jK ?_|refine jL ?_|refine jM (by assumption) ?_|refine jN (by assumption) rfl ?_|refine jO (by assumption) ?_|refine jP (by assumption) rfl ?_|refine jQ ?_|refine jR ?_|refine jS ?_|refine jT ?_|refine jU (by assumption) rfl ?_))
    refine M.call_i (h1.width a) ?_; rintro _ w3 ⟨rfl, k3⟩
    have k13 := k1.trans k3 (fun _ _ h => h)
    by_cases hn1 : n < wdN N a
    · rw [if_pos (.inl hn1)]
      (repeat (first|refine ja ?_|refine jb ?_|refine jc ?_|refine jd ?_|refine je ?_|refine jf ?_|refine jg ?_|refine jh ?_|refine ji ?_|refine jj ?_|refine jk ?_|refine jl ?_|refine jm ?_|refine jn ?_|refine jo ?_|refine jp ?_|refine jq ?_|refine jr ?_|refine js ?_|refine jt ?_|refine ju ?_|refine jv ?_|refine jw ?_|refine jx ?_|refine jy ?_|refine jz ?_|refine jA ?_|refine jB ?_|refine jC ?_|refine jD ?_|refine jE ?_|refine jF ?_|refine jG ?_|refine jH ?_|refine jI ?_|refine jJ ?_|refine jK ?_|refine jL ?_|refine jM (by assumption) ?_|refine jN (by assumption) rfl ?_|refine jO (by assumption) ?_|refine jP (by assumption) rfl ?_|refine jQ ?_|refine jR ?_|refine jS ?_|refine jT ?_|refine jU (by assumption) rfl ?_))
      exact AskO.same k13 (h.keepN k13) 0 2
    by_cases hn2 : 64 < n
    · rw [if_pos (.inr hn2)]
      (repeat (first|refine ja ?_|refine jb ?_|refine jc ?_|refine jd ?_|refine je ?_|refine jf ?_|refine jg ?_|refine jh ?_|refine ji ?_|refine jj ?_|refine jk ?_|refine jl ?_|refine jm ?_|refine jn ?_|refine jo ?_|refine jp ?_|refine jq ?_|refine jr ?_|refine js ?_|refine jt ?_|refine ju ?_|refine jv ?_|refine jw ?_|refine jx ?_|refine jy ?_|refine jz ?_|refine jA ?_|refine jB ?_|refine jC ?_|refine jD ?_|refine jE ?_|refine jF ?_|refine jG ?_|refine jH ?_|refine jI ?_|refine jJ ?_|refine jK ?_|refine jL ?_|refine jM (by assumption) ?_|refine jN (by assumption) rfl ?_|refine jO (by assumption) ?_|refine jP (by assumption) rfl ?_|refine jQ ?_|refine jR ?_|refine jS ?_|refine jT ?_|refine jU (by assumption) rfl ?_))
      exact AskO.same k13 (h.keepN k13) 0 2
    rw [if_neg (by omega)]
    (repeat (first|refine ja ?_|refine jb ?_|refine jc ?_|refine jd ?_|refine je ?_|refine jf ?_|refine jg ?_|refine jh ?_|refine ji ?_|refine jj ?_|refine jk ?_|refine jl ?_|refine jm ?_|refine jn ?_|refine jo ?_|refine jp ?_|refine jq ?_|refine jr ?_|refine js ?_|refine jt ?_|refine ju ?_|refine jv ?_|refine jw ?_|refine jx ?_|refine jy ?_|refine jz ?_|refine jA ?_|refine jB ?_|refine jC ?_|refine jD ?_|refine jE ?_|refine jF ?_|refine jG ?_|refine jH ?_|refine jI ?_|refine jJ ?_|refine jK ?_|refine jL ?_|refine jM (by assumption) ?_|refine jN (by assumption) rfl ?_|refine jO (by assumption) ?_|refine jP (by assumption) rfl ?_|refine jQ ?_|refine jR ?_|refine jS ?_|refine jT ?_|refine jU (by assumption) rfl ?_))
    refine M.call_i ((h.keepN k13).width a) ?_; rintro _ w4 ⟨rfl, k4⟩
    have k14 := k13.trans k4 (fun _ _ h => h)
    have h4 := h.keepN k14
    by_cases hnw : n = wdN N a
    · rw [if_pos hnw]
      (repeat (first|refine ja ?_|refine jb ?_|refine jc ?_|refine jd ?_|refine je ?_|refine jf ?_|refine jg ?_|refine jh ?_|refine ji ?_|refine jj ?_|refine jk ?_|refine jl ?_|refine jm ?_|refine jn ?_|refine jo ?_|refine jp ?_|refine jq ?_|refine jr ?_|refine js ?_|refine jt ?_|refine ju ?_|refine jv ?_|refine jw ?_|refine jx ?_|refine jy ?_|refine jz ?_|refine jA ?_|refine jB ?_|refine jC ?_|refine jD ?_|refine jE ?_|refine jF ?_|refine jG ?_|refine jH ?_|refine jI ?_|refine jJ ?_|refine jK ?_|refine jL ?_|refine jM (by assumption) ?_|refine jN (by assumption) rfl ?_|refine jO (by assumption) ?_|refine jP (by assumption) rfl ?_|refine jQ ?_|refine jR ?_|refine jS ?_|refine jT ?_|refine jU (by assumption) rfl ?_))
      exact AskO.same k14 h4 a 0
    rw [if_neg hnw]
    (repeat (first|refine ja ?_|refine jb ?_|refine jc ?_|refine jd ?_|refine je ?_|refine jf ?_|refine jg ?_|refine jh ?_|refine ji ?_|refine jj ?_|refine jk ?_|refine jl ?_|refine jm ?_|refine jn ?_|refine jo ?_|refine jp ?_|refine jq ?_|refine jr ?_|refine js ?_|refine jt ?_|refine ju ?_|refine jv ?_|refine jw ?_|refine jx ?_|refine jy ?_|refine jz ?_|refine jA ?_|refine jB ?_|refine jC ?_|refine jD ?_|refine jE ?_|refine jF ?_|refine jG ?_|refine jH ?_|refine jI ?_|refine jJ ?_|refine jK ?_|refine jL ?_|refine jM (by assumption) ?_|refine jN (by assumption) rfl ?_|refine jO (by assumption) ?_|refine jP (by assumption) rfl ?_|refine jQ ?_|refine jR ?_|refine jS ?_|refine jT ?_|refine jU (by assumption) rfl ?_))
    refine M.pure_i (encN ⟨25, n, a, 0, 0, 0⟩) (fun _ => by kernel_rfl) ?_
    refine M.new_i (l := zeroNd.cells) (fun w5 b5 k5 s5 => ?_)
    refine M.storeAll_i b5 rfl rfl (cells_one _) (fun w6 b6 k6 s6 => ?_)
    refine M.share_j (fun vals w' => Blk w' w4.heap.size (Nd.cells ⟨if sg then 26 else 25, n, a, 0, 0, 0⟩) ∧ Keep w6 w' (· = w4.heap.size)) ?_ ?_
    · rintro vals w7 ⟨b7, k7⟩ _
      refine M.loadAll_i b7 rfl ?_
      have hq := k14.size
      have k17 : Keep w w7 No := ((k14.trans k5 (fun _ _ h => h)).trans k6 (fun b hb h => by omega)).trans k7 (fun b hb h => by omega)
      have hg : goodN N ⟨if sg then 26 else 25, n, a, 0, 0, 0⟩ := by
        refine ⟨by show 1 ≤ n ∧ n ≤ 64; omega, fun k hk => ?_, .inr (.inr (.inr (.inr (.inr (.inr (.inr ⟨?_, ?_, rfl, rfl, rfl⟩))))))⟩
        · cases sg <;> (simp [kidsN] at hk; subst hk; exact ha)
        · cases sg
          · exact .inl rfl
          · exact .inr rfl
        · show wdN N a < n; omega
      refine M.call_i (makeO (h.keepN k17) hg (by show (if sg = true then (26 : Int) else 25) ≠ 21; split <;> omega)) ?_
      rintro _ w8 ⟨F', rfl, h8⟩
      refine M.extract_i rfl ?_
      refine M.extract_i rfl ?_
      exact AskO.from k17 ⟨F', rfl, h8⟩
    · intro K hK
      cases sg with
      | false =>
        (repeat (first|refine ja ?_|refine jb ?_|refine jc ?_|refine jd ?_|refine je ?_|refine jf ?_|refine jg ?_|refine jh ?_|refine ji ?_|refine jj ?_|refine jk ?_|refine jl ?_|refine jm ?_|refine jn ?_|refine jo ?_|refine jp ?_|refine jq ?_|refine jr ?_|refine js ?_|refine jt ?_|refine ju ?_|refine jv ?_|refine jw ?_|refine jx ?_|refine jy ?_|refine jz ?_|refine jA ?_|refine jB ?_|refine jC ?_|refine jD ?_|refine jE ?_|refine jF ?_|refine jG ?_|refine jH ?_|refine jI ?_|refine jJ ?_|refine jK ?_|refine jL ?_|refine jM (by assumption) ?_|refine jN (by assumption) rfl ?_|refine jO (by assumption) ?_|refine jP (by assumption) rfl ?_|refine jQ ?_|refine jR ?_|refine jS ?_|refine jT ?_|refine jU (by assumption) rfl ?_))
        exact hK _ _ ⟨b6, Keep.refl _ _⟩
      | true =>
        (repeat (first|refine ja ?_|refine jb ?_|refine jc ?_|refine jd ?_|refine je ?_|refine jf ?_|refine jg ?_|refine jh ?_|refine ji ?_|refine jj ?_|refine jk ?_|refine jl ?_|refine jm ?_|refine jn ?_|refine jo ?_|refine jp ?_|refine jq ?_|refine jr ?_|refine js ?_|refine jt ?_|refine ju ?_|refine jv ?_|refine jw ?_|refine jx ?_|refine jy ?_|refine jz ?_|refine jA ?_|refine jB ?_|refine jC ?_|refine jD ?_|refine jE ?_|refine jF ?_|refine jG ?_|refine jH ?_|refine jI ?_|refine jJ ?_|refine jK ?_|refine jL ?_|refine jM (by assumption) ?_|refine jN (by assumption) rfl ?_|refine jO (by assumption) ?_|refine jP (by assumption) rfl ?_|refine jQ ?_|refine jR ?_|refine jS ?_|refine jT ?_|refine jU (by assumption) rfl ?_))
        have b6' : Blk w6 w4.heap.size [vi 25, vi n, vi a, vi 0, vi 0, vw 0] := b6
        refine M.store_i b6' (by simp) rfl (fun w7 b7 k7 s7 => ?_)
        exact hK _ _ ⟨b7, k7⟩
end
theorem new_ret (most : Int) (w : World) : Ret Try.prog 6 #[vi most] w (fun r w' => ∃ F p, r = ptr p ∧ DagO w' F p [] (if most < 0 ∨ 65536 < most then 0 else most) ∧ (∀ b, F b → w.heap.size ≤ b) ∧ Keep w w' No) := by
  refine ok6 _ _ _ ?_
  unfold sh6
  refine M.share_j (fun vals w' => vals = [vi (if most < 0 ∨ 65536 < most then 0 else most)] ∧ w' = w) ?_ ?_
  · rintro vals w1 ⟨rfl, rfl⟩ _
    simp only [List.getD_cons_zero, List.getD_cons_succ]
    refine M.makeMapA_i (enc := encN) (Okk := Nd.Ok) (fun w2 m2 k2 s2 => ?_)
    refine M.makeMap_i (fun w3 m3 k3 s3 => ?_)
    refine M.pure_i (.agg #[.slice none 0 0, .map (some w1.heap.size), .map (some w2.heap.size), vi (if most < 0 ∨ 65536 < most then 0 else most)]) (fun _ => by kernel_rfl) ?_
    refine M.new_i (l := [.slice none 0 0, .map (some w1.heap.size), .map (some w2.heap.size), vi (if most < 0 ∨ 65536 < most then 0 else most)]) (fun w4 b4 k4 s4 => ?_)
    have nb : ∀ b, ¬ blkOf (.slice none 0 0) b := fun b ⟨n, c, h⟩ => by simp at h
    refine ⟨fun b => b = w3.heap.size ∨ b = w1.heap.size ∨ b = w2.heap.size ∨ blkOf (.slice none 0 0) b, w3.heap.size, rfl, ⟨[], ⟨_, w1.heap.size, w2.heap.size, [], b4, GC.nil _ _ _, (m2.keep k3 (fun h => h)).keep k4 (fun h => h), m3.keep k4 (fun h => h), fun n => by simp [lkpA], fun b => Iff.rfl, by omega, by omega, by omega, fun b hb => absurd hb (nb b)⟩, ⟨by simp, fun i v h => by simp [lkp] at h⟩, fun i n h => by simp at h, by simp, by split <;> omega⟩, ?_, (k2.trans k3 (fun _ _ h => h)).trans k4 (fun _ _ h => h)⟩
    rintro b (rfl | rfl | rfl | hb)
    · omega
    · omega
    · omega
    · exact absurd hb (nb b)
  · intro K hK
    by_cases h1 : most < 0
    · rw [if_pos (.inl h1)] at hK
      (repeat (first|refine ja ?_|refine jb ?_|refine jc ?_|refine jd ?_|refine je ?_|refine jf ?_|refine jg ?_|refine jh ?_|refine ji ?_|refine jj ?_|refine jk ?_|refine jl ?_|refine jm ?_|refine jn ?_|refine jo ?_|refine jp ?_|refine jq ?_|refine jr ?_|refine js ?_|refine jt ?_|refine ju ?_|refine jv ?_|refine jw ?_|refine jx ?_|refine jy ?_|refine jz ?_|refine jA ?_|refine jB ?_|refine jC ?_|refine jD ?_|refine jE ?_|refine jF ?_|refine jG ?_|refine jH ?_|refine jI ?_|refine jJ ?_|refine jK ?_|refine jL ?_|refine jM (by assumption) ?_|refine jN (by assumption) rfl ?_|refine jO (by assumption) ?_|refine jP (by assumption) rfl ?_|refine jQ ?_|refine jR ?_|refine jS ?_|refine jT ?_|refine jU (by assumption) rfl ?_))
      exact hK _ _ ⟨rfl, rfl⟩
    · by_cases h2 : 65536 < most
      · rw [if_pos (.inr h2)] at hK
        (repeat (first|refine ja ?_|refine jb ?_|refine jc ?_|refine jd ?_|refine je ?_|refine jf ?_|refine jg ?_|refine jh ?_|refine ji ?_|refine jj ?_|refine jk ?_|refine jl ?_|refine jm ?_|refine jn ?_|refine jo ?_|refine jp ?_|refine jq ?_|refine jr ?_|refine js ?_|refine jt ?_|refine ju ?_|refine jv ?_|refine jw ?_|refine jx ?_|refine jy ?_|refine jz ?_|refine jA ?_|refine jB ?_|refine jC ?_|refine jD ?_|refine jE ?_|refine jF ?_|refine jG ?_|refine jH ?_|refine jI ?_|refine jJ ?_|refine jK ?_|refine jL ?_|refine jM (by assumption) ?_|refine jN (by assumption) rfl ?_|refine jO (by assumption) ?_|refine jP (by assumption) rfl ?_|refine jQ ?_|refine jR ?_|refine jS ?_|refine jT ?_|refine jU (by assumption) rfl ?_))
        exact hK _ _ ⟨rfl, rfl⟩
      · rw [if_neg (by omega)] at hK
        (repeat (first|refine ja ?_|refine jb ?_|refine jc ?_|refine jd ?_|refine je ?_|refine jf ?_|refine jg ?_|refine jh ?_|refine ji ?_|refine jj ?_|refine jk ?_|refine jl ?_|refine jm ?_|refine jn ?_|refine jo ?_|refine jp ?_|refine jq ?_|refine jr ?_|refine js ?_|refine jt ?_|refine ju ?_|refine jv ?_|refine jw ?_|refine jx ?_|refine jy ?_|refine jz ?_|refine jA ?_|refine jB ?_|refine jC ?_|refine jD ?_|refine jE ?_|refine jF ?_|refine jG ?_|refine jH ?_|refine jI ?_|refine jJ ?_|refine jK ?_|refine jL ?_|refine jM (by assumption) ?_|refine jN (by assumption) rfl ?_|refine jO (by assumption) ?_|refine jP (by assumption) rfl ?_|refine jQ ?_|refine jR ?_|refine jS ?_|refine jT ?_|refine jU (by assumption) rfl ?_))
        exact hK _ _ ⟨rfl, rfl⟩
end Go.Proofs.Ytanjlgafjgoaaaa
