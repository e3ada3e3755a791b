import Derived.Test.YtnmbgfonlpjicaaCore
import Derived.RangeFuncCalls
import Derived.OrdersIn
import Derived.TacticsIn
set_option linter.unusedVariables false
set_option linter.unusedSimpArgs false
namespace Go.Mw
/-! ### the same inside a round of a range over a function -/
section
variable {P : Program} {l n : Nat} {ops : Array Oper} {Q : Exit → Act → World → Prop}
theorem rowsIn_wide {row : String} {args : Array Value} {w : World} {R : Value → World → Prop} (h : Rows P row args w R) : RowsIn (Fence.wide.inRound l) n P row args w R :=
  fun c cs _ => let ⟨v, w', r, s⟩ := h c cs; ⟨v, w', r, stepsIn_wide.2 s⟩
theorem upon_in {o : Oper} {a : Act} {K : Act → World → Prop} {r : Result Next} (h : o.upon P a K Q r) : o.uponIn (Fence.wide.inRound l) n P a K Q r := by
  cases r with
  | ok x w' =>
    cases x with
    | value v => exact h
    | skip => exact h
    | defer d => exact h
    | enter f args => exact ⟨fun h => (by cases h), CallsIn.inRound l (callsIn_wide.2 h)⟩
    | row r args => exact ⟨fun h => (by cases h), rowsIn_wide h⟩
    | _ => exact h.elim
  | halt x w' => cases x <;> exact h
theorem wp_in {o : Oper} {a : Act} {w : World} {K : Act → World → Prop} (hd : ∀ c, o.op ≠ .defer c) (h : o.wp P a w K Q) : o.wpIn (Fence.wide.inRound l) n P a w K Q :=
  ⟨fun _ _ => trivial, by rw [Oper.semAt_eq _ _ _ hd]; exact upon_in h⟩
def noDef (ops : List Oper) : Bool := ops.all (fun o => match o.op with | .defer _ => false | _ => true)
theorem noDef_spec {ops : List Oper} (h : noDef ops = true) {o : Oper} (ho : o ∈ ops) : ∀ c, o.op ≠ .defer c := fun c hc => by
  have := List.all_eq_true.1 h o ho
  rw [hc] at this
  cases this
theorem wpOp_in (hno : ¬ LetsOut Q) (hd : noDef ops.toList = true) {i : Nat} {K : Act → World → Prop} {a : Act} {w : World} (h : wpOp P ops Q i K a w) : wpOpIn (Fence.wide.inRound l) n P ops Q i K a w := by
  unfold wpOp at h
  unfold wpOpIn
  split
  · rename_i hi
    simp only [hi] at h
    exact h
  · rename_i o hi
    simp only [hi] at h
    split
    · rename_i hw
      rw [if_pos hw] at h
      rcases h with h | h
      · exact wp_in (noDef_spec hd (by rw [Array.mem_toList_iff]; exact Array.mem_of_getElem? hi)) h
      · exact absurd h.2 hno
    · rename_i hw
      rw [if_neg hw] at h
      exact ⟨fun _ _ => trivial, h⟩
theorem wpAny_in (hno : ¬ LetsOut Q) (hd : noDef ops.toList = true) : ∀ (fuel : Nat) (listed : Array Bool) (a : Act) (w : World), wpAny P .any ops Q fuel listed a w → wpAnyIn (Fence.wide.inRound l) n P .any ops Q fuel listed a w
  | 0, _, _, _, h => h
  | fuel + 1, _, _, _, h => ⟨h.1, fun i hi => wpOpIn_mono (fun a' w' h' => wpAny_in hno hd fuel _ a' w' h') (wpOp_in hno hd (h.2 i hi))⟩
theorem wpList_in (hno : ¬ LetsOut Q) : ∀ (os : List Oper), noDef os = true → ∀ (a : Act) (w : World), wpList P ops Q os a w → wpListIn (Fence.wide.inRound l) n P ops Q os a w
  | [], _, a, w, h => h
  | o :: rest, hd, a, w, h => by
    have hd1 := noDef_spec hd (o := o) List.mem_cons_self
    have hd2 : noDef rest = true := by
      unfold noDef at hd ⊢
      rw [List.all_cons, Bool.and_eq_true] at hd
      exact hd.2
    unfold wpList at h
    unfold wpListIn
    split
    · rename_i hw
      rw [if_pos hw] at h
      rcases h with h | h
      · exact Oper.wpIn_mono (fun a' w' h' => wpList_in hno rest hd2 a' w' h') (wp_in hd1 h)
      · exact absurd h.2 hno
    · rename_i hw
      rw [if_neg hw] at h
      exact ⟨fun _ _ => trivial, wpList_in hno rest hd2 _ _ h⟩
theorem liftQ_no {S : List Nat} {e0 : Env} {Q : EQ} : ¬ LetsOut (liftQ S e0 Q) := fun ⟨_, _, h⟩ => h
/-- Codes without loops, and without 'defer'. -/
def okIn : Ann → Code → Bool
  | .leaf, _ => true
  | .text, .region _ ops _ => noDef ops.toList
  | .draw _, .region _ ops _ => noDef ops.toList
  | .seq a b, .seq x y => okIn a x && okIn b y
  | .join _ _ a b, .seq x y => okIn a x && okIn b y
  | .cond a b, .cond _ x y => okIn a x && okIn b y
  | .block a, .block _ x => okIn a x
  | .jblock _ _ a, .block _ x => okIn a x
  | _, _ => false
theorem comp_in (hm : P.follows .mixedOrders = true) : ∀ (ann : Ann) (c : Code) (Q : EQ) (e : Env) (w : World), okIn ann c = true → comp P ann c Q e w → c.wpIn (Fence.wide.inRound l) n P (liftQ (asg c) e Q) (mk e) w := by
  intro ann
  induction ann with
  | leaf =>
    intro c Q e w _ h
    cases c <;> simp only [comp] at h <;> first | exact h.elim | skip
    · exact wpIn_skip ⟨e, rfl, Agr.refl _ _, h⟩
    · exact wpIn_exit ⟨e, rfl, Agr.refl _ _, h⟩
    · exact wpIn_goto ⟨e, rfl, Agr.refl _ _, h⟩
    · exact wpIn_ret ⟨e, rfl, Agr.refl _ _, h⟩
  | text =>
    intro c Q e w ho h
    cases c with
    | region id ops d =>
      cases d with
      | true => exact h.elim
      | false =>
        simp only [comp] at h
        refine wpIn_region_list ?_
        have := textL_sound (P := P) (ops := ops.toList) (K := Q .normal) (S := ops.toList.filterMap (·.dst)) (e0 := e) (Q := liftQ (ops.toList.filterMap (·.dst)) e Q)
          (fun e' w ha hk => ⟨e', rfl, ha, hk⟩) ops.toList e w (fun o ho d hd => List.mem_filterMap.2 ⟨o, ho, hd⟩) (Agr.refl _ _) h
        simp only [Array.toArray_toList] at this
        exact wpList_in liftQ_no _ ho _ _ this
    | _ => exact h.elim
  | draw s =>
    intro c Q e w ho h
    cases c with
    | region id ops d =>
      cases d with
      | false => exact h.elim
      | true =>
        simp only [comp] at h
        split at h
        · rename_i hc
          simp only [Bool.and_eq_true, decide_eq_true_eq] at hc
          have hd := drawL_sound (P := P) (ops := ops) (K := Q .normal) (S := ops.toList.filterMap (·.dst)) (e0 := e) (Q := liftQ (ops.toList.filterMap (·.dst)) e Q)
            (fun e' w ha hk => ⟨e', rfl, ha, hk⟩) (fun c a w h => h) hc.1
            (fun i o hi d hd => List.mem_filterMap.2 ⟨o, by rw [Array.mem_toList_iff]; exact Array.mem_of_getElem? hi, hd⟩) s ops.size (Array.replicate ops.size false) [] e w.drew hc.2 (fun x hx => (by cases hx)) (Agr.refl _ _) h
          exact wpIn_region_any hm (wpAny_in liftQ_no ho _ _ _ _ (wpL_any _ _ [] _ _ hd))
        · exact h.elim
    | _ => exact h.elim
  | seq a b iha ihb =>
    intro c Q e w ho h
    cases c with
    | seq x y =>
      simp only [okIn, Bool.and_eq_true] at ho
      simp only [comp] at h
      refine wpIn_seq (wpIn_mono (iha _ _ _ _ ho.1 h) ?_)
      intro ex a w hq
      cases ex <;> simp only [liftQ, thenE, Exit.then] at hq ⊢ <;> first | exact hq | skip
      · obtain ⟨e', rfl, h1, h2⟩ := hq
        refine wpIn_mono (ihb _ _ _ _ ho.2 h2) (liftQ_mono (fun e'' h3 => ?_) (fun _ _ _ _ h => h))
        exact (h1.mono (fun i hi => List.mem_append_left _ hi)).trans (h3.mono (fun i hi => List.mem_append_right _ hi))
      all_goals
        obtain ⟨e', rfl, h1, h2⟩ := hq
        exact ⟨e', rfl, h1.mono (fun i hi => List.mem_append_left _ hi), h2⟩
    | _ => exact h.elim
  | join kept dead a b iha ihb =>
    intro c Q e w ho h
    cases c with
    | seq x y =>
      simp only [okIn, Bool.and_eq_true] at ho
      simp only [comp] at h
      split at h
      · rename_i hc
        refine wpIn_seq (wpIn_mono (iha _ _ _ _ ho.1 h) ?_)
        intro ex a w hq
        cases ex <;> simp only [liftQ, thenE, Exit.then] at hq ⊢ <;> first | exact hq | skip
        · obtain ⟨e', rfl, h1, h2⟩ := hq
          have h2 := h2 (getAll e' dead)
          rw [setAll_back hc h1] at h2
          refine wpIn_mono (ihb _ _ _ _ ho.2 h2) (liftQ_mono (fun e'' h3 => ?_) (fun _ _ _ _ h => h))
          exact (h1.mono (fun i hi => List.mem_append_left _ hi)).trans (h3.mono (fun i hi => List.mem_append_right _ hi))
        all_goals
          obtain ⟨e', rfl, h1, h2⟩ := hq
          exact ⟨e', rfl, h1.mono (fun i hi => List.mem_append_left _ hi), h2⟩
      · exact h.elim
    | _ => exact h.elim
  | cond a b iha ihb =>
    intro c Q e w ho h
    cases c with
    | cond v x y =>
      simp only [okIn, Bool.and_eq_true] at ho
      simp only [comp] at h
      unfold M.cond at h
      split at h
      · rename_i hv
        refine wpIn_cond_true (by rw [mk_eval]; exact hv) (wpIn_mono (iha _ _ _ _ ho.1 h) (liftQ_mono (fun e'' h3 => h3.mono (fun i hi => List.mem_append_left _ hi)) (fun _ _ _ _ h => h)))
      · rename_i hv
        refine wpIn_cond_false (by rw [mk_eval]; exact hv) (wpIn_mono (ihb _ _ _ _ ho.2 h) (liftQ_mono (fun e'' h3 => h3.mono (fun i hi => List.mem_append_right _ hi)) (fun _ _ _ _ h => h)))
      · exact h.elim
    | _ => exact h.elim
  | block a iha =>
    intro c Q e w ho h
    cases c with
    | block id b =>
      simp only [okIn] at ho
      simp only [comp] at h
      refine wpIn_block (wpIn_mono (iha _ _ _ _ ho h) ?_)
      intro ex a w hq
      cases ex <;> simp only [liftQ, inE, Exit.inBlock] at hq ⊢ <;> first | exact hq | skip
      obtain ⟨e', rfl, h1, h2⟩ := hq
      split at h2
      · rename_i hid; rw [if_pos hid]; exact ⟨e', rfl, h1, h2⟩
      · rename_i hid; rw [if_neg hid]; exact ⟨e', rfl, h1, h2⟩
    | _ => exact h.elim
  | jblock kept dead a iha =>
    intro c Q e w ho h
    cases c with
    | block id b =>
      simp only [okIn] at ho
      simp only [comp] at h
      split at h
      · rename_i hc
        refine wpIn_block (wpIn_mono (iha _ _ _ _ ho h) ?_)
        intro ex a w hq
        cases ex <;> simp only [liftQ, inE, thenE, Exit.inBlock] at hq ⊢ <;> first | exact hq | skip
        · obtain ⟨e', rfl, h1, h2⟩ := hq
          have h2 := h2 (getAll e' dead)
          rw [setAll_back hc h1] at h2
          exact ⟨e', rfl, h1, h2⟩
        · obtain ⟨e', rfl, h1, h2⟩ := hq
          split at h2
          · rename_i hid
            rw [if_pos hid]
            have h2 := h2 (getAll e' dead)
            rw [setAll_back hc h1] at h2
            exact ⟨e', rfl, h1, h2⟩
          · rename_i hid; rw [if_neg hid]; exact ⟨e', rfl, h1, h2⟩
      · exact h.elim
    | _ => exact h.elim
  | loop kept dead a iha => intro c Q e w ho h; cases c <;> exact absurd ho (by simp [okIn])
  | scope kept dead a b c iha ihb ihc => intro c Q e w ho h; cases c <;> exact absurd ho (by simp [okIn])
end
end Go.Mw
