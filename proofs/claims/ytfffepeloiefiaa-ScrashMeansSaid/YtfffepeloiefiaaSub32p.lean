import Derived.Test.YtfffepeloiefiaaRef03
import Derived.Test.YtfffepeloiefiaaWordM
namespace Go.Proofs.Ytfffepeloiefiaa
open Go.Mw
set_option linter.unusedVariables false
/-! ### masks: plain -/
def bitZ (m : Int) (i : Nat) : Bool := decide ((m.fdiv (2 ^ (min i 64))) % 2 = 1)
theorem M.shr_i {k : Kt} {w : World} {m : Int} {d : IntKind} {i : Nat} (h : k (vi (m.fdiv (2 ^ (min i 64)))) w) : M.shift .shr (vi m) (.int d i) k w := by
  refine M.shift_i (v := vi (m.fdiv (2 ^ (min i 64)))) ?_ h
  unfold ishift
  rw [if_neg (by omega)]
  simp only [Int.toNat_natCast]
  rfl
theorem and_bit1 (x : Int) : ibin .and .i64 x 1 = some (vi (x % 2)) := by
  simp only [ibin, Option.some.injEq, Value.int.injEq, true_and]
  have e : ((BitVec.ofInt 64 x &&& BitVec.ofInt 64 1).toNat : Int) = x % 2 := by
    have h1 : (BitVec.ofInt 64 1 : BitVec 64) = 1#64 := rfl
    have h2 : (BitVec.ofInt 64 x &&& 1#64).toNat = (BitVec.ofInt 64 x).toNat % 2 := by
      rw [BitVec.toNat_and]
      have : (1#64).toNat = 2 ^ 1 - 1 := rfl
      rw [this, Nat.and_two_pow_sub_one_eq_mod]
    rw [h1, h2, BitVec.toNat_ofInt]
    omega
  have e2 : IntKind.i64.wrap (((BitVec.ofInt IntKind.i64.bits x &&& BitVec.ofInt IntKind.i64.bits 1).toNat : Nat) : Int) = x % 2 := by
    have : ((BitVec.ofInt IntKind.i64.bits x &&& BitVec.ofInt IntKind.i64.bits 1).toNat : Int) = x % 2 := e
    rw [this]
    exact wrap_i64 (by omega) (by omega)
  exact e2
theorem M.and1_i {k : Kt} {w : World} {x : Int} (h : k (vi (x % 2)) w) : M.bin .and (vi x) (vi 1) k w := M.bin_i (and_bit1 x) h
theorem bitZ_eq {m : Int} {i : Nat} (k : Kt) (w : World) (h : k (.bool (bitZ m i)) w) : k (.bool (decide ((m.fdiv (2 ^ (min i 64))) % 2 = 1))) w := h
/-- May a mask be, by the epochs? -/
def okP (es : List Int) (m : Int) (n : Nat) : Prop := ∀ j k : Nat, j < n → k < n → bitZ m j = true → bitZ m k = false → es.getD j 0 ≤ es.getD k 0
open Classical in
noncomputable def allowB (es : List Int) (m : Int) : Bool := decide (es.length ≤ 20 ∧ 0 ≤ m ∧ m < ((2 ^ es.length : Nat) : Int) ∧ okP es m es.length)
theorem allowB_iff {es : List Int} {m : Int} : allowB es m = true ↔ es.length ≤ 20 ∧ 0 ≤ m ∧ m < ((2 ^ es.length : Nat) : Int) ∧ okP es m es.length := by
  unfold allowB; simp
theorem allowB_no {es : List Int} {m : Int} (h : ¬ (es.length ≤ 20 ∧ 0 ≤ m ∧ m < ((2 ^ es.length : Nat) : Int) ∧ okP es m es.length)) : allowB es m = false := by
  unfold allowB; simpa using h
def natsI (n : Nat) : List Int := (List.range n).map (fun i : Nat => (i : Int))
noncomputable def masksN (es : List Int) (n : Nat) : List Int := (natsI n).filter (allowB es)
noncomputable def masksL (es : List Int) : List Int := if 12 < es.length then [] else masksN es (2 ^ es.length)
theorem masksN_succ (es : List Int) (n : Nat) : masksN es (n + 1) = masksN es n ++ if allowB es n then [(n : Int)] else [] := by
  unfold masksN natsI
  rw [List.range_succ, List.map_append, List.filter_append]
  congr 1
  cases h : allowB es (n : Int) <;> simp [h]
theorem masksN_len (es : List Int) (n : Nat) : (masksN es n).length ≤ n := by
  unfold masksN natsI
  exact Nat.le_trans (List.length_filter_le _ _) (by simp)
theorem masksL_len (es : List Int) : (masksL es).length ≤ 4096 := by
  unfold masksL
  split
  · simp
  · refine Nat.le_trans (masksN_len es _) ?_
    have : 2 ^ es.length ≤ 2 ^ 12 := Nat.pow_le_pow_right (by omega) (by omega)
    omega
/-- The last epoch of those that are set among the first n, and the first of the others. -/
structure Lf (es : List Int) (m : Int) (n : Nat) (last first : Int) : Prop where
  l1 : ∀ j, j < n → bitZ m j = true → es.getD j 0 ≤ last
  l2 : last = -9223372036854775808 ∨ ∃ j, j < n ∧ bitZ m j = true ∧ es.getD j 0 = last
  f1 : ∀ j, j < n → bitZ m j = false → first ≤ es.getD j 0
  f2 : first = 9223372036854775807 ∨ ∃ j, j < n ∧ bitZ m j = false ∧ es.getD j 0 = first
theorem Lf.start (es : List Int) (m : Int) : Lf es m 0 (-9223372036854775808) 9223372036854775807 :=
  ⟨fun j hj => by omega, .inl rfl, fun j hj => by omega, .inl rfl⟩
theorem Lf.set {es : List Int} {m : Int} {n : Nat} {last first : Int} (h : Lf es m n last first) (hb : bitZ m n = true) (hI : -9223372036854775808 ≤ es.getD n 0) : Lf es m (n + 1) (if es.getD n 0 > last then es.getD n 0 else last) first := by
  refine ⟨fun j hj hj2 => ?_, ?_, fun j hj hj2 => ?_, ?_⟩
  · by_cases e : j = n
    · subst e; split <;> omega
    · have := h.l1 j (by omega) hj2; split <;> omega
  · split
    · exact .inr ⟨n, by omega, hb, rfl⟩
    · rcases h.l2 with h2 | ⟨j, h2, h3, h4⟩
      · exact .inl h2
      · exact .inr ⟨j, by omega, h3, h4⟩
  · by_cases e : j = n
    · subst e; rw [hb] at hj2; simp at hj2
    · exact h.f1 j (by omega) hj2
  · rcases h.f2 with h2 | ⟨j, h2, h3, h4⟩
    · exact .inl h2
    · exact .inr ⟨j, by omega, h3, h4⟩
theorem Lf.unset {es : List Int} {m : Int} {n : Nat} {last first : Int} (h : Lf es m n last first) (hb : bitZ m n = false) (hI : es.getD n 0 ≤ 9223372036854775807) : Lf es m (n + 1) last (if es.getD n 0 < first then es.getD n 0 else first) := by
  refine ⟨fun j hj hj2 => ?_, ?_, fun j hj hj2 => ?_, ?_⟩
  · by_cases e : j = n
    · subst e; rw [hb] at hj2; simp at hj2
    · exact h.l1 j (by omega) hj2
  · rcases h.l2 with h2 | ⟨j, h2, h3, h4⟩
    · exact .inl h2
    · exact .inr ⟨j, by omega, h3, h4⟩
  · by_cases e : j = n
    · subst e; split <;> omega
    · have := h.f1 j (by omega) hj2; split <;> omega
  · split
    · exact .inr ⟨n, by omega, hb, rfl⟩
    · rcases h.f2 with h2 | ⟨j, h2, h3, h4⟩
      · exact .inl h2
      · exact .inr ⟨j, by omega, h3, h4⟩
theorem Lf.iff {es : List Int} {m : Int} {n : Nat} {last first : Int} (h : Lf es m n last first) (hI : ∀ j, j < n → -9223372036854775808 ≤ es.getD j 0 ∧ es.getD j 0 ≤ 9223372036854775807) : last ≤ first ↔ okP es m n := by
  constructor
  · intro hle j k hj hk h1 h2
    have := h.l1 j hj h1; have := h.f1 k hk h2; omega
  · intro ho
    rcases h.l2 with h2 | ⟨j, h2, h3, h4⟩
    · rcases h.f2 with h5 | ⟨k, h5, h6, h7⟩
      · omega
      · have := hI k h5; omega
    · rcases h.f2 with h5 | ⟨k, h5, h6, h7⟩
      · have := hI j h2; omega
      · have := ho j k h2 h5 h3 h6; omega
/-- The document's way. -/
def fitP (es : List Int) (m : Int) (e : Int) (n : Nat) : Prop := ∀ j, j < n → ¬ ((es.getD j 0 < e ∧ bitZ m j = false) ∨ (e < es.getD j 0 ∧ bitZ m j = true))
theorem fit_iff {es : List Int} {m : Int} (hn : 0 < es.length) : (∃ i, i < es.length ∧ fitP es m (es.getD i 0) es.length) ↔ okP es m es.length := by
  constructor
  · rintro ⟨i, hi, h⟩ j k hj hk h1 h2
    have a := h j hj; have b := h k hk
    simp only [h1, h2, and_true, Int.not_lt, Bool.true_eq_false, Bool.false_eq_true, and_false, false_or, or_false] at a b
    omega
  · intro h
    -- a greatest one of those that are set, or a least one of all
    have mx : ∀ n, n ≤ es.length → (∃ j, j < n ∧ bitZ m j = true) → ∃ i, i < n ∧ bitZ m i = true ∧ ∀ j, j < n → bitZ m j = true → es.getD j 0 ≤ es.getD i 0 := by
      intro n
      induction n with
      | zero => rintro _ ⟨j, hj, _⟩; omega
      | succ n ih =>
        rintro hn' ⟨j, hj, hj2⟩
        by_cases hs : ∃ j, j < n ∧ bitZ m j = true
        · obtain ⟨i, h1, h2, h3⟩ := ih (by omega) hs
          by_cases hb : bitZ m n = true ∧ es.getD i 0 < es.getD n 0
          · refine ⟨n, by omega, hb.1, fun q hq hq2 => ?_⟩
            by_cases e : q = n
            · rw [e]; exact Int.le_refl _
            · have := h3 q (by omega) hq2; omega
          · refine ⟨i, by omega, h2, fun q hq hq2 => ?_⟩
            by_cases e : q = n
            · subst e
              have : ¬ es.getD i 0 < es.getD q 0 := fun hh => hb ⟨hq2, hh⟩
              omega
            · exact h3 q (by omega) hq2
        · have e : j = n := by
            by_cases e : j = n
            · exact e
            · exact absurd ⟨j, by omega, hj2⟩ hs
          subst e
          refine ⟨j, by omega, hj2, fun q hq hq2 => ?_⟩
          by_cases e2 : q = j
          · rw [e2]; exact Int.le_refl _
          · exact absurd ⟨q, by omega, hq2⟩ hs
    have mn : ∀ n, 0 < n → n ≤ es.length → ∃ i, i < n ∧ ∀ j, j < n → es.getD i 0 ≤ es.getD j 0 := by
      intro n
      induction n with
      | zero => intro h0; omega
      | succ n ih =>
        intro _ hn'
        rcases Nat.eq_zero_or_pos n with h0 | h0
        · subst h0
          exact ⟨0, by omega, fun j hj => by
            have : j = 0 := by omega
            rw [this]; exact Int.le_refl _⟩
        · obtain ⟨i, h1, h2⟩ := ih h0 (by omega)
          by_cases hb : es.getD n 0 < es.getD i 0
          · refine ⟨n, by omega, fun q hq => ?_⟩
            by_cases e : q = n
            · rw [e]; exact Int.le_refl _
            · have := h2 q (by omega); omega
          · refine ⟨i, by omega, fun q hq => ?_⟩
            by_cases e : q = n
            · rw [e]; omega
            · exact h2 q (by omega)
    by_cases hs : ∃ j, j < es.length ∧ bitZ m j = true
    · obtain ⟨i, h1, h2, h3⟩ := mx _ (Nat.le_refl _) hs
      refine ⟨i, h1, fun j hj hh => ?_⟩
      rcases hh with ⟨h4, h5⟩ | ⟨h4, h5⟩
      · have := h i j h1 hj h2 h5; omega
      · have := h3 j hj h5; omega
    · obtain ⟨i, h1, h2⟩ := mn _ hn (Nat.le_refl _)
      refine ⟨i, h1, fun j hj hh => ?_⟩
      rcases hh with ⟨h4, h5⟩ | ⟨h4, h5⟩
      · have := h2 j hj; omega
      · exact hs ⟨j, hj, h5⟩
/-! ### the disk behind a mask -/
def imgN {α : Type} (disk : List α) (ps : List (Int × α)) (m : Int) : Nat → List α
  | 0 => disk
  | i + 1 => match ps[i]? with
    | some p => if decide (i < 63) && bitZ m i && decide (0 ≤ p.1 ∧ p.1 < (disk.length : Int)) then (imgN disk ps m i).set p.1.toNat p.2 else imgN disk ps m i
    | none => imgN disk ps m i
def imgL {α : Type} (disk : List α) (ps : List (Int × α)) (m : Int) : List α := imgN disk ps m ps.length
theorem imgN_len {α : Type} (disk : List α) (ps : List (Int × α)) (m : Int) : ∀ i, (imgN disk ps m i).length = disk.length
  | 0 => rfl
  | i + 1 => by
    unfold imgN
    split
    · split
      · rw [List.length_set]; exact imgN_len disk ps m i
      · exact imgN_len disk ps m i
    · exact imgN_len disk ps m i
theorem imgN_map {α β : Type} (f : α → β) (disk : List α) (ps : List (Int × α)) (m : Int) : ∀ i, (imgN disk ps m i).map f = imgN (disk.map f) (ps.map (fun p => (p.1, f p.2))) m i
  | 0 => rfl
  | i + 1 => by
    have ih := imgN_map f disk ps m i
    unfold imgN
    rw [List.getElem?_map]
    cases ps[i]? with
    | none => exact ih
    | some p =>
      simp only [Option.map_some, List.length_map]
      split
      · rw [List.map_set, ih]
      · exact ih
theorem imgL_map {α β : Type} (f : α → β) (disk : List α) (ps : List (Int × α)) (m : Int) : (imgL disk ps m).map f = imgL (disk.map f) (ps.map (fun p => (p.1, f p.2))) m := by
  unfold imgL
  rw [imgN_map, List.length_map]
theorem mem_imgN {α : Type} {disk : List α} {ps : List (Int × α)} {m : Int} {x : α} : ∀ i, x ∈ imgN disk ps m i → x ∈ disk ∨ x ∈ ps.map (·.2)
  | 0, h => .inl h
  | i + 1, h => by
    unfold imgN at h
    cases hp : ps[i]? with
    | none => rw [hp] at h; exact mem_imgN i h
    | some p =>
      rw [hp] at h
      simp only at h
      split at h
      · rcases List.mem_or_eq_of_mem_set h with h | h
        · exact mem_imgN i h
        · right; rw [h]; exact List.mem_map.2 ⟨p, List.mem_of_getElem? hp, rfl⟩
      · exact mem_imgN i h
/-- What is put, one by one. -/
def putN {α : Type} (disk : List α) (ps : List (Int × α)) : List α := ps.foldl (fun o p => if 0 ≤ p.1 ∧ p.1 < (disk.length : Int) then o.set p.1.toNat p.2 else o) disk
def selN {α : Type} (ps : List α) (m : Int) : Nat → List α
  | 0 => []
  | i + 1 => match ps[i]? with
    | some p => if decide (i < 63) && bitZ m i then selN ps m i ++ [p] else selN ps m i
    | none => selN ps m i
theorem selN_len {α : Type} (ps : List α) (m : Int) : ∀ i, (selN ps m i).length ≤ i
  | 0 => Nat.le_refl _
  | i + 1 => by
    have := selN_len ps m i
    unfold selN
    split
    · split
      · rw [List.length_append, List.length_singleton]; omega
      · omega
    · omega
theorem put_sel {α : Type} (disk : List α) (ps : List (Int × α)) (m : Int) : ∀ i, putN disk (selN ps m i) = imgN disk ps m i
  | 0 => rfl
  | i + 1 => by
    have ih := put_sel disk ps m i
    unfold selN imgN
    cases ps[i]? with
    | none => exact ih
    | some p =>
      simp only
      by_cases h1 : (decide (i < 63) && bitZ m i) = true
      · rw [if_pos h1, h1, Bool.true_and]
        unfold putN at ih ⊢
        rw [List.foldl_append, ih]
        simp only [List.foldl_cons, List.foldl_nil, decide_eq_true_eq]
      · rw [if_neg h1]
        have : (decide (i < 63) && bitZ m i) = false := by simpa using h1
        rw [this, Bool.false_and]
        simp only [Bool.false_eq_true, if_false]
        exact ih
end Go.Proofs.Ytfffepeloiefiaa
