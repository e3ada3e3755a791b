import Derived.Test.YthcfmfkigioaeaaStab13c
namespace Go.Proofs.Ythcfmfkigioaeaa
open Go.Mw
set_option linter.unusedVariables false
set_option linter.unusedSectionVars false
/-! ### which clauses are kept: plain -/
structure Lr where
  sz : Int
  gl : Int
  ac : Int
def Lr.cells (x : Lr) : List Value := [vi x.sz, vi x.gl, vi x.ac]
theorem lr_len (x : Lr) : x.cells.length = 3 := rfl
def betB (a b : Lr) : Bool := if a.gl ≠ b.gl then decide (a.gl < b.gl) else if a.ac ≠ b.ac then decide (b.ac < a.ac) else decide (a.sz < b.sz)
def sureB (a : Lr) : Bool := decide (a.gl ≤ 2) || decide (a.sz ≤ 2)
abbrev zLr : Lr := ⟨0, 0, 0⟩
def ltL (l : List Lr) (i k : Int) : Bool := betB (l.getD i.toNat zLr) (l.getD k.toNat zLr)
theorem bet_iff (a b : Lr) : betB a b = true ↔ a.gl < b.gl ∨ (a.gl = b.gl ∧ (b.ac < a.ac ∨ (a.ac = b.ac ∧ a.sz < b.sz))) := by
  unfold betB
  by_cases h1 : a.gl = b.gl
  · by_cases h2 : a.ac = b.ac
    · simp [h1, h2]
    · simp [h1, h2]
  · simp [h1]
theorem wk (l : List Lr) : Wk (ltL l) where
  irr := fun x => by
    unfold ltL
    cases h : betB (l.getD x.toNat zLr) (l.getD x.toNat zLr) with
    | false => rfl
    | true => rw [bet_iff] at h; omega
  trans := fun x y z h1 h2 => by
    unfold ltL at *
    rw [bet_iff] at *; omega
  neg := fun x y z h => by
    unfold ltL at *
    rw [bet_iff] at h
    rw [bet_iff, bet_iff]; omega
def bfB (l : List Lr) (k i : Nat) : Bool := ltL l k i || (decide (k < i) && !ltL l i k)
theorem bfB_iff {l : List Lr} {k i : Nat} : bfB l k i = true ↔ Bf (ltL l) k i := by
  unfold bfB Bf
  rw [Bool.or_eq_true, Bool.and_eq_true, decide_eq_true_eq, Bool.not_eq_true']
  constructor
  · rintro (h | ⟨h1, h2⟩)
    · exact .inl h
    · exact .inr ⟨h2, by omega⟩
  · rintro (h | ⟨h1, h2⟩)
    · exact .inl h
    · exact .inr ⟨by omega, h1⟩
def sureN (l : List Lr) (i : Nat) : Bool := sureB (l.getD i zLr)
/-- The others among the first n. -/
def othN (l : List Lr) (n : Nat) : List Nat := (List.range n).filter (fun i => !sureN l i)
def othI (l : List Lr) (n : Nat) : List Int := (othN l n).map (fun i : Nat => (i : Int))
def aheadN (l : List Lr) (i n : Nat) : List Nat := (List.range n).filter (fun k => !sureN l k && bfB l k i)
def keptB (l : List Lr) : List Bool := (List.range l.length).map (fun i => sureN l i || decide ((aheadN l i l.length).length < ((othN l l.length).length + 1) / 2))
theorem othN_succ (l : List Lr) (n : Nat) : othN l (n + 1) = othN l n ++ if sureN l n then [] else [n] := by
  unfold othN
  rw [List.range_succ, List.filter_append]
  congr 1
  cases h : sureN l n <;> simp [h]
theorem aheadN_succ (l : List Lr) (i n : Nat) : aheadN l i (n + 1) = aheadN l i n ++ if !sureN l n && bfB l n i then [n] else [] := by
  unfold aheadN
  rw [List.range_succ, List.filter_append]
  congr 1
  cases h : (!sureN l n && bfB l n i) <;> simp [h]
theorem othN_len (l : List Lr) (n : Nat) : (othN l n).length ≤ n := by
  unfold othN
  exact Nat.le_trans (List.length_filter_le _ _) (by simp)
theorem aheadN_len (l : List Lr) (i n : Nat) : (aheadN l i n).length ≤ n := by
  unfold aheadN
  exact Nat.le_trans (List.length_filter_le _ _) (by simp)
theorem mem_oth {l : List Lr} {n i : Nat} : i ∈ othN l n ↔ i < n ∧ sureN l i = false := by
  unfold othN
  rw [List.mem_filter, List.mem_range]; simp
theorem oth_up (l : List Lr) (n : Nat) : (othN l n).Pairwise (· < ·) := by
  unfold othN
  exact List.Pairwise.sublist List.filter_sublist List.pairwise_lt_range
theorem othI_get {l : List Lr} {n j : Nat} (hj : j < (othN l n).length) : fn (othI l n) j = ((othN l n)[j] : Int) := by
  unfold othI fn
  rw [List.getD_eq_getElem?_getD, List.getElem?_map, List.getElem?_eq_getElem hj]; rfl
theorem othI_up (l : List Lr) (n : Nat) {i j : Nat} (hij : i < j) (hj : j < (othI l n).length) : fn (othI l n) i < fn (othI l n) j := by
  have hj' : j < (othN l n).length := by simpa [othI] using hj
  rw [othI_get hj', othI_get (by omega)]
  have := List.pairwise_iff_getElem.1 (oth_up l n) i j (by omega) hj' hij
  omega
theorem len_le_of {α : Type} : ∀ (a b : List α), a.Nodup → (∀ x ∈ a, x ∈ b) → a.length ≤ b.length
  | [], b, _, _ => by simp
  | x :: a, b, hn, hs => by
    obtain ⟨p, q, rfl⟩ := List.append_of_mem (hs x List.mem_cons_self)
    obtain ⟨h1, h2⟩ := List.nodup_cons.1 hn
    have := len_le_of a (p ++ q) h2 (fun y hy => by
      rcases List.mem_append.1 (hs y (List.mem_cons_of_mem _ hy)) with h | h
      · exact List.mem_append_left _ h
      · rcases List.mem_cons.1 h with h | h
        · exact absurd (h ▸ hy) h1
        · exact List.mem_append_right _ h)
    simp at this ⊢; omega
theorem len_eq_of {α : Type} {a b : List α} (h1 : a.Nodup) (h2 : b.Nodup) (h : ∀ x, x ∈ a ↔ x ∈ b) : a.length = b.length :=
  Nat.le_antisymm (len_le_of a b h1 (fun x hx => (h x).1 hx)) (len_le_of b a h2 (fun x hx => (h x).2 hx))
/-- What is sorted, and has just the others. -/
structure Srt13 (l : List Lr) (ys : List Int) : Prop where
  len : ys.length = (othN l l.length).length
  sg : Sg (ltL l) (fn ys) 0 ys.length
  mem : ∀ x, x ∈ ys ↔ x ∈ othI l l.length
theorem mem_fn {ys : List Int} {x : Int} : x ∈ ys ↔ In (fn ys) 0 ys.length x := by
  constructor
  · intro h
    obtain ⟨i, hi, rfl⟩ := List.mem_iff_getElem.1 h
    refine ⟨i, Nat.zero_le _, hi, ?_⟩
    simp [fn, List.getElem?_eq_getElem hi]
  · rintro ⟨j, _, hj, rfl⟩
    have := fn_get hj
    exact List.mem_of_getElem? this
section
variable {l : List Lr} {ys : List Int} (h : Srt13 l ys)
include h
theorem Srt13.at {p : Nat} (hp : p < ys.length) : ∃ i : Nat, fn ys p = i ∧ i < l.length ∧ sureN l i = false := by
  have h1 : fn ys p ∈ ys := List.mem_of_getElem? (fn_get hp)
  have h2 := (h.mem _).1 h1
  obtain ⟨i, hi, e⟩ := List.mem_map.1 h2
  obtain ⟨h3, h4⟩ := mem_oth.1 hi
  exact ⟨i, e.symm, h3, h4⟩
theorem Srt13.inj {p q : Nat} (hp : p < ys.length) (hq : q < ys.length) (e : fn ys p = fn ys q) : p = q := by
  rcases Nat.lt_trichotomy p q with h1 | h1 | h1
  · have := h.sg p q (Nat.zero_le _) h1 hq
    rw [e] at this; exact (Bf.irr (wk l) this).elim
  · exact h1
  · have := h.sg q p (Nat.zero_le _) h1 hp
    rw [e] at this; exact (Bf.irr (wk l) this).elim
theorem Srt13.nodup : ys.Nodup := by
  rw [List.nodup_iff_pairwise_ne, List.pairwise_iff_getElem]
  intro i j hi hj hij e
  have := h.inj hi hj (by simp [fn, List.getElem?_eq_getElem hi, List.getElem?_eq_getElem hj, e])
  omega
/-- Its place is the number of those that are ahead. -/
theorem Srt13.place {p i : Nat} (hp : p < ys.length) (hi : fn ys p = i) : (aheadN l i l.length).length = p := by
  have h1 : (aheadN l i l.length).length = ((aheadN l i l.length).map (fun k : Nat => (k : Int))).length := by simp
  have h2 : (ys.take p).length = p := by rw [List.length_take]; omega
  rw [h1, ← h2]
  refine len_eq_of ?_ (List.Sublist.nodup (List.take_sublist _ _) h.nodup) (fun x => ?_)
  · rw [List.nodup_iff_pairwise_ne, List.pairwise_map]
    refine List.Pairwise.sublist List.filter_sublist (List.pairwise_lt_range.imp (fun h => by omega))
  · constructor
    · intro hx
      obtain ⟨k, hk, rfl⟩ := List.mem_map.1 hx
      unfold aheadN at hk
      rw [List.mem_filter, List.mem_range, Bool.and_eq_true, Bool.not_eq_true'] at hk
      obtain ⟨k1, k2, k3⟩ := hk
      rw [bfB_iff] at k3
      have hm : (k : Int) ∈ ys := (h.mem _).2 (List.mem_map.2 ⟨k, mem_oth.2 ⟨k1, k2⟩, rfl⟩)
      obtain ⟨q, hq, e⟩ := List.mem_iff_getElem.1 hm
      have e' : fn ys q = k := by simp [fn, List.getElem?_eq_getElem hq, e]
      have hqp : q < p := by
        rcases Nat.lt_or_ge q p with h5 | h5
        · exact h5
        · exfalso
          by_cases e2 : q = p
          · subst e2
            rw [hi] at e'
            have : i = k := by omega
            subst this
            exact Bf.irr (wk l) k3
          · have := h.sg p q (Nat.zero_le _) (by omega) hq
            rw [hi, e'] at this
            exact Bf.irr (wk l) (Bf.trans (wk l) this k3)
      rw [List.mem_take_iff_getElem]
      exact ⟨q, by omega, e⟩
    · intro hx
      rw [List.mem_take_iff_getElem] at hx
      obtain ⟨q, hq, e⟩ := hx
      have hq2 : q < ys.length := by omega
      obtain ⟨k, ek, k1, k2⟩ := h.at hq2
      have e' : fn ys q = x := by simp [fn, List.getElem?_eq_getElem hq2, e]
      have hs := h.sg q p (Nat.zero_le _) (by omega) hp
      rw [hi, ek] at hs
      refine List.mem_map.2 ⟨k, ?_, by rw [← e', ek]⟩
      unfold aheadN
      rw [List.mem_filter, List.mem_range, Bool.and_eq_true, Bool.not_eq_true', bfB_iff]
      exact ⟨k1, k2, hs⟩
theorem Srt13.take {i m : Nat} (hi : i < l.length) (hs : sureN l i = false) : decide ((i : Int) ∈ ys.take m) = decide ((aheadN l i l.length).length < m) := by
  have hm : (i : Int) ∈ ys := (h.mem _).2 (List.mem_map.2 ⟨i, mem_oth.2 ⟨hi, hs⟩, rfl⟩)
  obtain ⟨p, hp, e⟩ := List.mem_iff_getElem.1 hm
  have e' : fn ys p = i := by simp [fn, List.getElem?_eq_getElem hp, e]
  rw [h.place hp e']
  refine decide_eq_decide.2 ⟨fun hx => ?_, fun hx => ?_⟩
  · rw [List.mem_take_iff_getElem] at hx
    obtain ⟨q, hq, e2⟩ := hx
    have : q = p := h.inj (by omega) hp (by simp [fn, List.getElem?_eq_getElem hp, List.getElem?_eq_getElem (show q < ys.length by omega), e, e2])
    omega
  · rw [List.mem_take_iff_getElem]; exact ⟨p, by omega, e⟩
theorem Srt13.kept {out : List Bool} {m : Nat} (hm : m = ((othN l l.length).length + 1) / 2) (hl : out.length = l.length) (ho : ∀ j, j < l.length → out[j]? = some (sureN l j || decide ((j : Int) ∈ ys.take m))) : out = keptB l := by
  apply List.ext_getElem?
  intro j
  unfold keptB
  by_cases hj : j < l.length
  · rw [ho j hj, List.getElem?_map, List.getElem?_range hj]
    simp only [Option.map_some, Option.some.injEq]
    cases hs : sureN l j with
    | true => rfl
    | false => rw [Bool.false_or, Bool.false_or, h.take hj hs, hm]
  · rw [List.getElem?_eq_none (by omega), List.getElem?_eq_none (by simp; omega)]
end
/-! ### what the law says of the half -/
theorem kept_len (l : List Lr) : (keptB l).length = l.length := by simp [keptB]
theorem kept_at {l : List Lr} {i : Nat} (hi : i < l.length) : (keptB l)[i]? = some (sureN l i || decide ((aheadN l i l.length).length < ((othN l l.length).length + 1) / 2)) := by
  unfold keptB
  rw [List.getElem?_map, List.getElem?_range hi]; rfl
def keptN (l : List Lr) (n : Nat) : List Nat := (List.range n).filter (fun i => !sureN l i && (keptB l).getD i false)
theorem keptN_succ (l : List Lr) (n : Nat) : keptN l (n + 1) = keptN l n ++ if !sureN l n && (keptB l).getD n false then [n] else [] := by
  unfold keptN
  rw [List.range_succ, List.filter_append]
  congr 1
  cases h : (!sureN l n && (keptB l).getD n false) <;> simp only [List.filter_cons, List.filter_nil, h, if_true, Bool.false_eq_true, if_false]
theorem keptN_len (l : List Lr) (n : Nat) : (keptN l n).length ≤ n := by
  unfold keptN
  exact Nat.le_trans (List.length_filter_le _ _) (by simp)
/-- There is such a sorted list: by the plain sort of a list. -/
theorem srt13_half {l : List Lr} {ys : List Int} (h : Srt13 l ys) : (keptN l l.length).length = ((othN l l.length).length + 1) / 2 := by
  obtain ⟨m, hm⟩ : ∃ m, ((othN l l.length).length + 1) / 2 = m := ⟨_, rfl⟩
  rw [hm]
  have hlen := h.len
  have h2 : (ys.take m).length = m := by rw [List.length_take]; omega
  have h1 : (keptN l l.length).length = ((keptN l l.length).map (fun k : Nat => (k : Int))).length := by simp
  rw [h1, ← h2]
  refine len_eq_of ?_ (List.Sublist.nodup (List.take_sublist _ _) h.nodup) (fun x => ?_)
  · rw [List.nodup_iff_pairwise_ne, List.pairwise_map]
    refine List.Pairwise.sublist List.filter_sublist (List.pairwise_lt_range.imp (fun h => by omega))
  · have key : ∀ i : Nat, i < l.length → sureN l i = false → ((keptB l).getD i false = true ↔ (i : Int) ∈ ys.take m) := fun i hi hs => by
      rw [List.getD_eq_getElem?_getD, kept_at hi, hs, Bool.false_or, Option.getD_some, hm, ← h.take hi hs]
      simp
    constructor
    · intro hx
      obtain ⟨k, hk, rfl⟩ := List.mem_map.1 hx
      unfold keptN at hk
      rw [List.mem_filter, List.mem_range, Bool.and_eq_true, Bool.not_eq_true'] at hk
      exact (key k hk.1 hk.2.1).1 hk.2.2
    · intro hx
      obtain ⟨k, hk, rfl⟩ := List.mem_map.1 ((h.mem x).1 (List.mem_of_mem_take hx))
      obtain ⟨k1, k2⟩ := mem_oth.1 hk
      refine List.mem_map.2 ⟨k, ?_, rfl⟩
      unfold keptN
      rw [List.mem_filter, List.mem_range, Bool.and_eq_true, Bool.not_eq_true']
      exact ⟨k1, k2, (key k k1 k2).2 hx⟩
theorem srt13_best {l : List Lr} {ys : List Int} (h : Srt13 l ys) {i m : Nat} (hi : i < l.length) (hm : m < l.length) (hsi : sureN l i = false) (hsm : sureN l m = false) (hkm : (keptB l).getD m false = true) (hki : (keptB l).getD i false = false) : betB (l.getD i zLr) (l.getD m zLr) = false := by
  rw [List.getD_eq_getElem?_getD, kept_at hm, hsm, Bool.false_or, Option.getD_some, decide_eq_true_eq] at hkm
  rw [List.getD_eq_getElem?_getD, kept_at hi, hsi, Bool.false_or, Option.getD_some, decide_eq_false_iff_not] at hki
  have pl : ∀ j, j < l.length → sureN l j = false → ∃ p, p < ys.length ∧ fn ys p = j ∧ (aheadN l j l.length).length = p := fun j hj hs => by
    have hmem : (j : Int) ∈ ys := (h.mem _).2 (List.mem_map.2 ⟨j, mem_oth.2 ⟨hj, hs⟩, rfl⟩)
    obtain ⟨p, hp, e⟩ := List.mem_iff_getElem.1 hmem
    have e' : fn ys p = j := by simp [fn, List.getElem?_eq_getElem hp, e]
    exact ⟨p, hp, e', h.place hp e'⟩
  obtain ⟨p, hp, ep, ap⟩ := pl m hm hsm
  obtain ⟨q, hq, eq, aq⟩ := pl i hi hsi
  have := h.sg p q (Nat.zero_le _) (by omega) hq
  rw [ep, eq] at this
  have h2 := Bf.not (wk l) this
  unfold ltL at h2
  simpa using h2
end Go.Proofs.Ythcfmfkigioaeaa
