import Derived.Test.YthkkjjbjpbgcpaaSmt54p
namespace Go.Proofs.Ythkkjjbjpbgcpaa
open Go.Mw
set_option linter.unusedVariables false
set_option linter.unusedSimpArgs false
set_option maxRecDepth 100000
attribute [local irreducible] M.val M.unit M.next M.pick M.new M.nilCheck M.load1 M.loadA M.store M.fieldAddr M.indexSl M.indexArr M.slice M.makeSlice M.buildSlice M.len M.lenS M.cap M.append M.extract M.conv M.not M.neg M.bin M.shift M.eqB M.eqNil M.scat M.call M.callv M.gd M.share M.cond M.loop M.draw pureW readW Ret
/-! ### the reference's way to the texts: no program here -/
theorem pcs_has {N : List Nd} {n : Nd} {NN : List Nd} (hg : goodN NN n) : ∀ k ∈ kidsN n, iP k ∈ pcsN N n := by
  obtain ⟨_, _, hc⟩ := hg
  have hop : (1 ≤ n.op ∧ n.op ≤ 16) ∨ (20 ≤ n.op ∧ n.op ≤ 26) := by
    rcases hc with h | h | h | h | h | h | h | h <;> omega
  intro k hk
  unfold kidsN at hk
  unfold pcsN
  by_cases e20 : n.op = 20 ∨ n.op = 21
  · rw [if_pos e20] at hk; simp at hk
  rw [if_neg e20] at hk
  rw [if_neg (by omega), if_neg (by omega)]
  by_cases e12 : n.op = 12 ∨ n.op = 13 ∨ n.op = 14
  · rw [if_pos e12]
    rw [if_neg (by omega), if_pos (by omega)] at hk
    simp only [List.mem_cons, List.not_mem_nil, or_false] at hk
    rcases hk with rfl | rfl <;> simp
  rw [if_neg e12]
  by_cases e15 : n.op = 15 ∨ n.op = 16
  · rw [if_pos e15]
    rw [if_neg (by omega), if_neg (by omega)] at hk
    simp only [List.mem_singleton] at hk
    subst hk; simp
  rw [if_neg e15]
  by_cases e22 : n.op = 22
  · rw [if_pos e22]
    rw [if_pos e22] at hk
    simp only [List.mem_cons, List.not_mem_nil, or_false] at hk
    rcases hk with rfl | rfl | rfl <;> simp
  rw [if_neg e22]
  rw [if_neg e22] at hk
  by_cases e23 : n.op = 23
  · rw [if_pos e23]
    rw [if_neg (by omega)] at hk
    simp only [List.mem_singleton] at hk
    subst hk; simp
  rw [if_neg e23]
  by_cases e25 : n.op = 25
  · rw [if_pos e25]
    rw [if_neg (by omega)] at hk
    simp only [List.mem_singleton] at hk
    subst hk; simp
  rw [if_neg e25]
  by_cases e26 : n.op = 26
  · rw [if_pos e26]
    rw [if_neg (by omega)] at hk
    simp only [List.mem_singleton] at hk
    subst hk; simp
  rw [if_neg e26]
  rw [if_pos (by omega)] at hk
  simp only [List.mem_cons, List.not_mem_nil, or_false] at hk
  rcases hk with rfl | rfl <;> simp
def cutT (N : List Nd) (j : Nat) : Bt := if (txtN N j).length ≤ 4096 then txtN N j else []
def okT (N : List Nd) (j : Nat) : Bool := decide ((txtN N j).length ≤ 4096)
def tsL (N : List Nd) (i : Nat) : List Bt := (List.range i).map (cutT N)
def osL (N : List Nd) (i : Nat) : List Bool := (List.range i).map (okT N)
section
variable {N : List Nd} {i : Nat} {n : Nd}
theorem tsL_len (i : Nat) : (tsL N i).length = i := by simp [tsL]
theorem osL_len (i : Nat) : (osL N i).length = i := by simp [osL]
theorem tsL_get {j : Nat} (h : j < i) : (tsL N i).getD j [] = cutT N j := by
  simp [tsL, List.getD_eq_getElem?_getD, h]
theorem osL_get {j : Nat} (h : j < i) : (osL N i).getD j false = okT N j := by
  simp [osL, List.getD_eq_getElem?_getD, h]
theorem tsL_snoc : tsL N (i + 1) = tsL N i ++ [cutT N i] := by simp [tsL, List.range_succ]
theorem osL_snoc : osL N (i + 1) = osL N i ++ [okT N i] := by simp [osL, List.range_succ]
theorem tsL_le : ∀ l ∈ tsL N i, l.length ≤ 4096 := fun l hl => by
  obtain ⟨j, _, rfl⟩ := List.mem_map.1 hl
  unfold cutT
  split
  · assumption
  · simp
theorem kid_lt (hG : GoodN N) (hn : N[i]? = some n) : ∀ k ∈ kidsN n, 0 ≤ k ∧ k < i := fun k hk => by
  have h := isN_iff.1 ((hG i n hn).2.1 k hk)
  rw [List.length_take] at h
  omega
/-- A term's text is short only if its parts' are. -/
theorem fit_kids (hG : GoodN N) (hn : N[i]? = some n) (h : (kidsN n).all (fun k => (osL N i).getD k.toNat false) = false) : okT N i = false := by
  rw [List.all_eq_false] at h
  obtain ⟨k, hk, h⟩ := h
  have hlt := kid_lt hG hn k hk
  rw [osL_get (by omega)] at h
  have := kid_le hG hn (k := k) ⟨iP k, pcs_has (hG i n hn) k hk, rfl, hlt.1⟩
  unfold okT at h ⊢
  rw [Int.toNat_of_nonneg hlt.1] at h
  simp only [decide_eq_true_eq] at h
  rw [decide_eq_false]
  omega
theorem fit_one (hG : GoodN N) (hn : N[i]? = some n) (h : (kidsN n).all (fun k => (osL N i).getD k.toNat false) = true) : oneB N n (fun k => (tsL N i).getD k.toNat []) = txtN N i := by
  rw [txtN_eq hG hn]
  unfold oneB
  refine txtN_eq.flatMap_congr' fun p hp => ?_
  rcases pcs_kids (N := N) (hG i n hn) p hp with ⟨h1, _⟩ | ⟨h1, h2, _⟩
  · unfold rendP; rw [if_pos h1, if_pos h1]
  · unfold rendP; rw [if_neg (by omega), if_neg (by omega)]
    have hlt := kid_lt hG hn _ h2
    have h3 := List.all_eq_true.1 h _ h2
    rw [osL_get (by omega)] at h3
    show (tsL N i).getD p.id.toNat [] = _
    rw [tsL_get (by omega)]
    unfold okT at h3
    unfold cutT
    rw [if_pos (by simpa using h3), Int.toNat_of_nonneg h1]
end
end Go.Proofs.Ythkkjjbjpbgcpaa
