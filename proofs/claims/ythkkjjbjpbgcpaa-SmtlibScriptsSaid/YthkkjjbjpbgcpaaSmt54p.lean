import Derived.Test.YthkkjjbjpbgcpaaDag
namespace Go.Proofs.Ythkkjjbjpbgcpaa
open Go.Mw
set_option linter.unusedVariables false
set_option linter.unusedSimpArgs false
set_option maxRecDepth 100000
attribute [local irreducible] M.val M.unit M.next M.pick M.new M.nilCheck M.load1 M.loadA M.store M.fieldAddr M.indexSl M.indexArr M.slice M.makeSlice M.buildSlice M.len M.lenS M.cap M.append M.extract M.conv M.not M.neg M.bin M.shift M.eqB M.eqNil M.scat M.call M.callv M.gd M.share M.cond M.loop M.draw pureW readW Ret
/-! ### texts: no program here -/
abbrev Bt := List UInt8
abbrev vs (l : Bt) : Value := .string ⟨l.toArray⟩
def dgt (n : Nat) : UInt8 := UInt8.ofNat (48 + n % 10)
def digB (n : Nat) : Bt := if h : n < 10 then [dgt n] else digB (n / 10) ++ [dgt n]
termination_by n
theorem digB_lt {n : Nat} (h : n < 10) : digB n = [dgt n] := by rw [digB, dif_pos h]
theorem digB_ge {n : Nat} (h : ¬ n < 10) : digB n = digB (n / 10) ++ [dgt n] := by rw [digB, dif_neg h]
theorem digB_ne (n : Nat) : digB n ≠ [] := by
  by_cases h : n < 10
  · rw [digB_lt h]; simp
  · rw [digB_ge h]; simp
theorem digB_len : ∀ (k n : Nat), n < 10 ^ (k + 1) → (digB n).length ≤ k + 1
  | 0, n, h => by rw [digB_lt (by omega)]; simp
  | k + 1, n, h => by
    by_cases h10 : n < 10
    · rw [digB_lt h10]; simp
    · rw [digB_ge h10, List.length_append]
      have := digB_len k (n / 10) (by rw [Nat.pow_succ] at h; omega)
      simp only [List.length_singleton]; omega
/-- An int's, as a word. -/
def numB (n : Int) : Bt := digB (BitVec.ofInt 64 n).toNat
/-- An operator's word. -/
def opB (op : Int) : Bt := if op = 24 then ([99, 111, 110, 99, 97, 116] : List UInt8) else
  ([[], ([98, 118, 97, 100, 100] : List UInt8), ([98, 118, 115, 117, 98] : List UInt8), ([98, 118, 109, 117, 108] : List UInt8), ([98, 118, 117, 100, 105, 118] : List UInt8), ([98, 118, 117, 114, 101, 109] : List UInt8), ([98, 118, 97, 110, 100] : List UInt8), ([98, 118, 111, 114] : List UInt8), ([98, 118, 120, 111, 114] : List UInt8), ([98, 118, 115, 104, 108] : List UInt8), ([98, 118, 108, 115, 104, 114] : List UInt8), ([98, 118, 97, 115, 104, 114] : List UInt8), ([61] : List UInt8), ([98, 118, 117, 108, 116] : List UInt8), ([98, 118, 115, 108, 116] : List UInt8), ([98, 118, 110, 111, 116] : List UInt8), ([98, 118, 110, 101, 103] : List UInt8)] : List Bt).getD op.toNat []
/-- Pieces: a text (below 0), or a term. -/
structure Pc where
  s : Bt
  id : Int
def Pc.cells (p : Pc) : List Value := [vs p.s, vi p.id]
def tP (s : Bt) : Pc := ⟨s, -1⟩
def iP (i : Int) : Pc := ⟨[], i⟩
def pcsN (N : List Nd) (n : Nd) : List Pc :=
  if n.op = 20 then [tP (([40, 95, 32, 98, 118] : List UInt8) ++ digB n.val.toNat ++ ([32] : List UInt8) ++ numB n.wd ++ ([41] : List UInt8))]
  else if n.op = 21 then [tP (([120] : List UInt8) ++ numB n.a)]
  else if n.op = 12 ∨ n.op = 13 ∨ n.op = 14 then [tP (([40, 105, 116, 101, 32, 40] : List UInt8) ++ opB n.op ++ ([32] : List UInt8)), iP n.a, tP (([32] : List UInt8)), iP n.b, tP (([41, 32, 40, 95, 32, 98, 118, 49, 32, 49, 41, 32, 40, 95, 32, 98, 118, 48, 32, 49, 41, 41] : List UInt8))]
  else if n.op = 15 ∨ n.op = 16 then [tP (([40] : List UInt8) ++ opB n.op ++ ([32] : List UInt8)), iP n.a, tP (([41] : List UInt8))]
  else if n.op = 22 then [tP (([40, 105, 116, 101, 32, 40, 61, 32] : List UInt8)), iP n.a, tP (([32, 40, 95, 32, 98, 118, 49, 32, 49, 41, 41, 32] : List UInt8)), iP n.b, tP (([32] : List UInt8)), iP n.c, tP (([41] : List UInt8))]
  else if n.op = 23 then [tP (([40, 40, 95, 32, 101, 120, 116, 114, 97, 99, 116, 32] : List UInt8) ++ numB (n.b + n.wd - 1) ++ ([32] : List UInt8) ++ numB n.b ++ ([41, 32] : List UInt8)), iP n.a, tP (([41] : List UInt8))]
  else if n.op = 25 then [tP (([40, 40, 95, 32, 122, 101, 114, 111, 95, 101, 120, 116, 101, 110, 100, 32] : List UInt8) ++ numB (n.wd - wdN N n.a) ++ ([41, 32] : List UInt8)), iP n.a, tP (([41] : List UInt8))]
  else if n.op = 26 then [tP (([40, 40, 95, 32, 115, 105, 103, 110, 95, 101, 120, 116, 101, 110, 100, 32] : List UInt8) ++ numB (n.wd - wdN N n.a) ++ ([41, 32] : List UInt8)), iP n.a, tP (([41] : List UInt8))]
  else [tP (([40] : List UInt8) ++ opB n.op ++ ([32] : List UInt8)), iP n.a, tP (([32] : List UInt8)), iP n.b, tP (([41] : List UInt8))]
def rendP (f : Int → Bt) (p : Pc) : Bt := if p.id < 0 then p.s else f p.id
def oneB (N : List Nd) (n : Nd) (f : Int → Bt) : Bt := (pcsN N n).flatMap (rendP f)
/-- The texts of all terms. -/
def txsN (N : List Nd) : Nat → List Bt
  | 0 => []
  | i + 1 => txsN N i ++ [match N[i]? with
    | some n => oneB N n (fun k => (txsN N i).getD k.toNat [])
    | none => []]
def txtN (N : List Nd) (i : Int) : Bt := (txsN N (i.toNat + 1)).getD i.toNat []
theorem txsN_len (N : List Nd) : ∀ i, (txsN N i).length = i
  | 0 => rfl
  | i + 1 => by simp [txsN, txsN_len N i]
theorem txsN_get (N : List Nd) : ∀ (i j : Nat), j < i → (txsN N i).getD j [] = txtN N j
  | 0, j, h => by omega
  | i + 1, j, h => by
    by_cases hj : j < i
    · rw [← txsN_get N i j hj]
      simp only [txsN, List.getD_eq_getElem?_getD]
      rw [List.getElem?_append_left (by rw [txsN_len]; exact hj)]
    · have : j = i := by omega
      subst this; rfl
/-- What terms a piece may name. -/
theorem pcs_kids {N : List Nd} {n : Nd} {NN : List Nd} (hg : goodN NN n) : ∀ p ∈ pcsN N n, (p.id < 0 ∧ p.s ≠ []) ∨ (0 ≤ p.id ∧ p.id ∈ kidsN n ∧ p.s = []) := by
  obtain ⟨_, hk, hc⟩ := hg
  have h0 : ∀ k ∈ kidsN n, 0 ≤ k := fun k h => (isN_iff.1 (hk k h)).1
  have T : ∀ s : Bt, s ≠ [] → ((tP s).id < 0 ∧ (tP s).s ≠ []) ∨ (0 ≤ (tP s).id ∧ (tP s).id ∈ kidsN n ∧ (tP s).s = []) := fun s hs => .inl ⟨by show (-1 : Int) < 0; omega, hs⟩
  have I : ∀ k ∈ kidsN n, ((iP k).id < 0 ∧ (iP k).s ≠ []) ∨ (0 ≤ (iP k).id ∧ (iP k).id ∈ kidsN n ∧ (iP k).s = []) := fun k h => .inr ⟨h0 k h, h, rfl⟩
  intro p hp
  unfold pcsN at hp
  by_cases e20 : n.op = 20
  · rw [if_pos e20] at hp
    simp only [List.mem_singleton] at hp; subst hp
    exact T _ (by simp)
  rw [if_neg e20] at hp
  by_cases e21 : n.op = 21
  · rw [if_pos e21] at hp
    simp only [List.mem_singleton] at hp; subst hp
    exact T _ (by simp)
  rw [if_neg e21] at hp
  have hkd : kidsN n = if n.op = 22 then [n.a, n.b, n.c] else if n.op ≤ 14 ∨ n.op = 24 then [n.a, n.b] else [n.a] := by
    unfold kidsN; rw [if_neg (by omega)]
  by_cases e12 : n.op = 12 ∨ n.op = 13 ∨ n.op = 14
  · rw [if_pos e12] at hp
    rw [if_neg (by omega), if_pos (by omega)] at hkd
    simp only [List.mem_cons, List.not_mem_nil, or_false] at hp
    rcases hp with rfl | rfl | rfl | rfl | rfl
    · exact T _ (by simp)
    · exact I _ (by rw [hkd]; simp)
    · exact T _ (by simp)
    · exact I _ (by rw [hkd]; simp)
    · exact T _ (by simp)
  rw [if_neg e12] at hp
  by_cases e15 : n.op = 15 ∨ n.op = 16
  · rw [if_pos e15] at hp
    rw [if_neg (by omega), if_neg (by omega)] at hkd
    simp only [List.mem_cons, List.not_mem_nil, or_false] at hp
    rcases hp with rfl | rfl | rfl
    · exact T _ (by simp)
    · exact I _ (by rw [hkd]; simp)
    · exact T _ (by simp)
  rw [if_neg e15] at hp
  by_cases e22 : n.op = 22
  · rw [if_pos e22] at hp
    rw [if_pos e22] at hkd
    simp only [List.mem_cons, List.not_mem_nil, or_false] at hp
    rcases hp with rfl | rfl | rfl | rfl | rfl | rfl | rfl
    · exact T _ (by simp)
    · exact I _ (by rw [hkd]; simp)
    · exact T _ (by simp)
    · exact I _ (by rw [hkd]; simp)
    · exact T _ (by simp)
    · exact I _ (by rw [hkd]; simp)
    · exact T _ (by simp)
  rw [if_neg e22] at hp
  by_cases e23 : n.op = 23 ∨ n.op = 25 ∨ n.op = 26
  · rw [if_neg (by omega), if_neg (by omega)] at hkd
    have hp : ∃ s, s ≠ [] ∧ p ∈ [tP s, iP n.a, tP (([41] : List UInt8))] := by
      rcases e23 with e | e | e
      · rw [if_pos e] at hp; exact ⟨_, by simp, hp⟩
      · rw [if_neg (by omega), if_pos e] at hp; exact ⟨_, by simp, hp⟩
      · rw [if_neg (by omega), if_neg (by omega), if_pos e] at hp; exact ⟨_, by simp, hp⟩
    obtain ⟨s, hs, hp⟩ := hp
    simp only [List.mem_cons, List.not_mem_nil, or_false] at hp
    rcases hp with rfl | rfl | rfl
    · exact T _ hs
    · exact I _ (by rw [hkd]; simp)
    · exact T _ (by simp)
  rw [if_neg (by omega), if_neg (by omega), if_neg (by omega)] at hp
  rw [if_neg (by omega), if_pos (by omega)] at hkd
  simp only [List.mem_cons, List.not_mem_nil, or_false] at hp
  rcases hp with rfl | rfl | rfl | rfl | rfl
  · exact T _ (by simp)
  · exact I _ (by rw [hkd]; simp)
  · exact T _ (by simp)
  · exact I _ (by rw [hkd]; simp)
  · exact T _ (by simp)
theorem pcs_len (N : List Nd) (n : Nd) : 1 ≤ (pcsN N n).length ∧ (pcsN N n).length ≤ 7 ∧ ∃ s r, pcsN N n = tP s :: r := by
  unfold pcsN
  repeat' (first | exact ⟨by simp, by simp, _, _, rfl⟩ | split)
theorem txtN_eq {N : List Nd} {i : Nat} {n : Nd} (hG : GoodN N) (h : N[i]? = some n) : txtN N i = oneB N n (txtN N) := by
  have hlt := (List.getElem?_eq_some_iff.1 h).1
  show (txsN N ((i : Int).toNat + 1)).getD (i : Int).toNat [] = _
  rw [Int.toNat_natCast]
  rw [show txsN N (i + 1) = txsN N i ++ [oneB N n (fun k => (txsN N i).getD k.toNat [])] by
    simp only [txsN, h]]
  rw [List.getD_eq_getElem?_getD, List.getElem?_append_right (by rw [txsN_len]; omega), txsN_len, Nat.sub_self]
  simp only [List.getElem?_cons_zero, Option.getD_some]
  unfold oneB
  have hg := hG i n h
  refine flatMap_congr' fun p hp => ?_
  rcases pcs_kids (N := N) hg p hp with ⟨h1, _⟩ | ⟨h1, h2, _⟩
  · unfold rendP; rw [if_pos h1, if_pos h1]
  · unfold rendP; rw [if_neg (by omega), if_neg (by omega)]
    have h3 := isN_iff.1 (hg.2.1 _ h2)
    rw [List.length_take] at h3
    have := txsN_get N i p.id.toNat (by omega)
    show (txsN N i).getD p.id.toNat [] = txtN N p.id
    rw [this, Int.toNat_of_nonneg h1]
where
  flatMap_congr' {α β : Type} {l : List α} {f g : α → List β} (h : ∀ x ∈ l, f x = g x) : l.flatMap f = l.flatMap g := by
    induction l with
    | nil => rfl
    | cons x l ih => rw [List.flatMap_cons, List.flatMap_cons, h x List.mem_cons_self, ih (fun y hy => h y (List.mem_cons_of_mem _ hy))]
/-- A part's text is no longer. -/
theorem kid_le {N : List Nd} {i : Nat} {n : Nd} (hG : GoodN N) (h : N[i]? = some n) {k : Int} (hk : ∃ p ∈ pcsN N n, p.id = k ∧ 0 ≤ k) : (txtN N k).length ≤ (txtN N i).length := by
  obtain ⟨p, hp, rfl, h0⟩ := hk
  rw [txtN_eq hG h]
  unfold oneB
  rw [List.length_flatMap]
  have : (rendP (txtN N) p).length ≤ ((pcsN N n).map (fun a => (rendP (txtN N) a).length)).sum := le_sum' (f := fun a => (rendP (txtN N) a).length) hp
  unfold rendP at this
  rw [if_neg (by omega)] at this
  exact this
where
  le_sum' {l : List Pc} {f : Pc → Nat} {p : Pc} (h : p ∈ l) : f p ≤ (l.map f).sum := by
    induction l with
    | nil => simp at h
    | cons x l ih =>
      simp only [List.map_cons, List.sum_cons]
      rcases List.mem_cons.1 h with rfl | h
      · omega
      · have := ih h; omega
def smtN (N : List Nd) (i : Int) : Bt × Int := if isN N i = false then ([], 11) else if (txtN N i).length ≤ 4096 then (txtN N i, 0) else ([], 8)
end Go.Proofs.Ythkkjjbjpbgcpaa
