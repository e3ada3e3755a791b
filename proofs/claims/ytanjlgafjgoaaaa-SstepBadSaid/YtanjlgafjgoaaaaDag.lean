import Derived.Test.YtanjlgafjgoaaaaWord
import Derived.Test.YtanjlgafjgoaaaaMapG
namespace Go.Proofs.Ytanjlgafjgoaaaa
open Go.Mw
set_option linter.unusedVariables false
set_option linter.unusedSimpArgs false
set_option maxRecDepth 100000
attribute [local irreducible] M.val M.unit M.next M.pick M.new M.nilCheck M.load1 M.loadA M.store M.fieldAddr M.indexSl M.indexArr M.slice M.makeSlice M.buildSlice M.len M.lenS M.cap M.append M.extract M.conv M.not M.neg M.bin M.shift M.eqB M.eqNil M.scat M.call M.callv M.gd M.share M.cond M.loop M.draw pureW readW Ret
/-! ### terms: plain -/
structure Nd where
  op : Int
  wd : Int
  a : Int
  b : Int
  c : Int
  val : W64
deriving DecidableEq
def Nd.cells (n : Nd) : List Value := [vi n.op, vi n.wd, vi n.a, vi n.b, vi n.c, vw n.val]
abbrev encN (n : Nd) : Value := .agg ⟨n.cells⟩
abbrev NL (N : List Nd) : List Value := N.flatMap Nd.cells
def Nd.Ok (n : Nd) : Prop := I64 n.op ∧ I64 n.wd ∧ I64 n.a ∧ I64 n.b ∧ I64 n.c
def isN (N : List Nd) (i : Int) : Bool := decide (0 ≤ i ∧ i < N.length)
def wdN (N : List Nd) (i : Int) : Int := if isN N i then ((N[i.toNat]?).map Nd.wd).getD 0 else 0
/-- A term, once. -/
def madeN (most : Int) (N : List Nd) (n : Nd) : List Nd × Int × Int :=
  if n ∈ N then (N, (N.idxOf n : Int), 0) else if most ≤ N.length then (N, 0, 8) else (N ++ [n], N.length, 0)
def constN (most : Int) (N : List Nd) (w : Int) (x : W64) : List Nd × Int × Int := if fitsB w then madeN most N ⟨20, w, 0, 0, 0, cutW w x⟩ else (N, 0, 2)
def otherW (N : List Nd) (w i : Int) : Bool := N.any (fun n => decide (n.op = 21) && decide (n.a = i) && decide (n.wd ≠ w))
def varN (most : Int) (N : List Nd) (w i : Int) : List Nd × Int × Int :=
  if fitsB w = false then (N, 0, 2) else if i < 0 ∨ 255 < i then (N, 0, 10) else if otherW N w i then (N, 0, 2) else madeN most N ⟨21, w, i, 0, 0, 0⟩
def unaryN (most : Int) (N : List Nd) (op a : Int) : List Nd × Int × Int :=
  if op ≠ 15 ∧ op ≠ 16 then (N, 0, 3) else if isN N a = false then (N, 0, 11) else madeN most N ⟨op, wdN N a, a, 0, 0, 0⟩
def binaryN (most : Int) (N : List Nd) (op a b : Int) : List Nd × Int × Int :=
  if op < 1 ∨ 14 < op then (N, 0, 3) else if isN N a = false ∨ isN N b = false then (N, 0, 11) else if wdN N a ≠ wdN N b then (N, 0, 2)
  else madeN most N ⟨op, if 12 ≤ op then 1 else wdN N a, a, b, 0, 0⟩
def iteN (most : Int) (N : List Nd) (c a b : Int) : List Nd × Int × Int :=
  if isN N c = false ∨ isN N a = false ∨ isN N b = false then (N, 0, 11) else if wdN N c ≠ 1 ∨ wdN N a ≠ wdN N b then (N, 0, 2)
  else madeN most N ⟨22, wdN N a, c, a, b, 0⟩
def extractN (most : Int) (N : List Nd) (a lo w : Int) : List Nd × Int × Int :=
  if isN N a = false then (N, 0, 11) else if w < 1 ∨ lo < 0 ∨ wdN N a < w ∨ wdN N a - w < lo then (N, 0, 2) else madeN most N ⟨23, w, a, lo, 0, 0⟩
def concatN (most : Int) (N : List Nd) (a b : Int) : List Nd × Int × Int :=
  if isN N a = false ∨ isN N b = false then (N, 0, 11) else if 64 < wdN N a + wdN N b then (N, 0, 2) else madeN most N ⟨24, wdN N a + wdN N b, a, b, 0, 0⟩
def extendN (most : Int) (N : List Nd) (a w : Int) (signed : Bool) : List Nd × Int × Int :=
  if isN N a = false then (N, 0, 11) else if w < wdN N a ∨ 64 < w then (N, 0, 2) else if w = wdN N a then (N, a, 0)
  else madeN most N ⟨if signed then 26 else 25, w, a, 0, 0, 0⟩
/-- What terms are made of, and how wide they are. -/
def kidsN (n : Nd) : List Int := if n.op = 20 ∨ n.op = 21 then [] else if n.op = 22 then [n.a, n.b, n.c] else if n.op ≤ 14 ∨ n.op = 24 then [n.a, n.b] else [n.a]
def goodN (N : List Nd) (n : Nd) : Prop := (1 ≤ n.wd ∧ n.wd ≤ 64) ∧ (∀ k ∈ kidsN n, isN N k = true) ∧
  ((n.op = 20 ∧ n.a = 0 ∧ n.b = 0 ∧ n.c = 0 ∧ cutW n.wd n.val = n.val) ∨ (n.op = 21 ∧ 0 ≤ n.a ∧ n.a ≤ 255 ∧ n.b = 0 ∧ n.c = 0 ∧ n.val = 0) ∨
   ((n.op = 15 ∨ n.op = 16) ∧ n.wd = wdN N n.a ∧ n.b = 0 ∧ n.c = 0 ∧ n.val = 0) ∨
   (1 ≤ n.op ∧ n.op ≤ 14 ∧ wdN N n.a = wdN N n.b ∧ n.wd = (if 12 ≤ n.op then 1 else wdN N n.a) ∧ n.c = 0 ∧ n.val = 0) ∨
   (n.op = 22 ∧ wdN N n.a = 1 ∧ wdN N n.b = wdN N n.c ∧ n.wd = wdN N n.b ∧ n.val = 0) ∨
   (n.op = 23 ∧ 0 ≤ n.b ∧ n.b ≤ 64 ∧ n.b + n.wd ≤ wdN N n.a ∧ n.c = 0 ∧ n.val = 0) ∨
   (n.op = 24 ∧ n.wd = wdN N n.a + wdN N n.b ∧ n.c = 0 ∧ n.val = 0) ∨
   ((n.op = 25 ∨ n.op = 26) ∧ wdN N n.a < n.wd ∧ n.b = 0 ∧ n.c = 0 ∧ n.val = 0))
def GoodN (N : List Nd) : Prop := ∀ (i : Nat) n, N[i]? = some n → goodN (N.take i) n
theorem isN_iff {N : List Nd} {i : Int} : isN N i = true ↔ 0 ≤ i ∧ i < N.length := by simp [isN]
theorem isN_no {N : List Nd} {i : Int} : isN N i = false ↔ ¬ (0 ≤ i ∧ i < N.length) := by simp [isN]
theorem wdN_at {N : List Nd} {i : Nat} {n : Nd} (h : N[i]? = some n) : wdN N i = n.wd := by
  have := (List.getElem?_eq_some_iff.1 h).1
  unfold wdN
  rw [if_pos (isN_iff.2 ⟨by omega, by omega⟩), Int.toNat_natCast, h]; rfl
theorem wdN_none {N : List Nd} {i : Int} (h : isN N i = false) : wdN N i = 0 := by
  unfold wdN
  rw [h]; rfl
theorem isN_get {N : List Nd} {i : Int} (h : isN N i = true) : ∃ (j : Nat) (n : Nd), i = j ∧ N[j]? = some n := by
  obtain ⟨h0, h1⟩ := isN_iff.1 h
  exact ⟨i.toNat, N[i.toNat]'(by omega), by omega, List.getElem?_eq_getElem (by omega)⟩
theorem GoodN.wd {N : List Nd} (h : GoodN N) {i : Int} (hi : isN N i = true) : 1 ≤ wdN N i ∧ wdN N i ≤ 64 := by
  obtain ⟨j, n, rfl, hj⟩ := isN_get hi
  rw [wdN_at hj]
  exact (h j n hj).1
theorem isN_take {N : List Nd} {i : Int} {j : Nat} (h : isN (N.take j) i = true) : isN N i = true := by
  rw [isN_iff] at h ⊢
  rw [List.length_take] at h; omega
theorem wdN_take {N : List Nd} {i : Int} {j : Nat} (h : isN (N.take j) i = true) : wdN (N.take j) i = wdN N i := by
  have h' := isN_take h
  rw [isN_iff, List.length_take] at h
  obtain ⟨k, n, rfl, hk⟩ := isN_get h'
  have : (N.take j)[k]? = some n := by rw [List.getElem?_take, if_pos (by omega)]; exact hk
  rw [wdN_at hk, wdN_at this]
theorem GoodN.snoc {N : List Nd} {n : Nd} (h : GoodN N) (hn : goodN N n) : GoodN (N ++ [n]) := fun i m hm => by
  by_cases hi : i < N.length
  · rw [List.getElem?_append_left hi] at hm
    rw [List.take_append_of_le_length (by omega)]
    exact h i m hm
  · rw [List.getElem?_append_right (by omega)] at hm
    have hl := (List.getElem?_eq_some_iff.1 hm).1
    simp only [List.length_singleton] at hl
    have e : i = N.length := by omega
    subst e
    simp at hm; subst hm
    simpa using hn
/-- What an asking leaves. -/
structure AskR (most : Int) (N : List Nd) (r : List Nd × Int × Int) : Prop where
  good : GoodN r.1
  len : (r.1.length : Int) ≤ most ∨ r.1 = N
  pre : ∃ l, r.1 = N ++ l
  id : 0 ≤ r.2.1 ∧ (r.2.2 = 0 → isN r.1 r.2.1 = true)
theorem ask_no {most : Int} {N : List Nd} {e : Int} (h : GoodN N) (he : e ≠ 0) : AskR most N (N, 0, e) := ⟨h, .inr rfl, ⟨[], by simp⟩, by show (0 : Int) ≤ 0; omega, fun h => absurd h he⟩
theorem ask_made {most : Int} {N : List Nd} {n : Nd} (h : GoodN N) (hn : goodN N n) : AskR most N (madeN most N n) := by
  unfold madeN
  split
  · rename_i hm
    refine ⟨h, .inr rfl, ⟨[], by simp⟩, Int.natCast_nonneg _, fun _ => ?_⟩
    rw [isN_iff]
    have := List.idxOf_lt_length_of_mem hm
    show (0 : Int) ≤ (N.idxOf n : Int) ∧ (N.idxOf n : Int) < (N.length : Int)
    omega
  · split
    · exact ask_no h (by decide)
    · refine ⟨h.snoc hn, .inl ?_, ⟨[n], rfl⟩, Int.natCast_nonneg _, fun _ => ?_⟩
      · show ((N ++ [n]).length : Int) ≤ most
        rw [List.length_append, List.length_singleton]; omega
      · rw [isN_iff]
        show (0 : Int) ≤ (N.length : Int) ∧ (N.length : Int) < ((N ++ [n]).length : Int)
        rw [List.length_append, List.length_singleton]; omega
theorem ask_const {most : Int} {N : List Nd} (h : GoodN N) (w : Int) (x : W64) : AskR most N (constN most N w x) := by
  unfold constN
  split
  · rename_i hf
    obtain ⟨m, rfl, h1, h2⟩ := fits_nat hf
    refine ask_made h ⟨by show 1 ≤ (m : Int) ∧ (m : Int) ≤ 64; omega, by intro k hk; simp [kidsN] at hk, .inl ⟨rfl, rfl, rfl, rfl, ?_⟩⟩
    show cutW m (cutW m x) = cutW m x
    unfold cutW
    rw [BitVec.and_assoc, BitVec.and_self]
  · exact ask_no h (by decide)
theorem ask_var {most : Int} {N : List Nd} (h : GoodN N) (w i : Int) : AskR most N (varN most N w i) := by
  unfold varN
  split
  · exact ask_no h (by decide)
  · rename_i hf
    split
    · exact ask_no h (by decide)
    · rename_i hi
      split
      · exact ask_no h (by decide)
      · obtain ⟨m, rfl, h1, h2⟩ := fits_nat (by simpa using hf)
        exact ask_made h ⟨by show 1 ≤ (m : Int) ∧ (m : Int) ≤ 64; omega, by intro k hk; simp [kidsN] at hk, .inr (.inl ⟨rfl, by show 0 ≤ i; omega, by show i ≤ 255; omega, rfl, rfl, rfl⟩)⟩
theorem ask_unary {most : Int} {N : List Nd} (h : GoodN N) (op a : Int) : AskR most N (unaryN most N op a) := by
  unfold unaryN
  split
  · exact ask_no h (by decide)
  · rename_i ho
    split
    · exact ask_no h (by decide)
    · rename_i ha
      have ha : isN N a = true := by simpa using ha
      refine ask_made h ⟨h.wd ha, fun k hk => ?_, .inr (.inr (.inl ⟨by show op = 15 ∨ op = 16; omega, rfl, rfl, rfl, rfl⟩))⟩
      unfold kidsN at hk
      rw [if_neg (by show ¬ (op = 20 ∨ op = 21); omega), if_neg (by show ¬ op = 22; omega), if_neg (by show ¬ (op ≤ 14 ∨ op = 24); omega)] at hk
      simp at hk; subst hk; exact ha
theorem ask_binary {most : Int} {N : List Nd} (h : GoodN N) (op a b : Int) : AskR most N (binaryN most N op a b) := by
  unfold binaryN
  split
  · exact ask_no h (by decide)
  · rename_i ho
    split
    · exact ask_no h (by decide)
    · rename_i hab
      split
      · exact ask_no h (by decide)
      · rename_i hw
        have ha : isN N a = true := by
          cases hh : isN N a
          · exact absurd (.inl hh) hab
          · rfl
        have hb : isN N b = true := by
          cases hh : isN N b
          · exact absurd (.inr hh) hab
          · rfl
        have hwa := h.wd ha
        refine ask_made h ⟨?_, fun k hk => ?_, .inr (.inr (.inr (.inl ⟨by show 1 ≤ op; omega, by show op ≤ 14; omega, by show wdN N a = wdN N b; omega, rfl, rfl, rfl⟩)))⟩
        · show 1 ≤ (if 12 ≤ op then (1 : Int) else wdN N a) ∧ (if 12 ≤ op then (1 : Int) else wdN N a) ≤ 64
          split <;> omega
        · unfold kidsN at hk
          rw [if_neg (by show ¬ (op = 20 ∨ op = 21); omega), if_neg (by show ¬ op = 22; omega), if_pos (by show op ≤ 14 ∨ op = 24; omega)] at hk
          simp at hk
          rcases hk with rfl | rfl
          · exact ha
          · exact hb
theorem ask_ite {most : Int} {N : List Nd} (h : GoodN N) (c a b : Int) : AskR most N (iteN most N c a b) := by
  unfold iteN
  split
  · exact ask_no h (by decide)
  · rename_i hab
    split
    · exact ask_no h (by decide)
    · rename_i hw
      have hc : isN N c = true := by
        cases hh : isN N c
        · exact absurd (.inl hh) hab
        · rfl
      have ha : isN N a = true := by
        cases hh : isN N a
        · exact absurd (.inr (.inl hh)) hab
        · rfl
      have hb : isN N b = true := by
        cases hh : isN N b
        · exact absurd (.inr (.inr hh)) hab
        · rfl
      refine ask_made h ⟨h.wd ha, fun k hk => ?_, .inr (.inr (.inr (.inr (.inl ⟨rfl, by show wdN N c = 1; omega, by show wdN N a = wdN N b; omega, rfl, rfl⟩))))⟩
      simp [kidsN] at hk
      rcases hk with rfl | rfl | rfl
      · exact hc
      · exact ha
      · exact hb
theorem ask_extract {most : Int} {N : List Nd} (h : GoodN N) (a lo w : Int) : AskR most N (extractN most N a lo w) := by
  unfold extractN
  split
  · exact ask_no h (by decide)
  · rename_i ha
    split
    · exact ask_no h (by decide)
    · rename_i hw
      have ha : isN N a = true := by simpa using ha
      have hwa := h.wd ha
      refine ask_made h ⟨by show 1 ≤ w ∧ w ≤ 64; omega, fun k hk => ?_, .inr (.inr (.inr (.inr (.inr (.inl ⟨rfl, by show 0 ≤ lo; omega, by show lo ≤ 64; omega, by show lo + w ≤ wdN N a; omega, rfl, rfl⟩)))))⟩
      simp [kidsN] at hk
      subst hk; exact ha
theorem ask_concat {most : Int} {N : List Nd} (h : GoodN N) (a b : Int) : AskR most N (concatN most N a b) := by
  unfold concatN
  split
  · exact ask_no h (by decide)
  · rename_i hab
    split
    · exact ask_no h (by decide)
    · rename_i hw
      have ha : isN N a = true := by
        cases hh : isN N a
        · exact absurd (.inl hh) hab
        · rfl
      have hb : isN N b = true := by
        cases hh : isN N b
        · exact absurd (.inr hh) hab
        · rfl
      have hwa := h.wd ha
      have hwb := h.wd hb
      refine ask_made h ⟨by show 1 ≤ wdN N a + wdN N b ∧ wdN N a + wdN N b ≤ 64; omega, fun k hk => ?_, .inr (.inr (.inr (.inr (.inr (.inr (.inl ⟨rfl, rfl, rfl, rfl⟩))))))⟩
      simp [kidsN] at hk
      rcases hk with rfl | rfl
      · exact ha
      · exact hb
theorem ask_extend {most : Int} {N : List Nd} (h : GoodN N) (a w : Int) (s : Bool) : AskR most N (extendN most N a w s) := by
  unfold extendN
  split
  · exact ask_no h (by decide)
  · rename_i ha
    have ha : isN N a = true := by simpa using ha
    have hwa := h.wd ha
    split
    · exact ask_no h (by decide)
    · rename_i hw
      split
      · refine ⟨h, .inr rfl, ⟨[], by simp⟩, ?_, fun _ => ha⟩
        exact (isN_iff.1 ha).1
      · refine ask_made h ⟨by show 1 ≤ w ∧ w ≤ 64; omega, fun k hk => ?_, .inr (.inr (.inr (.inr (.inr (.inr (.inr ⟨?_, ?_, rfl, rfl, rfl⟩))))))⟩
        · cases s <;> (simp [kidsN] at hk; subst hk; exact ha)
        · cases s
          · exact .inl rfl
          · exact .inr rfl
        · show wdN N a < w; omega
theorem goodN.ok {N : List Nd} {n : Nd} (h : goodN N n) (hN : N.length ≤ 1000000) : n.Ok := by
  obtain ⟨h1, h2, h3⟩ := h
  have hk : ∀ k ∈ kidsN n, I64 k := fun k hk => by
    have := isN_iff.1 (h2 k hk)
    exact ⟨by omega, by omega⟩
  have small : ∀ x : Int, -1000 ≤ x → x ≤ 1000 → I64 x := fun x h1 h2 => ⟨by omega, by omega⟩
  have hw := small n.wd (by omega) (by omega)
  rcases h3 with ⟨ho, ha, hb, hc, _⟩ | ⟨ho, ha, ha2, hb, hc, _⟩ | ⟨ho, _, hb, hc, _⟩ | ⟨ho, ho2, _, _, hc, _⟩ | ⟨ho, _⟩ | ⟨ho, hb, hb2, _, hc, _⟩ | ⟨ho, _, hc, _⟩ | ⟨ho, _, hb, hc, _⟩
  · exact ⟨small _ (by omega) (by omega), hw, small _ (by omega) (by omega), small _ (by omega) (by omega), small _ (by omega) (by omega)⟩
  · exact ⟨small _ (by omega) (by omega), hw, small _ (by omega) (by omega), small _ (by omega) (by omega), small _ (by omega) (by omega)⟩
  · have ha : I64 n.a := hk _ (by
      unfold kidsN
      rw [if_neg (by omega), if_neg (by omega), if_neg (by omega)]; simp)
    exact ⟨small _ (by omega) (by omega), hw, ha, small _ (by omega) (by omega), small _ (by omega) (by omega)⟩
  · have hab : kidsN n = [n.a, n.b] := by
      unfold kidsN
      rw [if_neg (by omega), if_neg (by omega), if_pos (by omega)]
    rw [hab] at hk
    exact ⟨small _ (by omega) (by omega), hw, hk _ (by simp), hk _ (by simp), small _ (by omega) (by omega)⟩
  · have hab : kidsN n = [n.a, n.b, n.c] := by
      unfold kidsN
      rw [if_neg (by omega), if_pos ho]
    rw [hab] at hk
    exact ⟨small _ (by omega) (by omega), hw, hk _ (by simp), hk _ (by simp), hk _ (by simp)⟩
  · have hab : kidsN n = [n.a] := by
      unfold kidsN
      rw [if_neg (by omega), if_neg (by omega), if_neg (by omega)]
    rw [hab] at hk
    exact ⟨small _ (by omega) (by omega), hw, hk _ (by simp), small _ (by omega) (by omega), small _ (by omega) (by omega)⟩
  · have hab : kidsN n = [n.a, n.b] := by
      unfold kidsN
      rw [if_neg (by omega), if_neg (by omega), if_pos (by omega)]
    rw [hab] at hk
    exact ⟨small _ (by omega) (by omega), hw, hk _ (by simp), hk _ (by simp), small _ (by omega) (by omega)⟩
  · have hab : kidsN n = [n.a] := by
      unfold kidsN
      rw [if_neg (by omega), if_neg (by omega), if_neg (by omega)]
    rw [hab] at hk
    exact ⟨small _ (by omega) (by omega), hw, hk _ (by simp), small _ (by omega) (by omega), small _ (by omega) (by omega)⟩
end Go.Proofs.Ytanjlgafjgoaaaa
