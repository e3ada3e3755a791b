import Derived.Test.YtanjlgafjgoaaaaSym36d
namespace Go.Proofs.Ytanjlgafjgoaaaa
open Go.Mw
set_option linter.unusedVariables false
set_option linter.unusedSimpArgs false
set_option maxRecDepth 100000
attribute [local irreducible] M.val M.unit M.next M.pick M.new M.nilCheck M.load1 M.loadA M.store M.fieldAddr M.indexSl M.indexArr M.slice M.makeSlice M.buildSlice M.len M.lenS M.cap M.append M.extract M.conv M.not M.neg M.bin M.shift M.eqB M.eqNil M.scat M.call M.callv M.gd M.share M.cond M.loop M.draw pureW readW Ret
theorem cut64 (x : W64) : cutW 64 x = x := by
  have : maskW 64 = BitVec.allOnes 64 := by decide
  unfold cutW; rw [this, BitVec.and_allOnes]
/-- A word's term. -/
theorem const_at {most : Int} {N : List Nd} (hG : GoodN N) (hl : (N.length : Int) < most) (x : W64) :
    (constN most N 64 x).2.2 = 0 ∧ (∃ k : Nat, (constN most N 64 x).2.1 = k ∧ (constN most N 64 x).1[k]? = some ⟨20, 64, 0, 0, 0, x⟩) ∧ (∃ M, (constN most N 64 x).1 = N ++ M) ∧ GoodN (constN most N 64 x).1 ∧ (constN most N 64 x).1.length ≤ N.length + 1 := by
  have hg := (ask_const (most := most) hG 64 x).good
  have hp := (ask_const (most := most) hG 64 x).pre
  refine ⟨?_, ?_, hp, hg, ?_⟩ <;> clear hg hp
  all_goals
    unfold constN
    rw [if_pos (by decide), cut64]
    unfold madeN
  · split
    · rfl
    · rw [if_neg (by omega)]
  · split
    · rename_i hm
      refine ⟨_, rfl, ?_⟩
      have := List.idxOf_lt_length_of_mem hm
      show N[N.idxOf _]? = _
      rw [List.getElem?_eq_getElem this, List.getElem_idxOf]
    · rw [if_neg (by omega)]
      exact ⟨N.length, rfl, by simp⟩
  · split
    · exact Nat.le_succ _
    · rw [if_neg (by omega)]; simp
theorem valW_const {N : List Nd} {env : List W64} (hG : GoodN N) {k : Nat} {x : W64} (h : N[k]? = some ⟨20, 64, 0, 0, 0, x⟩) : valW N env k = x ∧ isN N k = true := by
  have hl := (List.getElem?_eq_some_iff.1 h).1
  have hi : isN N k = true := isN_iff.2 ⟨by omega, by omega⟩
  unfold valW
  rw [hi, if_pos rfl, wordAt_one hG h, oneV_const rfl]
  exact ⟨rfl, rfl⟩
def constIds (N : List Nd) (ids : List Int) (xs : List W64) : Prop := ids.length = xs.length ∧ ∀ (i : Nat) id x, ids[i]? = some id → xs[i]? = some x → ∃ k : Nat, id = k ∧ N[k]? = some ⟨20, 64, 0, 0, 0, x⟩
theorem constIds.ext {N M : List Nd} {ids : List Int} {xs : List W64} (h : constIds N ids xs) : constIds (N ++ M) ids xs :=
  ⟨h.1, fun i id x h1 h2 => by
    obtain ⟨k, rfl, hk⟩ := h.2 i id x h1 h2
    exact ⟨k, rfl, by rw [List.getElem?_append_left (List.getElem?_eq_some_iff.1 hk).1]; exact hk⟩⟩
theorem constIds.vals {N : List Nd} {ids : List Int} {xs : List W64} (h : constIds N ids xs) (hG : GoodN N) (env : List W64) : ids.map (valW N env) = xs ∧ ids.any (fun i => !isN N i) = false := by
  have key : ∀ (i : Nat) id x, ids[i]? = some id → xs[i]? = some x → valW N env id = x ∧ isN N id = true := fun i id x h1 h2 => by
    obtain ⟨k, rfl, hk⟩ := h.2 i id x h1 h2
    exact valW_const hG hk
  constructor
  · apply List.ext_getElem?
    intro i
    rw [List.getElem?_map]
    by_cases hi : i < ids.length
    · have hx : i < xs.length := by rw [← h.1]; exact hi
      rw [List.getElem?_eq_getElem hi, List.getElem?_eq_getElem hx]
      simp only [Option.map_some]
      rw [(key i _ _ (List.getElem?_eq_getElem hi) (List.getElem?_eq_getElem hx)).1]
    · rw [List.getElem?_eq_none (by omega), List.getElem?_eq_none (by have := h.1; omega)]; rfl
  · rw [List.any_eq_false]
    intro id hid
    obtain ⟨i, hi, rfl⟩ := List.mem_iff_getElem.1 hid
    have hx : i < xs.length := by rw [← h.1]; exact hi
    rw [(key i _ _ (List.getElem?_eq_getElem hi) (List.getElem?_eq_getElem hx)).2]
    simp
theorem devN_spec {most : Int} : ∀ (xs : List W64) (N : List Nd) (acc : List Int) (ys : List W64), GoodN N → ((N.length + xs.length : Nat) : Int) ≤ most → constIds N acc ys →
    (devN most N xs acc).2.2 = 0 ∧ GoodN (devN most N xs acc).1 ∧ (devN most N xs acc).1.length ≤ N.length + xs.length ∧ constIds (devN most N xs acc).1 (devN most N xs acc).2.1 (ys ++ xs)
  | [], N, acc, ys, hG, hl, ha => ⟨rfl, hG, by simp [devN], by rw [List.append_nil]; exact ha⟩
  | x :: xs, N, acc, ys, hG, hl, ha => by
    have hl' : ((N.length + (xs.length + 1) : Nat) : Int) ≤ most := hl
    obtain ⟨h1, ⟨k, hk, hk2⟩, ⟨M, hM⟩, h4, h5⟩ := const_at (most := most) hG (by omega) x
    rw [devN, if_pos h1]
    have ha' : constIds (constN most N 64 x).1 (acc ++ [(constN most N 64 x).2.1]) (ys ++ [x]) := by
      have hx := ha.ext (M := M)
      rw [← hM] at hx
      refine ⟨by simp [hx.1], fun i id y g1 g2 => ?_⟩
      by_cases hi : i < acc.length
      · rw [List.getElem?_append_left hi] at g1
        rw [List.getElem?_append_left (by rw [← hx.1]; exact hi)] at g2
        exact hx.2 i id y g1 g2
      · have e : i = acc.length := by
          have := (List.getElem?_eq_some_iff.1 g1).1
          simp at this; omega
        subst e
        rw [List.getElem?_append_right (Nat.le_refl _), Nat.sub_self] at g1
        rw [List.getElem?_append_right (by rw [hx.1]; exact Nat.le_refl _), hx.1, Nat.sub_self] at g2
        simp at g1 g2
        subst g1 g2
        exact ⟨k, hk, hk2⟩
    obtain ⟨r1, r2, r3, r4⟩ := devN_spec (most := most) xs (constN most N 64 x).1 (acc ++ [(constN most N 64 x).2.1]) (ys ++ [x]) h4 (by omega) ha'
    refine ⟨r1, r2, by simp only [List.length_cons]; omega, ?_⟩
    rw [List.append_assoc] at r4
    exact r4
end Go.Proofs.Ytanjlgafjgoaaaa
