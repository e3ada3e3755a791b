import Derived.Test.YtgbodhibflpgmaaRup07
namespace Go.Proofs.Ytgbodhibflpgmaa
open Go.Mw
set_option linter.unusedVariables false
set_option linter.unusedSimpArgs false
set_option maxRecDepth 100000
attribute [local irreducible] M.val M.unit M.next M.pick M.new M.nilCheck M.load1 M.loadA M.store M.fieldAddr M.indexSl M.indexArr M.slice M.makeSlice M.buildSlice M.len M.lenS M.cap M.append M.extract M.conv M.not M.neg M.bin M.shift M.eqB M.eqNil M.call M.callv M.gd M.share M.cond M.loop M.draw pureW readW Ret
/-! ### plain laws of proofs -/
theorem not_bot {l : List (List Int)} {set : List Int} {m : List Bool} (hl : ∀ c ∈ l, c.any (holdsL m) = true) (hs : ∀ x ∈ set, ¬ x < 0 → holdsL m x = true) : ¬ Bot l set := by
  have key : ∀ x, Fol l set x → holdsL m x = true := fun x hx => by
    have := hx.mono (l' := l) (set' := set.filter (fun x => decide (¬ x < 0))) (fun _ h => h) (fun y hy h0 => .base y (List.mem_filter.2 ⟨hy, by simpa using h0⟩) h0)
    refine fol_holds hl (fun y hy => ?_) this
    obtain ⟨h1, h2⟩ := List.mem_filter.1 hy
    exact hs y h1 (by simpa using h2)
  rintro (⟨x, h1, h2⟩ | ⟨c, h1, h2⟩)
  · have a := key x h1
    have b := key _ h2
    rw [holds_notOf h1.nonneg, a] at b
    simp at b
  · obtain ⟨y, hy, hm⟩ := List.any_eq_true.1 (hl c h1)
    have h0 := holds_nonneg hm
    have b := key _ (h2 y hy h0)
    rw [holds_notOf h0, hm] at b
    simp at b
/-- What follows at once holds. -/
theorem RupB.holds {l : List (List Int)} {c : List Int} {m : List Bool} (h : RupB l c) (hl : ∀ c ∈ l, c.any (holdsL m) = true) : c.any (holdsL m) = true := by
  cases hc : c.any (holdsL m) with
  | true => rfl
  | false =>
    exfalso
    refine not_bot hl (fun x hx h0 => ?_) h
    obtain ⟨y, hy, rfl⟩ := List.mem_map.1 hx
    have hy0 : ¬ y < 0 := by
      intro hy0
      apply h0
      unfold notOf flip1
      rw [if_pos hy0]; exact hy0
    rw [List.any_eq_false] at hc
    have := hc y hy
    rw [holds_notOf hy0]
    simpa using this
theorem rups_hold {l proof : List (List Int)} {m : List Bool} (hl : ∀ c ∈ l, c.any (holdsL m) = true) : ∀ (i : Nat), i ≤ proof.length → (∀ (j : Nat) c, j < i → proof[j]? = some c → RupB (l ++ proof.take j) c) → ∀ c ∈ proof.take i, c.any (holdsL m) = true
  | 0, _, _ => by simp
  | i + 1, hi, h => fun c hc => by
    have ih := rups_hold hl i (by omega) (fun j c hj => h j c (by omega))
    have hget : proof[i]? = some proof[i] := List.getElem?_eq_getElem (by omega)
    rcases (mem_take_succ hget).1 hc with hc | rfl
    · exact ih c hc
    · refine (h i _ (by omega) hget).holds (fun d hd => ?_)
      rcases List.mem_append.1 hd with hd | hd
      · exact hl d hd
      · exact ih d hd
theorem CheckR.holds {l proof : List (List Int)} {n : Int} {m : List Bool} (h : CheckR l proof n) (hl : ∀ c ∈ l, c.any (holdsL m) = true) (i : Nat) (hi : i < proof.length) (hn : n < 0 ∨ (i : Int) < n) {c : List Int} (hc : proof[i]? = some c) : c.any (holdsL m) = true := by
  have hm : c ∈ proof.take (i + 1) := by
    rw [List.take_add_one, hc]; simp
  refine rups_hold hl (i + 1) (by omega) (fun j d hj hd => ?_) c hm
  rcases h with ⟨_, h1⟩ | ⟨k, rfl, h1, _⟩
  · exact h1 j d hd
  · exact h1 j d (by omega) hd
/-- What Refutes tells. -/
def RefutesP (l proof : List (List Int)) : Prop := proof.any (fun c => c.isEmpty) = true ∧ CheckR l proof (-1)
theorem CheckR.neg {l proof : List (List Int)} {n : Int} (h : CheckR l proof n) : n < 0 ↔ CheckR l proof (-1) := by
  constructor
  · intro hn
    rcases h with ⟨rfl, h1⟩ | ⟨k, rfl, _⟩
    · exact .inl ⟨rfl, h1⟩
    · omega
  · intro h'
    rw [h.uniq h']; decide
theorem RefutesP.no {l proof : List (List Int)} {m : List Bool} (h : RefutesP l proof) (hl : ∀ c ∈ l, c.any (holdsL m) = true) : False := by
  obtain ⟨h1, h2⟩ := h
  obtain ⟨c, hc, he⟩ := List.any_eq_true.1 h1
  obtain ⟨i, hi⟩ := List.mem_iff_getElem?.1 hc
  have := h2.holds hl i (List.getElem?_eq_some_iff.1 hi).1 (.inl (by decide)) hi
  rw [List.isEmpty_iff] at he
  subst he
  simp at this
/-- A slice of lists that may be appended to: own, or without room. -/
def GS (w : World) (D L : Nat → Prop) (v : Value) (us : List Value) : Prop := GC w L 1 v us.length us ∨ ∃ A, v = .slice A us.length us.length ∧ Row w D A us
theorem M.appendS_i {k : Kt} {w : World} {el c m : Nat} {zero : Array Value} {D D' L : Nat → Prop} {v y : Value} {us : List Value} {B : Option Addr} (h : GS w D L v us) (hr : Row w D' B [y]) (hy : y.oneCell' = true) (hz : zero.size = 1) (hm : m = 1) (hb : us.length ≤ 1000000)
    (hk : ∀ v' w', GC w' (fun b => L b ∨ w.heap.size ≤ b) 1 v' (us ++ [y]).length (us ++ [y]) → Keep w w' L → k v' w') : M.append el 1 24 zero v (.slice B m c) k w := by
  subst hm
  rcases h with h | ⟨A, rfl, hA⟩
  · exact M.append_i h hr rfl (by simpa using hy) hz (by omega) (by omega) (fun v' w' g k' => hk v' w' (by simpa using g) k')
  · unfold M.append
    refine ⟨[y], hr.srcL rfl, ?_⟩
    rw [if_neg (by omega)]
    have hn := Go.Mw.nextslicecap_le (n := us.length + 1) (c := us.length) (by omega)
    refine ⟨⟨Nat.le_trans (Nat.mul_le_mul_right 24 hn) (by omega), by omega⟩, us, hA.srcL (by omega), fun c' h1 h2 => ?_⟩
    refine hk _ _ ⟨by simp, .inr ⟨_, c', (Builtin.zeroCells zero (c' - (us.length + 1))).toList, by simp, .inr (Nat.le_refl _), ?_, ?_⟩⟩ ?_
    · have := Blk.alloc w.drew (us ++ [y] ++ (Builtin.zeroCells zero (c' - (us.length + 1))).toList) el
      simpa using this
    · have e1 : (Builtin.zeroCells zero (c' - (us.length + 1))).toList.length = c' - (us.length + 1) := by simp [Builtin.zeroCells, hz]
      rw [e1]; simp; omega
    · exact ((Keep.drew w L).trans (Keep.alloc w.drew _ L) (fun _ _ h => h))
end Go.Proofs.Ytgbodhibflpgmaa
