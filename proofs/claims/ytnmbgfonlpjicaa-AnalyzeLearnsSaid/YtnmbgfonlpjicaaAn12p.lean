import Derived.Test.YtnmbgfonlpjicaaW11n
namespace Go.Proofs.Ytnmbgfonlpjicaa
open Go.Mw
set_option linter.unusedVariables false
set_option linter.unusedSimpArgs false
set_option maxRecDepth 100000
attribute [local irreducible] M.val M.unit M.next M.pick M.new M.nilCheck M.load1 M.loadA M.store M.fieldAddr M.indexSl M.indexArr M.slice M.makeSlice M.buildSlice M.len M.lenS M.cap M.append M.extract M.conv M.not M.neg M.bin M.shift M.eqB M.eqNil M.call M.callv M.gd M.share M.cond M.loop M.draw pureW readW Ret
/-! ### what a conflict teaches: no program here -/
structure LS where
  met : List Int
  others : List Int
  left : Int
def meet1 (t : Tr) (m : LS) (x : Int) : LS :=
  if t.lev (varOf x) = 0 ∨ varOf x ∈ m.met then m
  else if t.lev (varOf x) = t.begins.length then ⟨m.met ++ [varOf x], m.others, m.left + 1⟩ else ⟨m.met ++ [varOf x], m.others ++ [x], m.left⟩
def meetL (t : Tr) (but : Int) : List Int → LS → LS × Bool
  | [], m => (m, true)
  | x :: c, m => if x = but ∧ 0 ≤ but then meetL t but c m else if t.val x ≠ -1 then (m, false) else meetL t but c (meet1 t m x)
def reasonL (t : Tr) (l : List (List Int)) (x : Int) : Option (List Int) :=
  if 0 ≤ t.rea (varOf x) then match l[(t.rea (varOf x)).toNat]? with
    | some c => if x ∈ c then some c else none
    | none => none
  else none
def lastL (t : Tr) (l : List (List Int)) : List Int → LS → LS × Option Int
  | [], m => (m, none)
  | x :: es, m => if varOf x ∉ m.met ∨ t.lev (varOf x) ≠ t.begins.length then lastL t l es m
    else if m.left = 1 then (m, some x)
    else match reasonL t l x with
      | none => (⟨m.met, m.others, m.left - 1⟩, none)
      | some c => if (meetL t x c ⟨m.met, m.others, m.left - 1⟩).2 then lastL t l es (meetL t x c ⟨m.met, m.others, m.left - 1⟩).1 else ((meetL t x c ⟨m.met, m.others, m.left - 1⟩).1, none)
def lessO (t : Tr) (a b : Int) : Bool := decide (t.lev (varOf b) < t.lev (varOf a)) || (decide (t.lev (varOf a) = t.lev (varOf b)) && decide (a < b))
def sortO (t : Tr) (l : List Int) : List Int := l.mergeSort (fun a b => !lessO t b a)
def learnL (t : Tr) (l : List (List Int)) (conflict : Int) : Option (List Int × Int × List Int) :=
  if t.begins.length = 0 ∨ conflict < 0 ∨ (l.length : Int) ≤ conflict then none else
  if (meetL t (-1) (l.getD conflict.toNat []) ⟨[], [], 0⟩).2 = false ∨ (meetL t (-1) (l.getD conflict.toNat []) ⟨[], [], 0⟩).1.left = 0 then none else
  match lastL t l (t.L.map (·.lit)).reverse (meetL t (-1) (l.getD conflict.toNat []) ⟨[], [], 0⟩).1 with
  | (_, none) => none
  | (m, some x) => some (notOf x :: sortO t m.others, (match sortO t m.others with | [] => 0 | y :: _ => t.lev (varOf y)), m.met.mergeSort (fun a b => decide (a ≤ b)))
/-- What is kept all along. -/
structure LSok (m : LS) : Prop where
  rng : ∀ v ∈ m.met, 0 ≤ v ∧ v < 64
  nod : m.met.Nodup
  left : 0 ≤ m.left ∧ m.left ≤ m.met.length
  oth : m.others.length ≤ m.met.length
theorem nodup_lt {n : Nat} {l : List Int} (h : l.Nodup) (hr : ∀ v ∈ l, 0 ≤ v ∧ v < (n : Int)) : l.length ≤ n := by
  have := nodup_le n (l.map Int.toNat) (by
    rw [List.Nodup, List.pairwise_map]
    refine List.Pairwise.imp_of_mem (fun {a b} ha hb hne e => hne ?_) h
    have h1 := hr a ha
    have h2 := hr b hb
    omega) (fun x hx => by
    obtain ⟨v, hv, rfl⟩ := List.mem_map.1 hx
    have := hr v hv
    omega)
  rwa [List.length_map] at this
theorem LSok.len {m : LS} (h : LSok m) : m.met.length ≤ 64 := nodup_lt h.nod h.rng
theorem LSok.ne {m : LS} : LSok ⟨[], [], 0⟩ := ⟨fun v hv => by simp at hv, List.nodup_nil, ⟨Int.le_refl _, by simp⟩, Nat.le_refl _⟩
section
variable {t : Tr} {m : LS} {l : List (List Int)}
theorem val_var (hf : t.Fine) (hv : t.vars ≤ 64) {x : Int} (h : t.val x = -1) : 0 ≤ x ∧ 0 ≤ varOf x ∧ varOf x < 64 ∧ varOf x = x / 2 := by
  have h0 : 0 ≤ x := by
    rcases Int.lt_or_le x 0 with h0 | h0
    · unfold Tr.val at h
      rw [if_pos h0] at h
      omega
    · exact h0
  obtain ⟨e, he, hx⟩ := (hf.val_neg h0).1 (by omega)
  have h1 := hf.mem he
  have h2 := notOf_nn h0
  have e1 : varOf x = x / 2 := by unfold varOf; rw [if_neg (by omega)]
  rw [hx] at h1
  refine ⟨h0, ?_, ?_, e1⟩
  · rw [e1]; omega
  · rw [e1]; omega
theorem LSok.meet1 (h : LSok m) (hf : t.Fine) (hv : t.vars ≤ 64) {x : Int} (hx : t.val x = -1) : LSok (meet1 t m x) := by
  obtain ⟨_, h1, h2, _⟩ := val_var hf hv hx
  unfold Go.Proofs.Ytnmbgfonlpjicaa.meet1
  split
  · exact h
  · rename_i hn
    have hn2 : varOf x ∉ m.met := fun h' => hn (.inr h')
    have nod : (m.met ++ [varOf x]).Nodup := List.nodup_append.2 ⟨h.nod, by simp, fun a ha b hb e => by
      simp at hb; subst hb; exact hn2 (e ▸ ha)⟩
    have rng : ∀ v ∈ m.met ++ [varOf x], 0 ≤ v ∧ v < 64 := fun v hv' => by
      rcases List.mem_append.1 hv' with h' | h'
      · exact h.rng v h'
      · simp at h'; subst h'; exact ⟨h1, h2⟩
    have hl := h.left
    have ho := h.oth
    split
    · refine ⟨rng, nod, ⟨?_, ?_⟩, ?_⟩
      · show 0 ≤ m.left + 1; omega
      · show m.left + 1 ≤ ((m.met ++ [varOf x]).length : Int); rw [List.length_append]; simp; omega
      · show m.others.length ≤ (m.met ++ [varOf x]).length; rw [List.length_append]; omega
    · refine ⟨rng, nod, ⟨hl.1, ?_⟩, ?_⟩
      · show m.left ≤ ((m.met ++ [varOf x]).length : Int); rw [List.length_append]; simp; omega
      · show (m.others ++ [x]).length ≤ (m.met ++ [varOf x]).length; rw [List.length_append, List.length_append]; simp; omega
theorem LSok.meetL (hf : t.Fine) (hv : t.vars ≤ 64) {but : Int} : ∀ {c : List Int} {m : LS}, LSok m → LSok (meetL t but c m).1
  | [], m, h => h
  | x :: c, m, h => by
    unfold Go.Proofs.Ytnmbgfonlpjicaa.meetL
    split
    · exact LSok.meetL hf hv h
    · split
      · exact h
      · rename_i hx
        exact LSok.meetL hf hv (h.meet1 hf hv (by simpa using hx))
end
end Go.Proofs.Ytnmbgfonlpjicaa
