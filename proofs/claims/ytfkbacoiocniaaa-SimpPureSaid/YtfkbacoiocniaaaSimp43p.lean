import Derived.Test.YtfkbacoiocniaaaLists
namespace Go.Proofs.Ytfkbacoiocniaaa
open Go.Mw
set_option linter.unusedVariables false
set_option linter.unusedSimpArgs false
set_option maxRecDepth 100000
attribute [local irreducible] M.val M.unit M.next M.pick M.new M.nilCheck M.load1 M.loadA M.store M.fieldAddr M.indexSl M.indexArr M.slice M.makeSlice M.buildSlice M.len M.lenS M.cap M.append M.extract M.conv M.not M.neg M.bin M.shift M.eqB M.eqNil M.call M.callv M.gd M.share M.cond M.loop M.draw pureW readW Ret
/-! ### clauses made fewer: plain -/
def inB (s : List Int) (x : Int) : Bool := decide (x ∈ s)
def leftC (set c : List Int) : List Int := c.filter (fun x => !inB set (notOf x))
def unitsL (set : List Int) (l : List (List Int)) : List (List Int) := (l.filter (fun c => !c.any (inB set))).map (leftC set)
def normsL (l : List (List Int)) : List (List Int) := (l.filter (fun c => decide ((normD c).2.2 = 0) && !(normD c).2.1)).map (fun c => (normD c).1)
def moreB (a b : List Int) (ahead : Bool) : Bool := (decide (a.length < b.length) || (ahead && decide (a.length = b.length))) && a.all (inB b)
def goneB (all : List (List Int)) (i : Nat) (c : List Int) (n : Nat) : Bool := (List.range n).any (fun k => match all[k]? with
  | some d => moreB d c (decide (k < i))
  | none => false)
def subsU (all : List (List Int)) (n : Nat) : List (List Int) := (List.range n).filterMap (fun i => match all[i]? with
  | some c => if goneB all i c all.length then none else some c
  | none => none)
def subsL (l : List (List Int)) : List (List Int) := subsU (normsL l) (normsL l).length
def pureL (l : List (List Int)) : List Int := srt (l.flatten.filter (fun x => decide (0 ≤ x) && !inB l.flatten (notOf x)))
def dropL (l : List (List Int)) (lits : List Int) : List (List Int) := l.filter (fun c => !c.any (inB lits))
theorem inB_iff {s : List Int} {x : Int} : inB s x = true ↔ x ∈ s := by simp [inB]
theorem mem_unitsL {set : List Int} {l : List (List Int)} {d : List Int} : d ∈ unitsL set l ↔ ∃ c ∈ l, (∀ x ∈ c, x ∉ set) ∧ d = leftC set c := by
  unfold unitsL
  simp only [List.mem_map, List.mem_filter, Bool.not_eq_true', List.any_eq_false, inB, decide_eq_true_eq]
  constructor
  · rintro ⟨c, ⟨h1, h2⟩, rfl⟩
    exact ⟨c, h1, h2, rfl⟩
  · rintro ⟨c, h1, h2, rfl⟩
    exact ⟨c, ⟨h1, h2⟩, rfl⟩
theorem mem_leftC {set c : List Int} {x : Int} : x ∈ leftC set c ↔ x ∈ c ∧ notOf x ∉ set := by
  simp [leftC, inB, List.mem_filter]
theorem mem_dropL {l : List (List Int)} {p c : List Int} : c ∈ dropL l p ↔ c ∈ l ∧ ∀ x ∈ c, x ∉ p := by
  unfold dropL
  simp only [List.mem_filter, Bool.not_eq_true', List.any_eq_false, inB, decide_eq_true_eq]
theorem mem_pureL {l : List (List Int)} {x : Int} : x ∈ pureL l ↔ x ∈ l.flatten ∧ 0 ≤ x ∧ notOf x ∉ l.flatten := by
  unfold pureL
  rw [mem_srt, List.mem_filter]
  simp [inB]
/-- What is left of clauses, and what follows, hold just where the clauses do. -/
theorem units_holds {l : List (List Int)} {set : List Int} {m : List Bool} (h : CloseR l [] set true) : ((∀ c ∈ unitsL set l, c.any (holdsL m) = true) ∧ ∀ x ∈ set, holdsL m x = true) ↔ ∀ c ∈ l, c.any (holdsL m) = true := by
  constructor
  · rintro ⟨h1, h2⟩ c hc
    by_cases hx : ∃ x ∈ c, x ∈ set
    · obtain ⟨x, g1, g2⟩ := hx
      exact List.any_eq_true.2 ⟨x, g1, h2 x g2⟩
    · obtain ⟨y, g1, g2⟩ := List.any_eq_true.1 (h1 _ (mem_unitsL.2 ⟨c, hc, fun x hxc hxs => hx ⟨x, hxc, hxs⟩, rfl⟩))
      exact List.any_eq_true.2 ⟨y, (mem_leftC.1 g1).1, g2⟩
  · intro hl
    obtain ⟨_, hs⟩ := close_sound h hl (by simp)
    refine ⟨fun d hd => ?_, hs⟩
    obtain ⟨c, hc, hn, rfl⟩ := mem_unitsL.1 hd
    obtain ⟨y, g1, g2⟩ := List.any_eq_true.1 (hl c hc)
    refine List.any_eq_true.2 ⟨y, mem_leftC.2 ⟨g1, fun hy => ?_⟩, g2⟩
    have := hs _ hy
    rw [holds_notOf (holds_nonneg g2), g2] at this
    simp at this
theorem moreB_spec {a b : List Int} {h : Bool} (hm : moreB a b h = true) : (a.length < b.length ∨ (h = true ∧ a.length = b.length)) ∧ ∀ x ∈ a, x ∈ b := by
  unfold moreB at hm
  simp only [Bool.and_eq_true, Bool.or_eq_true, decide_eq_true_eq, List.all_eq_true, inB] at hm
  exact hm
theorem mem_subsU {all : List (List Int)} {n : Nat} {c : List Int} : c ∈ subsU all n ↔ ∃ i < n, all[i]? = some c ∧ goneB all i c all.length = false := by
  unfold subsU
  simp only [List.mem_filterMap, List.mem_range]
  constructor
  · rintro ⟨i, hi, h⟩
    cases hd : all[i]? with
    | none => rw [hd] at h; simp at h
    | some d =>
      rw [hd] at h
      simp only at h
      split at h
      · simp at h
      · rename_i hg
        cases h
        exact ⟨i, hi, hd, by simpa using hg⟩
  · rintro ⟨i, hi, h1, h2⟩
    exact ⟨i, hi, by rw [h1]; simp [h2]⟩
theorem subs_all {all : List (List Int)} {p : List Int → Prop} (hp : ∀ c d : List Int, (∀ x ∈ d, x ∈ c) → p d → p c) (h : ∀ c ∈ subsU all all.length, p c) : ∀ (N i : Nat) (c : List Int), all[i]? = some c → c.length * (all.length + 1) + i < N → p c
  | 0, _, _, _, hN => by omega
  | N + 1, i, c, hi, hN => by
    have hil := (List.getElem?_eq_some_iff.1 hi).1
    cases hg : goneB all i c all.length with
    | false => exact h c (mem_subsU.2 ⟨i, hil, hi, hg⟩)
    | true =>
      unfold goneB at hg
      obtain ⟨k, hk, hm⟩ := List.any_eq_true.1 hg
      have hk : k < all.length := by simpa using hk
      cases hd : all[k]? with
      | none => rw [hd] at hm; simp at hm
      | some d =>
        rw [hd] at hm
        obtain ⟨h1, h2⟩ := moreB_spec hm
        refine hp c d h2 (subs_all hp h N k d hd ?_)
        rcases h1 with h1 | ⟨h1, h3⟩
        · have : (d.length + 1) * (all.length + 1) ≤ c.length * (all.length + 1) := Nat.mul_le_mul_right _ h1
          rw [Nat.add_mul] at this
          omega
        · have h1 : k < i := by simpa using h1
          rw [h3]; omega
theorem mem_normsL {l : List (List Int)} {d : List Int} : d ∈ normsL l ↔ ∃ c ∈ l, (normD c).2.2 = 0 ∧ (normD c).2.1 = false ∧ d = (normD c).1 := by
  unfold normsL
  simp only [List.mem_map, List.mem_filter, Bool.and_eq_true, decide_eq_true_eq, Bool.not_eq_true']
  constructor
  · rintro ⟨c, ⟨h1, h2, h3⟩, rfl⟩
    exact ⟨c, h1, h2, h3, rfl⟩
  · rintro ⟨c, h1, h2, h3, rfl⟩
    exact ⟨c, ⟨h1, h2, h3⟩, rfl⟩
theorem any_holds_srt {c : List Int} {m : List Bool} : (srt c).any (holdsL m) = c.any (holdsL m) := any_srt2 c _
theorem normD_pos {c : List Int} (h0 : ∀ x ∈ c, ¬ x < 0) : normD c = (srt c, c.any (fun x => decide (notOf x ∈ c)), 0) := by
  unfold normD
  rw [if_neg]
  intro h
  obtain ⟨x, hx, h1⟩ := List.any_eq_true.1 h
  exact h0 x hx (by simpa using h1)
/-- The clauses without those that say no more hold just where all do. -/
theorem subs_holds {l : List (List Int)} {m : List Bool} (h0 : ∀ c ∈ l, ∀ x ∈ c, ¬ x < 0) : (∀ c ∈ subsL l, c.any (holdsL m) = true) ↔ ∀ c ∈ l, c.any (holdsL m) = true := by
  constructor
  · intro h c hc
    cases ha : c.any (fun x => decide (notOf x ∈ c)) with
    | true => exact always_any ha (h0 c hc) m
    | false =>
      have hm : srt c ∈ normsL l := mem_normsL.2 ⟨c, hc, by rw [normD_pos (h0 c hc)]; exact ⟨rfl, ha, rfl⟩⟩
      obtain ⟨i, hi⟩ := List.mem_iff_getElem?.1 hm
      have := subs_all (p := fun c => c.any (holdsL m) = true) (fun c d hs hd => by
        obtain ⟨y, h1, h2⟩ := List.any_eq_true.1 hd
        exact List.any_eq_true.2 ⟨y, hs y h1, h2⟩) h _ i _ hi (Nat.lt_succ_self _)
      rwa [any_holds_srt] at this
  · intro h c hc
    obtain ⟨i, _, hi, _⟩ := mem_subsU.1 hc
    obtain ⟨d, hd, _, _, rfl⟩ := mem_normsL.1 (List.mem_of_getElem? hi)
    rw [normD_pos (h0 d hd)]
    show (srt d).any _ = true
    rw [any_holds_srt]; exact h d hd
/-! ### truths of a number -/
def truthsL : Nat → Nat → List Bool
  | 0, _ => []
  | v + 1, n => decide (n % 2 = 1) :: truthsL v (n / 2)
theorem truthsL_len : ∀ v n, (truthsL v n).length = v
  | 0, _ => rfl
  | v + 1, n => by simp [truthsL, truthsL_len v]
theorem truthsL_all : ∀ (m : List Bool), ∃ n, n < 2 ^ m.length ∧ truthsL m.length n = m
  | [] => ⟨0, by simp, rfl⟩
  | b :: m => by
    obtain ⟨n, h1, h2⟩ := truthsL_all m
    refine ⟨2 * n + (if b then 1 else 0), ?_, ?_⟩
    · rw [List.length_cons, Nat.pow_succ]; split <;> omega
    · rw [List.length_cons]
      unfold truthsL
      have e1 : (2 * n + if b then 1 else 0) / 2 = n := by split <;> omega
      rw [e1, h2]
      congr 1
      cases b <;> simp <;> omega
/-- Whether there is one among the first. -/
def satU (vars : Nat) (l : List (List Int)) (n : Nat) : Prop := ∃ i < n, ∀ c ∈ l, c.any (holdsL (truthsL vars i)) = true
theorem sat_iff {vars : Nat} {l : List (List Int)} : satU vars l (2 ^ vars) ↔ ∃ m : List Bool, m.length = vars ∧ ∀ c ∈ l, c.any (holdsL m) = true := by
  constructor
  · rintro ⟨i, _, h⟩
    exact ⟨_, truthsL_len vars i, h⟩
  · rintro ⟨m, rfl, h⟩
    obtain ⟨n, h1, h2⟩ := truthsL_all m
    exact ⟨n, h1, by rw [h2]; exact h⟩
theorem pure_sat {vars : Nat} {l : List (List Int)} (hv : ∀ c ∈ l, ∀ x ∈ c, ¬ x < 0 ∧ x / 2 < vars) : satU vars l (2 ^ vars) ↔ satU vars (dropL l (pureL l)) (2 ^ vars) := by
  rw [sat_iff, sat_iff]
  constructor
  · rintro ⟨m, h1, h2⟩
    exact ⟨m, h1, fun c hc => h2 c (mem_dropL.1 hc).1⟩
  · rintro ⟨m, h1, h2⟩
    let f : Nat → Bool := fun v => if ((2 * v : Nat) : Int) ∈ pureL l then true else if ((2 * v + 1 : Nat) : Int) ∈ pureL l then false else (m[v]?).getD false
    have hm' : ∀ x : Int, ¬ x < 0 → x / 2 < vars → holdsL ((List.range vars).map f) x = xor (f (x / 2).toNat) (negOf x) := by
      intro x h0 hlt
      unfold holdsL truth
      rw [if_neg h0, if_neg (by omega)]
      rw [List.getElem?_map, List.getElem?_range (by omega)]
      rfl
    have hm : ∀ x : Int, ¬ x < 0 → x / 2 < vars → holdsL m x = xor ((m[(x / 2).toNat]?).getD false) (negOf x) := by
      intro x h0 hlt
      unfold holdsL truth
      rw [if_neg h0, if_neg (by omega)]
    refine ⟨(List.range vars).map f, by simp, fun c hc => ?_⟩
    have hfl : ∀ x ∈ c, x ∈ l.flatten := fun x hx => List.mem_flatten.2 ⟨c, hc, hx⟩
    have par : ∀ x : Int, ¬ x < 0 → (x = ((2 * (x / 2).toNat : Nat) : Int) ∧ negOf x = false ∧ notOf x = ((2 * (x / 2).toNat + 1 : Nat) : Int)) ∨ (x = ((2 * (x / 2).toNat + 1 : Nat) : Int) ∧ negOf x = true ∧ notOf x = ((2 * (x / 2).toNat : Nat) : Int)) := by
      intro x h0
      unfold negOf notOf flip1
      rw [if_neg h0]
      by_cases h2 : x % 2 = 0
      · left
        rw [if_pos h2]
        refine ⟨by omega, ?_, by omega⟩
        simp; omega
      · right
        rw [if_neg h2]
        refine ⟨by omega, ?_, by omega⟩
        simp; omega
    by_cases hp : ∃ x ∈ c, x ∈ pureL l
    · obtain ⟨x, hx, hxp⟩ := hp
      obtain ⟨h0, hlt⟩ := hv c hc x hx
      obtain ⟨g1, g2, g3⟩ := mem_pureL.1 hxp
      refine List.any_eq_true.2 ⟨x, hx, ?_⟩
      rw [hm' x h0 hlt]
      rcases par x h0 with ⟨e, n1, n2⟩ | ⟨e, n1, n2⟩
      · have : f (x / 2).toNat = true := by
          show (if _ then _ else _) = _
          rw [if_pos (by rw [← e]; exact hxp)]
        rw [this, n1]; rfl
      · have : f (x / 2).toNat = false := by
          show (if _ then _ else _) = _
          rw [if_neg, if_pos (by rw [← e]; exact hxp)]
          intro hh
          rw [← n2] at hh
          exact g3 (mem_pureL.1 hh).1
        rw [this, n1]; rfl
    · obtain ⟨y, hy, hym⟩ := List.any_eq_true.1 (h2 c (mem_dropL.2 ⟨hc, fun x hx hxp => hp ⟨x, hx, hxp⟩⟩))
      obtain ⟨h0, hlt⟩ := hv c hc y hy
      refine List.any_eq_true.2 ⟨y, hy, ?_⟩
      rw [hm' y h0 hlt, ← hym, hm y h0 hlt]
      congr 1
      have n1 : y ∉ pureL l := fun h => hp ⟨y, hy, h⟩
      have n2 : notOf y ∉ pureL l := fun h => by
        have := (mem_pureL.1 h).2.2
        rw [notOf_notOf] at this
        exact this (hfl y hy)
      show (if _ then _ else if _ then _ else _) = _
      rcases par y h0 with ⟨e, _, e2⟩ | ⟨e, _, e2⟩
      · rw [if_neg (by rw [← e]; exact n1), if_neg (by rw [← e2]; exact n2)]
      · rw [if_neg (by rw [← e2]; exact n2), if_neg (by rw [← e]; exact n1)]
end Go.Proofs.Ytfkbacoiocniaaa
