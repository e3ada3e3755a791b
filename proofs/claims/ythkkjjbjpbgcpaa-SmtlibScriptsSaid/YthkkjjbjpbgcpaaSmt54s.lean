import Derived.Test.YthkkjjbjpbgcpaaSmt54q
import Derived.Test.YthkkjjbjpbgcpaaSem16f
namespace Go.Proofs.Ythkkjjbjpbgcpaa
open Go.Mw
set_option linter.unusedVariables false
set_option linter.unusedSimpArgs false
set_option maxRecDepth 100000
attribute [local irreducible] M.val M.unit M.next M.pick M.new M.nilCheck M.load1 M.loadA M.store M.fieldAddr M.indexSl M.indexArr M.slice M.makeSlice M.buildSlice M.len M.lenS M.cap M.append M.extract M.conv M.not M.neg M.bin M.shift M.eqB M.eqNil M.scat M.call M.callv M.gd M.share M.cond M.loop M.draw pureW readW Ret
/-! ### scripts: no program here -/
def wdV (N : List Nd) (v : Int) : Int := match N.find? (fun n => decide (n.op = 21 ∧ n.a = v)) with
  | some n => n.wd
  | none => 0
def asrtB (t : Bt) : Bt := ([40, 97, 115, 115, 101, 114, 116, 32, 40, 61, 32] : List UInt8) ++ t ++ ([32] : List UInt8) ++ ([40, 95, 32, 98, 118, 49, 32, 49, 41] : List UInt8) ++ ([41, 41, 10] : List UInt8)
def declB (N : List Nd) (v : Int) : Bt := ([40, 100, 101, 99, 108, 97, 114, 101, 45, 102, 117, 110, 32, 120] : List UInt8) ++ numB v ++ ([32, 40, 41, 32, 40, 95, 32, 66, 105, 116, 86, 101, 99, 32] : List UInt8) ++ numB (wdV N v) ++ ([41, 41, 10] : List UInt8)
def scrE (N : List Nd) (c : Int) : Int := if isN N c = false then 11 else if wdN N c ≠ 1 then 2 else (smtN N c).2
def asrtsN (N : List Nd) (cs : List Int) : Bt := cs.flatMap (fun c => asrtB (smtN N c).1)
noncomputable def varsS (N : List Nd) (cs : List Int) : List Int := cs.flatMap (varsN N)
noncomputable def scrN (N : List Nd) (cs : List Int) : Bt × Int := match cs.find? (fun c => decide (scrE N c ≠ 0)) with
  | some c => ([], scrE N c)
  | none => (([40, 115, 101, 116, 45, 108, 111, 103, 105, 99, 32, 81, 70, 95, 66, 86, 41, 10] : List UInt8) ++ (srt (varsS N cs)).flatMap (declB N) ++ asrtsN N cs ++ ([40, 99, 104, 101, 99, 107, 45, 115, 97, 116, 41, 10] : List UInt8), 0)
theorem numB_len (n : Int) : (numB n).length ≤ 20 := by
  unfold numB
  refine digB_len 19 _ ?_
  have := (BitVec.ofInt 64 n).isLt
  omega
theorem smtN_len (N : List Nd) (c : Int) : (smtN N c).1.length ≤ 4096 := by
  unfold smtN
  split
  · simp
  · split
    · assumption
    · simp
theorem asrtB_len {t : Bt} (h : t.length ≤ 4096) : (asrtB t).length ≤ 5000 := by
  unfold asrtB
  simp only [List.length_append, List.length_cons, List.length_nil]
  omega
theorem declB_len (N : List Nd) (v : Int) : (declB N v).length ≤ 100 := by
  have h1 := numB_len v
  have h2 := numB_len (wdV N v)
  unfold declB
  simp only [List.length_append, List.length_cons, List.length_nil]
  omega
theorem flatB_len {α : Type} {f : α → Bt} {m : Nat} : ∀ {l : List α}, (∀ x ∈ l, (f x).length ≤ m) → (l.flatMap f).length ≤ l.length * m
  | [], _ => by simp
  | x :: l, h => by
    have := flatB_len (f := f) (m := m) (l := l) (fun y hy => h y (List.mem_cons_of_mem _ hy))
    have := h x List.mem_cons_self
    rw [List.flatMap_cons, List.length_append, List.length_cons, Nat.add_mul]
    omega
theorem asrtsN_len (N : List Nd) (cs : List Int) : (asrtsN N cs).length ≤ cs.length * 5000 := flatB_len (fun c _ => asrtB_len (smtN_len N c))
theorem asrtsN_snoc (N : List Nd) (cs : List Int) (c : Int) : asrtsN N (cs ++ [c]) = asrtsN N cs ++ asrtB (smtN N c).1 := by simp [asrtsN]
theorem varsS_snoc (N : List Nd) (cs : List Int) (c : Int) : varsS N (cs ++ [c]) = varsS N cs ++ varsN N c := by simp [varsS]
/-- A variable of a term is a number below 256, and has a term. -/
theorem varsN_node {N : List Nd} {c v : Int} (h : v ∈ varsN N c) : ∃ (i : Nat) (n : Nd), N[i]? = some n ∧ n.op = 21 ∧ n.a = v := by
  unfold varsN at h
  rw [mem_srt, mem_varsA] at h
  obtain ⟨x, _, n, h1, h2, h3⟩ := h
  exact ⟨_, n, h1, h2, h3⟩
theorem node_rng {N : List Nd} (hG : GoodN N) {i : Nat} {n : Nd} (h : N[i]? = some n) (h2 : n.op = 21) : 0 ≤ n.a ∧ n.a < 256 := by
  obtain ⟨_, _, hc⟩ := hG i n h
  rcases hc with h | h | h | h | h | h | h | h <;> omega
theorem varsN_rng {N : List Nd} (hG : GoodN N) {c v : Int} (h : v ∈ varsN N c) : 0 ≤ v ∧ v < 256 := by
  obtain ⟨i, n, h1, h2, rfl⟩ := varsN_node h
  exact node_rng hG h1 h2
theorem varsS_rng {N : List Nd} (hG : GoodN N) {cs : List Int} {v : Int} (h : v ∈ varsS N cs) : 0 ≤ v ∧ v < 256 := by
  obtain ⟨c, _, h⟩ := List.mem_flatMap.1 h
  exact varsN_rng hG h
theorem varsS_node {N : List Nd} {cs : List Int} {v : Int} (h : v ∈ varsS N cs) : ∃ (i : Nat) (n : Nd), N[i]? = some n ∧ n.op = 21 ∧ n.a = v := by
  obtain ⟨c, _, h⟩ := List.mem_flatMap.1 h
  exact varsN_node h
/-- The first term that is this variable. -/
theorem wdV_at {N : List Nd} {v : Int} {i : Nat} {n : Nd} (h : N[i]? = some n) (h1 : n.op = 21 ∧ n.a = v) (h2 : ∀ j m, j < i → N[j]? = some m → ¬ (m.op = 21 ∧ m.a = v)) : wdV N v = n.wd := by
  have : N.find? (fun n => decide (n.op = 21 ∧ n.a = v)) = some n := by
    rw [List.find?_eq_some_iff_getElem]
    have hl := (List.getElem?_eq_some_iff.1 h).1
    refine ⟨by simpa using h1, i, hl, (List.getElem?_eq_some_iff.1 h).2, fun j hj => ?_⟩
    have := h2 j _ hj (List.getElem?_eq_getElem (by omega))
    rw [Bool.not_eq_true', decide_eq_false_iff_not]
    exact this
  unfold wdV
  rw [this]
theorem first_at {N : List Nd} {v : Int} (h : ∃ (i : Nat) (n : Nd), N[i]? = some n ∧ n.op = 21 ∧ n.a = v) : ∃ (i : Nat) (n : Nd), N[i]? = some n ∧ (n.op = 21 ∧ n.a = v) ∧ ∀ j m, j < i → N[j]? = some m → ¬ (m.op = 21 ∧ m.a = v) := by
  obtain ⟨i, h⟩ := h
  induction i using Nat.strongRecOn with
  | _ i ih =>
    by_cases hx : ∃ j, j < i ∧ ∃ m, N[j]? = some m ∧ m.op = 21 ∧ m.a = v
    · obtain ⟨j, hj, hm⟩ := hx
      exact ih j hj hm
    · obtain ⟨n, hn, h1⟩ := h
      exact ⟨i, n, hn, h1, fun j m hj hm he => hx ⟨j, hj, m, hm, he⟩⟩
theorem wdV_none {N : List Nd} {v : Int} (h : ∀ (j : Nat) (m : Nd), N[j]? = some m → ¬ (m.op = 21 ∧ m.a = v)) : wdV N v = 0 := by
  have : N.find? (fun n => decide (n.op = 21 ∧ n.a = v)) = none := by
    rw [List.find?_eq_none]
    intro m hm
    obtain ⟨j, hj⟩ := List.mem_iff_getElem?.1 hm
    simpa using h j m hj
  unfold wdV
  rw [this]
/-! marks of variables -/
def mkB (l : List Int) (v : Nat) : Bool := decide ((v : Int) ∈ l)
def marks (l : List Int) : List Value := (List.range 256).map (fun v => if mkB l v then vi 1 else vi 0)
theorem marks_len (l : List Int) : (marks l).length = 256 := by simp [marks]
theorem marks_nil : marks [] = List.replicate 256 (vi 0) := by
  apply List.ext_getElem?
  intro j
  by_cases hj : j < 256
  · rw [List.getElem?_replicate, if_pos hj]
    simp [marks, mkB, hj]
  · rw [List.getElem?_replicate, if_neg hj]
    simp [marks, mkB, hj]
theorem marks_get (l : List Int) {v : Nat} (h : v < 256) : (marks l)[v]? = some (if mkB l v then vi 1 else vi 0) := by simp [marks, h]
theorem marks_set (l : List Int) {v : Int} (h0 : 0 ≤ v) (h1 : v < 256) : (marks l).set v.toNat (vi 1) = marks (l ++ [v]) := by
  apply List.ext_getElem?
  intro j
  rw [List.getElem?_set, marks_len]
  by_cases e : v.toNat = j
  · subst e
    rw [if_pos rfl, if_pos (by omega), marks_get _ (by omega)]
    have : mkB (l ++ [v]) v.toNat = true := by simp [mkB]; right; omega
    rw [this]; rfl
  · rw [if_neg e]
    by_cases hj : j < 256
    · rw [marks_get _ hj, marks_get _ hj]
      have : mkB (l ++ [v]) j = mkB l j := by
        unfold mkB
        simp only [List.mem_append, List.mem_singleton]
        congr 1
        simp only [eq_iff_iff]
        constructor
        · rintro (h | h)
          · exact h
          · omega
        · exact .inl
      rw [this]
    · rw [List.getElem?_eq_none (by rw [marks_len]; omega), List.getElem?_eq_none (by rw [marks_len]; omega)]
theorem marks_app (l : List Int) : ∀ (m : List Int), (∀ x ∈ m, 0 ≤ x ∧ x < 256) → m.foldl (fun a x => a.set x.toNat (vi 1)) (marks l) = marks (l ++ m)
  | [], _ => by simp
  | x :: m, h => by
    have hx := h x List.mem_cons_self
    rw [List.foldl_cons, marks_set l hx.1 hx.2, marks_app (l ++ [x]) m (fun y hy => h y (List.mem_cons_of_mem _ hy)), List.append_assoc]; rfl
/-- The marked variables below v, rising. -/
def upto (l : List Int) (v : Nat) : List Int := ((List.range v).filter (mkB l)).map (fun i : Nat => (i : Int))
theorem upto_snoc (l : List Int) (v : Nat) : upto l (v + 1) = upto l v ++ (if mkB l v then [(v : Int)] else []) := by
  unfold upto
  rw [List.range_succ, List.filter_append, List.map_append]
  congr 1
  by_cases h : mkB l v <;> simp [h]
theorem upto_srt {l : List Int} (h : ∀ x ∈ l, 0 ≤ x ∧ x < 256) : upto l 256 = srt l := by
  refine eq_srt ?_ (fun y => ?_)
  · unfold upto
    rw [List.pairwise_map]
    refine ((List.pairwise_lt_range (n := 256)).filter _).imp ?_
    intro a b h; omega
  · unfold upto mkB
    simp only [List.mem_map, List.mem_filter, List.mem_range, decide_eq_true_eq]
    constructor
    · rintro ⟨a, ⟨_, h2⟩, rfl⟩; exact h2
    · intro hy
      have := h y hy
      refine ⟨y.toNat, ⟨by omega, ?_⟩, by omega⟩
      rw [Int.toNat_of_nonneg this.1]; exact hy
theorem upto_len (l : List Int) (v : Nat) : (upto l v).length ≤ v := by
  unfold upto
  rw [List.length_map]
  have := List.length_filter_le (mkB l) (List.range v)
  rwa [List.length_range] at this
theorem find_take {cs : List Int} {N : List Nd} {i : Nat} {c : Int} (hc : cs[i]? = some c) (h : ∀ x ∈ cs.take i, scrE N x = 0) (he : scrE N c ≠ 0) : scrN N cs = ([], scrE N c) := by
  have hl := (List.getElem?_eq_some_iff.1 hc).1
  have : cs.find? (fun c => decide (scrE N c ≠ 0)) = some c := by
    rw [List.find?_eq_some_iff_getElem]
    refine ⟨by simpa using he, i, hl, (List.getElem?_eq_some_iff.1 hc).2, fun j hj => ?_⟩
    have := h _ (List.mem_iff_getElem?.2 ⟨j, by rw [List.getElem?_take_of_lt hj]; exact List.getElem?_eq_getElem (by omega)⟩)
    simp [this]
  unfold scrN
  rw [this]
theorem find_all {cs : List Int} {N : List Nd} (h : ∀ x ∈ cs, scrE N x = 0) : scrN N cs = (([40, 115, 101, 116, 45, 108, 111, 103, 105, 99, 32, 81, 70, 95, 66, 86, 41, 10] : List UInt8) ++ (srt (varsS N cs)).flatMap (declB N) ++ asrtsN N cs ++ ([40, 99, 104, 101, 99, 107, 45, 115, 97, 116, 41, 10] : List UInt8), 0) := by
  have : cs.find? (fun c => decide (scrE N c ≠ 0)) = none := by
    rw [List.find?_eq_none]
    intro x hx
    simp [h x hx]
  unfold scrN
  rw [this]
end Go.Proofs.Ythkkjjbjpbgcpaa
