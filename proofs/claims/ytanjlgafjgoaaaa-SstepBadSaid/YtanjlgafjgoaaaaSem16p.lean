import Derived.Test.YtanjlgafjgoaaaaDag
import Derived.Test.YtanjlgafjgoaaaaWord3
namespace Go.Proofs.Ytanjlgafjgoaaaa
open Go.Mw
set_option linter.unusedVariables false
set_option linter.unusedSimpArgs false
set_option maxRecDepth 100000
attribute [local irreducible] M.val M.unit M.next M.pick M.new M.nilCheck M.load1 M.loadA M.store M.fieldAddr M.indexSl M.indexArr M.slice M.makeSlice M.buildSlice M.len M.lenS M.cap M.append M.extract M.conv M.not M.neg M.bin M.shift M.eqB M.eqNil M.scat M.call M.callv M.gd M.share M.cond M.loop M.draw pureW readW Ret
/-! ### what terms mean: plain -/
def oneV (N : List Nd) (n : Nd) (get : Int → W64) (env : List W64) : W64 :=
  if n.op = 20 then n.val
  else if n.op = 21 then (if n.a < (env.length : Int) then cutW n.wd (env.getD n.a.toNat 0) else 0)
  else if n.op = 22 then (if get n.a = 1 then get n.b else get n.c)
  else if n.op = 23 then cutW n.wd (get n.a >>> n.b.toNat)
  else if n.op = 24 then (get n.a <<< (wdN N n.b).toNat) ||| get n.b
  else if n.op = 25 then get n.a
  else if n.op = 26 then cutW n.wd (sgnW (wdN N n.a) (get n.a))
  else if n.op = 15 ∨ n.op = 16 then unW n.op n.wd (get n.a)
  else binW n.op (wdN N n.a) (get n.a) (get n.b)
def valsU (N : List Nd) (env : List W64) : Nat → List W64
  | 0 => []
  | i + 1 => valsU N env i ++ [match N[i]? with
    | some n => oneV N n (fun k => (valsU N env i).getD k.toNat 0) env
    | none => 0]
def wordAt (N : List Nd) (env : List W64) (k : Int) : W64 := (valsU N env N.length).getD k.toNat 0
theorem valsU_len (N : List Nd) (env : List W64) : ∀ i, (valsU N env i).length = i
  | 0 => rfl
  | i + 1 => by simp [valsU, valsU_len N env i]
theorem valsU_get {N : List Nd} {env : List W64} {k : Nat} : ∀ {i j : Nat}, k < i → i ≤ j → (valsU N env j).getD k 0 = (valsU N env i).getD k 0
  | i, 0, h1, h2 => by omega
  | i, j + 1, h1, h2 => by
    by_cases e : i = j + 1
    · rw [e]
    · rw [← valsU_get (i := i) (j := j) h1 (by omega)]
      simp only [valsU, List.getD_eq_getElem?_getD]
      rw [List.getElem?_append_left (by rw [valsU_len]; omega)]
theorem wordAt_pre {N : List Nd} {env : List W64} {k : Int} {i : Nat} (h0 : 0 ≤ k) (h1 : k < i) (h2 : i ≤ N.length) : wordAt N env k = (valsU N env i).getD k.toNat 0 := valsU_get (by omega) h2
/-- Only the words of those that a term is made of play a part. -/
theorem oneV_congr {N M : List Nd} {n : Nd} {g g' : Int → W64} {env : List W64} (hg : goodN M n) (h : ∀ k ∈ kidsN n, g k = g' k) : oneV N n g env = oneV N n g' env := by
  obtain ⟨_, _, h3⟩ := hg
  unfold oneV
  rcases h3 with ⟨ho, _⟩ | ⟨ho, _⟩ | ⟨ho, _⟩ | ⟨ho, ho2, _⟩ | ⟨ho, _⟩ | ⟨ho, _⟩ | ⟨ho, _⟩ | ⟨ho, _⟩
  · rw [if_pos ho, if_pos ho]
  · simp only [if_neg (show ¬ n.op = 20 by omega), if_pos ho]
  · have hk : kidsN n = [n.a] := by
      unfold kidsN
      rw [if_neg (by omega), if_neg (by omega), if_neg (by omega)]
    rw [hk] at h
    have ha := h n.a (by simp)
    simp only [if_neg (show ¬ n.op = 20 by omega), if_neg (show ¬ n.op = 21 by omega), if_neg (show ¬ n.op = 22 by omega), if_neg (show ¬ n.op = 23 by omega), if_neg (show ¬ n.op = 24 by omega), if_neg (show ¬ n.op = 25 by omega), if_neg (show ¬ n.op = 26 by omega), if_pos ho, ha]
  · have hk : kidsN n = [n.a, n.b] := by
      unfold kidsN
      rw [if_neg (by omega), if_neg (by omega), if_pos (by omega)]
    rw [hk] at h
    have ha := h n.a (by simp)
    have hb := h n.b (by simp)
    simp only [if_neg (show ¬ n.op = 20 by omega), if_neg (show ¬ n.op = 21 by omega), if_neg (show ¬ n.op = 22 by omega), if_neg (show ¬ n.op = 23 by omega), if_neg (show ¬ n.op = 24 by omega), if_neg (show ¬ n.op = 25 by omega), if_neg (show ¬ n.op = 26 by omega), if_neg (show ¬ (n.op = 15 ∨ n.op = 16) by omega), ha, hb]
  · have hk : kidsN n = [n.a, n.b, n.c] := by
      unfold kidsN
      rw [if_neg (by omega), if_pos ho]
    rw [hk] at h
    have ha := h n.a (by simp)
    have hb := h n.b (by simp)
    have hc := h n.c (by simp)
    simp only [if_neg (show ¬ n.op = 20 by omega), if_neg (show ¬ n.op = 21 by omega), if_pos ho, ha, hb, hc]
  · have hk : kidsN n = [n.a] := by
      unfold kidsN
      rw [if_neg (by omega), if_neg (by omega), if_neg (by omega)]
    rw [hk] at h
    have ha := h n.a (by simp)
    simp only [if_neg (show ¬ n.op = 20 by omega), if_neg (show ¬ n.op = 21 by omega), if_neg (show ¬ n.op = 22 by omega), if_pos ho, ha]
  · have hk : kidsN n = [n.a, n.b] := by
      unfold kidsN
      rw [if_neg (by omega), if_neg (by omega), if_pos (by omega)]
    rw [hk] at h
    have ha := h n.a (by simp)
    have hb := h n.b (by simp)
    simp only [if_neg (show ¬ n.op = 20 by omega), if_neg (show ¬ n.op = 21 by omega), if_neg (show ¬ n.op = 22 by omega), if_neg (show ¬ n.op = 23 by omega), if_pos ho, ha, hb]
  · have hk : kidsN n = [n.a] := by
      unfold kidsN
      rw [if_neg (by omega), if_neg (by omega), if_neg (by omega)]
    rw [hk] at h
    have ha := h n.a (by simp)
    rcases ho with ho | ho
    · simp only [if_neg (show ¬ n.op = 20 by omega), if_neg (show ¬ n.op = 21 by omega), if_neg (show ¬ n.op = 22 by omega), if_neg (show ¬ n.op = 23 by omega), if_neg (show ¬ n.op = 24 by omega), if_pos ho, ha]
    · simp only [if_neg (show ¬ n.op = 20 by omega), if_neg (show ¬ n.op = 21 by omega), if_neg (show ¬ n.op = 22 by omega), if_neg (show ¬ n.op = 23 by omega), if_neg (show ¬ n.op = 24 by omega), if_neg (show ¬ n.op = 25 by omega), if_pos ho, ha]
theorem valsU_at {N : List Nd} {env : List W64} {i : Nat} {n : Nd} (hi : N[i]? = some n) : (valsU N env (i + 1)).getD i 0 = oneV N n (fun k => (valsU N env i).getD k.toNat 0) env := by
  simp only [valsU, List.getD_eq_getElem?_getD, hi]
  rw [List.getElem?_append_right (by rw [valsU_len]; omega), valsU_len]
  simp
/-- A term's word, of those of the terms that it is made of. -/
theorem wordAt_one {N : List Nd} {env : List W64} (hG : GoodN N) {i : Nat} {n : Nd} (hi : N[i]? = some n) : wordAt N env i = oneV N n (wordAt N env) env := by
  have hl := (List.getElem?_eq_some_iff.1 hi).1
  have hg := hG i n hi
  rw [wordAt_pre (i := i + 1) (by omega) (by omega) (by omega), Int.toNat_natCast, valsU_at hi]
  refine oneV_congr hg (fun k hk => ?_)
  have := isN_iff.1 (hg.2.1 k hk)
  rw [List.length_take] at this
  rw [wordAt_pre (i := i) (by omega) (by omega) (by omega)]
theorem kids_lt {N : List Nd} (hG : GoodN N) {i : Nat} {n : Nd} (hi : N[i]? = some n) {k : Int} (hk : k ∈ kidsN n) : 0 ≤ k ∧ k < i := by
  have := isN_iff.1 ((hG i n hi).2.1 k hk)
  rw [List.length_take] at this
  omega
/-! ### each term once -/
/-- How far it is: the stack, which are reckoned, which were looked at. -/
structure Once (N : List Nd) (id : Int) (st : List Int) (held : List Int) (E : List Int) : Prop where
  rng : ∀ x ∈ st, isN N x = true
  hrng : ∀ x ∈ held, isN N x = true
  first : st = [] → id ∈ held
  clo : ∀ (i : Nat) n, (i : Int) ∈ held → N[i]? = some n → ∀ k ∈ kidsN n, k ∈ held
  ernge : ∀ x ∈ E, isN N x = true
  nodup : E.Nodup
  pos : ∀ (t : Nat) n, (t : Int) ∈ E → (t : Int) ∉ held → N[t]? = some n → ∃ q : Nat, st[q]? = some (t : Int) ∧ (∀ (r : Nat) x, q < r → st[r]? = some x → x < t) ∧ ∀ k ∈ kidsN n, k ∈ held ∨ ∃ r : Nat, q < r ∧ st[r]? = some k
  base : st ≠ [] → st[0]? = some id
def onceM (N : List Nd) (st E : List Int) : Nat := 4 * (N.length - E.length) + st.length
theorem Once.start {N : List Nd} {id : Int} (h : isN N id = true) : Once N id [id] [] [] :=
  ⟨fun x hx => by simp at hx; exact hx ▸ h, by simp, by simp, by simp, by simp, by simp, by simp, by simp⟩
theorem sub_len {α : Type} : ∀ (a b : List α), a.Nodup → (∀ x ∈ a, x ∈ b) → a.length ≤ b.length
  | [], b, _, _ => by simp
  | x :: a, b, hn, hs => by
    obtain ⟨p, q, rfl⟩ := List.append_of_mem (hs x List.mem_cons_self)
    obtain ⟨h1, h2⟩ := List.nodup_cons.1 hn
    have := sub_len a (p ++ q) h2 (fun y hy => by
      rcases List.mem_append.1 (hs y (List.mem_cons_of_mem _ hy)) with h | h
      · exact List.mem_append_left _ h
      · rcases List.mem_cons.1 h with h | h
        · exact absurd (h ▸ hy) h1
        · exact List.mem_append_right _ h)
    simp at this ⊢; omega
theorem nodup_range {N : List Nd} {E : List Int} (h : E.Nodup) (hr : ∀ x ∈ E, isN N x = true) : E.length ≤ N.length := by
  have hsub : ∀ x ∈ E, x ∈ (List.range N.length).map (fun i : Nat => (i : Int)) := fun x hx => by
    have := isN_iff.1 (hr x hx)
    exact List.mem_map.2 ⟨x.toNat, by rw [List.mem_range]; omega, by omega⟩
  have := sub_len _ _ h hsub
  simpa using this
/-- The top has all that it is made of: it is reckoned. -/
theorem Once.pop {N : List Nd} {id : Int} {st held E : List Int} {t : Nat} {n : Nd} (h : Once N id (st ++ [(t : Int)]) held E) (hn : N[t]? = some n) (hk : ∀ k ∈ kidsN n, k ∈ held) (hG : GoodN N) :
    ∀ held', (∀ x, x ∈ held' ↔ x = (t : Int) ∨ x ∈ held) → Once N id st held' E := by
  intro held' hh
  have htN : isN N t = true := isN_iff.2 ⟨by omega, by have := (List.getElem?_eq_some_iff.1 hn).1; omega⟩
  refine ⟨fun x hx => h.rng x (List.mem_append_left _ hx), fun x hx => ?_, fun he => ?_, fun i m hi hm k hkk => ?_, h.ernge, h.nodup, fun u m hu hnh hm => ?_, fun hne => ?_⟩
  · rcases (hh x).1 hx with rfl | hx
    · exact htN
    · exact h.hrng x hx
  · subst he
    have := h.base (by simp)
    simp at this
    exact (hh id).2 (.inl this.symm)
  · rcases (hh _).1 hi with e | hi
    · have : i = t := by omega
      subst this
      rw [hn] at hm; cases hm
      exact (hh k).2 (.inr (hk k hkk))
    · exact (hh k).2 (.inr (h.clo i m hi hm k hkk))
  · have hut : ¬ (u : Int) = t := fun e => hnh ((hh _).2 (.inl e))
    obtain ⟨q, h1, h2, h3⟩ := h.pos u m hu (fun hc => hnh ((hh _).2 (.inr hc))) hm
    have hq : q < st.length := by
      have h4 := (List.getElem?_eq_some_iff.1 h1).1
      rw [List.length_append, List.length_singleton] at h4
      rcases Nat.lt_or_ge q st.length with h5 | h5
      · exact h5
      · exfalso
        rw [List.getElem?_append_right h5] at h1
        have : q - st.length = 0 := by omega
        rw [this] at h1
        simp at h1
        exact hut h1.symm
    refine ⟨q, by rw [List.getElem?_append_left hq] at h1; exact h1, fun r x hr hx => h2 r x hr ?_, fun k hkk => ?_⟩
    · rw [List.getElem?_append_left (List.getElem?_eq_some_iff.1 hx).1]; exact hx
    · rcases h3 k hkk with h4 | ⟨r, hr, hx⟩
      · exact .inl ((hh k).2 (.inr h4))
      · by_cases hrl : r < st.length
        · exact .inr ⟨r, hr, by rw [List.getElem?_append_left hrl] at hx; exact hx⟩
        · rw [List.getElem?_append_right (by omega)] at hx
          have h5 := (List.getElem?_eq_some_iff.1 hx).1
          simp only [List.length_singleton] at h5
          have : r - st.length = 0 := by omega
          rw [this] at hx
          simp at hx
          exact .inl ((hh k).2 (.inl hx.symm))
  · have := h.base (by simp)
    cases st with
    | nil => exact absurd rfl hne
    | cons a l => simpa using this
/-- The top wants others first. -/
theorem Once.push {N : List Nd} {id : Int} {st held E ks : List Int} {t : Nat} {n : Nd} (h : Once N id (st ++ [(t : Int)]) held E) (hn : N[t]? = some n) (hG : GoodN N) (hks : ks = (kidsN n).filter (fun k => decide (k ∉ held))) (hne : ks ≠ []) :
    Once N id (st ++ [(t : Int)] ++ ks) held ((t : Int) :: E) ∧ onceM N (st ++ [(t : Int)] ++ ks) ((t : Int) :: E) < onceM N (st ++ [(t : Int)]) E := by
  have htN : isN N t = true := isN_iff.2 ⟨by omega, by have := (List.getElem?_eq_some_iff.1 hn).1; omega⟩
  have hmem : ∀ k ∈ ks, k ∈ kidsN n ∧ k ∉ held := fun k hk => by
    rw [hks, List.mem_filter] at hk
    exact ⟨hk.1, by simpa using hk.2⟩
  have hkl : ks.length ≤ 3 := by
    rw [hks]
    refine Nat.le_trans (List.length_filter_le _ _) ?_
    unfold kidsN
    split
    · simp
    · split
      · simp
      · split <;> simp
  obtain ⟨k0, hk0⟩ : ∃ k, k ∈ ks := by
    cases ks with
    | nil => exact absurd rfl hne
    | cons a l => exact ⟨a, List.mem_cons_self⟩
  have htop : (st ++ [(t : Int)])[st.length]? = some (t : Int) := by simp
  have htE : (t : Int) ∉ E := fun hE => by
    have hth : (t : Int) ∉ held := fun hh => (hmem k0 hk0).2 (h.clo t n hh hn k0 (hmem k0 hk0).1)
    obtain ⟨q, h1, h2, h3⟩ := h.pos t n hE hth hn
    have hql : q < (st ++ [(t : Int)]).length := (List.getElem?_eq_some_iff.1 h1).1
    rw [List.length_append, List.length_singleton] at hql
    by_cases hq : q < st.length
    · have := h2 st.length t hq htop
      omega
    · have hq : q = st.length := by omega
      subst hq
      rcases h3 k0 (hmem k0 hk0).1 with h4 | ⟨r, hr, hx⟩
      · exact (hmem k0 hk0).2 h4
      · have := (List.getElem?_eq_some_iff.1 hx).1
        rw [List.length_append, List.length_singleton] at this
        omega
  have hlt : ∀ k ∈ ks, 0 ≤ k ∧ k < t := fun k hk => kids_lt hG hn (hmem k hk).1
  have hEn : ((t : Int) :: E).Nodup := List.nodup_cons.2 ⟨htE, h.nodup⟩
  have hEr : ∀ x ∈ (t : Int) :: E, isN N x = true := fun x hx => by
    rcases List.mem_cons.1 hx with rfl | hx
    · exact htN
    · exact h.ernge x hx
  have hEl := nodup_range hEn hEr
  refine ⟨⟨fun x hx => ?_, h.hrng, fun he => by simp at he, h.clo, hEr, hEn, fun u m hu hnh hm => ?_, fun _ => ?_⟩, ?_⟩
  · rcases List.mem_append.1 hx with hx | hx
    · exact h.rng x hx
    · have := hlt x hx
      have := isN_iff.1 htN
      exact isN_iff.2 ⟨by omega, by omega⟩
  · by_cases hut : (u : Int) = t
    · have : u = t := by omega
      subst this
      rw [hn] at hm; cases hm
      refine ⟨st.length, ?_, fun r x hr hx => ?_, fun k hkk => ?_⟩
      · rw [List.getElem?_append_left (by simp)]; exact htop
      · rw [List.getElem?_append_right (by simp; omega)] at hx
        exact (hlt x (List.mem_of_getElem? hx)).2
      · by_cases hkh : k ∈ held
        · exact .inl hkh
        · right
          have : k ∈ ks := by rw [hks, List.mem_filter]; exact ⟨hkk, by simpa using hkh⟩
          obtain ⟨j, hj⟩ := List.mem_iff_getElem?.1 this
          refine ⟨(st ++ [(u : Int)]).length + j, by simp; omega, ?_⟩
          rw [List.getElem?_append_right (by omega)]
          simpa using hj
    · have huE : (u : Int) ∈ E := by
        rcases List.mem_cons.1 hu with h | h
        · exact absurd h hut
        · exact h
      obtain ⟨q, h1, h2, h3⟩ := h.pos u m huE hnh hm
      have hql := (List.getElem?_eq_some_iff.1 h1).1
      have hq : q < st.length := by
        rw [List.length_append, List.length_singleton] at hql
        rcases Nat.lt_or_ge q st.length with h5 | h5
        · exact h5
        · exfalso
          have : q = st.length := by omega
          subst this
          rw [htop] at h1
          exact hut (Option.some.inj h1).symm
      have htu : (t : Int) < u := h2 st.length t hq htop
      refine ⟨q, by rw [List.getElem?_append_left hql]; exact h1, fun r x hr hx => ?_, fun k hkk => ?_⟩
      · by_cases hrl : r < (st ++ [(t : Int)]).length
        · rw [List.getElem?_append_left hrl] at hx
          exact h2 r x hr hx
        · rw [List.getElem?_append_right (by omega)] at hx
          have := hlt x (List.mem_of_getElem? hx)
          omega
      · rcases h3 k hkk with h4 | ⟨r, hr, hx⟩
        · exact .inl h4
        · exact .inr ⟨r, hr, by rw [List.getElem?_append_left (List.getElem?_eq_some_iff.1 hx).1]; exact hx⟩
  · have := h.base (by simp)
    rw [List.getElem?_append_left (by simp)]; exact this
  · unfold onceM
    have e1 : (st ++ [(t : Int)] ++ ks).length = (st ++ [(t : Int)]).length + ks.length := List.length_append
    rw [e1, List.length_cons]
    rw [List.length_cons] at hEl
    have : 1 ≤ ks.length := by
      cases ks with
      | nil => exact absurd rfl hne
      | cons a l => simp
    omega
end Go.Proofs.Ytanjlgafjgoaaaa
