import Derived.Test.YthkkjjbjpbgcpaaRef16
import Derived.Test.YthkkjjbjpbgcpaaCompact
namespace Go.Proofs.Ythkkjjbjpbgcpaa
open Go.Mw
set_option linter.unusedVariables false
set_option linter.unusedSimpArgs false
set_option maxRecDepth 100000
attribute [local irreducible] M.val M.unit M.next M.pick M.new M.nilCheck M.load1 M.loadA M.store M.fieldAddr M.indexSl M.indexArr M.slice M.makeSlice M.buildSlice M.len M.lenS M.cap M.append M.extract M.conv M.not M.neg M.bin M.shift M.eqB M.eqNil M.scat M.call M.callv M.gd M.share M.cond M.loop M.draw pureW readW Ret
/-! ### which terms one is made of: plain -/
inductive Rch (N : List Nd) (id : Int) : Int → Prop
  | self : Rch N id id
  | kid (i : Nat) (n : Nd) (k : Int) (h : Rch N id i) (hn : N[i]? = some n) (hk : k ∈ kidsN n) : Rch N id k
theorem Rch.rng {N : List Nd} {id x : Int} (hG : GoodN N) (hid : isN N id = true) (h : Rch N id x) : 0 ≤ x ∧ x ≤ id := by
  induction h with
  | self => exact ⟨(isN_iff.1 hid).1, Int.le_refl _⟩
  | kid i n k _ hn hk ih => have := kids_lt hG hn hk; omega
theorem Rch.is {N : List Nd} {id x : Int} (hG : GoodN N) (hid : isN N id = true) (h : Rch N id x) : isN N x = true := by
  have h1 := h.rng hG hid
  have h2 := isN_iff.1 hid
  exact isN_iff.2 ⟨h1.1, by omega⟩
/-- What is closed and has the first one has all. -/
theorem Rch.closed {N : List Nd} {id x : Int} {S : Int → Prop} (h0 : S id) (hc : ∀ (i : Nat) n, S i → N[i]? = some n → ∀ k ∈ kidsN n, S k) (h : Rch N id x) : S x := by
  induction h with
  | self => exact h0
  | kid i n k _ hn hk ih => exact hc i n ih hn k hk
open Classical in
noncomputable def belN (N : List Nd) (id : Int) : List Int := ((List.range N.length).map (fun i : Nat => (i : Int))).filter (fun x => decide (isN N id = true ∧ Rch N id x))
theorem mem_belN {N : List Nd} {id x : Int} (hG : GoodN N) : x ∈ belN N id ↔ isN N id = true ∧ Rch N id x := by
  unfold belN
  rw [List.mem_filter]
  constructor
  · rintro ⟨_, h⟩; simpa using h
  · intro h
    refine ⟨?_, by simpa using h⟩
    have := isN_iff.1 (h.2.is hG h.1)
    exact List.mem_map.2 ⟨x.toNat, by rw [List.mem_range]; omega, by omega⟩
theorem nodup_map_cast (n : Nat) : ((List.range n).map (fun i : Nat => (i : Int))).Nodup := by
  rw [List.nodup_iff_pairwise_ne, List.pairwise_map]
  exact List.nodup_range.imp (fun h => by omega)
theorem nodup_belN (N : List Nd) (id : Int) : (belN N id).Nodup := by
  unfold belN
  exact (nodup_map_cast N.length).filter _
/-- The variables of some terms. -/
def varsA (N : List Nd) (l : List Int) : List Int := l.filterMap (fun x => match N[x.toNat]? with
  | some n => if n.op = 21 then some n.a else none
  | none => none)
theorem mem_varsA {N : List Nd} {l : List Int} {a : Int} : a ∈ varsA N l ↔ ∃ x ∈ l, ∃ n, N[x.toNat]? = some n ∧ n.op = 21 ∧ n.a = a := by
  unfold varsA
  rw [List.mem_filterMap]
  constructor
  · rintro ⟨x, hx, h⟩
    cases hn : N[x.toNat]? with
    | none => simp [hn] at h
    | some n =>
      simp only [hn] at h
      by_cases ho : n.op = 21
      · rw [if_pos ho] at h; exact ⟨x, hx, n, hn, ho, Option.some.inj h⟩
      · rw [if_neg ho] at h; simp at h
  · rintro ⟨x, hx, n, hn, ho, h⟩
    exact ⟨x, hx, by simp only [hn]; rw [if_pos ho, h]⟩
noncomputable def varsN (N : List Nd) (id : Int) : List Int := srt (varsA N (belN N id))
theorem srt_ext {l m : List Int} (h : ∀ x, x ∈ l ↔ x ∈ m) : srt l = srt m := eq_srt (srt_lt l) (fun y => by rw [mem_srt, h])
theorem varsN_of {N : List Nd} {id : Int} {l : List Int} (h : ∀ x, x ∈ l ↔ x ∈ belN N id) : srt (varsA N l) = varsN N id := by
  refine srt_ext (fun x => ?_)
  rw [mem_varsA, mem_varsA]
  constructor
  · rintro ⟨y, hy, r⟩; exact ⟨y, (h y).1 hy, r⟩
  · rintro ⟨y, hy, r⟩; exact ⟨y, (h y).2 hy, r⟩
theorem nodup_len {l m : List Int} (h1 : l.Nodup) (h2 : m.Nodup) (h : ∀ x, x ∈ l ↔ x ∈ m) : l.length = m.length :=
  Nat.le_antisymm (sub_len l m h1 (fun x hx => (h x).1 hx)) (sub_len m l h2 (fun x hx => (h x).2 hx))
theorem belN_len {N : List Nd} {id : Int} : (belN N id).length ≤ N.length := by
  unfold belN
  refine Nat.le_trans (List.length_filter_le _ _) (by simp)
theorem varsA_len {N : List Nd} {l : List Int} : (varsA N l).length ≤ l.length := List.length_filterMap_le ..
theorem varsN_len {N : List Nd} {id : Int} : (varsN N id).length ≤ N.length := Nat.le_trans (len_srt _) (Nat.le_trans varsA_len belN_len)
/-! ### from the last one down: how the document goes -/
def setK (l : List Bool) (ks : List Int) : List Bool := ks.foldl (fun a k => a.set k.toNat true) l
theorem setK_len (ks : List Int) : ∀ l : List Bool, (setK l ks).length = l.length := by
  induction ks with
  | nil => intro l; rfl
  | cons k ks ih => intro l; show (setK (l.set k.toNat true) ks).length = _; rw [ih]; simp
theorem setK_get (ks : List Int) : ∀ (l : List Bool) (j : Nat), j < l.length → ((setK l ks)[j]? = some true ↔ (∃ k ∈ ks, k.toNat = j) ∨ l[j]? = some true) := by
  induction ks with
  | nil => intro l j hj; simp [setK]
  | cons k ks ih =>
    intro l j hj
    show (setK (l.set k.toNat true) ks)[j]? = some true ↔ _
    rw [ih _ _ (by simpa using hj), List.getElem?_set]
    by_cases hk : k.toNat = j
    · subst hk
      simp [hj]
    · rw [if_neg hk]
      simp [hk]
structure Bel (N : List Nd) (id : Int) (m : Nat) (inn : List Bool) (out : List Int) : Prop where
  len : inn.length = id.toNat + 1
  first : inn[id.toNat]? = some true
  rch : ∀ j : Nat, inn[j]? = some true → Rch N id j
  clo : ∀ (p : Nat) n, m ≤ p → inn[p]? = some true → N[p]? = some n → ∀ k ∈ kidsN n, inn[k.toNat]? = some true
  mem : ∀ x, x ∈ out ↔ ∃ p : Nat, x = p ∧ m ≤ p ∧ inn[p]? = some true
  nodup : out.Nodup
theorem Bel.start {N : List Nd} {id : Int} (hid : isN N id = true) : Bel N id (id.toNat + 1) ((List.replicate (id.toNat + 1) false).set id.toNat true) [] := by
  have h0 := isN_iff.1 hid
  have key : ∀ j : Nat, ((List.replicate (id.toNat + 1) false).set id.toNat true)[j]? = some true → j = id.toNat := fun j h => by
    rw [List.getElem?_set] at h
    by_cases hj : id.toNat = j
    · exact hj.symm
    · rw [if_neg hj, List.getElem?_replicate] at h
      split at h <;> simp at h
  refine ⟨by simp, ?_, fun j hj => ?_, fun p n hp h => ?_, fun x => ?_, by simp⟩
  · rw [List.getElem?_set, if_pos rfl, if_pos (by simp)]
  · have := key j hj
    have e : (j : Int) = id := by omega
    rw [e]; exact Rch.self
  · have := key p h; omega
  · constructor
    · intro h; simp at h
    · rintro ⟨p, _, hp, h⟩
      have := key p h; omega
theorem Bel.skip {N : List Nd} {id : Int} {m : Nat} {inn : List Bool} {out : List Int} (h : Bel N id (m + 1) inn out) (hm : inn[m]? ≠ some true) : Bel N id m inn out := by
  have key : ∀ p : Nat, m ≤ p → inn[p]? = some true → m + 1 ≤ p := fun p hp hi => by
    by_cases e : p = m
    · subst e; exact absurd hi hm
    · omega
  refine ⟨h.len, h.first, h.rch, fun p n hp hi => h.clo p n (key p hp hi) hi, fun x => ?_, h.nodup⟩
  rw [h.mem]
  constructor
  · rintro ⟨p, h1, h2, h3⟩; exact ⟨p, h1, by omega, h3⟩
  · rintro ⟨p, h1, h2, h3⟩; exact ⟨p, h1, key p h2 h3, h3⟩
theorem Bel.take {N : List Nd} {id : Int} {m : Nat} {inn : List Bool} {out : List Int} {n : Nd} (hG : GoodN N) (h : Bel N id (m + 1) inn out) (hm : inn[m]? = some true) (hn : N[m]? = some n) : Bel N id m (setK inn (kidsN n)) (out ++ [(m : Int)]) := by
  have hml : m < inn.length := (List.getElem?_eq_some_iff.1 hm).1
  have get : ∀ j : Nat, (setK inn (kidsN n))[j]? = some true ↔ (∃ k ∈ kidsN n, k.toNat = j) ∨ inn[j]? = some true := fun j => by
    by_cases hj : j < inn.length
    · exact setK_get _ _ _ hj
    · constructor
      · intro h1
        have := (List.getElem?_eq_some_iff.1 h1).1
        rw [setK_len] at this; omega
      · rintro (⟨k, hk, e⟩ | h1)
        · have := kids_lt hG hn hk; omega
        · have := (List.getElem?_eq_some_iff.1 h1).1; omega
  have high : ∀ p : Nat, m ≤ p → ((setK inn (kidsN n))[p]? = some true ↔ inn[p]? = some true) := fun p hp => by
    rw [get]
    constructor
    · rintro (⟨k, hk, e⟩ | h1)
      · have := kids_lt hG hn hk; omega
      · exact h1
    · exact .inr
  have hr := h.rch m hm
  refine ⟨by rw [setK_len]; exact h.len, (get _).2 (.inr h.first), fun j hj => ?_, fun p n' hp hi hn' k hk => ?_, fun x => ?_, ?_⟩
  · rcases (get j).1 hj with ⟨k, hk, e⟩ | h1
    · have := kids_lt hG hn hk
      have e : (j : Int) = k := by omega
      rw [e]; exact Rch.kid m n k hr hn hk
    · exact h.rch j h1
  · rw [get]
    by_cases e : p = m
    · subst e
      rw [hn] at hn'; cases hn'
      exact .inl ⟨k, hk, rfl⟩
    · exact .inr (h.clo p n' (by omega) ((high p hp).1 hi) hn' k hk)
  · rw [List.mem_append, h.mem]
    constructor
    · rintro (⟨p, h1, h2, h3⟩ | h1)
      · exact ⟨p, h1, by omega, (high p (by omega)).2 h3⟩
      · simp at h1; exact ⟨m, h1, Nat.le_refl _, (high m (Nat.le_refl _)).2 hm⟩
    · rintro ⟨p, h1, h2, h3⟩
      by_cases e : p = m
      · subst e; right; simp [h1]
      · exact .inl ⟨p, h1, by omega, (high p h2).1 h3⟩
  · rw [List.nodup_append]
    refine ⟨h.nodup, by simp, fun a ha b hb => ?_⟩
    simp at hb; subst hb
    rintro rfl
    obtain ⟨p, h1, h2, _⟩ := (h.mem _).1 ha
    omega
theorem Bel.done {N : List Nd} {id : Int} {inn : List Bool} {out : List Int} (hG : GoodN N) (hid : isN N id = true) (h : Bel N id 0 inn out) (x : Int) : x ∈ out ↔ x ∈ belN N id := by
  rw [h.mem, mem_belN hG]
  constructor
  · rintro ⟨p, rfl, _, h1⟩; exact ⟨hid, h.rch p h1⟩
  · rintro ⟨_, h1⟩
    have hr := h1.rng hG hid
    refine ⟨x.toNat, by omega, by omega, ?_⟩
    refine Rch.closed (S := fun x => inn[x.toNat]? = some true) h.first (fun i n hi hn k hk => ?_) h1
    simp only [Int.toNat_natCast] at hi
    exact h.clo i n (by omega) hi hn k hk
/-! ### a word fits -/
theorem cut_bits {m : Nat} (h1 : 1 ≤ m) (h2 : m ≤ 64) {x : W64} (h : ∀ i, m ≤ i → x.getLsbD i = false) : cutW m x = x := by
  apply BitVec.eq_of_getLsbD_eq
  intro i hi
  rw [cutW_bit h1 h2]
  by_cases hm : i < m
  · simp [hm]
  · simp [hm, h i (by omega)]
theorem cut_zero (n : Int) : cutW n 0 = 0 := by unfold cutW; simp
theorem binC_cmp {op : Int} (h : 12 ≤ op) (m : Nat) (a b : W64) : binC op m a b = 0 ∨ binC op m a b = 1 := by
  unfold binC
  rw [if_neg (by omega), if_neg (by omega), if_neg (by omega), if_neg (by omega), if_neg (by omega), if_neg (by omega), if_neg (by omega), if_neg (by omega), if_neg (by omega), if_neg (by omega), if_neg (by omega)]
  repeat' split
  all_goals simp
theorem wordAt_fits {N : List Nd} (hG : GoodN N) (env : List W64) : ∀ i : Nat, isN N i = true → cutW (wdN N i) (wordAt N env i) = wordAt N env i := by
  intro i
  induction i using Nat.strongRecOn with
  | _ i ih =>
    intro hi
    obtain ⟨j, n, hj, hn⟩ := isN_get hi
    have hj : i = j := by omega
    subst hj
    rw [wdN_at hn, wordAt_one hG hn]
    have hkid : ∀ k ∈ kidsN n, cutW (wdN N k) (wordAt N env k) = wordAt N env k ∧ 1 ≤ wdN N k ∧ wdN N k ≤ 64 := fun k hk => by
      have hl := kids_lt hG hn hk
      have hlt := (isN_iff.1 hi).2
      have hki : isN N k = true := isN_iff.2 ⟨hl.1, by omega⟩
      have := ih k.toNat (by omega)
      have e : ((k.toNat : Nat) : Int) = k := by omega
      rw [e] at this
      exact ⟨this hki, hG.wd hki⟩
    have hwt : ∀ k ∈ kidsN n, wdN (N.take i) k = wdN N k := fun k hk => by
      refine wdN_take ?_
      exact (hG i n hn).2.1 k hk
    obtain ⟨hw, _, h3⟩ := hG i n hn
    obtain ⟨m, hm⟩ : ∃ m : Nat, n.wd = m := ⟨n.wd.toNat, by omega⟩
    have hf : fitsB n.wd = true := by rw [hm]; exact fits_of (by omega) (by omega)
    rcases h3 with ⟨ho, _, _, _, hc⟩ | ⟨ho, _⟩ | ⟨ho, _⟩ | ⟨ho, ho2, hwab, hwd, _⟩ | ⟨ho, hwa, hwb, hwc, _⟩ | ⟨ho, _⟩ | ⟨ho, hwd, _⟩ | ⟨ho, hwd, _⟩
    · rw [oneV_const ho]; exact hc
    · rw [oneV_var ho]
      split
      · exact cut_cut hf _
      · exact cut_zero _
    · rw [oneV_un ho]
      unfold unW
      split
      · exact cut_zero _
      · first
        | exact cut_cut hf _
        | (rw [if_pos hf]; exact cut_cut hf _)
    · have hk := kids_two (n := n) (by omega)
      have ka := hkid n.a (by rw [hk]; simp)
      rw [hwt n.a (by rw [hk]; simp)] at hwd
      rw [oneV_bin ho ho2]
      unfold binW
      rw [if_neg (by omega)]
      obtain ⟨ma, hma⟩ : ∃ m : Nat, wdN N n.a = m := ⟨(wdN N n.a).toNat, by omega⟩
      have hfa : fitsB (wdN N n.a) = true := by rw [hma]; exact fits_of (by omega) (by omega)
      rw [if_pos hfa]
      by_cases h12 : 12 ≤ n.op
      · rw [if_pos h12] at hwd
        rw [hwd]
        have hb := binC_cmp h12 (wdN N n.a).toNat (cutW (wdN N n.a) (wordAt N env n.a)) (cutW (wdN N n.a) (wordAt N env n.b))
        rw [hma] at hb ⊢
        have h1 : cutW (ma : Int) (1 : W64) = 1 := by
          refine cut_bits (m := ma) (by omega) (by omega) (fun i hi => ?_)
          have h0 : ¬ i = 0 := by omega
          simp [h0]
        rcases hb with hb | hb
        · rw [hb, cut_zero]; exact cut_zero _
        · rw [hb, h1]; decide
      · rw [if_neg h12] at hwd
        rw [hwd]; exact cut_cut hfa _
    · have hk := kids_three ho
      have kb := hkid n.b (by rw [hk]; simp)
      have kc := hkid n.c (by rw [hk]; simp)
      rw [hwt n.b (by rw [hk]; simp)] at hwc hwb
      rw [hwt n.c (by rw [hk]; simp)] at hwb
      rw [oneV_ite ho]
      split
      · rw [hwc]; exact kb.1
      · rw [hwc, hwb]; exact kc.1
    · rw [oneV_ext ho]; exact cut_cut hf _
    · have hk := kids_two (n := n) (by omega)
      have ka := hkid n.a (by rw [hk]; simp)
      have kb := hkid n.b (by rw [hk]; simp)
      rw [hwt n.a (by rw [hk]; simp), hwt n.b (by rw [hk]; simp)] at hwd
      rw [oneV_cat ho]
      obtain ⟨ma, hma⟩ : ∃ m : Nat, wdN N n.a = m := ⟨(wdN N n.a).toNat, by omega⟩
      obtain ⟨mb, hmb⟩ : ∃ m : Nat, wdN N n.b = m := ⟨(wdN N n.b).toNat, by omega⟩
      rw [hma] at ka hwd; rw [hmb] at kb hwd ⊢
      rw [hm]
      refine cut_bits (by omega) (by omega) (fun j hj => ?_)
      rw [BitVec.getLsbD_or, BitVec.getLsbD_shiftLeft, cut_high (m := mb) (by omega) (by omega) kb.1 (by omega), Int.toNat_natCast, cut_high (m := ma) (by omega) (by omega) ka.1 (by omega)]
      simp
    · have hk := kids_one (n := n) (by omega)
      have ka := hkid n.a (by rw [hk]; simp)
      rw [hwt n.a (by rw [hk]; simp)] at hwd
      rcases ho with ho | ho
      · rw [oneV_zext ho]
        obtain ⟨ma, hma⟩ : ∃ m : Nat, wdN N n.a = m := ⟨(wdN N n.a).toNat, by omega⟩
        rw [hma] at ka hwd
        rw [hm]
        exact cut_bits (by omega) (by omega) (fun j hj => cut_high (m := ma) (by omega) (by omega) ka.1 (by omega))
      · rw [oneV_sext ho]; exact cut_cut hf _
/-! ### a word hangs on its variables alone -/
theorem wordAt_same {N : List Nd} (hG : GoodN N) {a b : List W64} {id : Int} (hid : isN N id = true) (h : ∀ v ∈ varsN N id, a.getD v.toNat 0 = b.getD v.toNat 0) : ∀ i : Nat, Rch N id i → wordAt N a i = wordAt N b i := by
  intro i
  induction i using Nat.strongRecOn with
  | _ i ih =>
    intro hr
    obtain ⟨j, n, hj, hn⟩ := isN_get (hr.is hG hid)
    have hj : i = j := by omega
    subst hj
    rw [wordAt_one hG hn, wordAt_one hG hn]
    have hk : ∀ k ∈ kidsN n, wordAt N a k = wordAt N b k := fun k hk => by
      have hl := kids_lt hG hn hk
      have e : ((k.toNat : Nat) : Int) = k := by omega
      have := ih k.toNat (by omega) (by rw [e]; exact Rch.kid i n k hr hn hk)
      rw [e] at this; exact this
    rw [oneV_congr (hG i n hn) hk]
    by_cases ho : n.op = 21
    · have ha0 : 0 ≤ n.a := by
        obtain ⟨_, _, h3⟩ := hG i n hn
        rcases h3 with ⟨h, _⟩ | ⟨_, h, _⟩ | ⟨h, _⟩ | ⟨_, h, _⟩ | ⟨h, _⟩ | ⟨h, _⟩ | ⟨h, _⟩ | ⟨h, _⟩ <;> omega
      have hv := h n.a (by
        unfold varsN
        rw [mem_srt, mem_varsA]
        exact ⟨i, (mem_belN hG).2 ⟨hid, hr⟩, n, by rw [Int.toNat_natCast]; exact hn, ho, rfl⟩)
      rw [oneV_var ho, oneV_var ho]
      have z : ∀ l : List W64, ¬ n.a < (l.length : Int) → l.getD n.a.toNat 0 = 0 := fun l hl => by
        rw [List.getD_eq_getElem?_getD, List.getElem?_eq_none (by omega)]; rfl
      by_cases h1 : n.a < (a.length : Int) <;> by_cases h2 : n.a < (b.length : Int)
      · rw [if_pos h1, if_pos h2, hv]
      · rw [if_pos h1, if_neg h2, hv, z b h2]; exact cut_zero _
      · rw [if_neg h1, if_pos h2, ← hv, z a h1]; exact (cut_zero _).symm
      · rw [if_neg h1, if_neg h2]
    · unfold oneV
      simp only [if_neg ho]
end Go.Proofs.Ythkkjjbjpbgcpaa
