import Derived.Test.YtanjlgafjgoaaaaGreatK4
namespace Go.Proofs.YtanjlgafjgoaaaaGreat
open Go.Mw
set_option linter.unusedVariables false
set_option linter.unusedSimpArgs false
set_option maxRecDepth 100000
attribute [local irreducible] M.val M.unit M.next M.pick M.new M.nilCheck M.load1 M.loadA M.store M.fieldAddr M.indexSl M.indexArr M.slice M.makeSlice M.buildSlice M.len M.lenS M.cap M.append M.extract M.conv M.not M.neg M.bin M.shift M.eqB M.eqNil M.scat M.call M.callv M.gd M.share M.cond M.loop M.draw pureW readW Ret
inductive Rch (N : List Nd) (id : Int) : Int → Prop
  | self : Rch N id id
  | kid (i : Nat) (n : Nd) (k : Int) (h : Rch N id i) (hn : N[i]? = some n) (hk : k ∈ kidsN n) : Rch N id k
theorem Rch.rng {N : List Nd} {id x : Int} (hG : GoodN N) (hid : isN N id = true) (h : Rch N id x) : 0 ≤ x ∧ x ≤ id := by
  induction h with
  | self => exact ⟨(isN_iff.1 hid).1, Int.le_refl _⟩
  | kid i n k _ hn hk ih => have := kids_lt hG hn hk; omega
theorem Rch.is {N : List Nd} {id x : Int} (hG : GoodN N) (hid : isN N id = true) (h : Rch N id x) : isN N x = true := by
  have h1 := h.rng hG hid
  have h2 := isN_iff.1 hid
  exact isN_iff.2 ⟨h1.1, by omega⟩
theorem Rch.closed {N : List Nd} {id x : Int} {S : Int → Prop} (h0 : S id) (hc : ∀ (i : Nat) n, S i → N[i]? = some n → ∀ k ∈ kidsN n, S k) (h : Rch N id x) : S x := by
  induction h with
  | self => exact h0
  | kid i n k _ hn hk ih => exact hc i n ih hn k hk
open Classical in
noncomputable def belN (N : List Nd) (id : Int) : List Int := ((List.range N.length).map (fun i : Nat => (i : Int))).filter (fun x => decide (isN N id = true ∧ Rch N id x))
theorem mem_belN {N : List Nd} {id x : Int} (hG : GoodN N) : x ∈ belN N id ↔ isN N id = true ∧ Rch N id x := by
  unfold belN
  rw [List.mem_filter]
  constructor
  · rintro ⟨_, h⟩; simpa using h
  · intro h
    refine ⟨?_, by simpa using h⟩
    have := isN_iff.1 (h.2.is hG h.1)
    exact List.mem_map.2 ⟨x.toNat, by rw [List.mem_range]; omega, by omega⟩
def setK (l : List Bool) (ks : List Int) : List Bool := ks.foldl (fun a k => a.set k.toNat true) l
theorem setK_len (ks : List Int) : ∀ l : List Bool, (setK l ks).length = l.length := by
  induction ks with
  | nil => intro l; rfl
  | cons k ks ih => intro l; show (setK (l.set k.toNat true) ks).length = _; rw [ih]; simp
theorem setK_get (ks : List Int) : ∀ (l : List Bool) (j : Nat), j < l.length → ((setK l ks)[j]? = some true ↔ (∃ k ∈ ks, k.toNat = j) ∨ l[j]? = some true) := by
  induction ks with
  | nil => intro l j hj; simp [setK]
  | cons k ks ih =>
    intro l j hj
    show (setK (l.set k.toNat true) ks)[j]? = some true ↔ _
    rw [ih _ _ (by simpa using hj), List.getElem?_set]
    by_cases hk : k.toNat = j
    · subst hk
      simp [hj]
    · rw [if_neg hk]
      simp [hk]
structure Bel (N : List Nd) (id : Int) (m : Nat) (inn : List Bool) (out : List Int) : Prop where
  len : inn.length = id.toNat + 1
  first : inn[id.toNat]? = some true
  rch : ∀ j : Nat, inn[j]? = some true → Rch N id j
  clo : ∀ (p : Nat) n, m ≤ p → inn[p]? = some true → N[p]? = some n → ∀ k ∈ kidsN n, inn[k.toNat]? = some true
  mem : ∀ x, x ∈ out ↔ ∃ p : Nat, x = p ∧ m ≤ p ∧ inn[p]? = some true
  nodup : out.Nodup
theorem Bel.start {N : List Nd} {id : Int} (hid : isN N id = true) : Bel N id (id.toNat + 1) ((List.replicate (id.toNat + 1) false).set id.toNat true) [] := by
  have h0 := isN_iff.1 hid
  have key : ∀ j : Nat, ((List.replicate (id.toNat + 1) false).set id.toNat true)[j]? = some true → j = id.toNat := fun j h => by
    rw [List.getElem?_set] at h
    by_cases hj : id.toNat = j
    · exact hj.symm
    · rw [if_neg hj, List.getElem?_replicate] at h
      split at h <;> simp at h
  refine ⟨by simp, ?_, fun j hj => ?_, fun p n hp h => ?_, fun x => ?_, by simp⟩
  · rw [List.getElem?_set, if_pos rfl, if_pos (by simp)]
  · have := key j hj
    have e : (j : Int) = id := by omega
    rw [e]; exact Rch.self
  · have := key p h; omega
  · constructor
    · intro h; simp at h
    · rintro ⟨p, _, hp, h⟩
      have := key p h; omega
theorem Bel.skip {N : List Nd} {id : Int} {m : Nat} {inn : List Bool} {out : List Int} (h : Bel N id (m + 1) inn out) (hm : inn[m]? ≠ some true) : Bel N id m inn out := by
  have key : ∀ p : Nat, m ≤ p → inn[p]? = some true → m + 1 ≤ p := fun p hp hi => by
    by_cases e : p = m
    · subst e; exact absurd hi hm
    · omega
  refine ⟨h.len, h.first, h.rch, fun p n hp hi => h.clo p n (key p hp hi) hi, fun x => ?_, h.nodup⟩
  rw [h.mem]
  constructor
  · rintro ⟨p, h1, h2, h3⟩; exact ⟨p, h1, by omega, h3⟩
  · rintro ⟨p, h1, h2, h3⟩; exact ⟨p, h1, key p h2 h3, h3⟩
theorem Bel.take {N : List Nd} {id : Int} {m : Nat} {inn : List Bool} {out : List Int} {n : Nd} (hG : GoodN N) (h : Bel N id (m + 1) inn out) (hm : inn[m]? = some true) (hn : N[m]? = some n) : Bel N id m (setK inn (kidsN n)) (out ++ [(m : Int)]) := by
  have hml : m < inn.length := (List.getElem?_eq_some_iff.1 hm).1
  have get : ∀ j : Nat, (setK inn (kidsN n))[j]? = some true ↔ (∃ k ∈ kidsN n, k.toNat = j) ∨ inn[j]? = some true := fun j => by
    by_cases hj : j < inn.length
    · exact setK_get _ _ _ hj
    · constructor
      · intro h1
        have := (List.getElem?_eq_some_iff.1 h1).1
        rw [setK_len] at this; omega
      · rintro (⟨k, hk, e⟩ | h1)
        · have := kids_lt hG hn hk; omega
        · have := (List.getElem?_eq_some_iff.1 h1).1; omega
  have high : ∀ p : Nat, m ≤ p → ((setK inn (kidsN n))[p]? = some true ↔ inn[p]? = some true) := fun p hp => by
    rw [get]
    constructor
    · rintro (⟨k, hk, e⟩ | h1)
      · have := kids_lt hG hn hk; omega
      · exact h1
    · exact .inr
  have hr := h.rch m hm
  refine ⟨by rw [setK_len]; exact h.len, (get _).2 (.inr h.first), fun j hj => ?_, fun p n' hp hi hn' k hk => ?_, fun x => ?_, ?_⟩
  · rcases (get j).1 hj with ⟨k, hk, e⟩ | h1
    · have := kids_lt hG hn hk
      have e : (j : Int) = k := by omega
      rw [e]; exact Rch.kid m n k hr hn hk
    · exact h.rch j h1
  · rw [get]
    by_cases e : p = m
    · subst e
      rw [hn] at hn'; cases hn'
      exact .inl ⟨k, hk, rfl⟩
    · exact .inr (h.clo p n' (by omega) ((high p hp).1 hi) hn' k hk)
  · rw [List.mem_append, h.mem]
    constructor
    · rintro (⟨p, h1, h2, h3⟩ | h1)
      · exact ⟨p, h1, by omega, (high p (by omega)).2 h3⟩
      · simp at h1; exact ⟨m, h1, Nat.le_refl _, (high m (Nat.le_refl _)).2 hm⟩
    · rintro ⟨p, h1, h2, h3⟩
      by_cases e : p = m
      · subst e; right; simp [h1]
      · exact .inl ⟨p, h1, by omega, (high p h2).1 h3⟩
  · rw [List.nodup_append]
    refine ⟨h.nodup, by simp, fun a ha b hb => ?_⟩
    simp at hb; subst hb
    rintro rfl
    obtain ⟨p, h1, h2, _⟩ := (h.mem _).1 ha
    omega
theorem Bel.done {N : List Nd} {id : Int} {inn : List Bool} {out : List Int} (hG : GoodN N) (hid : isN N id = true) (h : Bel N id 0 inn out) (x : Int) : x ∈ out ↔ x ∈ belN N id := by
  rw [h.mem, mem_belN hG]
  constructor
  · rintro ⟨p, rfl, _, h1⟩; exact ⟨hid, h.rch p h1⟩
  · rintro ⟨_, h1⟩
    have hr := h1.rng hG hid
    refine ⟨x.toNat, by omega, by omega, ?_⟩
    refine Rch.closed (S := fun x => inn[x.toNat]? = some true) h.first (fun i n hi hn k hk => ?_) h1
    simp only [Int.toNat_natCast] at hi
    exact h.clo i n (by omega) hi hn k hk
theorem cut_bits {m : Nat} (h1 : 1 ≤ m) (h2 : m ≤ 64) {x : W64} (h : ∀ i, m ≤ i → x.getLsbD i = false) : cutW m x = x := by
  apply BitVec.eq_of_getLsbD_eq
  intro i hi
  rw [cutW_bit h1 h2]
  by_cases hm : i < m
  · simp [hm]
  · simp [hm, h i (by omega)]
theorem cut_zero (n : Int) : cutW n 0 = 0 := by unfold cutW; simp
theorem binC_cmp {op : Int} (h : 12 ≤ op) (m : Nat) (a b : W64) : binC op m a b = 0 ∨ binC op m a b = 1 := by
  unfold binC
  rw [if_neg (by omega), if_neg (by omega), if_neg (by omega), if_neg (by omega), if_neg (by omega), if_neg (by omega), if_neg (by omega), if_neg (by omega), if_neg (by omega), if_neg (by omega), if_neg (by omega)]
  repeat' split
  all_goals simp
theorem wordAt_fits {N : List Nd} (hG : GoodN N) (env : List W64) : ∀ i : Nat, isN N i = true → cutW (wdN N i) (wordAt N env i) = wordAt N env i := by
  intro i
  induction i using Nat.strongRecOn with
  | _ i ih =>
    intro hi
    obtain ⟨j, n, hj, hn⟩ := isN_get hi
    have hj : i = j := by omega
    subst hj
    rw [wdN_at hn, wordAt_one hG hn]
    have hkid : ∀ k ∈ kidsN n, cutW (wdN N k) (wordAt N env k) = wordAt N env k ∧ 1 ≤ wdN N k ∧ wdN N k ≤ 64 := fun k hk => by
      have hl := kids_lt hG hn hk
      have hlt := (isN_iff.1 hi).2
      have hki : isN N k = true := isN_iff.2 ⟨hl.1, by omega⟩
      have := ih k.toNat (by omega)
      have e : ((k.toNat : Nat) : Int) = k := by omega
      rw [e] at this
      exact ⟨this hki, hG.wd hki⟩
    have hwt : ∀ k ∈ kidsN n, wdN (N.take i) k = wdN N k := fun k hk => by
      refine wdN_take ?_
      exact (hG i n hn).2.1 k hk
    obtain ⟨hw, _, h3⟩ := hG i n hn
    obtain ⟨m, hm⟩ : ∃ m : Nat, n.wd = m := ⟨n.wd.toNat, by omega⟩
    have hf : fitsB n.wd = true := by rw [hm]; exact fits_of (by omega) (by omega)
    rcases h3 with ⟨ho, _, _, _, hc⟩ | ⟨ho, _⟩ | ⟨ho, _⟩ | ⟨ho, ho2, hwab, hwd, _⟩ | ⟨ho, hwa, hwb, hwc, _⟩ | ⟨ho, _⟩ | ⟨ho, hwd, _⟩ | ⟨ho, hwd, _⟩
    · rw [oneV_const ho]; exact hc
    · rw [oneV_var ho]
      split
      · exact cut_cut hf _
      · exact cut_zero _
    · rw [oneV_un ho]
      unfold unW
      split
      · exact cut_zero _
      · first
        | exact cut_cut hf _
        | (rw [if_pos hf]; exact cut_cut hf _)
    · have hk := kids_two (n := n) (by omega)
      have ka := hkid n.a (by rw [hk]; simp)
      rw [hwt n.a (by rw [hk]; simp)] at hwd
      rw [oneV_bin ho ho2]
      unfold binW
      rw [if_neg (by omega)]
      obtain ⟨ma, hma⟩ : ∃ m : Nat, wdN N n.a = m := ⟨(wdN N n.a).toNat, by omega⟩
      have hfa : fitsB (wdN N n.a) = true := by rw [hma]; exact fits_of (by omega) (by omega)
      rw [if_pos hfa]
      by_cases h12 : 12 ≤ n.op
      · rw [if_pos h12] at hwd
        rw [hwd]
        have hb := binC_cmp h12 (wdN N n.a).toNat (cutW (wdN N n.a) (wordAt N env n.a)) (cutW (wdN N n.a) (wordAt N env n.b))
        rw [hma] at hb ⊢
        have h1 : cutW (ma : Int) (1 : W64) = 1 := by
          refine cut_bits (m := ma) (by omega) (by omega) (fun i hi => ?_)
          have h0 : ¬ i = 0 := by omega
          simp [h0]
        rcases hb with hb | hb
        · rw [hb, cut_zero]; exact cut_zero _
        · rw [hb, h1]; decide
      · rw [if_neg h12] at hwd
        rw [hwd]; exact cut_cut hfa _
    · have hk := kids_three ho
      have kb := hkid n.b (by rw [hk]; simp)
      have kc := hkid n.c (by rw [hk]; simp)
      rw [hwt n.b (by rw [hk]; simp)] at hwc hwb
      rw [hwt n.c (by rw [hk]; simp)] at hwb
      rw [oneV_ite ho]
      split
      · rw [hwc]; exact kb.1
      · rw [hwc, hwb]; exact kc.1
    · rw [oneV_ext ho]; exact cut_cut hf _
    · have hk := kids_two (n := n) (by omega)
      have ka := hkid n.a (by rw [hk]; simp)
      have kb := hkid n.b (by rw [hk]; simp)
      rw [hwt n.a (by rw [hk]; simp), hwt n.b (by rw [hk]; simp)] at hwd
      rw [oneV_cat ho]
      obtain ⟨ma, hma⟩ : ∃ m : Nat, wdN N n.a = m := ⟨(wdN N n.a).toNat, by omega⟩
      obtain ⟨mb, hmb⟩ : ∃ m : Nat, wdN N n.b = m := ⟨(wdN N n.b).toNat, by omega⟩
      rw [hma] at ka hwd; rw [hmb] at kb hwd ⊢
      rw [hm]
      refine cut_bits (by omega) (by omega) (fun j hj => ?_)
      rw [BitVec.getLsbD_or, BitVec.getLsbD_shiftLeft, cut_high (m := mb) (by omega) (by omega) kb.1 (by omega), Int.toNat_natCast, cut_high (m := ma) (by omega) (by omega) ka.1 (by omega)]
      simp
    · have hk := kids_one (n := n) (by omega)
      have ka := hkid n.a (by rw [hk]; simp)
      rw [hwt n.a (by rw [hk]; simp)] at hwd
      rcases ho with ho | ho
      · rw [oneV_zext ho]
        obtain ⟨ma, hma⟩ : ∃ m : Nat, wdN N n.a = m := ⟨(wdN N n.a).toNat, by omega⟩
        rw [hma] at ka hwd
        rw [hm]
        exact cut_bits (by omega) (by omega) (fun j hj => cut_high (m := ma) (by omega) (by omega) ka.1 (by omega))
      · rw [oneV_sext ho]; exact cut_cut hf _
end Go.Proofs.YtanjlgafjgoaaaaGreat
namespace Go.Proofs.YtanjlgafjgoaaaaGreat
open Go.Mw
set_option linter.unusedVariables false
set_option linter.unusedSimpArgs false
set_option maxRecDepth 100000
attribute [local irreducible] M.val M.unit M.next M.pick M.new M.nilCheck M.load1 M.loadA M.store M.fieldAddr M.indexSl M.indexArr M.slice M.makeSlice M.buildSlice M.len M.lenS M.cap M.append M.extract M.conv M.not M.neg M.bin M.shift M.eqB M.eqNil M.scat M.call M.callv M.gd M.share M.cond M.loop M.draw pureW readW Ret
theorem isN_ext {N : List Nd} {i : Int} (M : List Nd) (h : isN N i = true) : isN (N ++ M) i = true := by
  rw [isN_iff] at h ⊢
  rw [List.length_append]; omega
theorem wdN_ext {N : List Nd} {i : Int} (M : List Nd) (h : isN N i = true) : wdN (N ++ M) i = wdN N i := by
  obtain ⟨j, n, rfl, hj⟩ := isN_get h
  rw [wdN_at hj, wdN_at (n := n)]
  rw [List.getElem?_append_left (List.getElem?_eq_some_iff.1 hj).1]; exact hj
theorem valsU_app {N M : List Nd} {env : List W64} (hG : GoodN (N ++ M)) : ∀ i, i ≤ N.length → valsU (N ++ M) env i = valsU N env i
  | 0, _ => rfl
  | i + 1, h => by
    have ih := valsU_app (env := env) hG i (by omega)
    simp only [valsU]
    rw [ih, List.getElem?_append_left (by omega)]
    obtain ⟨n, hn⟩ : ∃ n, N[i]? = some n := ⟨_, List.getElem?_eq_getElem (by omega)⟩
    simp only [hn]
    have hn' : (N ++ M)[i]? = some n := by rw [List.getElem?_append_left (by omega)]; exact hn
    have hg := hG i n hn'
    have e : ∀ k ∈ kidsN n, wdN (N ++ M) k = wdN N k := fun k hk => by
      refine wdN_ext M ?_
      have := isN_take (hg.2.1 k hk)
      have h2 := isN_iff.1 (hg.2.1 k hk)
      rw [isN_iff]
      rw [List.length_take] at h2
      omega
    have : oneV (N ++ M) n (fun k => (valsU N env i).getD k.toNat 0) env = oneV N n (fun k => (valsU N env i).getD k.toNat 0) env := by
      obtain ⟨_, _, hc⟩ := hg
      have kk : kidsN n = if n.op = 20 ∨ n.op = 21 then [] else if n.op = 22 then [n.a, n.b, n.c] else if n.op ≤ 14 ∨ n.op = 24 then [n.a, n.b] else [n.a] := rfl
      unfold oneV
      by_cases h20 : n.op = 20
      · rw [if_pos h20, if_pos h20]
      rw [if_neg h20, if_neg h20]
      by_cases h21 : n.op = 21
      · rw [if_pos h21, if_pos h21]
      rw [if_neg h21, if_neg h21]
      by_cases h22 : n.op = 22
      · rw [if_pos h22, if_pos h22]
      rw [if_neg h22, if_neg h22]
      by_cases h23 : n.op = 23
      · rw [if_pos h23, if_pos h23]
      rw [if_neg h23, if_neg h23]
      rw [if_neg (by omega), if_neg h22] at kk
      by_cases h24 : n.op = 24
      · rw [if_pos h24, if_pos h24, e n.b (by rw [kk, if_pos (by omega)]; simp)]
      rw [if_neg h24, if_neg h24]
      have ea : wdN (N ++ M) n.a = wdN N n.a := e n.a (by rw [kk]; split <;> simp)
      rw [ea]
    rw [this]
theorem valW_ext {N M : List Nd} {env : List W64} {i : Int} (hG : GoodN (N ++ M)) (h : isN N i = true) : valW (N ++ M) env i = valW N env i := by
  have h1 := isN_iff.1 h
  unfold valW
  rw [isN_ext M h, h, if_pos rfl, if_pos rfl]
  unfold wordAt
  rw [← valsU_app (M := M) hG N.length (by omega)]
  exact valsU_get (by omega) (by simp)
theorem made_at {most : Int} {N : List Nd} {n : Nd} (h : (madeN most N n).2.2 = 0) : ∃ j : Nat, (madeN most N n).2.1 = j ∧ (madeN most N n).1[j]? = some n := by
  unfold madeN at h ⊢
  split at h
  · rename_i hm
    rw [if_pos hm]
    have := List.idxOf_lt_length_of_mem hm
    refine ⟨_, rfl, ?_⟩
    show N[N.idxOf _]? = _
    rw [List.getElem?_eq_getElem this, List.getElem_idxOf]
  · rename_i hm
    rw [if_neg hm]
    split at h
    · exact absurd (show (8 : Int) = 0 from h) (by decide)
    · rename_i hl
      rw [if_neg hl]
      exact ⟨N.length, rfl, by simp⟩
theorem made_err {most : Int} {N : List Nd} {n : Nd} : (madeN most N n).2.2 = 0 ∨ (madeN most N n).2.2 = 8 := by
  unfold madeN
  split
  · exact .inl rfl
  · split
    · exact .inr rfl
    · exact .inl rfl
theorem made_vars {most : Int} {N : List Nd} {n m : Nd} (h : m ∈ (madeN most N n).1) : m ∈ N ∨ m = n := by
  unfold madeN at h
  split at h
  · exact .inl h
  · split at h
    · exact .inl h
    · rcases List.mem_append.1 h with h | h
      · exact .inl h
      · exact .inr (by simpa using h)
structure Got (most : Int) (N : List Nd) (env : List W64) (r : Rs) (wd : Int) (x : W64) : Prop where
  good : GoodN r.1
  pre : ∃ M, r.1 = N ++ M
  err : r.2.2 = 0 ∨ r.2.2 = 8
  is : r.2.2 = 0 → isN r.1 r.2.1 = true ∧ wdN r.1 r.2.1 = wd ∧ valW r.1 env r.2.1 = x
  vars : ∀ n ∈ r.1, n.op = 21 → n ∈ N
  len : (r.1.length : Int) ≤ most ∨ r.1 = N
theorem valW_node {N : List Nd} {env : List W64} (hG : GoodN N) {j : Nat} {n : Nd} (h : N[j]? = some n) : isN N j = true ∧ wdN N j = n.wd ∧ valW N env j = oneV N n (wordAt N env) env := by
  have hl := (List.getElem?_eq_some_iff.1 h).1
  have hi : isN N j = true := isN_iff.2 ⟨by omega, by omega⟩
  refine ⟨hi, wdN_at h, ?_⟩
  unfold valW
  rw [hi, if_pos rfl, wordAt_one hG h]
theorem got_made {most : Int} {N : List Nd} {env : List W64} {n : Nd} {x : W64} (hG : GoodN N) (hn : goodN N n) (hv : n.op ≠ 21) (hx : ∀ M, GoodN (N ++ M) → oneV (N ++ M) n (wordAt (N ++ M) env) env = x) : Got most N env (madeN most N n) n.wd x := by
  have ha := ask_made (most := most) hG hn
  refine ⟨ha.good, ha.pre, made_err, fun h0 => ?_, fun m hm h21 => ?_, ha.len⟩
  · obtain ⟨j, e, hj⟩ := made_at h0
    obtain ⟨M, hM⟩ := ha.pre
    rw [e]
    have hg := ha.good
    rw [hM] at hj hg ⊢
    obtain ⟨h1, h2, h3⟩ := valW_node (env := env) hg hj
    exact ⟨h1, h2, by rw [h3]; exact hx M hg⟩
  · rcases made_vars hm with h | rfl
    · exact h
    · exact absurd h21 hv
theorem Got.same {most : Int} {N : List Nd} {env : List W64} {a wd : Int} {x : W64} (hG : GoodN N) (ha : isN N a = true) (hw : wdN N a = wd) (hx : valW N env a = x) : Got most N env (N, a, 0) wd x :=
  ⟨hG, ⟨[], by simp⟩, .inl rfl, fun _ => ⟨ha, hw, hx⟩, fun _ h _ => h, .inr rfl⟩
theorem cut_nat {m : Int} (h : 1 ≤ m ∧ m ≤ 64) : ∃ k : Nat, m = k ∧ 1 ≤ k ∧ k ≤ 64 := ⟨m.toNat, by omega, by omega, by omega⟩
theorem fits_int {m : Int} (h : 1 ≤ m ∧ m ≤ 64) : fitsB m = true := by simp [fitsB, h]
theorem good_const {N : List Nd} {w : Int} (x : W64) (h : 1 ≤ w ∧ w ≤ 64) : goodN N ⟨20, w, 0, 0, 0, cutW w x⟩ := by
  refine ⟨h, fun k hk => by simp [kidsN] at hk, .inl ⟨rfl, rfl, rfl, rfl, ?_⟩⟩
  exact cut_cut (fits_int h) x
theorem got_const {most : Int} {N : List Nd} {env : List W64} {w : Int} (hG : GoodN N) (h : 1 ≤ w ∧ w ≤ 64) (x : W64) : Got most N env (constN most N w x) w (cutW w x) := by
  unfold constN
  rw [if_pos (fits_int h)]
  exact got_made hG (good_const x h) (by show (20 : Int) ≠ 21; decide) (fun M _ => by unfold oneV; rw [if_pos rfl])
theorem valW_wordAt {N M : List Nd} {env : List W64} {i : Int} (hG : GoodN (N ++ M)) (h : isN N i = true) : wordAt (N ++ M) env i = valW N env i := by
  have := valW_ext (env := env) hG h
  unfold valW at this ⊢
  rw [isN_ext M h, if_pos rfl] at this
  exact this
theorem got_binary {most : Int} {N : List Nd} {env : List W64} {op a b : Int} (hG : GoodN N) (ho : 1 ≤ op ∧ op ≤ 14) (ha : isN N a = true) (hb : isN N b = true) (hw : wdN N a = wdN N b) :
    Got most N env (binaryN most N op a b) (if 12 ≤ op then 1 else wdN N a) (binW op (wdN N a) (valW N env a) (valW N env b)) := by
  unfold binaryN
  rw [if_neg (by omega), if_neg (by rw [ha, hb]; decide), if_neg (by omega)]
  have hwa := hG.wd ha
  refine got_made hG ⟨?_, ?_, ?_⟩ (by show op ≠ 21; omega) (fun M hM => ?_)
  · show 1 ≤ (if 12 ≤ op then (1 : Int) else wdN N a) ∧ (if 12 ≤ op then (1 : Int) else wdN N a) ≤ 64
    split <;> omega
  · intro k hk
    unfold kidsN at hk
    rw [if_neg (by show ¬ (op = 20 ∨ op = 21); omega), if_neg (by show ¬ op = 22; omega), if_pos (by show op ≤ 14 ∨ op = 24; omega)] at hk
    simp only [List.mem_cons, List.not_mem_nil, or_false] at hk
    rcases hk with rfl | rfl
    · exact ha
    · exact hb
  · exact .inr (.inr (.inr (.inl ⟨ho.1, ho.2, hw, rfl, rfl, rfl⟩)))
  · unfold oneV
    rw [if_neg (by show ¬ op = 20; omega), if_neg (by show ¬ op = 21; omega), if_neg (by show ¬ op = 22; omega), if_neg (by show ¬ op = 23; omega), if_neg (by show ¬ op = 24; omega), if_neg (by show ¬ op = 25; omega), if_neg (by show ¬ op = 26; omega), if_neg (by show ¬ (op = 15 ∨ op = 16); omega)]
    show binW op (wdN (N ++ M) a) (wordAt (N ++ M) env a) (wordAt (N ++ M) env b) = _
    rw [wdN_ext M ha, valW_wordAt hM ha, valW_wordAt hM hb]
theorem got_unary {most : Int} {N : List Nd} {env : List W64} {op a : Int} (hG : GoodN N) (ho : op = 15 ∨ op = 16) (ha : isN N a = true) :
    Got most N env (unaryN most N op a) (wdN N a) (unW op (wdN N a) (valW N env a)) := by
  unfold unaryN
  rw [if_neg (by omega), if_neg (by rw [ha]; decide)]
  refine got_made hG ⟨hG.wd ha, ?_, ?_⟩ (by show op ≠ 21; omega) (fun M hM => ?_)
  · intro k hk
    unfold kidsN at hk
    rw [if_neg (by show ¬ (op = 20 ∨ op = 21); omega), if_neg (by show ¬ op = 22; omega), if_neg (by show ¬ (op ≤ 14 ∨ op = 24); omega)] at hk
    simp only [List.mem_singleton] at hk
    subst hk; exact ha
  · exact .inr (.inr (.inl ⟨ho, rfl, rfl, rfl, rfl⟩))
  · unfold oneV
    rw [if_neg (by show ¬ op = 20; omega), if_neg (by show ¬ op = 21; omega), if_neg (by show ¬ op = 22; omega), if_neg (by show ¬ op = 23; omega), if_neg (by show ¬ op = 24; omega), if_neg (by show ¬ op = 25; omega), if_neg (by show ¬ op = 26; omega), if_pos ho]
    show unW op (wdN N a) (wordAt (N ++ M) env a) = _
    rw [valW_wordAt hM ha]
theorem got_extend {most : Int} {N : List Nd} {env : List W64} {a w : Int} (hG : GoodN N) (ha : isN N a = true) (h1 : wdN N a ≤ w) (h2 : w ≤ 64) :
    Got most N env (extendN most N a w false) w (valW N env a) := by
  have hwa := hG.wd ha
  unfold extendN
  rw [if_neg (by rw [ha]; decide), if_neg (by omega)]
  by_cases e : w = wdN N a
  · rw [if_pos e]; exact Got.same hG ha e.symm rfl
  · rw [if_neg e]
    refine got_made hG ⟨⟨by show 1 ≤ w; omega, h2⟩, ?_, ?_⟩ (by show (25 : Int) ≠ 21; decide) (fun M hM => ?_)
    · intro k hk
      simp only [kidsN] at hk
      simp at hk
      subst hk; exact ha
    · exact .inr (.inr (.inr (.inr (.inr (.inr (.inr ⟨.inl rfl, by show wdN N a < w; omega, rfl, rfl, rfl⟩))))))
    · have : oneV (N ++ M) ⟨if false then 26 else 25, w, a, 0, 0, 0⟩ (wordAt (N ++ M) env) env = wordAt (N ++ M) env a := by
        simp [oneV]
      rw [this, valW_wordAt hM ha]
theorem got_var {most : Int} {N : List Nd} {env : List W64} {k : Int} (hG : GoodN N) (h0 : 0 ≤ k) (h1 : k ≤ 255) (hv : ∀ n ∈ N, n.op = 21 → n.wd = 8) :
    GoodN (varN most N 8 k).1 ∧ (∃ M, (varN most N 8 k).1 = N ++ M) ∧ ((varN most N 8 k).2.2 = 0 ∨ (varN most N 8 k).2.2 = 8) ∧
    ((varN most N 8 k).2.2 = 0 → isN (varN most N 8 k).1 (varN most N 8 k).2.1 = true ∧ wdN (varN most N 8 k).1 (varN most N 8 k).2.1 = 8 ∧ valW (varN most N 8 k).1 env (varN most N 8 k).2.1 = (if k < (env.length : Int) then cutW 8 (env.getD k.toNat 0) else 0)) ∧
    (∀ n ∈ (varN most N 8 k).1, n.op = 21 → n.wd = 8) ∧ (((varN most N 8 k).1.length : Int) ≤ most ∨ (varN most N 8 k).1 = N) := by
  have ho : otherW N 8 k = false := by
    unfold otherW
    rw [List.any_eq_false]
    intro n hn
    by_cases h : n.op = 21
    · simp [h, hv n hn h]
    · simp [h]
  unfold varN
  rw [if_neg (by decide), if_neg (by omega), if_neg (by rw [ho]; decide)]
  have hg : goodN N ⟨21, 8, k, 0, 0, 0⟩ := ⟨⟨by show (1 : Int) ≤ 8; decide, by show (8 : Int) ≤ 64; decide⟩, fun j hj => by simp [kidsN] at hj, .inr (.inl ⟨rfl, h0, h1, rfl, rfl, rfl⟩)⟩
  have ha := ask_made (most := most) hG hg
  refine ⟨ha.good, ha.pre, made_err, fun h0 => ?_, fun n hn h21 => ?_, ha.len⟩
  · obtain ⟨j, e, hj⟩ := made_at h0
    rw [e]
    obtain ⟨h1, h2, h3⟩ := valW_node (env := env) ha.good hj
    exact ⟨h1, h2, by rw [h3]; unfold oneV; rw [if_neg (show ¬ (21 : Int) = 20 by decide), if_pos rfl]⟩
  · rcases made_vars hn with h | rfl
    · exact hv n h h21
    · rfl
end Go.Proofs.YtanjlgafjgoaaaaGreat
namespace Go.Proofs.YtanjlgafjgoaaaaGreat
open Go.Mw
set_option linter.unusedVariables false
set_option linter.unusedSimpArgs false
set_option maxRecDepth 100000
attribute [local irreducible] M.val M.unit M.next M.pick M.new M.nilCheck M.load1 M.loadA M.store M.fieldAddr M.indexSl M.indexArr M.slice M.makeSlice M.buildSlice M.len M.lenS M.cap M.append M.extract M.conv M.not M.neg M.bin M.shift M.eqB M.eqNil M.scat M.call M.callv M.gd M.share M.cond M.loop M.draw pureW readW Ret
theorem cut_zero0 (n : Int) : cutW n 0 = 0 := by unfold cutW; simp
theorem byN_zero (m : Nat) : byN m 0 = 0 := by unfold byN; simp
theorem sar_cut {m : Nat} (h1 : 1 ≤ m) (h2 : m ≤ 64) {x : W64} (hx : cutW m x = x) : cutW m (sgnW m x) = x := by
  apply BitVec.eq_of_getLsbD_eq
  intro i hi
  rw [cutW_bit h1 h2, sgnW_bit h1 h2 _ _ hi]
  by_cases h : i < m
  · simp [h]
  · have := cutW_bit h1 h2 x i
    rw [hx] at this
    rw [this]
    simp [h]
def rightW (op : Int) (m : Nat) (y : W64) : Prop := ((op = 1 ∨ op = 2 ∨ op = 7 ∨ op = 8 ∨ op = 9 ∨ op = 10 ∨ op = 11) ∧ y = 0) ∨ ((op = 3 ∨ op = 4) ∧ y = 1) ∨ (op = 6 ∧ y = maskW m)
theorem right_law {m : Nat} (h1 : 1 ≤ m) (h2 : m ≤ 64) {op : Int} {x y : W64} (hx : cutW m x = x) (h : rightW op m y) : cutW m (binC op m x y) = x := by
  rcases h with ⟨ho, rfl⟩ | ⟨ho, rfl⟩ | ⟨rfl, rfl⟩
  · rcases ho with rfl | rfl | rfl | rfl | rfl | rfl | rfl
    · simp [binC, hx]
    · simp [binC, hx]
    · simp [binC, hx]
    · simp [binC, hx]
    · have : binC 9 m x 0 = x := by
        unfold binC
        rw [if_neg (by decide), if_neg (by decide), if_neg (by decide), if_neg (by decide), if_neg (by decide), if_neg (by decide), if_neg (by decide), if_neg (by decide), if_pos rfl, byN_zero]
        simp
      rw [this, hx]
    · have : binC 10 m x 0 = x := by
        unfold binC
        rw [if_neg (by decide), if_neg (by decide), if_neg (by decide), if_neg (by decide), if_neg (by decide), if_neg (by decide), if_neg (by decide), if_neg (by decide), if_neg (by decide), if_pos rfl, byN_zero]
        simp
      rw [this, hx]
    · have : binC 11 m x 0 = sgnW m x := by
        unfold binC
        rw [if_neg (by decide), if_neg (by decide), if_neg (by decide), if_neg (by decide), if_neg (by decide), if_neg (by decide), if_neg (by decide), if_neg (by decide), if_neg (by decide), if_neg (by decide), if_pos rfl, byN_zero]
        simp
      rw [this]
      exact sar_cut h1 h2 hx
  · rcases ho with rfl | rfl
    · simp [binC, hx]
    · have : binC 4 m x 1 = x := by
        unfold binC
        rw [if_neg (by decide), if_neg (by decide), if_neg (by decide), if_pos rfl, if_neg (by decide)]
        exact BitVec.udiv_one
      rw [this, hx]
  · have : binC 6 m x (maskW m) = x := by
      unfold binC
      rw [if_neg (by decide), if_neg (by decide), if_neg (by decide), if_neg (by decide), if_neg (by decide), if_pos rfl]
      exact hx
    rw [this, hx]
theorem twin_law {op : Int} (m : Nat) (x y : W64) (h : op = 1 ∨ op = 3 ∨ op = 6 ∨ op = 7 ∨ op = 8) : binC op m x y = binC op m y x := by
  rcases h with rfl | rfl | rfl | rfl | rfl
  · simp [binC, BitVec.add_comm]
  · simp [binC, BitVec.mul_comm]
  · simp [binC, BitVec.and_comm]
  · simp [binC, BitVec.or_comm]
  · simp [binC, BitVec.xor_comm]
theorem nought_law {op : Int} (m : Nat) (x y : W64) (h : ((op = 8 ∨ op = 2 ∨ op = 13 ∨ op = 14) ∧ x = y) ∨ ((op = 3 ∨ op = 6) ∧ (x = 0 ∨ y = 0)) ∨ ((op = 9 ∨ op = 10) ∧ x = 0) ∨ (op = 13 ∧ y = 0)) : binC op m x y = 0 := by
  rcases h with ⟨ho, rfl⟩ | ⟨ho, h⟩ | ⟨ho, rfl⟩ | ⟨rfl, rfl⟩
  · rcases ho with rfl | rfl | rfl | rfl
    · simp [binC]
    · simp [binC]
    · simp [binC]
    · simp [binC]
  · rcases ho with rfl | rfl <;> rcases h with rfl | rfl <;> simp [binC]
  · rcases ho with rfl | rfl <;> simp [binC]
  · simp [binC]
theorem known_val {N : List Nd} (hG : GoodN N) {a : Int} {v : W64} (env : List W64) (h : knownN N a = some v) : isN N a = true ∧ valW N env a = v := by
  unfold knownN at h
  cases hi : isN N a with
  | false => rw [hi, if_neg (by decide)] at h; cases h
  | true =>
    rw [hi, if_pos rfl] at h
    obtain ⟨j, n, rfl, hj⟩ := isN_get hi
    have hat : nodeAt N (j : Int) = n := by
      unfold nodeAt
      rw [if_pos hi, Int.toNat_natCast, hj]; rfl
    rw [hat] at h
    by_cases h20 : n.op = 20
    · rw [if_pos h20] at h
      obtain ⟨_, _, h3⟩ := valW_node (env := env) hG hj
      refine ⟨rfl, ?_⟩
      rw [h3]
      unfold oneV
      rw [if_pos h20]
      exact Option.some.inj h
    · rw [if_neg h20] at h; cases h
theorem isK_val {N : List Nd} (hG : GoodN N) {a : Int} {v : W64} (env : List W64) (h : isK N a v = true) : valW N env a = v := by
  unfold isK at h
  cases hk : knownN N a with
  | none => rw [hk] at h; cases h
  | some x =>
    rw [hk] at h
    simp only [decide_eq_true_eq] at h
    rw [(known_val hG env hk).2, h]
theorem valW_fits {N : List Nd} (hG : GoodN N) (env : List W64) {a : Int} (h : isN N a = true) : cutW (wdN N a) (valW N env a) = valW N env a := by
  obtain ⟨j, n, rfl, hj⟩ := isN_get h
  have := wordAt_fits hG env j h
  unfold valW
  rw [if_pos h]; exact this
theorem one_cut1 (b : Bool) : cutW 1 (if b then (1 : W64) else 0) = if b then 1 else 0 := by cases b <;> decide
theorem cmp_cut {op : Int} {m : Int} (h : 12 ≤ op) (hm : 1 ≤ m ∧ m ≤ 64) (k : Nat) (x y : W64) : cutW m (binC op k x y) = binC op k x y ∧ cutW 1 (binC op k x y) = binC op k x y := by
  have : ∃ b : Bool, binC op k x y = if b then 1 else 0 := by
    unfold binC
    rw [if_neg (by omega), if_neg (by omega), if_neg (by omega), if_neg (by omega), if_neg (by omega), if_neg (by omega), if_neg (by omega), if_neg (by omega), if_neg (by omega), if_neg (by omega), if_neg (by omega)]
    split
    · exact ⟨_, rfl⟩
    · split <;> exact ⟨_, rfl⟩
  obtain ⟨b, hb⟩ := this
  rw [hb]
  obtain ⟨j, rfl, h1, h2⟩ := cut_nat hm
  refine ⟨?_, one_cut1 b⟩
  cases b
  · simp [cutW]
  · have : cutW (j : Int) 1 = 1 := by
      apply BitVec.eq_of_getLsbD_eq
      intro i hi
      rw [cutW_bit h1 h2]
      have := one_bit true i
      simp only [if_true] at this
      rw [this]
      by_cases h : i = 0
      · subst h; simp; omega
      · simp [h]
    simpa using this
theorem got_foldBin {most : Int} {N : List Nd} {env : List W64} {op a b : Int} (hG : GoodN N) (ho : 1 ≤ op ∧ op ≤ 14) (ha : isN N a = true) (hb : isN N b = true) (hw : wdN N a = wdN N b) :
    Got most N env (foldBin most N op a b) (if 12 ≤ op then 1 else wdN N a) (binW op (wdN N a) (valW N env a) (valW N env b)) := by
  have hwa := hG.wd ha
  have fa := valW_fits hG env ha
  have fb := valW_fits hG env hb
  rw [← hw] at fb
  have hbin : binW op (wdN N a) (valW N env a) (valW N env b) = cutW (wdN N a) (binC op (wdN N a).toNat (valW N env a) (valW N env b)) := by
    unfold binW
    rw [if_neg (by omega), if_pos (fits_int hwa), fa, fb]
  have hwr : 1 ≤ (if 12 ≤ op then (1 : Int) else wdN N a) ∧ (if 12 ≤ op then (1 : Int) else wdN N a) ≤ 64 := by split <;> omega
  have hcr : ∀ x y, cutW (if 12 ≤ op then (1 : Int) else wdN N a) (cutW (wdN N a) (binC op (wdN N a).toNat x y)) = cutW (wdN N a) (binC op (wdN N a).toNat x y) := fun x y => by
    by_cases h : 12 ≤ op
    · obtain ⟨h1, h2⟩ := cmp_cut h hwa (wdN N a).toNat x y
      rw [if_pos h, h1, h2]
    · rw [if_neg h]; exact cut_cut (fits_int hwa) _
  obtain ⟨m, hm, h1, h2⟩ := cut_nat hwa
  have rest : Got most N env (if rightN N op b then (N, a, 0)
      else if twinsN op && rightN N op a then (N, b, 0)
      else if noughtN N op a b then constN most N (if 12 ≤ op then 1 else wdN N a) 0
      else if op = 12 ∧ a = b then constN most N 1 1
      else if (op = 6 ∨ op = 7) ∧ a = b then (N, a, 0)
      else binaryN most N op a b) (if 12 ≤ op then 1 else wdN N a) (binW op (wdN N a) (valW N env a) (valW N env b)) := by
    have rw1 : ∀ c, isN N c = true → wdN N c = wdN N a → rightN N op c = true → rightW op m (valW N env c) ∧ ¬ 12 ≤ op := fun c hc hcw h => by
      unfold rightN at h
      by_cases g1 : op = 1 ∨ op = 2 ∨ op = 7 ∨ op = 8 ∨ op = 9 ∨ op = 10 ∨ op = 11
      · rw [if_pos g1] at h
        exact ⟨.inl ⟨g1, isK_val hG env h⟩, by omega⟩
      · rw [if_neg g1] at h
        by_cases g2 : op = 3 ∨ op = 4
        · rw [if_pos g2] at h
          exact ⟨.inr (.inl ⟨g2, isK_val hG env h⟩), by omega⟩
        · rw [if_neg g2] at h
          by_cases g3 : op = 6
          · rw [if_pos g3] at h
            exact ⟨.inr (.inr ⟨g3, by rw [isK_val hG env h, hcw, hm]⟩), by omega⟩
          · rw [if_neg g3] at h; cases h
    cases hr : rightN N op b with
    | true =>
      rw [if_pos rfl]
      obtain ⟨q1, q2⟩ := rw1 b hb hw.symm hr
      rw [if_neg q2]
      refine Got.same hG ha rfl ?_
      rw [hbin, hm, Int.toNat_natCast]
      rw [hm] at fa
      exact (right_law h1 h2 fa q1).symm
    | false =>
      rw [if_neg (by decide)]
      cases ht : (twinsN op && rightN N op a) with
      | true =>
        rw [if_pos rfl]
        rw [Bool.and_eq_true] at ht
        obtain ⟨q1, q2⟩ := rw1 a ha rfl ht.2
        rw [if_neg q2]
        refine Got.same hG hb hw.symm ?_
        rw [hbin, hm, Int.toNat_natCast]
        rw [hm] at fb
        have ht1 := ht.1
        unfold twinsN at ht1
        simp only [decide_eq_true_eq] at ht1
        rw [twin_law m _ _ (by omega)]
        exact (right_law h1 h2 fb q1).symm
      | false =>
        rw [if_neg (by decide)]
        cases hn : noughtN N op a b with
        | true =>
          rw [if_pos rfl]
          have hz : binC op (wdN N a).toNat (valW N env a) (valW N env b) = 0 := by
            refine nought_law _ _ _ ?_
            unfold noughtN at hn
            by_cases g1 : (op = 8 ∨ op = 2 ∨ op = 13 ∨ op = 14) ∧ a = b
            · exact .inl ⟨g1.1, by rw [g1.2]⟩
            · rw [if_neg g1] at hn
              by_cases g2 : op = 3 ∨ op = 6
              · rw [if_pos g2, Bool.or_eq_true] at hn
                exact .inr (.inl ⟨g2, hn.imp (isK_val hG env) (isK_val hG env)⟩)
              · rw [if_neg g2] at hn
                by_cases g3 : op = 9 ∨ op = 10
                · rw [if_pos g3] at hn
                  exact .inr (.inr (.inl ⟨g3, isK_val hG env hn⟩))
                · rw [if_neg g3, Bool.and_eq_true] at hn
                  exact .inr (.inr (.inr ⟨by simpa using hn.1, isK_val hG env hn.2⟩))
          have := got_const (most := most) (env := env) hG hwr 0
          rw [hbin, hz, cut_zero0]
          rw [cut_zero0] at this
          exact this
        | false =>
          rw [if_neg (by decide)]
          by_cases he : op = 12 ∧ a = b
          · rw [if_pos he]
            obtain ⟨rfl, rfl⟩ := he
            rw [if_pos (by decide)]
            have e1 : cutW 1 (1 : W64) = 1 := by decide
            have := got_const (most := most) (env := env) hG (w := 1) (by decide) 1
            rw [e1] at this
            have e2 : binC 12 (wdN N a).toNat (valW N env a) (valW N env a) = 1 := by simp [binC]
            have e3 := (cmp_cut (op := 12) (by decide) hwa (wdN N a).toNat (valW N env a) (valW N env a)).1
            rw [hbin, e3, e2]
            exact this
          · rw [if_neg he]
            by_cases hs : (op = 6 ∨ op = 7) ∧ a = b
            · rw [if_pos hs]
              obtain ⟨ho2, rfl⟩ := hs
              rw [if_neg (by omega)]
              refine Got.same hG ha rfl ?_
              rw [hbin]
              have : binC op (wdN N a).toNat (valW N env a) (valW N env a) = valW N env a := by
                rcases ho2 with rfl | rfl <;> simp [binC]
              rw [this, fa]
            · rw [if_neg hs]
              exact got_binary hG ho ha hb hw
  unfold foldBin
  rw [if_neg (by rw [ha, hb]; simp; omega)]
  cases ka : knownN N a with
  | none => exact rest
  | some x =>
    cases kb : knownN N b with
    | none => exact rest
    | some y =>
      have e1 := (known_val hG env ka).2
      have e2 := (known_val hG env kb).2
      rw [e1, e2]
      rw [e1, e2] at hbin
      have := got_const (most := most) (env := env) hG hwr (binW op (wdN N a) x y)
      have hc := hcr x y
      rw [← hbin] at hc
      rw [hc] at this
      exact this
theorem got_foldUn {most : Int} {N : List Nd} {env : List W64} {op a : Int} (hG : GoodN N) (ho : op = 15 ∨ op = 16) (ha : isN N a = true) :
    Got most N env (foldUn most N op a) (wdN N a) (unW op (wdN N a) (valW N env a)) := by
  have hwa := hG.wd ha
  unfold foldUn
  rw [if_pos ⟨ha, ho⟩]
  have hcut : cutW (wdN N a) (unW op (wdN N a) (valW N env a)) = unW op (wdN N a) (valW N env a) := by
    unfold unW
    rw [if_neg (by omega), if_pos (fits_int hwa)]
    exact cut_cut (fits_int hwa) _
  cases ka : knownN N a with
  | some v =>
    have e1 := (known_val hG env ka).2
    rw [e1] at hcut ⊢
    have := got_const (most := most) (env := env) hG hwa (unW op (wdN N a) v)
    rw [hcut] at this
    exact this
  | none =>
    show Got most N env (if (nodeAt N a).op = op then (N, (nodeAt N a).a, 0) else unaryN most N op a) _ _
    by_cases hop : (nodeAt N a).op = op
    · rw [if_pos hop]
      obtain ⟨j, n, rfl, hj⟩ := isN_get ha
      have hat : nodeAt N (j : Int) = n := by
        unfold nodeAt
        rw [if_pos ha, Int.toNat_natCast, hj]; rfl
      rw [hat] at hop ⊢
      have hg := hG j n hj
      have hk : n.a ∈ kidsN n := by
        unfold kidsN
        rw [if_neg (by omega), if_neg (by omega), if_neg (by omega)]; simp
      have hka := hg.2.1 _ hk
      have hki := isN_take hka
      obtain ⟨h1, h2, h3⟩ := valW_node (env := env) hG hj
      have hwn : wdN N n.a = n.wd := by
        have hc := hg.2.2
        have hwt := wdN_take hka
        rcases hc with h | h | h | h | h | h | h | h
        · omega
        · omega
        · rw [← hwt]; exact h.2.1.symm
        all_goals omega
      have hv : wordAt N env n.a = valW N env n.a := by unfold valW; rw [if_pos hki]
      refine Got.same hG hki (by rw [hwn, h2]) ?_
      have hone : valW N env (j : Int) = unW op n.wd (valW N env n.a) := by
        rw [h3]
        unfold oneV
        rw [if_neg (by omega), if_neg (by omega), if_neg (by omega), if_neg (by omega), if_neg (by omega), if_neg (by omega), if_neg (by omega), if_pos (by omega), hop, hv]
      have hf := valW_fits hG env hki
      rw [hwn] at hf
      rw [hone, h2]
      have hw2 := hg.1
      obtain ⟨m, hm, m1, m2⟩ := cut_nat hw2
      rw [hm] at hf ⊢
      generalize valW N env n.a = x at hf ⊢
      have key : ∀ y : W64, unW op (m : Int) y = cutW m (if op = 15 then ~~~y else -y) := fun y => by
        unfold unW
        rw [if_neg (by omega), if_pos (fits_of m1 m2)]
      rw [key, key]
      rcases ho with rfl | rfl
      · rw [if_pos rfl, if_pos rfl]
        rw [← hf]
        apply BitVec.eq_of_getLsbD_eq
        intro i hi
        simp only [cutW_bit m1 m2, BitVec.getLsbD_not]
        by_cases h : i < m <;> simp [h, hi]
      · rw [if_neg (by decide), if_neg (by decide)]
        have hlt := cut_lt m1 m2 x
        rw [hf] at hlt
        have hc : ∀ z : W64, cutW m z = z % BitVec.ofNat 64 (2 ^ m) ∨ m = 64 := fun z => by
          by_cases e : m = 64
          · exact .inr e
          · left
            apply BitVec.eq_of_toNat_eq
            have e1 : (BitVec.ofNat 64 (2 ^ m)).toNat = 2 ^ m := by
              rw [BitVec.toNat_ofNat]
              exact Nat.mod_eq_of_lt (Nat.pow_lt_pow_right (by decide) (by omega))
            rw [BitVec.toNat_umod, e1]
            unfold cutW
            rw [← maskR_eq m1 m2, BitVec.toNat_and, BitVec.toNat_ofNat, Nat.mod_eq_of_lt (by have : 2 ^ m ≤ 2 ^ 64 := Nat.pow_le_pow_right (by decide) m2; omega), Nat.and_two_pow_sub_one_eq_mod]
        rcases hc x with _ | e64
        · have ht : ∀ z : W64, (cutW m z).toNat = z.toNat % 2 ^ m := fun z => by
            unfold cutW
            rw [← maskR_eq m1 m2, BitVec.toNat_and, BitVec.toNat_ofNat, Nat.mod_eq_of_lt (by have : 2 ^ m ≤ 2 ^ 64 := Nat.pow_le_pow_right (by decide) m2; omega), Nat.and_two_pow_sub_one_eq_mod]
          apply BitVec.eq_of_toNat_eq
          rw [ht, BitVec.toNat_neg, ht, BitVec.toNat_neg]
          have hd : 2 ^ 64 = 2 ^ m * 2 ^ (64 - m) := by rw [← Nat.pow_add]; congr 1; omega
          have hx64 := x.isLt
          have e1 : (2 ^ 64 - x.toNat) % 2 ^ 64 % 2 ^ m = (2 ^ 64 - x.toNat) % 2 ^ m := Nat.mod_mod_of_dvd _ ⟨_, hd⟩
          rw [e1]
          generalize hX : x.toNat = X at *
          have hpos : 0 < 2 ^ m := Nat.pow_pos (by decide)
          have e2 : (2 ^ 64 - X) % 2 ^ m = if X = 0 then 0 else 2 ^ m - X := by
            by_cases h0 : X = 0
            · subst h0
              rw [if_pos rfl, Nat.sub_zero, hd]; exact Nat.mul_mod_right _ _
            · rw [if_neg h0]
              have e3 : 2 ^ 64 - X = (2 ^ m - X) + 2 ^ m * (2 ^ (64 - m) - 1) := by
                have hp2 : 0 < 2 ^ (64 - m) := Nat.pow_pos (by decide)
                rw [Nat.mul_sub, ← hd]
                have : 2 ^ m * 1 ≤ 2 ^ 64 := by rw [Nat.mul_one]; exact Nat.pow_le_pow_right (by decide) m2
                omega
              rw [e3, Nat.add_mul_mod_self_left, Nat.mod_eq_of_lt (by omega)]
          rw [e2]
          by_cases h0 : X = 0
          · subst h0
            rw [if_pos rfl]
            simp
          · rw [if_neg h0]
            have e1' : (2 ^ 64 - (2 ^ m - X)) % 2 ^ 64 % 2 ^ m = (2 ^ 64 - (2 ^ m - X)) % 2 ^ m := Nat.mod_mod_of_dvd _ ⟨_, hd⟩
            rw [e1']
            have e3 : 2 ^ 64 - (2 ^ m - X) = X + 2 ^ m * (2 ^ (64 - m) - 1) := by
              have hp2 : 0 < 2 ^ (64 - m) := Nat.pow_pos (by decide)
              rw [Nat.mul_sub, ← hd]
              have : 2 ^ m * 1 ≤ 2 ^ 64 := by rw [Nat.mul_one]; exact Nat.pow_le_pow_right (by decide) m2
              omega
            rw [e3, Nat.add_mul_mod_self_left, Nat.mod_eq_of_lt (by omega)]
        · subst e64
          have c64 : ∀ z : W64, cutW ((64 : Nat) : Int) z = z := fun z => by
            unfold cutW
            have : maskW ((64 : Nat) : Int) = BitVec.allOnes 64 := by decide
            rw [this, BitVec.and_allOnes]
          rw [c64, c64, BitVec.neg_neg]
    · rw [if_neg hop]; exact got_unary hG ho ha
theorem cut_mono {m n : Int} (hm : 1 ≤ m) (hn : n ≤ 64) (h : m ≤ n) {x : W64} (hx : cutW m x = x) : cutW n x = x := by
  obtain ⟨a, rfl, a1, a2⟩ := cut_nat ⟨hm, Int.le_trans h hn⟩
  obtain ⟨b, rfl, b1, b2⟩ := cut_nat ⟨Int.le_trans hm h, hn⟩
  rw [← hx]
  apply BitVec.eq_of_getLsbD_eq
  intro i hi
  rw [cutW_bit b1 b2, cutW_bit a1 a2]
  by_cases g : i < a
  · have : i < b := by omega
    simp [g, this]
  · simp [g]
theorem got_foldExt {most : Int} {N : List Nd} {env : List W64} {a w : Int} (hG : GoodN N) (ha : isN N a = true) (h1 : wdN N a ≤ w) (h2 : w ≤ 64) :
    Got most N env (foldExt most N a w) w (valW N env a) := by
  have hwa := hG.wd ha
  unfold foldExt
  rw [if_neg (by rw [ha]; simp; omega)]
  cases ka : knownN N a with
  | none => exact got_extend hG ha h1 h2
  | some v =>
    have e1 := (known_val hG env ka).2
    have hf := valW_fits hG env ha
    rw [e1] at hf ⊢
    have := got_const (most := most) (env := env) hG (w := w) ⟨by omega, h2⟩ v
    rw [cut_mono hwa.1 h2 h1 hf] at this
    exact this
end Go.Proofs.YtanjlgafjgoaaaaGreat
namespace Go.Proofs.YtanjlgafjgoaaaaGreat
open Go.Mw Go.Maps Go.MapKept
set_option linter.unusedVariables false
set_option linter.unusedSimpArgs false
set_option maxRecDepth 100000
attribute [local irreducible] M.val M.unit M.next M.pick M.new M.nilCheck M.load1 M.loadA M.store M.fieldAddr M.indexSl M.indexArr M.slice M.makeSlice M.buildSlice M.len M.lenS M.cap M.append M.extract M.conv M.not M.neg M.bin M.shift M.eqB M.eqNil M.scat M.call M.callv M.gd M.share M.cond M.loop M.draw pureW readW Ret
def sh8 (x0 x1 : Value) (R : Kt) (w : World) : Prop :=
  M.new 33 #[.slice none 0 0, .slice none 0 0, .int .i64 0] (fun t4 w =>
  M.new 33 #[.slice none 0 0, .slice none 0 0, .int .i64 0] (fun t6 w =>
  M.len x1 (fun t12 w =>
  M.loop [(Value.int IntKind.i64 0)] (fun s1 K1 w => ∀ _ : List Value,
  M.bin .lss (s1.getD 0 undef) t12 (fun t14 w =>
  M.cond t14
  (M.indexSl 1 x1 (s1.getD 0 undef) (fun t15 w =>
  M.load1 t15 (fun t16 w =>
  M.call Tryz.prog 16 #[x0, (Value.int IntKind.i64 64), t16] (fun t20 w =>
  M.extract 0 t20 (fun t21 w =>
  M.extract 1 t20 (fun t22 w =>
  M.bin .neq t22 (Value.int IntKind.i64 0) (fun t24 w =>
  M.cond t24
  (pureW Tryz.prog (Instr.build 33 #[]) (fun t25 w =>
  M.store 3 t4 t25 (fun _ w =>
  M.loadA 3 t4 (fun r0 w => R (.tuple #[r0, t22]) w) w) w) w)
  (M.fieldAddr 0 t6 (fun t27 w =>
  M.load1 t27 (fun t28 w =>
  M.buildSlice 3 1 #[.int .i64 0] 1 [(0, t21)] (fun t30 w =>
  M.append 3 1 8 #[.int .i64 0] t28 t30 (fun t31 w =>
  M.fieldAddr 0 t6 (fun t32 w =>
  M.store 1 t32 t31 (fun _ w =>
  M.bin .add (s1.getD 0 undef) (Value.int IntKind.i64 1) (fun t33 w =>
  K1 [t33] w) w) w) w) w) w) w) w)) w) w) w) w) w) w)
  (M.loadA 3 t6 (fun t34 w =>
  M.store 3 t4 t34 (fun _ w =>
  M.loadA 3 t4 (fun r0 w => R (.tuple #[r0, (Value.int IntKind.i64 0)]) w) w) w) w)) w) w) w) w) w
theorem ok8 (x0 x1 : Value) (R : Kt) (w : World) (h : sh8 x0 x1 R w) : Ret Tryz.prog 8 #[x0, x1] w R :=
  ret_mk <| calls_of_comp mixed (c := Tryz.f8.body.getD .skip) (args := [x0, x1]) (rs := [(ResultVar.cell 4 33), (ResultVar.tmp 5)]) (Ann.seq Ann.text (Ann.seq Ann.text (Ann.seq (Ann.seq Ann.text (Ann.block (Ann.loop [13] [5, 8, 9, 10, 14, 15, 16, 17, 18, 19, 20, 21, 22, 23, 24, 25, 26, 27, 28, 29, 30, 31, 32, 33] (Ann.seq Ann.text (Ann.seq (Ann.cond Ann.leaf Ann.leaf) (Ann.seq (Ann.block (Ann.seq Ann.text (Ann.seq Ann.text (Ann.seq (Ann.seq Ann.text (Ann.cond (Ann.seq Ann.text Ann.leaf) Ann.leaf)) Ann.text)))) Ann.text)))))) (Ann.seq Ann.text Ann.leaf))))
    Tryz.func8 (by kernel_rfl) (by kernel_rfl)
    (Eq.mp (by kernel_rfl) h)
def sh9 (x0 x1 x2 x3 : Value) (R : Kt) (w : World) : Prop :=
  M.new 33 (Value.cells x1) (fun t5 w =>
  M.new 39 #[.int .i64 0, .int .i64 0, .int .i64 0, .int .i64 0, .int .i64 0, .int .i64 0, .int .i64 0, .int .i64 0, .slice none 0 0, .int .i64 0, .int .i64 0, .int .i64 0, .int .i64 0, .int .i64 0, .int .i64 0, .slice none 0 0, .slice none 0 0, .int .i64 0, .slice none 0 0] (fun t8 w =>
  M.call Tryz.prog 16 #[x0, (Value.int IntKind.i64 64), (Value.int IntKind.u64 0)] (fun t17 w =>
  M.extract 0 t17 (fun t18 w =>
  M.extract 1 t17 (fun t19 w =>
  M.bin .neq t19 (Value.int IntKind.i64 0) (fun t21 w =>
  M.cond t21
  (pureW Tryz.prog (Instr.build 39 #[]) (fun t22 w =>
  M.store 19 t8 t22 (fun _ w =>
  M.loadA 19 t8 (fun r0 w => R (.tuple #[r0, t19]) w) w) w) w)
  (M.share (fun K1 w =>
  M.bin .lss x2 (Value.int IntKind.i64 0) (fun t25 w =>
  M.gd t25 false (fun k w => k x2 w) (fun t27 w =>
  M.gd t25 false (fun k w => M.bin .gtr t27 (Value.int IntKind.i64 255) k w) (fun t28 w =>
  M.pick t25 (Value.bool true) t28 (fun t29 w =>
  M.cond t29
  (K1 [(Value.int IntKind.i64 0)] w)
  (K1 [x2] w)) w) w) w) w) (fun s1 w => ∀ _ : List Value,
  M.share (fun K2 w =>
  M.draw (fun w =>
  M.loadA 3 t5 (fun t32 w =>
  ((M.makeSlice 3 1 8 #[.int .i64 0] (s1.getD 0 undef) (s1.getD 0 undef) (fun t31 w =>
  ((M.loadA 3 t5 (fun v' _ => v' = t32) w) ∧ pureW Tryz.prog (Instr.build 39 #[(1, t31), (7, (Value.int IntKind.i64 (-1))), (8, t32), (9, x3)]) (fun t34 w =>
  M.new 39 #[.int .i64 0, .int .i64 0, .int .i64 0, .int .i64 0, .int .i64 0, .int .i64 0, .int .i64 0, .int .i64 0, .slice none 0 0, .int .i64 0, .int .i64 0, .int .i64 0, .int .i64 0, .int .i64 0, .int .i64 0, .slice none 0 0, .slice none 0 0, .int .i64 0, .slice none 0 0] (fun t12 w =>
  ((M.loadA 3 t5 (fun v' _ => v' = t32) w) ∧ M.store 19 t12 t34 (fun _ w =>
  K2 [t12] w) w)) w) w)) w) ∧
   (M.new 39 #[.int .i64 0, .int .i64 0, .int .i64 0, .int .i64 0, .int .i64 0, .int .i64 0, .int .i64 0, .int .i64 0, .slice none 0 0, .int .i64 0, .int .i64 0, .int .i64 0, .int .i64 0, .int .i64 0, .int .i64 0, .slice none 0 0, .slice none 0 0, .int .i64 0, .slice none 0 0] (fun t12_2 w =>
  ((M.loadA 3 t5 (fun v' _ => v' = t32) w) ∧ M.makeSlice 3 1 8 #[.int .i64 0] (s1.getD 0 undef) (s1.getD 0 undef) (fun t31_2 w =>
  ((M.loadA 3 t5 (fun v' _ => v' = t32) w) ∧ pureW Tryz.prog (Instr.build 39 #[(1, t31_2), (7, (Value.int IntKind.i64 (-1))), (8, t32), (9, x3)]) (fun t34_2 w =>
  M.store 19 t12_2 t34_2 (fun _ w =>
  K2 [t12_2] w) w) w)) w)) w))) w) w) (fun s2 w => ∀ _ : List Value,
  M.loop [(Value.int IntKind.i64 0)] (fun s3 K3 w => ∀ _ : List Value,
  M.bin .lss (s3.getD 0 undef) (Value.int IntKind.i64 8) (fun t36 w =>
  M.cond t36
  (M.fieldAddr 0 (s2.getD 0 undef) (fun t40 w =>
  M.indexArr 8 1 t40 (s3.getD 0 undef) (fun t41 w =>
  M.store 1 t41 t18 (fun _ w =>
  M.bin .add (s3.getD 0 undef) (Value.int IntKind.i64 1) (fun t42 w =>
  K3 [t42] w) w) w) w) w)
  (M.fieldAddr 8 (s2.getD 0 undef) (fun t43 w =>
  M.load1 t43 (fun t44 w =>
  M.len t44 (fun t45 w =>
  M.loop [(Value.int IntKind.i64 0)] (fun s4 K4 w => ∀ _ : List Value,
  M.bin .lss (s4.getD 0 undef) t45 (fun t47 w =>
  M.cond t47
  (M.fieldAddr 8 (s2.getD 0 undef) (fun t49 w =>
  M.load1 t49 (fun t50 w =>
  M.indexSl 1 t50 (s4.getD 0 undef) (fun t53 w =>
  M.store 1 t53 t18 (fun _ w =>
  M.bin .add (s4.getD 0 undef) (Value.int IntKind.i64 1) (fun t54 w =>
  K4 [t54] w) w) w) w) w) w)
  (M.loadA 19 (s2.getD 0 undef) (fun t55 w =>
  M.store 19 t8 t55 (fun _ w =>
  M.loadA 19 t8 (fun r0 w => R (.tuple #[r0, (Value.int IntKind.i64 0)]) w) w) w) w)) w) w) w) w) w)) w) w) w) w)) w) w) w) w) w) w
theorem ok9 (x0 x1 x2 x3 : Value) (R : Kt) (w : World) (h : sh9 x0 x1 x2 x3 R w) : Ret Tryz.prog 9 #[x0, x1, x2, x3] w R :=
  ret_mk <| calls_of_comp mixed (c := Tryz.f9.body.getD .skip) (args := [x0, x1, x2, x3]) (rs := [(ResultVar.cell 8 39), (ResultVar.tmp 9)]) (Ann.seq Ann.text (Ann.seq Ann.text (Ann.seq (Ann.seq Ann.text (Ann.cond (Ann.seq Ann.text Ann.leaf) Ann.leaf)) (Ann.join [2] [24, 25, 26, 27, 28, 29] (Ann.seq Ann.text (Ann.cond Ann.text Ann.leaf)) (Ann.join [12] [30, 31, 32, 33, 34] (Ann.draw (Sch.take 0 (Sch.take 2 (Sch.take 3 (Sch.two 1 5 (Sch.take 4 (Sch.one 5 (Sch.one 6 Sch.done))) (Sch.one 1 (Sch.take 4 (Sch.one 6 Sch.done)))))))) (Ann.seq (Ann.seq Ann.text (Ann.block (Ann.loop [35] [13, 36, 37, 38, 39, 40, 41, 42] (Ann.seq Ann.text (Ann.seq (Ann.cond Ann.leaf Ann.leaf) (Ann.seq (Ann.block (Ann.seq Ann.text Ann.text)) Ann.text)))))) (Ann.seq (Ann.seq Ann.text (Ann.block (Ann.loop [46] [14, 47, 48, 49, 50, 51, 52, 53, 54] (Ann.seq Ann.text (Ann.seq (Ann.cond Ann.leaf Ann.leaf) (Ann.seq (Ann.block (Ann.seq Ann.text Ann.text)) Ann.text)))))) (Ann.seq Ann.text Ann.leaf))))))))
    Tryz.func9 (by kernel_rfl) (by kernel_rfl)
    (Eq.mp (by kernel_rfl) h)
section
variable {w : World} {F De : Nat → Prop} {p : Nat} {N : List Nd} {most : Int} {ev : Value} {env : List W64}
def devN (most : Int) : List Nd → List W64 → List Int → List Nd × List Int × Int
  | N, [], acc => (N, acc, 0)
  | N, x :: xs, acc => if (constN most N 64 x).2.2 = 0 then devN most (constN most N 64 x).1 xs (acc ++ [(constN most N 64 x).2.1]) else ((constN most N 64 x).1, [], (constN most N 64 x).2.2)
theorem device_ret {D : Nat → Prop} {u : Value} {xs : List W64} (hd : DagO w F p N most) (hl : LV vw w D u xs) (hf : xs.length ≤ 1000000) (hD : ∀ b, D b → ¬ F b) :
    Ret Tryz.prog 8 #[ptr p, u] w (fun r w' => ∃ F' a, r = .tuple #[.agg ⟨[a, .slice none 0 0, vi 0]⟩, vi (devN most N xs []).2.2] ∧ DagO w' F' p (devN most N xs []).1 most ∧ (∀ b, b < w.heap.size → F' b → F b) ∧ Keep w w' F ∧ LV vi w' (fun b => w.heap.size ≤ b ∧ ¬ F' b) a (devN most N xs []).2.1) := by
  obtain ⟨A, c, rfl, hr, _⟩ := hl
  refine ok8 _ _ _ _ ?_
  unfold sh8
  refine M.new_i (l := [.slice none 0 0, .slice none 0 0, vi 0]) (fun w1 b1 k1 s1 => ?_)
  refine M.new_i (l := [.slice none 0 0, .slice none 0 0, vi 0]) (fun w2 b2 k2 s2 => ?_)
  have b1 := b1.keep k2 (fun h => h)
  have k02 := k1.trans k2 (fun _ _ h => h)
  (repeat (refine ja ?_))
  refine M.loop_i (σ := Nat) (fun n vals w' => ∃ (i : Nat) (sv : Value) (N' : List Nd) (acc : List Int) (F' : Nat → Prop), n = xs.length - i ∧ i ≤ xs.length ∧ vals = [vi i] ∧ acc.length = i ∧ devN most N xs [] = devN most N' (xs.drop i) acc ∧ DagO w' F' p N' most ∧ (∀ b, b < w2.heap.size → F' b → F b) ∧ GI w' (fun b => w2.heap.size ≤ b ∧ ¬ F' b) sv acc ∧ Blk w' w.heap.size [.slice none 0 0, .slice none 0 0, vi 0] ∧ Blk w' w1.heap.size [sv, .slice none 0 0, vi 0] ∧ Keep w2 w' (fun b => F b ∨ b = w1.heap.size)) id xs.length
    ⟨0, _, N, [], F, by omega, by omega, rfl, rfl, rfl, hd.keepN k02, fun _ _ h => h, GC.nil _ _ _, b1, b2, Keep.refl _ _⟩ ?_
  rintro n vals w3 K ⟨i, sv, N', acc, F', rfl, hi, rfl, hal, hN, h3, hFF, g3, b1, b2, k3⟩ hK _
  simp only [List.getD_cons_zero, List.getD_cons_succ]
  have q3 := k3.size
  have hw : ¬ F w.heap.size := fun h => by have := hd.lt h; omega
  have hw1 : ¬ F w1.heap.size := fun h => by have := hd.lt h; omega
  have hw' : ¬ F' w.heap.size := fun h => hw (hFF _ (by omega) h)
  have hw1' : ¬ F' w1.heap.size := fun h => hw1 (hFF _ (by omega) h)
  by_cases hlt : i < xs.length
  · have hr3 := ((hr.mono (D' := fun b => D b ∧ b < w.heap.size) (fun b hb h => ⟨h, hb⟩)).keep k02 (fun _ _ _ h => h)).keep k3 (fun b hb h e => by
      rcases e with e | e
      · exact hD b h.1 e
      · have := h.2; omega)
    (repeat (first|refine jo ?_|refine jy ?_))
    refine M.idxLV_i hr3 rfl (by omega) (by omega) (x := xs[i]) (by rw [Int.toNat_natCast]; exact List.getElem?_eq_getElem hlt) (fun bb oo hA hcc => ?_)
    (repeat (refine jM (by assumption) ?_))
    refine M.call_i (const_ret h3 64 xs[i]) ?_; rintro _ w4 ⟨F4, rfl, h4, hF4, k4⟩
    refine M.extract_i rfl ?_
    refine M.extract_i rfl ?_
    have b1 := b1.keep k4 hw'
    have b2 := b2.keep k4 hw1'
    have g3 : GI w4 (fun b => w2.heap.size ≤ b ∧ ¬ F4 b) sv acc := (GC.mono (L' := fun b => (w2.heap.size ≤ b ∧ ¬ F' b) ∧ b < w3.heap.size) g3 (fun b hb h => ⟨h, hb⟩) |>.keep k4 (fun b hb h e => h.1.2 e)).mono (fun b hb h => ⟨h.1.1, fun e => h.1.2 (hF4 b h.2 e)⟩)
    have hFF4 : ∀ b, b < w2.heap.size → F4 b → F b := fun b hb h => hFF b hb (hF4 b (by omega) h)
    have k24 : Keep w2 w4 (fun b => F b ∨ b = w1.heap.size) := k3.trans k4 (fun b hb h => .inl (hFF b hb h))
    have hdrop : xs.drop i = xs[i] :: xs.drop (i + 1) := List.drop_eq_getElem_cons hlt
    rw [hdrop, devN] at hN
    have q4 := k4.size
    by_cases hz : (constN most N' 64 xs[i]).2.2 = 0
    · rw [if_pos hz] at hN
      rw [hz]
      (repeat (first|refine jc ?_|refine jp ?_|refine jJ ?_|refine jN (by assumption) rfl ?_))
      refine M.buildSlice_i [vi (constN most N' 64 xs[i]).2.1] (by kernel_rfl) (fun w5 b5 k5 s5 => ?_)
      have b1 := b1.keep k5 (fun h => h)
      have b2 := b2.keep k5 (fun h => h)
      refine M.append1_i (GC.own (g3.keep k5 (fun _ _ _ h => h))) (Row.of_blk' (D := fun _ => True) b5 trivial) rfl (by omega) (fun sv6 w6 g6 k6 => ?_)
      have g35 := g3.keep k5 (fun _ _ _ h => h)
      have own : ∀ b, blkOf sv b → w2.heap.size ≤ b ∧ ¬ F4 b := fun b hb => (GC.blkOf g35 hb).1
      have b1 := b1.keep k6 (fun h => by have := (own _ h).1; omega)
      have b2 := b2.keep k6 (fun h => by have := (own _ h).1; omega)
      have h6 := (h4.keepN k5).keep k6 (fun b hb h => (own b h).2 hb)
      have q6 := k6.size
      (repeat (refine jc ?_))
      refine M.store_i b2 (by simp) (GC.one g6) (fun w7 b7 k7 s7 => ?_)
      have hF41 : ¬ F4 w1.heap.size := fun h => hw1 (hFF4 _ (by omega) h)
      (repeat (refine jK ?_))
      refine hK (xs.length - (i + 1)) _ _ (by show xs.length - (i + 1) < xs.length - i; omega) ⟨i + 1, sv6, _, _, F4, rfl, by omega, rfl, by simp [hal], hN, h6.keep k7 (fun b hb h => hF41 (h ▸ hb)), hFF4, ?_, b1.keep k7 (fun h => by omega), b7, ?_⟩
      · refine GC.keep (GC.mono (L' := fun b => w2.heap.size ≤ b ∧ ¬ F4 b) g6 (fun b hb h => ?_)) k7 (fun b hb h e => by have := h.1; omega)
        rcases h with h | h
        · exact own b h
        · exact ⟨by omega, fun e => by have := h4.lt e; omega⟩
      · exact ((k24.trans k5 (fun _ _ h => h.elim)).trans k6 (fun b hb h => by have := (own b h).1; omega)).trans k7 (fun _ _ h => .inr h)
    · rw [if_neg hz] at hN
      refine M.neq_t hz ?_
      (repeat (refine jo ?_))
      refine M.pure_i (.agg ⟨[.slice none 0 0, .slice none 0 0, vi 0]⟩) (fun _ => by kernel_rfl) ?_
      refine M.storeAll_i b1 rfl rfl (List.all_eq_true.1 rfl) (fun w7 b7 k7 s7 => ?_)
      refine M.loadAll_i b7 rfl ?_
      rw [hN]
      have hF40 : ¬ F4 w.heap.size := fun h => hw (hFF4 _ (by omega) h)
      exact ⟨F4, _, rfl, h4.keep k7 (fun b hb h => hF40 (h ▸ hb)), fun b hb h => hFF4 b (by omega) h, ((k02.mono (fun _ _ h => h.elim)).trans k24 (fun b hb h => by rcases h with h | h; exact h; omega)).trans k7 (fun b hb h => by omega), LV.nil _ _ _⟩
  · have : i = xs.length := by omega
    subst this
    rw [List.drop_length, devN] at hN
    rw [hN]
    (repeat (first|refine jp ?_|refine jz ?_))
    refine M.loadAll_i b2 rfl ?_
    have o1 := GC.one g3
    refine M.storeAll_i b1 rfl rfl (by
      refine List.all_eq_true.1 ?_
      simp only [List.all_cons, List.all_nil, o1]
      rfl) (fun w7 b7 k7 s7 => ?_)
    refine M.loadAll_i b7 rfl ?_
    refine ⟨F', _, rfl, h3.keep k7 (fun b hb h => hw' (h ▸ hb)), fun b hb h => hFF b (by omega) h, ((k02.mono (fun _ _ h => h.elim)).trans k3 (fun b hb h => by rcases h with h | h; exact h; omega)).trans k7 (fun b hb h => by omega), ?_⟩
    exact ((GI.lv g3).keep k7 (fun b hb h e => by have := h.1; omega)).mono (fun b hb h => ⟨by have := h.1; omega, h.2⟩)
set_option maxHeartbeats 1000000 in
theorem sstart_ret {D : Nat → Prop} {a b cv : Value} {d : SDv} {conds : List Int} (hd : DagO w F p N most) (hs : SDvO w D a b d) (hcv : LV vi w D cv conds) (hD : ∀ b, D b → ¬ F b) (n : Int) (hz : (constN most N 64 0).2.2 = 0) :
    Ret Tryz.prog 9 #[ptr p, .agg ⟨[a, b, vi d.ep]⟩, vi n, cv] w (fun r w' => ∃ F' v, r = .tuple #[v, vi 0] ∧ DagO w' F' p (constN most N 64 0).1 most ∧ (∀ b, b < w.heap.size → F' b → F b) ∧ Keep w w' F ∧ SyO w' (fun b => ((D b ∧ b < w.heap.size) ∨ w.heap.size ≤ b) ∧ ¬ F' b) v ⟨List.replicate 8 (constN most N 64 0).2.1, List.replicate (cellsOk n) (constN most N 64 0).2.1, 0, 0, 0, 0, 0, -1, d, conds⟩) := by
  have hs := hs.mono (D' := fun b => D b ∧ b < w.heap.size) (fun b hb h => ⟨h, hb⟩)
  have hcv := hcv.mono (D' := fun b => D b ∧ b < w.heap.size) (fun b hb h => ⟨h, hb⟩)
  obtain ⟨⟨A, c, rfl, _, _⟩, A', c', rfl, _, _⟩ := id hs
  obtain ⟨A2, c2, rfl, _, _⟩ := id hcv
  refine ok9 _ _ _ _ _ _ ?_
  unfold sh9
  refine M.new_i (l := [.slice A d.disk.length c, .slice A' d.pend.length c', vi d.ep]) (fun w1 b1 k1 s1 => ?_)
  refine M.new_i (l := [vi 0, vi 0, vi 0, vi 0, vi 0, vi 0, vi 0, vi 0, .slice none 0 0, vi 0, vi 0, vi 0, vi 0, vi 0, vi 0, .slice none 0 0, .slice none 0 0, vi 0, .slice none 0 0]) (fun w2 b2 k2 s2 => ?_)
  have b1 := b1.keep k2 (fun h => h)
  have k02 := k1.trans k2 (fun _ _ h => h)
  change M.call Tryz.prog 16 #[ptr p, vi 64, vw 0] _ _
  refine M.call_i (const_ret (hd.keepN k02) 64 0) ?_; rintro _ w3 ⟨F3, rfl, h3, hF3, k3⟩
  refine M.extract_i (v := vi (constN most N 64 0).2.1) rfl ?_
  refine M.extract_i (v := vi (constN most N 64 0).2.2) rfl ?_
  rw [hz]
  generalize hz1 : (constN most N 64 0).2.1 = z
  generalize (constN most N 64 0).1 = N3 at h3
  have hw : ∀ x, w.heap.size ≤ x → ¬ F x := fun x hx h => by have := hd.lt h; omega
  have b1 := b1.keep k3 (hw _ (by omega))
  have b2 := b2.keep k3 (hw _ (by omega))
  have k03 : Keep w w3 F := (k02.mono (fun _ _ h => h.elim)).trans k3 (fun _ _ h => h)
  have hs := hs.keep k03 (fun b _ h e => hD b h.1 e)
  have hcv := hcv.keep k03 (fun b _ h e => hD b h.1 e)
  have q3 := k3.size
  have hF3w : ∀ x, w.heap.size ≤ x → x < w2.heap.size → ¬ F3 x := fun x h1 h2 h => hw x h1 (hF3 x h2 h)
  (repeat (first|refine jp ?_|refine jJ ?_))
  refine M.share_j (fun vals w' => vals = [vi (cellsOk n : Nat)] ∧ w' = w3) ?_ ?_
  · rintro vals w3 ⟨rfl, rfl⟩ _
    simp only [List.getD_cons_zero, List.getD_cons_succ]
    have hn : cellsOk n ≤ 255 := by unfold cellsOk; split <;> omega
    refine M.share_j (fun vals w' => ∃ pn pc, vals = [ptr pn] ∧ w3.heap.size ≤ pn ∧ w3.heap.size ≤ pc ∧ pn ≠ pc ∧ Blk w' pn [vi 0, vi 0, vi 0, vi 0, vi 0, vi 0, vi 0, vi 0, .slice (some ⟨pc, 0, none⟩) (cellsOk n) (cellsOk n), vi 0, vi 0, vi 0, vi 0, vi 0, vi (-1), .slice A d.disk.length c, .slice A' d.pend.length c', vi d.ep, .slice A2 conds.length c2] ∧ Blk w' pc (List.replicate (cellsOk n) (vi 0)) ∧ Keep w3 w' No) ?_ ?_
    · rintro vals w4 ⟨pn, pc, rfl, hpn, hpc, hne, bn, bc, k4⟩ _
      simp only [List.getD_cons_zero, List.getD_cons_succ]
      have q4 := k4.size
      have b2 := b2.keep k4 (fun h => h)
      have h4 := h3.keepN k4
      have hFn : ∀ x, w3.heap.size ≤ x → ¬ F3 x := fun x hx h => by have := h3.lt h; omega
      have hpnl := bn.lt
      have hpcl := bc.lt
      refine M.loop_i (σ := Nat) (fun m vals w' => ∃ i : Nat, m = 8 - i ∧ i ≤ 8 ∧ vals = [vi i] ∧ Blk w' pn ((List.replicate 8 (vi z)).take i ++ (List.replicate 8 (vi 0)).drop i ++ [.slice (some ⟨pc, 0, none⟩) (cellsOk n) (cellsOk n), vi 0, vi 0, vi 0, vi 0, vi 0, vi (-1), .slice A d.disk.length c, .slice A' d.pend.length c', vi d.ep, .slice A2 conds.length c2]) ∧ Keep w4 w' (· = pn)) id 8
        ⟨0, rfl, by omega, rfl, bn, Keep.refl _ _⟩ ?_
      rintro m vals w5 K ⟨i, rfl, hi, rfl, bn5, k5⟩ hK _
      simp only [List.getD_cons_zero, List.getD_cons_succ]
      by_cases hlt : i < 8
      · (repeat (first|refine jc ?_|refine jo ?_|refine jy ?_))
        refine M.arr_i (by omega) (by omega) ?_
        have e0 : 0 + 0 + (i : Int).toNat * 1 = i := by omega
        rw [e0]
        refine M.store_i bn5 (by simp; omega) rfl (fun w7 b7 k7 s7 => ?_)
        have hiW : i < (List.replicate 8 (vi z)).length := by simp; omega
        have fs := fill_set (tail := [.slice (some ⟨pc, 0, none⟩) (cellsOk n) (cellsOk n), vi 0, vi 0, vi 0, vi 0, vi 0, vi (-1), .slice A d.disk.length c, .slice A' d.pend.length c', vi d.ep, .slice A2 conds.length c2]) (ys := List.replicate 8 (vi 0)) (by simp) hiW
        rw [List.getElem_replicate] at fs
        rw [fs] at b7
        (repeat (refine jK ?_))
        exact hK (8 - (i + 1)) _ _ (by show 8 - (i + 1) < 8 - i; omega) ⟨i + 1, rfl, by omega, rfl, b7, k5.trans k7 (fun _ _ h => h)⟩
      · have : i = 8 := by omega
        subst this
        have bn5 : Blk w5 pn [vi z, vi z, vi z, vi z, vi z, vi z, vi z, vi z, .slice (some ⟨pc, 0, none⟩) (cellsOk n) (cellsOk n), vi 0, vi 0, vi 0, vi 0, vi 0, vi (-1), .slice A d.disk.length c, .slice A' d.pend.length c', vi d.ep, .slice A2 conds.length c2] := bn5
        have bc5 := bc.keep k5 (fun h => hne h.symm)
        have b2 := b2.keep k5 (fun h => by omega)
        have h5 := h4.keep k5 (fun b hb h => hFn pn hpn (h ▸ hb))
        clear hK
        have q5 := k5.size
        (repeat (first|refine ja ?_|refine jc ?_|refine jp ?_|refine jz ?_|refine jN (by assumption) rfl ?_))
        refine M.loop_i (σ := Nat) (fun m vals w' => ∃ i : Nat, m = cellsOk n - i ∧ i ≤ cellsOk n ∧ vals = [vi i] ∧ Blk w' pc ((List.replicate (cellsOk n) (vi z)).take i ++ (List.replicate (cellsOk n) (vi 0)).drop i ++ []) ∧ Keep w5 w' (· = pc)) id (cellsOk n)
          ⟨0, by omega, by omega, rfl, by simpa using bc5, Keep.refl _ _⟩ ?_
        rintro m vals w6 K ⟨i, rfl, hi, rfl, bc6, k6⟩ hK _
        simp only [List.getD_cons_zero, List.getD_cons_succ]
        have bn6 := bn5.keep k6 hne
        by_cases hlt : i < cellsOk n
        · (repeat (first|refine jc ?_|refine jo ?_|refine jy ?_|refine jN (by assumption) rfl ?_))
          refine M.idx_i (by omega) (by omega) ?_
          have e0 : 0 + (i : Int).toNat * 1 = i := by omega
          rw [e0]
          refine M.store_i bc6 (by simp; omega) rfl (fun w7 b7 k7 s7 => ?_)
          have hiW : i < (List.replicate (cellsOk n) (vi z)).length := by simp; omega
          have fs := fill_set (tail := []) (ys := List.replicate (cellsOk n) (vi 0)) (by simp) hiW
          rw [List.getElem_replicate] at fs
          rw [fs] at b7
          (repeat (refine jK ?_))
          exact hK (cellsOk n - (i + 1)) _ _ (by show cellsOk n - (i + 1) < cellsOk n - i; omega) ⟨i + 1, rfl, by omega, rfl, b7, k6.trans k7 (fun _ _ h => h)⟩
        · have : i = cellsOk n := by omega
          subst this
          have bc6 : Blk w6 pc (List.replicate (cellsOk n) (vi z)) := by
            rw [List.take_of_length_le (by simp), List.drop_eq_nil_of_le (by simp), List.append_nil, List.append_nil] at bc6; exact bc6
          have b2 := b2.keep k6 (fun h => by omega)
          have h6 := h5.keep k6 (fun b hb h => hFn pc hpc (h ▸ hb))
          (repeat (first|refine jp ?_|refine jz ?_))
          refine M.loadAll_i bn6 rfl ?_
          refine M.storeAll_i b2 rfl rfl (List.all_eq_true.1 rfl) (fun w7 b7 k7 s7 => ?_)
          refine M.loadAll_i b7 rfl ?_
          have k37 : Keep w3 w7 (fun b => b = pn ∨ b = pc ∨ b = w1.heap.size) := (((k4.mono (fun _ _ h => h.elim)).trans k5 (fun _ _ h => .inl h)).trans k6 (fun _ _ h => .inr (.inl h))).trans k7 (fun _ _ h => .inr (.inr h))
          have b8 := bc6.keep k7 (fun h => by omega)
          have dk : ∀ b, (D b ∧ b < w.heap.size) → ((D b ∧ b < w.heap.size) ∨ w.heap.size ≤ b) ∧ ¬ F3 b := fun b h => ⟨.inl h, fun e => hD b h.1 (hF3 b (by omega) e)⟩
          refine ⟨F3, _, rfl, h6.keep k7 (fun b hb h => hF3w w1.heap.size (by omega) (by omega) (h ▸ hb)), fun b hb h => hF3 b (by omega) h, k03.trans k37 (fun b hb h => by rcases h with h | h | h <;> omega), rfl, .slice (some ⟨pc, 0, none⟩) (cellsOk n) (cellsOk n), _, _, _, rfl, ?_, ?_, ?_⟩
          · have b8' : Blk w7 pc ((List.replicate (cellsOk n) z).map vi) := by rw [List.map_replicate]; exact b8
            exact ⟨some ⟨pc, 0, none⟩, cellsOk n, by simp, Row.of_blk' b8' ⟨.inr (by omega), hFn pc hpc⟩, by simp⟩
          · exact (hs.keep k37 (fun b _ h e => by have := h.2; rcases e with e | e | e <;> omega)).mono (fun b _ h => dk b h)
          · exact (hcv.keep k37 (fun b _ h e => by have := h.2; rcases e with e | e | e <;> omega)).mono (fun b _ h => dk b h)
    · intro K hK
      refine M.draw_i ?_
      have e3 : w3.drew.heap.size = w3.heap.size := rfl
      have kd : Keep w3 w3.drew No := Keep.drew w3 No
      have b1 := b1.keep kd (fun h => h)
      revert e3 kd b1
      generalize w3.drew = w4
      intro e3 kd b1
      refine M.loadAll_i b1 rfl ?_
      refine ⟨?_, ?_⟩
      · refine M.makeSlice_i rfl rfl (by omega) (by omega) (fun w5 b5 k5 s5 => ?_)
        have b1 := b1.keep k5 (fun h => h)
        refine M.stAll_i b1 rfl ?_
        refine M.pure_i (.agg ⟨[vi 0, vi 0, vi 0, vi 0, vi 0, vi 0, vi 0, vi 0, .slice (some ⟨w4.heap.size, 0, none⟩) (cellsOk n) (cellsOk n), vi 0, vi 0, vi 0, vi 0, vi 0, vi (-1), .slice A d.disk.length c, .slice A' d.pend.length c', vi d.ep, .slice A2 conds.length c2]⟩) (fun _ => by kernel_rfl) ?_
        refine M.new_i (l := [vi 0, vi 0, vi 0, vi 0, vi 0, vi 0, vi 0, vi 0, .slice none 0 0, vi 0, vi 0, vi 0, vi 0, vi 0, vi 0, .slice none 0 0, .slice none 0 0, vi 0, .slice none 0 0]) (fun w6 b6 k6 s6 => ?_)
        have b1 := b1.keep k6 (fun h => h)
        refine M.stAll_i b1 rfl ?_
        refine M.storeAll_i b6 rfl rfl (List.all_eq_true.1 rfl) (fun w7 b7 k7 s7 => ?_)
        exact hK _ _ ⟨w5.heap.size, w4.heap.size, rfl, by omega, by omega, by omega, b7, (b5.keep k6 (fun h => h)).keep k7 (fun h => by omega), ((kd.trans k5 (fun _ _ h => h)).trans k6 (fun _ _ h => h)).trans k7 (fun b hb h => by omega)⟩
      · refine M.new_i (l := [vi 0, vi 0, vi 0, vi 0, vi 0, vi 0, vi 0, vi 0, .slice none 0 0, vi 0, vi 0, vi 0, vi 0, vi 0, vi 0, .slice none 0 0, .slice none 0 0, vi 0, .slice none 0 0]) (fun w5 b5 k5 s5 => ?_)
        have b1 := b1.keep k5 (fun h => h)
        refine M.stAll_i b1 rfl ?_
        refine M.makeSlice_i rfl rfl (by omega) (by omega) (fun w6 b6 k6 s6 => ?_)
        have b1 := b1.keep k6 (fun h => h)
        have b5 := b5.keep k6 (fun h => h)
        refine M.stAll_i b1 rfl ?_
        refine M.pure_i (.agg ⟨[vi 0, vi 0, vi 0, vi 0, vi 0, vi 0, vi 0, vi 0, .slice (some ⟨w5.heap.size, 0, none⟩) (cellsOk n) (cellsOk n), vi 0, vi 0, vi 0, vi 0, vi 0, vi (-1), .slice A d.disk.length c, .slice A' d.pend.length c', vi d.ep, .slice A2 conds.length c2]⟩) (fun _ => by kernel_rfl) ?_
        refine M.storeAll_i b5 rfl rfl (List.all_eq_true.1 rfl) (fun w7 b7 k7 s7 => ?_)
        exact hK _ _ ⟨w4.heap.size, w5.heap.size, rfl, by omega, by omega, by omega, b7, b6.keep k7 (fun h => by omega), ((kd.trans k5 (fun _ _ h => h)).trans k6 (fun _ _ h => h)).trans k7 (fun b hb h => by omega)⟩
  · intro K hK
    unfold cellsOk at hK
    by_cases h1 : n < 0
    · rw [if_pos (.inl h1)] at hK
      (repeat (first|refine ji ?_|refine jk ?_|refine jo ?_|refine jy ?_))
      exact hK _ _ ⟨rfl, rfl⟩
    · by_cases h2 : 255 < n
      · rw [if_pos (.inr h2)] at hK
        (repeat (first|refine jg ?_|refine jl ?_|refine jo ?_|refine jz ?_|refine jC ?_))
        exact hK _ _ ⟨rfl, rfl⟩
      · rw [if_neg (by omega)] at hK
        (repeat (first|refine jg ?_|refine jl ?_|refine jp ?_|refine jz ?_|refine jD ?_))
        exact hK _ _ ⟨by rw [show ((n.toNat : Nat) : Int) = n by omega], rfl⟩
end
end Go.Proofs.YtanjlgafjgoaaaaGreat
namespace Go.Proofs.YtanjlgafjgoaaaaGreat
open Go.Mw
set_option linter.unusedVariables false
set_option linter.unusedSimpArgs false
set_option maxRecDepth 100000
attribute [local irreducible] M.val M.unit M.next M.pick M.new M.nilCheck M.load1 M.loadA M.store M.fieldAddr M.indexSl M.indexArr M.slice M.makeSlice M.buildSlice M.len M.lenS M.cap M.append M.extract M.conv M.not M.neg M.bin M.shift M.eqB M.eqNil M.scat M.call M.callv M.gd M.share M.cond M.loop M.draw pureW readW Ret
theorem cut64 (x : W64) : cutW 64 x = x := by
  have : maskW 64 = BitVec.allOnes 64 := by decide
  unfold cutW; rw [this, BitVec.and_allOnes]
theorem const_at {most : Int} {N : List Nd} (hG : GoodN N) (hl : (N.length : Int) < most) (x : W64) :
    (constN most N 64 x).2.2 = 0 ∧ (∃ k : Nat, (constN most N 64 x).2.1 = k ∧ (constN most N 64 x).1[k]? = some ⟨20, 64, 0, 0, 0, x⟩) ∧ (∃ M, (constN most N 64 x).1 = N ++ M) ∧ GoodN (constN most N 64 x).1 ∧ (constN most N 64 x).1.length ≤ N.length + 1 := by
  have hg := (ask_const (most := most) hG 64 x).good
  have hp := (ask_const (most := most) hG 64 x).pre
  refine ⟨?_, ?_, hp, hg, ?_⟩ <;> clear hg hp
  all_goals
    unfold constN
    rw [if_pos (by decide), cut64]
    unfold madeN
  · split
    · rfl
    · rw [if_neg (by omega)]
  · split
    · rename_i hm
      refine ⟨_, rfl, ?_⟩
      have := List.idxOf_lt_length_of_mem hm
      show N[N.idxOf _]? = _
      rw [List.getElem?_eq_getElem this, List.getElem_idxOf]
    · rw [if_neg (by omega)]
      exact ⟨N.length, rfl, by simp⟩
  · split
    · exact Nat.le_succ _
    · rw [if_neg (by omega)]; simp
theorem valW_const {N : List Nd} {env : List W64} (hG : GoodN N) {k : Nat} {x : W64} (h : N[k]? = some ⟨20, 64, 0, 0, 0, x⟩) : valW N env k = x ∧ isN N k = true := by
  have hl := (List.getElem?_eq_some_iff.1 h).1
  have hi : isN N k = true := isN_iff.2 ⟨by omega, by omega⟩
  unfold valW
  rw [hi, if_pos rfl, wordAt_one hG h, oneV_const rfl]
  exact ⟨rfl, rfl⟩
def constIds (N : List Nd) (ids : List Int) (xs : List W64) : Prop := ids.length = xs.length ∧ ∀ (i : Nat) id x, ids[i]? = some id → xs[i]? = some x → ∃ k : Nat, id = k ∧ N[k]? = some ⟨20, 64, 0, 0, 0, x⟩
theorem constIds.ext {N M : List Nd} {ids : List Int} {xs : List W64} (h : constIds N ids xs) : constIds (N ++ M) ids xs :=
  ⟨h.1, fun i id x h1 h2 => by
    obtain ⟨k, rfl, hk⟩ := h.2 i id x h1 h2
    exact ⟨k, rfl, by rw [List.getElem?_append_left (List.getElem?_eq_some_iff.1 hk).1]; exact hk⟩⟩
theorem constIds.vals {N : List Nd} {ids : List Int} {xs : List W64} (h : constIds N ids xs) (hG : GoodN N) (env : List W64) : ids.map (valW N env) = xs ∧ ids.any (fun i => !isN N i) = false := by
  have key : ∀ (i : Nat) id x, ids[i]? = some id → xs[i]? = some x → valW N env id = x ∧ isN N id = true := fun i id x h1 h2 => by
    obtain ⟨k, rfl, hk⟩ := h.2 i id x h1 h2
    exact valW_const hG hk
  constructor
  · apply List.ext_getElem?
    intro i
    rw [List.getElem?_map]
    by_cases hi : i < ids.length
    · have hx : i < xs.length := by rw [← h.1]; exact hi
      rw [List.getElem?_eq_getElem hi, List.getElem?_eq_getElem hx]
      simp only [Option.map_some]
      rw [(key i _ _ (List.getElem?_eq_getElem hi) (List.getElem?_eq_getElem hx)).1]
    · rw [List.getElem?_eq_none (by omega), List.getElem?_eq_none (by have := h.1; omega)]; rfl
  · rw [List.any_eq_false]
    intro id hid
    obtain ⟨i, hi, rfl⟩ := List.mem_iff_getElem.1 hid
    have hx : i < xs.length := by rw [← h.1]; exact hi
    rw [(key i _ _ (List.getElem?_eq_getElem hi) (List.getElem?_eq_getElem hx)).2]
    simp
theorem devN_spec {most : Int} : ∀ (xs : List W64) (N : List Nd) (acc : List Int) (ys : List W64), GoodN N → ((N.length + xs.length : Nat) : Int) ≤ most → constIds N acc ys →
    (devN most N xs acc).2.2 = 0 ∧ GoodN (devN most N xs acc).1 ∧ (devN most N xs acc).1.length ≤ N.length + xs.length ∧ constIds (devN most N xs acc).1 (devN most N xs acc).2.1 (ys ++ xs)
  | [], N, acc, ys, hG, hl, ha => ⟨rfl, hG, by simp [devN], by rw [List.append_nil]; exact ha⟩
  | x :: xs, N, acc, ys, hG, hl, ha => by
    have hl' : ((N.length + (xs.length + 1) : Nat) : Int) ≤ most := hl
    obtain ⟨h1, ⟨k, hk, hk2⟩, ⟨M, hM⟩, h4, h5⟩ := const_at (most := most) hG (by omega) x
    rw [devN, if_pos h1]
    have ha' : constIds (constN most N 64 x).1 (acc ++ [(constN most N 64 x).2.1]) (ys ++ [x]) := by
      have hx := ha.ext (M := M)
      rw [← hM] at hx
      refine ⟨by simp [hx.1], fun i id y g1 g2 => ?_⟩
      by_cases hi : i < acc.length
      · rw [List.getElem?_append_left hi] at g1
        rw [List.getElem?_append_left (by rw [← hx.1]; exact hi)] at g2
        exact hx.2 i id y g1 g2
      · have e : i = acc.length := by
          have := (List.getElem?_eq_some_iff.1 g1).1
          simp at this; omega
        subst e
        rw [List.getElem?_append_right (Nat.le_refl _), Nat.sub_self] at g1
        rw [List.getElem?_append_right (by rw [hx.1]; exact Nat.le_refl _), hx.1, Nat.sub_self] at g2
        simp at g1 g2
        subst g1 g2
        exact ⟨k, hk, hk2⟩
    obtain ⟨r1, r2, r3, r4⟩ := devN_spec (most := most) xs (constN most N 64 x).1 (acc ++ [(constN most N 64 x).2.1]) (ys ++ [x]) h4 (by omega) ha'
    refine ⟨r1, r2, by simp only [List.length_cons]; omega, ?_⟩
    rw [List.append_assoc] at r4
    exact r4
end Go.Proofs.YtanjlgafjgoaaaaGreat
namespace Go.Proofs.YtanjlgafjgoaaaaGreat
open Go.Mw
set_option linter.unusedVariables false
set_option linter.unusedSimpArgs false
set_option maxRecDepth 100000
attribute [local irreducible] M.val M.unit M.next M.pick M.new M.nilCheck M.load1 M.loadA M.store M.fieldAddr M.indexSl M.indexArr M.slice M.makeSlice M.buildSlice M.len M.lenS M.cap M.append M.extract M.conv M.not M.neg M.bin M.shift M.eqB M.eqNil M.scat M.call M.callv M.gd M.share M.cond M.loop M.draw pureW readW Ret
def St.next (s : St) : St := { s with pc := s.pc + 1 }
def St.set (s : St) (i : Ins) (x : W64) : St := { s.next with regs := s.regs.set i.a.toNat x }
def St.trap (s : St) (c : Int) : St := { s with en := 2, code := c }
def St.at (s : St) (i : Ins) : St := { s with pc := i.imm.toNat }
def St.call (s : St) (v : Dv) : St := { s.next with dev := v, calls := s.calls + 1 }
def St.reg (s : St) (r : Int) : W64 := s.regs.getD r.toNat 0
def eachC (s : St) (x : W64) (n : Nat) (code : Int) (f : Nat → St) : St := if x.toNat < n then f x.toNat else s.trap code
def St.load (s : St) (i : Ins) (k : Nat) : St := s.set i (s.cells.getD k 0)
def St.store (s : St) (i : Ins) (k : Nat) : St := { s.next with cells := s.cells.set k (s.reg i.b) }
def readC (d : Dv) (k : Nat) : W64 := d.pend.foldl (fun x w => if w.b = (k : Int) then w.v else x) (d.disk.getD k 0)
def St.read (s : St) (i : Ins) (k : Nat) : St := s.set i (readC s.dev k)
def St.write (s : St) (i : Ins) (mw : Int) (k : Nat) : St :=
  if mw ≤ (s.dev.pend.length : Int) then s.trap 259 else s.call { s.dev with pend := s.dev.pend ++ [⟨(k : Int), s.reg i.b, s.dev.ep⟩] }
def putC (disk : List W64) (pend : List PD) : List W64 := pend.foldl (fun l w => if 0 ≤ w.b ∧ w.b < (l.length : Int) then l.set w.b.toNat w.v else l) disk
def St.flush (s : St) : St := s.call ⟨putC s.dev.disk s.dev.pend, [], 0⟩
def barC (d : Dv) : Dv := if d.pend.any (fun w => decide (w.e = d.ep)) then { d with ep := d.ep + 1 } else d
def inputC (bs : List W64) (i : Ins) : W64 := if i.imm.toNat < bs.length then bs.getD i.imm.toNat 0 else 0
def execC (bs : List W64) (mw : Int) (s : St) (i : Ins) : St :=
  if i.op = 1 then s.set i i.imm
  else if i.op = 2 then s.set i (s.reg i.b)
  else if i.op = 3 then s.set i (binW (i.imm.toNat : Int) 64 (s.reg i.b) (s.reg i.c))
  else if i.op = 4 then s.set i (unW (i.imm.toNat : Int) 64 (s.reg i.b))
  else if i.op = 5 then s.at i
  else if i.op = 6 then (if s.reg i.a = 0 then s.next else s.at i)
  else if i.op = 7 then eachC s (s.reg i.b) s.cells.length 257 (s.load i)
  else if i.op = 8 then eachC s (s.reg i.a) s.cells.length 257 (s.store i)
  else if i.op = 9 then s.set i (inputC bs i)
  else if i.op = 10 then eachC s (s.reg i.b) s.dev.disk.length 258 (s.read i)
  else if i.op = 11 then eachC s (s.reg i.a) s.dev.disk.length 258 (s.write i mw)
  else if i.op = 12 then s.flush
  else if i.op = 13 then s.call (barC s.dev)
  else if i.op = 14 then { s with en := 1, value := s.reg i.a }
  else s.trap i.imm.toNat
def stepC (code : List Ins) (bs : List W64) (mw : Int) (s : St) : St :=
  if s.en ≠ 0 then s
  else match insAt code s.pc with
    | none => ({ s with steps := s.steps + 1 } : St).trap 256
    | some i => execC bs mw { s with steps := s.steps + 1 } i
def bytesC (n : Int) (env : List W64) : List W64 := (List.range n.toNat).map (fun i => if i < env.length then cutW 8 (env.getD i 0) else 0)
def Var8 (N : List Nd) : Prop := ∀ n ∈ N, n.op = 21 → n.wd = 8
structure WfS (N : List Nd) (s : Sy) : Prop where
  r8 : s.regs.length = 8
  fine : fineN N s = true
  conds : ∀ c ∈ s.conds, isN N c = true
  val : s.en = 1 → isN N s.value = true
def Bd (k : Nat) (s : Sy) : Prop :=
  s.cells.length ≤ 255 ∧ s.dev.disk.length ≤ 10 ∧ s.dev.pend.length ≤ k ∧ (0 ≤ s.calls ∧ s.calls ≤ k) ∧ (0 ≤ s.dev.ep ∧ s.dev.ep ≤ k) ∧ (0 ≤ s.pc ∧ s.pc ≤ k + 70) ∧ (0 ≤ s.steps ∧ s.steps ≤ k)
def Hd (N : List Nd) (env : List W64) (l : List Sy) : List St := (l.filter (stHolds N env)).map (stOf N env)
theorem is_of64 {N : List Nd} {i : Int} (h : wdN N i = 64) : isN N i = true := by
  cases hi : isN N i with
  | true => rfl
  | false => rw [wdN_none hi] at h; exact absurd h (by decide)
theorem WfS.mem {N : List Nd} {s : Sy} (h : WfS N s) {id : Int} (hm : id ∈ s.regs ∨ id ∈ s.cells ∨ id ∈ s.dev.disk ∨ id ∈ s.dev.pend.map SP.v) : wdN N id = 64 := by
  have := List.all_eq_true.1 h.fine id (by simp only [List.mem_append]; rcases hm with h | h | h | h <;> simp only [h, true_or, or_true])
  simpa using this
theorem WfS.of {N : List Nd} {s : Sy} (r8 : s.regs.length = 8) (h1 : ∀ id ∈ s.regs, wdN N id = 64) (h2 : ∀ id ∈ s.cells, wdN N id = 64) (h3 : ∀ id ∈ s.dev.disk, wdN N id = 64) (h4 : ∀ x ∈ s.dev.pend, wdN N x.v = 64) (hc : ∀ c ∈ s.conds, isN N c = true) (hv : s.en = 1 → isN N s.value = true) : WfS N s := by
  refine ⟨r8, ?_, hc, hv⟩
  unfold fineN
  rw [List.all_eq_true]
  intro id hid
  simp only [List.mem_append, List.mem_map] at hid
  simp only [decide_eq_true_eq]
  rcases hid with ((h | h) | h) | ⟨x, h, rfl⟩
  · exact h1 _ h
  · exact h2 _ h
  · exact h3 _ h
  · exact h4 _ h
theorem WfS.pend {N : List Nd} {s : Sy} (h : WfS N s) {x : SP} (hx : x ∈ s.dev.pend) : wdN N x.v = 64 := h.mem (.inr (.inr (.inr (List.mem_map_of_mem hx))))
theorem WfS.bad {N : List Nd} {s : Sy} (h : WfS N s) : stBad N s = false := by
  unfold stBad devBad
  simp only [Bool.or_eq_false_iff, List.any_eq_false]
  refine ⟨⟨⟨⟨?_, ?_, ?_⟩, ?_⟩, ?_⟩, ?_⟩
  · intro i hi; rw [is_of64 (h.mem (.inr (.inl hi)))]; decide
  · intro i hi; rw [is_of64 (h.mem (.inr (.inr (.inl hi))))]; decide
  · intro i hi; rw [is_of64 (h.pend hi)]; decide
  · intro i hi; rw [is_of64 (h.mem (.inl hi))]; decide
  · by_cases e : s.en = 1
    · rw [h.val e]; simp
    · simp [e]
  · intro i hi; rw [h.conds i hi]; decide
theorem wdN_ext64 {N : List Nd} {i : Int} (M : List Nd) (h : wdN N i = 64) : wdN (N ++ M) i = 64 := by rw [wdN_ext M (is_of64 h), h]
theorem WfS.ext {N : List Nd} {s : Sy} (M : List Nd) (h : WfS N s) : WfS (N ++ M) s :=
  WfS.of h.r8 (fun id hi => wdN_ext64 M (h.mem (.inl hi))) (fun id hi => wdN_ext64 M (h.mem (.inr (.inl hi)))) (fun id hi => wdN_ext64 M (h.mem (.inr (.inr (.inl hi))))) (fun x hi => wdN_ext64 M (h.pend hi)) (fun c hc => isN_ext M (h.conds c hc)) (fun e => isN_ext M (h.val e))
theorem WfS.stOf_ext {N M : List Nd} {s : Sy} (hG : GoodN (N ++ M)) (env : List W64) (h : WfS N s) : stOf (N ++ M) env s = stOf N env s := by
  have e : ∀ i, wdN N i = 64 → valW (N ++ M) env i = valW N env i := fun i hi => valW_ext hG (is_of64 hi)
  unfold stOf devOf
  have h1 := List.map_congr_left (f := valW (N ++ M) env) (g := valW N env) (l := s.regs) (fun i hi => e i (h.mem (.inl hi)))
  have h2 := List.map_congr_left (f := valW (N ++ M) env) (g := valW N env) (l := s.cells) (fun i hi => e i (h.mem (.inr (.inl hi))))
  have h3 := List.map_congr_left (f := valW (N ++ M) env) (g := valW N env) (l := s.dev.disk) (fun i hi => e i (h.mem (.inr (.inr (.inl hi)))))
  have h4 := List.map_congr_left (f := pdOf (N ++ M) env) (g := pdOf N env) (l := s.dev.pend) (fun x hx => by unfold pdOf; rw [e _ (h.pend hx)])
  have h5 : (if s.en = 1 then valW (N ++ M) env s.value else 0) = if s.en = 1 then valW N env s.value else 0 := by
    by_cases he : s.en = 1
    · rw [if_pos he, if_pos he, valW_ext hG (h.val he)]
    · rw [if_neg he, if_neg he]
  rw [h1, h2, h3, h4, h5]
theorem WfS.holds_ext {N M : List Nd} {s : Sy} (hG : GoodN (N ++ M)) (env : List W64) (h : WfS N s) : stHolds (N ++ M) env s = stHolds N env s := by
  unfold stHolds
  rw [List.map_congr_left (f := valW (N ++ M) env) (g := valW N env) (l := s.conds) (fun i hi => valW_ext hG (h.conds i hi))]
theorem Hd_nil (N : List Nd) (env : List W64) : Hd N env [] = [] := rfl
theorem Hd_app (N : List Nd) (env : List W64) (a b : List Sy) : Hd N env (a ++ b) = Hd N env a ++ Hd N env b := by
  unfold Hd; rw [List.filter_append, List.map_append]
theorem Hd_one (N : List Nd) (env : List W64) (o : Sy) : Hd N env [o] = if stHolds N env o then [stOf N env o] else [] := by
  unfold Hd
  cases h : stHolds N env o <;> simp [h]
theorem Hd_ext {N M : List Nd} (hG : GoodN (N ++ M)) (env : List W64) {l : List Sy} (h : ∀ o ∈ l, WfS N o) : Hd (N ++ M) env l = Hd N env l := by
  unfold Hd
  have e1 : l.filter (stHolds (N ++ M) env) = l.filter (stHolds N env) := List.filter_congr (fun o ho => (h o ho).holds_ext hG env)
  rw [e1]
  exact List.map_congr_left (fun o ho => (h o (List.mem_filter.1 ho).1).stOf_ext hG env)
structure KG (N : List Nd) (env : List W64) (e : Int) (r : Rs) (wd : Int) (x : W64) : Prop where
  err : r.2.2 = 0 ∨ r.2.2 = 8
  ok : r.2.2 = 0 → e = 0 ∧ ∃ M, r.1 = N ++ M ∧ GoodN r.1 ∧ Var8 r.1 ∧ isN r.1 r.2.1 = true ∧ wdN r.1 r.2.1 = wd ∧ valW r.1 env r.2.1 = x
theorem kp_got {most : Int} {N : List Nd} {env : List W64} {e wd : Int} {x : W64} {r : Rs} (he : e = 0 ∨ e = 8) (h : e = 0 → Var8 N ∧ Got most N env r wd x) : KG N env e (kp e r) wd x := by
  unfold kp
  by_cases e0 : e = 0
  · obtain ⟨hv, hg⟩ := h e0
    subst e0
    rw [if_pos rfl]
    refine ⟨hg.err, fun h0 => ⟨rfl, ?_⟩⟩
    obtain ⟨M, hM⟩ := hg.pre
    exact ⟨M, hM, hg.good, fun n hn h21 => hv n (hg.vars n hn h21) h21, hg.is h0⟩
  · rw [if_neg e0]
    have e8 : e = 8 := by omega
    exact ⟨.inr e8, fun h0 => absurd h0 e0⟩
theorem KG.chain {most : Int} {N : List Nd} {env : List W64} {e wd wd' : Int} {x x' : W64} {r r' : Rs} (h : KG N env e r wd x)
    (h2 : ∀ M, r.1 = N ++ M → GoodN r.1 → Var8 r.1 → isN r.1 r.2.1 = true → wdN r.1 r.2.1 = wd → valW r.1 env r.2.1 = x → e = 0 → Got most r.1 env r' wd' x') : KG N env e (kp r.2.2 r') wd' x' := by
  have := kp_got (most := most) (env := env) (N := r.1) (wd := wd') (x := x') (r := r') h.err (fun h0 => by
    obtain ⟨e0, M, hM, hG, hv, h3, h4, h5⟩ := h.ok h0
    exact ⟨hv, h2 M hM hG hv h3 h4 h5 e0⟩)
  refine ⟨this.err, fun h0 => ?_⟩
  obtain ⟨e1, M2, hM2, hr⟩ := this.ok h0
  obtain ⟨e0, M, hM, _⟩ := h.ok e1
  exact ⟨e0, M ++ M2, by rw [hM2, hM, List.append_assoc], hr⟩
theorem wordP_kg {most : Int} {N : List Nd} {env : List W64} {e : Int} (x : W64) (he : e = 0 ∨ e = 8) (h : e = 0 → GoodN N ∧ Var8 N) : KG N env e (wordP most N e x) 64 x :=
  kp_got (most := most) he (fun e0 => ⟨(h e0).2, by
    have := got_const (most := most) (env := env) (h e0).1 (w := 64) (by decide) x
    rwa [cut64] at this⟩)
theorem bin64_eq (x y : W64) : binW 12 64 x y = if x = y then 1 else 0 := by
  unfold binW
  rw [if_neg (by decide), if_pos (by decide), cut64, cut64, cut64]
  by_cases h : x = y <;> simp [binC, h]
theorem bin64_lt (x y : W64) : binW 13 64 x y = if x.toNat < y.toNat then 1 else 0 := by
  unfold binW
  rw [if_neg (by decide), if_pos (by decide), cut64, cut64, cut64]
  by_cases h : x.toNat < y.toNat
  · have : x < y := h
    simp [binC, h, this]
  · have : ¬ x < y := h
    simp [binC, h, this]
theorem isP_kg {most : Int} {N : List Nd} {env : List W64} {e id : Int} {y : W64} (x : W64) (he : e = 0 ∨ e = 8) (h : e = 0 → GoodN N ∧ Var8 N ∧ wdN N id = 64 ∧ valW N env id = y) : KG N env e (isP most N e id x) 1 (if y = x then 1 else 0) := by
  refine KG.chain (most := most) (wordP_kg (most := most) (env := env) x he (fun e0 => ⟨(h e0).1, (h e0).2.1⟩)) (fun M hM hG hv h3 h4 h5 e0 => ?_)
  obtain ⟨_, _, hw, hval⟩ := h e0
  have hw' : wdN (wordP most N e x).1 id = 64 := by rw [hM]; exact wdN_ext64 M hw
  have hv' : valW (wordP most N e x).1 env id = y := by rw [hM] at hG ⊢; rw [valW_ext hG (is_of64 hw), hval]
  have := got_foldBin (most := most) (env := env) hG (op := 12) (by decide) (is_of64 hw') h3 (by rw [hw', h4])
  rw [hw', hv', h5, bin64_eq, if_pos (by decide)] at this
  exact this
theorem un1_not (b : Bool) : unW 15 1 (if b then 1 else 0) = if b then 0 else 1 := by cases b <;> decide
theorem notP_kg {most : Int} {N : List Nd} {env : List W64} {e c : Int} (b : Bool) (he : e = 0 ∨ e = 8) (h : e = 0 → GoodN N ∧ Var8 N ∧ isN N c = true ∧ wdN N c = 1 ∧ valW N env c = if b then 1 else 0) : KG N env e (notP most N e c) 1 (if b then 0 else 1) :=
  kp_got (most := most) he (fun e0 => by
    obtain ⟨hG, hv, hi, hw, hval⟩ := h e0
    have := got_foldUn (most := most) (env := env) hG (.inl rfl : (15 : Int) = 15 ∨ (15 : Int) = 16) hi
    rw [hw, hval, un1_not] at this
    exact ⟨hv, this⟩)
structure Fs (N : List Nd) (k : Nat) (s o : Sy) : Prop where
  wf : WfS N o
  bd : Bd k o
  cn : o.conds = s.conds
structure OutS1 (N : List Nd) (k : Nat) (s o : Sy) : Prop where
  wf : WfS N o
  bd : Bd k o
  cn : o.conds.length ≤ s.conds.length + 1
structure Acc (N : List Nd) (env : List W64) (k : Nat) (s : Sy) (e : Int) (r : Rp) (T : List St) : Prop where
  err : r.2.1 = 0 ∨ r.2.1 = 8
  ok : r.2.1 = 0 → e = 0 ∧ ∃ M, r.1 = N ++ M ∧ GoodN r.1 ∧ Var8 r.1 ∧ (∀ o ∈ r.2.2, OutS1 r.1 k s o) ∧ Hd r.1 env r.2.2 = T
theorem OutS1.ext {N : List Nd} {k : Nat} {s o : Sy} (M : List Nd) (h : OutS1 N k s o) : OutS1 (N ++ M) k s o := ⟨h.wf.ext M, h.bd, h.cn⟩
theorem holds_snoc (N : List Nd) (env : List W64) (s : Sy) (c : Int) : stHolds N env { s with conds := s.conds ++ [c] } = (stHolds N env s && decide (valW N env c = 1)) := by
  unfold stHolds
  simp
theorem holds_cn {N : List Nd} {env : List W64} {s o : Sy} (h : o.conds = s.conds) : stHolds N env o = stHolds N env s := by unfold stHolds; rw [h]
theorem addQ_some {N : List Nd} {out : List Sy} {s : Sy} {c : Int} {x : W64} (h : 0 ≤ c) (hk : knownN N c = some x) : addP N 0 out s c = if x = 0 then out else out ++ [s] := by
  unfold addP
  rw [if_neg (fun h => h rfl), if_pos h, hk]
theorem addQ_none {N : List Nd} {out : List Sy} {s : Sy} {c : Int} (h : 0 ≤ c) (hk : knownN N c = none) : addP N 0 out s c = out ++ [{ s with conds := s.conds ++ [c] }] := by
  unfold addP
  rw [if_neg (fun h => h rfl), if_pos h, hk]
theorem addP_acc {N N1 : List Nd} {env : List W64} {k : Nat} {s o : Sy} {out : List Sy} {T : List St} {c : Int} {b : Bool} {M : List Nd} (hM : N1 = N ++ M) (hG : GoodN N1) (ho : ∀ o ∈ out, OutS1 N1 k s o) (hT : Hd N1 env out = T) (hf : Fs N k s o)
    (hc : isN N1 c = true) (hb : valW N1 env c = if b then 1 else 0) : (∀ q ∈ addP N1 0 out o c, OutS1 N1 k s q) ∧ Hd N1 env (addP N1 0 out o c) = T ++ if stHolds N env s && b then [stOf N env o] else [] := by
  have hc0 : 0 ≤ c := (isN_iff.1 hc).1
  have hwf : WfS N1 o := by rw [hM]; exact hf.wf.ext M
  have hst : stOf N1 env o = stOf N env o := by rw [hM] at hG ⊢; exact hf.wf.stOf_ext hG env
  have hho : stHolds N1 env o = stHolds N env s := by rw [← holds_cn (N := N) (env := env) hf.cn]; rw [hM] at hG ⊢; exact hf.wf.holds_ext hG env
  cases hk : knownN N1 c with
  | some x =>
    rw [addQ_some hc0 hk]
    have hx := (known_val hG env hk).2
    rw [hb] at hx
    cases b with
    | false =>
      have : x = 0 := by rw [← hx]; rfl
      rw [if_pos this]
      exact ⟨ho, by rw [hT]; simp⟩
    | true =>
      have : ¬ x = 0 := by rw [← hx]; decide
      rw [if_neg this]
      refine ⟨fun o' h' => ?_, ?_⟩
      · rcases List.mem_append.1 h' with h' | h'
        · exact ho _ h'
        · rw [List.mem_singleton.1 h']
          exact ⟨hwf, hf.bd, by rw [hf.cn]; omega⟩
      · rw [Hd_app, hT, Hd_one, hho, hst, Bool.and_true]
  | none =>
    rw [addQ_none hc0 hk]
    refine ⟨fun o' h' => ?_, ?_⟩
    · rcases List.mem_append.1 h' with h' | h'
      · exact ho _ h'
      · rw [List.mem_singleton.1 h']
        refine ⟨⟨hwf.r8, hwf.fine, fun d hd => ?_, hwf.val⟩, hf.bd, by simp [hf.cn]⟩
        rcases List.mem_append.1 hd with hd | hd
        · exact hwf.conds d hd
        · rw [List.mem_singleton.1 hd]; exact hc
    · have hs2 : stOf N1 env { o with conds := o.conds ++ [c] } = stOf N env o := hst
      rw [Hd_app, hT, Hd_one, holds_snoc, hho, hs2, hb]
      cases b <;> simp
theorem addR_acc {N : List Nd} {env : List W64} {k : Nat} {s o : Sy} {e0 : Int} {r : Rs} {R : Rp} {T : List St} {b : Bool} (hR : Acc N env k s e0 R T) (hr : KG R.1 env R.2.1 r 1 (if b then 1 else 0)) (hf : Fs N k s o) :
    Acc N env k s e0 (addR r R.2.2 o) (T ++ if stHolds N env s && b then [stOf N env o] else []) := by
  refine ⟨hr.err, fun h0 => ?_⟩
  have h0 : r.2.2 = 0 := h0
  obtain ⟨hR0, M2, hM2, hG, hv, hi, _, hval⟩ := hr.ok h0
  obtain ⟨he0, M, hM, hG1, hv1, ho, hT⟩ := hR.ok hR0
  have hM3 : r.1 = N ++ (M ++ M2) := by rw [hM2, hM, List.append_assoc]
  have ho' : ∀ o ∈ R.2.2, OutS1 r.1 k s o := fun o h => by rw [hM2]; exact (ho o h).ext M2
  have hT' : Hd r.1 env R.2.2 = T := by rw [hM2] at hG ⊢; rw [Hd_ext hG env (fun o h => (ho o h).wf), hT]
  have := addP_acc (b := b) hM3 hG ho' hT' hf hi hval
  unfold addR
  simp only [h0]
  exact ⟨he0, _, hM3, hG, hv, this⟩
theorem plainR_acc {N N1 : List Nd} {env : List W64} {k : Nat} {s o : Sy} {e : Int} {M : List Nd} (he : e = 0 ∨ e = 8) (hM : e = 0 → N1 = N ++ M ∧ GoodN N1 ∧ Var8 N1 ∧ WfS N1 o ∧ Bd k o ∧ o.conds = s.conds ∧ WfS N s) :
    Acc N env k s 0 (plainR N1 e o) (if stHolds N env s then [stOf N1 env o] else []) := by
  refine ⟨he, fun h0 => ?_⟩
  have h0 : e = 0 := h0
  subst h0
  obtain ⟨hM, hG, hv, hw, hb, hc, hws⟩ := hM rfl
  refine ⟨rfl, M, hM, hG, hv, ?_⟩
  show (∀ o' ∈ addP N1 0 [] o (-1), _) ∧ Hd N1 env (addP N1 0 [] o (-1)) = _
  unfold addP
  rw [if_neg (by decide), if_neg (by decide)]
  refine ⟨fun o' h' => ?_, ?_⟩
  · rw [List.mem_singleton.1 h']; exact ⟨hw, hb, by rw [hc]; omega⟩
  · show Hd N1 env [o] = _
    rw [Hd_one, holds_cn hc]
    have hh : stHolds N1 env s = stHolds N env s := by
      subst hM
      exact hws.holds_ext hG env
    rw [hh]
end Go.Proofs.YtanjlgafjgoaaaaGreat
namespace Go.Proofs.YtanjlgafjgoaaaaGreat
open Go.Mw
set_option linter.unusedVariables false
set_option linter.unusedSimpArgs false
set_option maxRecDepth 100000
attribute [local irreducible] M.val M.unit M.next M.pick M.new M.nilCheck M.load1 M.loadA M.store M.fieldAddr M.indexSl M.indexArr M.slice M.makeSlice M.buildSlice M.len M.lenS M.cap M.append M.extract M.conv M.not M.neg M.bin M.shift M.eqB M.eqNil M.scat M.call M.callv M.gd M.share M.cond M.loop M.draw pureW readW Ret
theorem KG.trans {N : List Nd} {env : List W64} {e wd wd' : Int} {x x' : W64} {r r' : Rs} (h : KG N env e r wd x) (h2 : KG r.1 env r.2.2 r' wd' x') : KG N env e r' wd' x' := by
  refine ⟨h2.err, fun h0 => ?_⟩
  obtain ⟨e1, M2, hM2, hr⟩ := h2.ok h0
  obtain ⟨e0, M, hM, _⟩ := h.ok e1
  exact ⟨e0, M ++ M2, by rw [hM2, hM, List.append_assoc], hr⟩
theorem lessP_kg {most : Int} {N : List Nd} {env : List W64} {e id : Int} {y : W64} (x : W64) (he : e = 0 ∨ e = 8) (h : e = 0 → GoodN N ∧ Var8 N ∧ wdN N id = 64 ∧ valW N env id = y) :
    KG N env e (kp (wordP most N e x).2.2 (foldBin most (wordP most N e x).1 13 id (wordP most N e x).2.1)) 1 (if y.toNat < x.toNat then 1 else 0) := by
  refine KG.chain (most := most) (wordP_kg (most := most) (env := env) x he (fun e0 => ⟨(h e0).1, (h e0).2.1⟩)) (fun M hM hG hv h3 h4 h5 e0 => ?_)
  obtain ⟨_, _, hw, hval⟩ := h e0
  have hw' : wdN (wordP most N e x).1 id = 64 := by rw [hM]; exact wdN_ext64 M hw
  have hv' : valW (wordP most N e x).1 env id = y := by rw [hM] at hG ⊢; rw [valW_ext hG (is_of64 hw), hval]
  have := got_foldBin (most := most) (env := env) hG (op := 13) (by decide) (is_of64 hw') h3 (by rw [hw', h4])
  rw [hw', hv', h5, bin64_lt, if_pos (by decide)] at this
  exact this
theorem Acc.congr {N : List Nd} {env : List W64} {k : Nat} {s : Sy} {e : Int} {r : Rp} {T T' : List St} (h : Acc N env k s e r T) (ht : T = T') : Acc N env k s e r T' := ht ▸ h
theorem eachK_acc {most : Int} {N : List Nd} {env : List W64} {k n : Nat} {s : Sy} {id : Int} {y : W64} {f : Nat → Sy} (hG : GoodN N) (hv : Var8 N) (hw : wdN N id = 64) (hy : valW N env id = y) (hn : n ≤ 1000) (hf : ∀ j, j < n → Fs N k s (f j)) :
    ∀ j, j ≤ n → Acc N env k s 0 (eachK most id f j (N, 0, [])) (if stHolds N env s && decide (y.toNat < j) then [stOf N env (f y.toNat)] else [])
  | 0, _ => ⟨.inl rfl, fun _ => ⟨rfl, [], by simp [eachK], hG, hv, fun o h => absurd h (by simp [eachK]), by simp [eachK, Hd_nil]⟩⟩
  | j + 1, hj => by
    have ih := eachK_acc (most := most) hG hv hw hy hn hf j (by omega)
    have hk := isP_kg (most := most) (env := env) (N := (eachK most id f j (N, 0, [])).1) (e := (eachK most id f j (N, 0, [])).2.1) (id := id) (y := y) (BitVec.ofNat 64 j) ih.err (fun h0 => by
      obtain ⟨_, M, hM, hG1, hv1, _⟩ := ih.ok h0
      refine ⟨hG1, hv1, by rw [hM]; exact wdN_ext64 M hw, ?_⟩
      rw [hM] at hG1 ⊢
      rw [valW_ext hG1 (is_of64 hw), hy])
    have hk' : KG (eachK most id f j (N, 0, [])).1 env (eachK most id f j (N, 0, [])).2.1 (isP most (eachK most id f j (N, 0, [])).1 (eachK most id f j (N, 0, [])).2.1 id (BitVec.ofNat 64 j)) 1 (if decide (y = BitVec.ofNat 64 j) then 1 else 0) := by
      by_cases h : y = BitVec.ofNat 64 j
      · rw [if_pos h] at hk; rw [decide_eq_true h]; exact hk
      · rw [if_neg h] at hk; rw [decide_eq_false h]; exact hk
    have := addR_acc ih hk' (hf j (by omega))
    refine Acc.congr this ?_
    have ejn : (BitVec.ofNat 64 j).toNat = j := by rw [BitVec.toNat_ofNat]; exact Nat.mod_eq_of_lt (by omega)
    by_cases h : y = BitVec.ofNat 64 j
    · have e1 : y.toNat = j := by rw [h, ejn]
      rw [decide_eq_true h, e1]
      cases stHolds N env s <;> simp
    · have e1 : ¬ y.toNat = j := fun e => h (BitVec.eq_of_toNat_eq (by rw [ejn, e]))
      rw [decide_eq_false h]
      by_cases h2 : y.toNat < j
      · have h3 : y.toNat < j + 1 := by omega
        simp [h2, h3]
      · have h3 : ¬ y.toNat < j + 1 := by omega
        simp [h2, h3]
theorem eachP_acc {most : Int} {N : List Nd} {env : List W64} {k n : Nat} {s : Sy} {id code : Int} {y : W64} {f : Nat → Sy} (hG : GoodN N) (hv : Var8 N) (hw : wdN N id = 64) (hy : valW N env id = y) (hn : n ≤ 1000) (hs : WfS N s) (hf : ∀ j, j < n → Fs N k s (f j)) (ht : Fs N k s (s.trap code)) :
    Acc N env k s 0 (eachP most N 0 s id n code f) (if stHolds N env s then [if y.toNat < n then stOf N env (f y.toNat) else stOf N env (s.trap code)] else []) := by
  unfold eachP
  cases hk : knownN N id with
  | some x =>
    have hx := (known_val hG env hk).2
    rw [hy] at hx
    subst hx
    show Acc N env k s 0 (if y.toNat < n then plainR N 0 (f y.toNat) else plainR N 0 (s.trap code)) _
    by_cases h : y.toNat < n
    · rw [if_pos h, if_pos h]
      exact plainR_acc (M := []) (.inl rfl) (fun _ => ⟨by simp, hG, hv, (hf _ h).wf, (hf _ h).bd, (hf _ h).cn, hs⟩)
    · rw [if_neg h, if_neg h]
      exact plainR_acc (M := []) (.inl rfl) (fun _ => ⟨by simp, hG, hv, ht.wf, ht.bd, ht.cn, hs⟩)
  | none =>
    have ha := eachK_acc (most := most) hG hv hw hy hn hf n (Nat.le_refl _)
    show Acc N env k s 0 (let r := eachK most id f n (N, 0, [])
      let w := wordP most r.1 r.2.1 (BitVec.ofNat 64 n)
      let l := kp w.2.2 (foldBin most w.1 13 id w.2.1)
      addR (notP most l.1 l.2.2 l.2.1) r.2.2 (s.trap code)) _
    simp only
    generalize eachK most id f n (N, 0, []) = r at ha ⊢
    have hl := lessP_kg (most := most) (env := env) (N := r.1) (e := r.2.1) (id := id) (y := y) (BitVec.ofNat 64 n) ha.err (fun h0 => by
      obtain ⟨_, M, hM, hG1, hv1, _⟩ := ha.ok h0
      refine ⟨hG1, hv1, by rw [hM]; exact wdN_ext64 M hw, ?_⟩
      rw [hM] at hG1 ⊢
      rw [valW_ext hG1 (is_of64 hw), hy])
    have enn : (BitVec.ofNat 64 n).toNat = n := by rw [BitVec.toNat_ofNat]; exact Nat.mod_eq_of_lt (by omega)
    rw [enn] at hl
    generalize kp (wordP most r.1 r.2.1 (BitVec.ofNat 64 n)).2.2 (foldBin most (wordP most r.1 r.2.1 (BitVec.ofNat 64 n)).1 13 id (wordP most r.1 r.2.1 (BitVec.ofNat 64 n)).2.1) = l at hl ⊢
    have hnk := notP_kg (most := most) (env := env) (N := l.1) (e := l.2.2) (c := l.2.1) (decide (y.toNat < n)) hl.err (fun h0 => by
      obtain ⟨_, M, hM, hG1, hv1, h3, h4, h5⟩ := hl.ok h0
      refine ⟨hG1, hv1, h3, h4, ?_⟩
      rw [h5]
      by_cases h : y.toNat < n <;> simp [h])
    have hk2 := KG.trans hl hnk
    have hk3 : KG r.1 env r.2.1 (notP most l.1 l.2.2 l.2.1) 1 (if decide (¬ y.toNat < n) then 1 else 0) := by
      by_cases h : y.toNat < n
      · rw [decide_eq_true h] at hk2; rw [decide_eq_false (by omega)]; exact hk2
      · rw [decide_eq_false h] at hk2; rw [decide_eq_true h]; exact hk2
    refine Acc.congr (addR_acc ha hk3 ht) ?_
    by_cases h : y.toNat < n
    · rw [decide_eq_true h, decide_eq_false (by omega), if_pos h]
      cases stHolds N env s <;> simp
    · rw [decide_eq_false h, decide_eq_true h, if_neg h]
      cases stHolds N env s <;> simp
def B1 (k : Nat) (s : Sy) : Prop :=
  s.cells.length ≤ 255 ∧ s.dev.disk.length ≤ 10 ∧ s.dev.pend.length ≤ k ∧ (0 ≤ s.calls ∧ s.calls ≤ k) ∧ (0 ≤ s.dev.ep ∧ s.dev.ep ≤ k) ∧ (0 ≤ s.pc ∧ s.pc ≤ k + 70) ∧ (0 ≤ s.steps ∧ s.steps ≤ k + 1)
theorem Bd.next {k : Nat} {s : Sy} (h : B1 k s) : Bd (k + 1) s.next := by
  obtain ⟨h1, h2, h3, h4, h5, h6, h7⟩ := h
  refine ⟨h1, h2, ?_, ?_, ?_, ?_, ?_⟩ <;> simp only [Sy.next] <;> omega
theorem Bd.trap {k : Nat} {s : Sy} {c : Int} (h : B1 k s) : Bd (k + 1) (s.trap c) := by
  obtain ⟨h1, h2, h3, h4, h5, h6, h7⟩ := h
  refine ⟨h1, h2, ?_, ?_, ?_, ?_, ?_⟩ <;> simp only [Sy.trap] <;> omega
theorem Bd.at {k : Nat} {s : Sy} {i : Ins} (h : B1 k s) (hi : i.imm.toNat < 70) : Bd (k + 1) (s.at i) := by
  obtain ⟨h1, h2, h3, h4, h5, h6, h7⟩ := h
  refine ⟨h1, h2, ?_, ?_, ?_, ?_, ?_⟩ <;> simp only [Sy.at] <;> omega
theorem Bd.call {k : Nat} {s : Sy} {v : SDv} (h : B1 k s) (h1 : v.disk.length ≤ 10) (h2 : v.pend.length ≤ k + 1) (h3 : 0 ≤ v.ep ∧ v.ep ≤ k + 1) : Bd (k + 1) (s.call v) := by
  obtain ⟨g1, _, _, g4, _, g6, g7⟩ := h
  refine ⟨g1, h1, h2, ?_, ?_, ?_, ?_⟩ <;> simp only [Sy.call, Sy.next] <;> omega
theorem WfS.reg {N : List Nd} {s : Sy} (h : WfS N s) {r : Int} (hr : 0 ≤ r ∧ r ≤ 7) : wdN N (s.reg r) = 64 := by
  refine h.mem (.inl ?_)
  unfold Sy.reg
  have : r.toNat < s.regs.length := by rw [h.r8]; omega
  rw [List.getD_eq_getElem?_getD, List.getElem?_eq_getElem this]
  exact List.getElem_mem this
theorem WfS.keepD {N : List Nd} {s o : Sy} (h : WfS N s) (hr : o.regs = s.regs) (hc : o.cells = s.cells) (hd : o.dev = s.dev) (hk : o.conds = s.conds) (hv : o.en = 1 → isN N o.value = true) : WfS N o := by
  refine WfS.of (by rw [hr]; exact h.r8) ?_ ?_ ?_ ?_ ?_ hv
  · rw [hr]; exact fun id hi => h.mem (.inl hi)
  · rw [hc]; exact fun id hi => h.mem (.inr (.inl hi))
  · rw [hd]; exact fun id hi => h.mem (.inr (.inr (.inl hi)))
  · rw [hd]; exact fun x hx => h.pend hx
  · rw [hk]; exact h.conds
theorem WfS.trap {N : List Nd} {s : Sy} (h : WfS N s) (c : Int) : WfS N (s.trap c) := h.keepD rfl rfl rfl rfl (fun h => absurd h (by show ¬ (2 : Int) = 1; decide))
theorem WfS.next {N : List Nd} {s : Sy} (h : WfS N s) : WfS N s.next := h.keepD rfl rfl rfl rfl h.val
theorem WfS.at {N : List Nd} {s : Sy} (h : WfS N s) (i : Ins) : WfS N (s.at i) := h.keepD rfl rfl rfl rfl h.val
theorem WfS.set {N : List Nd} {s : Sy} (h : WfS N s) (i : Ins) {id : Int} (hi : wdN N id = 64) : WfS N (s.set i id) := by
  refine WfS.of (by simp [Sy.set, h.r8]) ?_ (fun id hi => h.mem (.inr (.inl hi))) (fun id hi => h.mem (.inr (.inr (.inl hi)))) (fun x hx => h.pend hx) h.conds h.val
  intro j hj
  rcases List.mem_or_eq_of_mem_set hj with hj | rfl
  · exact h.mem (.inl hj)
  · exact hi
theorem WfS.call {N : List Nd} {s : Sy} {v : SDv} (h : WfS N s) (h1 : ∀ id ∈ v.disk, wdN N id = 64) (h2 : ∀ x ∈ v.pend, wdN N x.v = 64) : WfS N (s.call v) :=
  WfS.of h.r8 (fun id hi => h.mem (.inl hi)) (fun id hi => h.mem (.inr (.inl hi))) h1 h2 h.conds h.val
theorem map_getD0 {l : List Int} {k : Nat} (f : Int → W64) (h : k < l.length) : f (l.getD k 0) = (l.map f).getD k 0 := by
  rw [List.getD_eq_getElem?_getD, List.getD_eq_getElem?_getD, List.getElem?_map, List.getElem?_eq_getElem h]; rfl
theorem getD_mem {l : List Int} {k : Nat} (h : k < l.length) : l.getD k 0 ∈ l := by
  rw [List.getD_eq_getElem?_getD, List.getElem?_eq_getElem h]
  exact List.getElem_mem h
theorem stOf_reg {N : List Nd} {env : List W64} {s : Sy} (h : WfS N s) {r : Int} (hr : 0 ≤ r ∧ r ≤ 7) : (stOf N env s).reg r = valW N env (s.reg r) := by
  unfold Sy.reg St.reg
  exact (map_getD0 _ (by rw [h.r8]; omega)).symm
theorem stOf_set {N : List Nd} {env : List W64} {s : Sy} {i : Ins} {id : Int} : stOf N env (s.set i id) = (stOf N env s).set i (valW N env id) := by
  unfold stOf Sy.set St.set Sy.next St.next
  simp only [List.map_set]
theorem stOf_trap {N : List Nd} {env : List W64} {s : Sy} {c : Int} (h : s.en = 0) : stOf N env (s.trap c) = (stOf N env s).trap c := by
  unfold stOf Sy.trap St.trap
  simp [h]
theorem stOf_next {N : List Nd} {env : List W64} {s : Sy} : stOf N env s.next = (stOf N env s).next := rfl
theorem stOf_at {N : List Nd} {env : List W64} {s : Sy} {i : Ins} : stOf N env (s.at i) = (stOf N env s).at i := rfl
theorem stOf_call {N : List Nd} {env : List W64} {s : Sy} {v : SDv} : stOf N env (s.call v) = (stOf N env s).call (devOf N env v) := rfl
theorem stOf_store {N : List Nd} {env : List W64} {s : Sy} {i : Ins} {k : Nat} (h : WfS N s) (hr : 0 ≤ i.b ∧ i.b ≤ 7) : stOf N env (s.store i k) = (stOf N env s).store i k := by
  have := stOf_reg (env := env) h hr
  unfold St.store
  rw [this]
  unfold stOf Sy.store Sy.next St.next
  simp only [List.map_set]
theorem foldl_pend (N : List Nd) (env : List W64) (k : Nat) : ∀ (l : List SP) (id : Int), valW N env (l.foldl (fun id w => if w.b = (k : Int) then w.v else id) id) = (l.map (pdOf N env)).foldl (fun x w => if w.b = (k : Int) then w.v else x) (valW N env id)
  | [], _ => rfl
  | w :: l, id => by
    simp only [List.foldl_cons, List.map_cons]
    rw [foldl_pend N env k l]
    by_cases h : w.b = (k : Int)
    · rw [if_pos h, if_pos (show (pdOf N env w).b = (k : Int) from h)]; rfl
    · rw [if_neg h, if_neg (show ¬ (pdOf N env w).b = (k : Int) from h)]
theorem readN_val {N : List Nd} {env : List W64} {s : Sy} {k : Nat} (h : k < s.dev.disk.length) : valW N env (readN s k) = readC (stOf N env s).dev k := by
  unfold readN readC
  rw [foldl_pend, map_getD0 (valW N env) h]
  rfl
theorem foldl_wd {N : List Nd} (k : Nat) : ∀ (l : List SP) (id : Int), (∀ x ∈ l, wdN N x.v = 64) → wdN N id = 64 → wdN N (l.foldl (fun id w => if w.b = (k : Int) then w.v else id) id) = 64
  | [], _, _, h => h
  | w :: l, id, hl, h => by
    simp only [List.foldl_cons]
    refine foldl_wd k l _ (fun x hx => hl x (by simp [hx])) ?_
    split
    · exact hl w (by simp)
    · exact h
theorem readN_wd {N : List Nd} {s : Sy} {k : Nat} (hs : WfS N s) (h : k < s.dev.disk.length) : wdN N (readN s k) = 64 :=
  foldl_wd k _ _ (fun x hx => hs.pend hx) (hs.mem (.inr (.inr (.inl (getD_mem h)))))
theorem putN_facts {N : List Nd} {env : List W64} : ∀ (l : List SP) (disk : List Int), (∀ x ∈ l, wdN N x.v = 64) → (∀ id ∈ disk, wdN N id = 64) →
    (putN disk l).map (valW N env) = putC (disk.map (valW N env)) (l.map (pdOf N env)) ∧ (putN disk l).length = disk.length ∧ ∀ id ∈ putN disk l, wdN N id = 64
  | [], disk, _, hd => ⟨rfl, rfl, hd⟩
  | w :: l, disk, hl, hd => by
    have e1 : putN disk (w :: l) = putN (if 0 ≤ w.b ∧ w.b < (disk.length : Int) then disk.set w.b.toNat w.v else disk) l := rfl
    have e2 : putC (disk.map (valW N env)) ((w :: l).map (pdOf N env)) = putC (if 0 ≤ w.b ∧ w.b < ((disk.map (valW N env)).length : Int) then (disk.map (valW N env)).set w.b.toNat (valW N env w.v) else disk.map (valW N env)) (l.map (pdOf N env)) := rfl
    rw [e1, e2, List.length_map]
    by_cases h : 0 ≤ w.b ∧ w.b < (disk.length : Int)
    · rw [if_pos h, if_pos h]
      have := putN_facts (env := env) l (disk.set w.b.toNat w.v) (fun x hx => hl x (by simp [hx])) (fun id hi => by
        rcases List.mem_or_eq_of_mem_set hi with hi | rfl
        · exact hd _ hi
        · exact hl w (by simp))
      rw [List.map_set, List.length_set] at this
      exact this
    · rw [if_neg h, if_neg h]
      exact putN_facts l disk (fun x hx => hl x (by simp [hx])) hd
theorem barN_val {N : List Nd} {env : List W64} (d : SDv) : devOf N env (barN d) = barC (devOf N env d) := by
  unfold barN barC
  have : (devOf N env d).pend.any (fun w => decide (w.e = (devOf N env d).ep)) = d.pend.any (fun w => decide (w.e = d.ep)) := by
    show (d.pend.map (pdOf N env)).any _ = _
    rw [List.any_map]
    rfl
  rw [this]
  split <;> rfl
end Go.Proofs.YtanjlgafjgoaaaaGreat
