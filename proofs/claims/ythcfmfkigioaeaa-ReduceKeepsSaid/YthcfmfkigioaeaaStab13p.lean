import Derived.Test.YthcfmfkigioaeaaRef03
namespace Go.Proofs.Ythcfmfkigioaeaa
open Go.Mw
set_option linter.unusedVariables false
set_option linter.unusedSectionVars false
/-! ### sorting that keeps the order of equals: plain -/
structure Wk (lt : Int → Int → Bool) : Prop where
  irr : ∀ x, lt x x = false
  trans : ∀ x y z, lt x y = true → lt y z = true → lt x z = true
  neg : ∀ x y z, lt x z = true → lt x y = true ∨ lt y z = true
/-- Which one is first: the better one, or that of the smaller number. -/
def Bf (lt : Int → Int → Bool) (x y : Int) : Prop := lt x y = true ∨ (lt y x = false ∧ x < y)
section
variable {lt : Int → Int → Bool} (hw : Wk lt)
include hw
theorem Wk.asym {x y : Int} (h : lt x y = true) : lt y x = false := by
  cases h2 : lt y x with
  | false => rfl
  | true => have := hw.trans x y x h h2; rw [hw.irr] at this; simp at this
theorem Bf.trans {x y z : Int} (h1 : Bf lt x y) (h2 : Bf lt y z) : Bf lt x z := by
  rcases h1 with h1 | ⟨h1, h1'⟩ <;> rcases h2 with h2 | ⟨h2, h2'⟩
  · exact .inl (hw.trans _ _ _ h1 h2)
  · rcases hw.neg x z y h1 with h | h
    · exact .inl h
    · rw [h2] at h; simp at h
  · rcases hw.neg y x z h2 with h | h
    · rw [h1] at h; simp at h
    · exact .inl h
  · refine .inr ⟨?_, by omega⟩
    cases h3 : lt z x with
    | false => rfl
    | true =>
      rcases hw.neg z y x h3 with h | h
      · rw [h2] at h; simp at h
      · rw [h1] at h; simp at h
theorem Bf.irr {x : Int} (h : Bf lt x x) : False := by
  rcases h with h | ⟨_, h⟩
  · rw [hw.irr] at h; simp at h
  · omega
theorem Bf.of {x y : Int} (h : lt y x = false) (hi : x < y) : Bf lt x y := .inr ⟨h, hi⟩
theorem Bf.not {x y : Int} (h : Bf lt x y) : lt y x = false := by
  rcases h with h | h
  · exact hw.asym h
  · exact h.1
end
def Sg (lt : Int → Int → Bool) (f : Nat → Int) (a b : Nat) : Prop := ∀ i j, a ≤ i → i < j → j < b → Bf lt (f i) (f j)
def In (f : Nat → Int) (a b : Nat) (x : Int) : Prop := ∃ j, a ≤ j ∧ j < b ∧ f j = x
def Cr (f : Nat → Int) (a m b : Nat) : Prop := ∀ i j, a ≤ i → i < m → m ≤ j → j < b → f i < f j
theorem In.mk {f : Nat → Int} {a b j : Nat} (h1 : a ≤ j) (h2 : j < b) : In f a b (f j) := ⟨j, h1, h2, rfl⟩
theorem In.split {f : Nat → Int} {a b : Nat} (c : Nat) (h1 : a ≤ c) (h2 : c ≤ b) (x : Int) : In f a b x ↔ In f a c x ∨ In f c b x := by
  constructor
  · rintro ⟨j, hj1, hj2, rfl⟩
    by_cases h : j < c
    · exact .inl (In.mk hj1 h)
    · exact .inr (In.mk (by omega) hj2)
  · rintro (⟨j, hj1, hj2, rfl⟩ | ⟨j, hj1, hj2, rfl⟩)
    · exact In.mk hj1 (by omega)
    · exact In.mk (by omega) hj2
theorem In.congr {f g : Nat → Int} {a b : Nat} (h : ∀ j, a ≤ j → j < b → f j = g j) (x : Int) : In f a b x ↔ In g a b x := by
  constructor
  · rintro ⟨j, h1, h2, rfl⟩; exact ⟨j, h1, h2, (h j h1 h2).symm⟩
  · rintro ⟨j, h1, h2, rfl⟩; exact ⟨j, h1, h2, h j h1 h2⟩
theorem Sg.congr {lt : Int → Int → Bool} {f g : Nat → Int} {a b : Nat} (h : ∀ j, a ≤ j → j < b → f j = g j) (hs : Sg lt f a b) : Sg lt g a b := fun i j h1 h2 h3 => by
  rw [← h i h1 (by omega), ← h j (by omega) h3]; exact hs i j h1 h2 h3
/-- What a change of a part leaves. -/
structure Ch (f g : Nat → Int) (a b : Nat) : Prop where
  out : ∀ j, j < a ∨ b ≤ j → g j = f j
  same : ∀ x, In g a b x ↔ In f a b x
theorem Ch.refl (f : Nat → Int) (a b : Nat) : Ch f f a b := ⟨fun _ _ => rfl, fun _ => Iff.rfl⟩
theorem Ch.wide {f g : Nat → Int} {a b c d : Nat} (h : Ch f g a b) (h1 : c ≤ a) (h2 : b ≤ d) (h3 : a ≤ b) : Ch f g c d := by
  refine ⟨fun j hj => h.out j (by omega), fun x => ?_⟩
  rw [In.split a h1 (by omega), In.split (f := g) b (a := a) (b := d) h3 h2, In.split (f := f) a h1 (by omega), In.split (f := f) b (a := a) (b := d) h3 h2, h.same x,
    In.congr (f := g) (g := f) (a := c) (b := a) (fun j _ hj => h.out j (.inl hj)), In.congr (f := g) (g := f) (a := b) (b := d) (fun j hj _ => h.out j (.inr hj))]
theorem Ch.trans {f g h : Nat → Int} {a b : Nat} (h1 : Ch f g a b) (h2 : Ch g h a b) : Ch f h a b := ⟨fun j hj => (h2.out j hj).trans (h1.out j hj), fun x => (h2.same x).trans (h1.same x)⟩
theorem Ch.mb {f g : Nat → Int} {a b n c : Nat} (h : Ch f g a b) (hab : a ≤ b) (hbn : b ≤ n) (hc : c ≤ a ∨ b ≤ c) (hcn : c ≤ n) : (∀ x, In g 0 c x ↔ In f 0 c x) ∧ ∀ x, In g c n x ↔ In f c n x := by
  rcases hc with hc | hc
  · exact ⟨In.congr (fun j _ hj => h.out j (.inl (by omega))), fun x => (h.wide hc hbn hab).same x⟩
  · exact ⟨fun x => (h.wide (Nat.zero_le _) hc hab).same x, In.congr (fun j hj _ => h.out j (.inr (by omega)))⟩
/-! ### swaps and turns -/
def swp (f : Nat → Int) (a b n : Nat) : Nat → Int := fun j => if a ≤ j ∧ j < a + n then f (j - a + b) else if b ≤ j ∧ j < b + n then f (j - b + a) else f j
def rot (f : Nat → Int) (a m b : Nat) : Nat → Int := fun j => if a ≤ j ∧ j < a + (b - m) then f (j - a + m) else if a + (b - m) ≤ j ∧ j < b then f (j - (b - m)) else f j
theorem rot_gt (f : Nat → Int) {m i j : Nat} (hi : i ≤ m) (hj : 0 < j) (hij : j < i) : rot (swp f (m - i) m j) (m - (i - j)) m (m + j) = rot f (m - i) m (m + j) := by
  funext t
  unfold rot swp
  repeat' split
  all_goals first | omega | rfl | (congr 1; omega)
theorem rot_lt (f : Nat → Int) {m i j : Nat} (hi : i ≤ m) (hi0 : 0 < i) (hij : i < j) : rot (swp f (m - i) (m + j - i) i) (m - i) m (m + (j - i)) = rot f (m - i) m (m + j) := by
  funext t
  unfold rot swp
  repeat' split
  all_goals first | omega | rfl | (congr 1; omega)
theorem rot_eq (f : Nat → Int) {m i : Nat} (hi : i ≤ m) : swp f (m - i) m i = rot f (m - i) m (m + i) := by
  funext t
  unfold rot swp
  repeat' split
  all_goals first | omega | rfl | (congr 1; omega)
/-- The last one goes ahead. -/
def insL (f : Nat → Int) (p q : Nat) : Nat → Int := fun t => if t < p then f t else if t = p then f q else if t ≤ q then f (t - 1) else f t
/-- The first one goes back. -/
def insR (f : Nat → Int) (p q : Nat) : Nat → Int := fun t => if t < p then f t else if t < q then f (t + 1) else if t = q then f p else f t
theorem insL_in (f : Nat → Int) {a p q b : Nat} (h1 : a ≤ p) (h2 : p ≤ q) (h3 : q < b) : Ch f (insL f p q) a b := by
  refine ⟨fun j hj => ?_, fun x => ⟨?_, ?_⟩⟩
  · unfold insL
    repeat' split
    all_goals first | omega | rfl
  · rintro ⟨j, hj1, hj2, rfl⟩
    unfold insL
    repeat' split
    all_goals exact In.mk (by omega) (by omega)
  · rintro ⟨j, hj1, hj2, rfl⟩
    by_cases c1 : j < p
    · exact ⟨j, hj1, hj2, by unfold insL; rw [if_pos c1]⟩
    by_cases c2 : j = q
    · exact ⟨p, h1, by omega, by unfold insL; rw [if_neg (by omega), if_pos rfl, c2]⟩
    by_cases c3 : j < q
    · exact ⟨j + 1, by omega, by omega, by unfold insL; rw [if_neg (by omega), if_neg (by omega), if_pos (by omega), Nat.add_sub_cancel]⟩
    · exact ⟨j, hj1, hj2, by unfold insL; rw [if_neg c1, if_neg (by omega), if_neg (by omega)]⟩
theorem insR_in (f : Nat → Int) {a p q b : Nat} (h1 : a ≤ p) (h2 : p ≤ q) (h3 : q < b) : Ch f (insR f p q) a b := by
  refine ⟨fun j hj => ?_, fun x => ⟨?_, ?_⟩⟩
  · unfold insR
    repeat' split
    all_goals first | omega | rfl
  · rintro ⟨j, hj1, hj2, rfl⟩
    unfold insR
    repeat' split
    all_goals exact In.mk (by omega) (by omega)
  · rintro ⟨j, hj1, hj2, rfl⟩
    by_cases c1 : j < p
    · exact ⟨j, hj1, hj2, by unfold insR; rw [if_pos c1]⟩
    by_cases c2 : j = p
    · exact ⟨q, by omega, h3, by unfold insR; rw [if_neg (by omega), if_neg (by omega), if_pos rfl, c2]⟩
    by_cases c3 : j ≤ q
    · exact ⟨j - 1, by omega, by omega, by unfold insR; rw [if_neg (by omega), if_pos (by omega), Nat.sub_add_cancel (by omega)]⟩
    · exact ⟨j, hj1, hj2, by unfold insR; rw [if_neg c1, if_neg (by omega), if_neg (by omega)]⟩
theorem rot_in (f : Nat → Int) {a m b : Nat} (h1 : a ≤ m) (h2 : m ≤ b) : Ch f (rot f a m b) a b := by
  refine ⟨fun j hj => ?_, fun x => ⟨?_, ?_⟩⟩
  · unfold rot
    repeat' split
    all_goals first | omega | rfl
  · rintro ⟨j, hj1, hj2, rfl⟩
    unfold rot
    repeat' split
    all_goals exact In.mk (by omega) (by omega)
  · rintro ⟨j, hj1, hj2, rfl⟩
    by_cases c1 : j < m
    · refine ⟨j + (b - m), by omega, by omega, ?_⟩
      unfold rot
      rw [if_neg (by omega), if_pos (by omega)]
      congr 1; omega
    · refine ⟨j - m + a, by omega, by omega, ?_⟩
      unfold rot
      rw [if_pos (by omega)]
      congr 1; omega
section
variable {lt : Int → Int → Bool} (hw : Wk lt)
include hw
/-- One more is sorted in. -/
theorem sg_ins {f : Nat → Int} {a i p : Nat} (hs : Sg lt f a i) (hap : a ≤ p) (hpi : p ≤ i) (hlt : ∀ t, p ≤ t → t < i → lt (f i) (f t) = true) (hno : a < p → lt (f i) (f (p - 1)) = false) (hsm : ∀ t, a ≤ t → t < i → f t < f i) : Sg lt (insL f p i) a (i + 1) := by
  have hbe : ∀ t, a ≤ t → t < p → Bf lt (f t) (f i) := fun t h1 h2 => by
    have h3 : Bf lt (f (p - 1)) (f i) := Bf.of hw (hno (by omega)) (hsm _ (by omega) (by omega))
    by_cases e : t = p - 1
    · rw [e]; exact h3
    · exact Bf.trans hw (hs t (p - 1) h1 (by omega) (by omega)) h3
  have haf : ∀ t, p ≤ t → t < i → Bf lt (f i) (f t) := fun t h1 h2 => .inl (hlt t h1 h2)
  intro x y h1 h2 h3
  unfold insL
  by_cases c1 : x < p
  · rw [if_pos c1]
    by_cases c2 : y < p
    · rw [if_pos c2]; exact hs x y h1 h2 (by omega)
    · rw [if_neg c2]
      by_cases c3 : y = p
      · rw [if_pos c3]; exact hbe x h1 c1
      · rw [if_neg c3, if_pos (by omega)]; exact hs x (y - 1) h1 (by omega) (by omega)
  · rw [if_neg c1, if_neg (show ¬ y < p by omega), if_neg (show ¬ y = p by omega), if_pos (show y ≤ i by omega)]
    by_cases c3 : x = p
    · rw [if_pos c3]; exact haf (y - 1) (by omega) (by omega)
    · rw [if_neg c3, if_pos (by omega)]; exact hs (x - 1) (y - 1) (by omega) (by omega) (by omega)
/-- One ahead of a part is sorted in. -/
theorem sg_front {f : Nat → Int} {a b i : Nat} (hs : Sg lt f (a + 1) b) (hi1 : a + 1 ≤ i) (hib : i ≤ b) (hlt : ∀ t, a + 1 ≤ t → t < i → lt (f t) (f a) = true) (hge : ∀ t, i ≤ t → t < b → lt (f t) (f a) = false) (hsm : ∀ t, a + 1 ≤ t → t < b → f a < f t) : Sg lt (insR f a (i - 1)) a b := by
  intro x y h1 h2 h3
  unfold insR
  rw [if_neg (show ¬ x < a by omega), if_neg (show ¬ y < a by omega)]
  by_cases c1 : x < i - 1
  · rw [if_pos c1]
    by_cases c2 : y < i - 1
    · rw [if_pos c2]; exact hs _ _ (by omega) (by omega) (by omega)
    · rw [if_neg c2]
      by_cases c3 : y = i - 1
      · rw [if_pos c3]; exact .inl (hlt _ (by omega) (by omega))
      · rw [if_neg c3]; exact hs _ _ (by omega) (by omega) (by omega)
  · rw [if_neg c1, if_neg (show ¬ y < i - 1 by omega), if_neg (show ¬ y = i - 1 by omega)]
    by_cases c3 : x = i - 1
    · rw [if_pos c3]; exact Bf.of hw (hge y (by omega) (by omega)) (hsm y (by omega) (by omega))
    · rw [if_neg c3]; exact hs _ _ (by omega) (by omega) (by omega)
/-- One behind a part is sorted in. -/
theorem sg_back {f : Nat → Int} {a m i : Nat} (hs : Sg lt f a m) (hai : a ≤ i) (him : i ≤ m) (hno : ∀ t, a ≤ t → t < i → lt (f m) (f t) = false) (hlt : ∀ t, i ≤ t → t < m → lt (f m) (f t) = true) (hsm : ∀ t, a ≤ t → t < m → f t < f m) : Sg lt (insL f i m) a (m + 1) :=
  sg_ins hw hs hai him hlt (fun h => hno _ (by omega) (by omega)) hsm
/-- Two parts that are sorted, each of whose numbers ahead of the other's, turned where they part. -/
theorem sg_parts {f : Nat → Int} {a s m e b : Nat} (h1 : Sg lt f a m) (h2 : Sg lt f m b) (hc : Cr f a m b) (has : a ≤ s) (hsm : s ≤ m) (hme : m ≤ e) (heb : e ≤ b)
    (hl : a < s → e < b → Bf lt (f (s - 1)) (f e)) (hr : s < m → m < e → Bf lt (f (e - 1)) (f s)) :
    ∀ x y, In (rot f s m e) a (s + (e - m)) x → In (rot f s m e) (s + (e - m)) b y → Bf lt x y := by
  rintro x y ⟨i, hi1, hi2, rfl⟩ ⟨j, hj1, hj2, rfl⟩
  have ei : rot f s m e i = if i < s then f i else f (i - s + m) := by
    unfold rot
    repeat' split
    all_goals first | omega | rfl
  have ej : rot f s m e j = if j < e then f (j - (e - m)) else f j := by
    unfold rot
    repeat' split
    all_goals first | omega | rfl
  rw [ei, ej]
  by_cases c1 : i < s <;> by_cases c2 : j < e
  · rw [if_pos c1, if_pos c2]; exact h1 _ _ hi1 (by omega) (by omega)
  · rw [if_pos c1, if_neg c2]
    have k := hl (by omega) (by omega)
    have k1 : Bf lt (f i) (f e) := by
      by_cases c : i = s - 1
      · rw [c]; exact k
      · exact Bf.trans hw (h1 _ _ hi1 (by omega) (by omega)) k
    by_cases c : j = e
    · rw [c]; exact k1
    · exact Bf.trans hw k1 (h2 _ _ (by omega) (by omega) hj2)
  · rw [if_neg c1, if_pos c2]
    have k := hr (by omega) (by omega)
    have k1 : Bf lt (f (e - 1)) (f (j - (e - m))) := by
      by_cases c : j - (e - m) = s
      · rw [c]; exact k
      · exact Bf.trans hw k (h1 _ _ (by omega) (by omega) (by omega))
    by_cases c : i - s + m = e - 1
    · rw [c]; exact k1
    · exact Bf.trans hw (h2 _ _ (by omega) (by omega) (by omega)) k1
  · rw [if_neg c1, if_neg c2]; exact h2 _ _ (by omega) (by omega) hj2
/-- Two parts are one. -/
theorem sg_join {f : Nat → Int} {a c b : Nat} (h1 : Sg lt f a c) (h2 : Sg lt f c b) (h3 : ∀ x y, In f a c x → In f c b y → Bf lt x y) : Sg lt f a b := by
  intro i j hi hij hj
  by_cases c1 : j < c
  · exact h1 i j hi hij c1
  by_cases c2 : i < c
  · exact h3 _ _ (In.mk hi c2) (In.mk (by omega) hj)
  · exact h2 i j (by omega) hij hj
/-- Where the search must end. -/
structure Srch (lt : Int → Int → Bool) (f : Nat → Int) (a m b mid s0 r0 s r : Nat) : Prop where
  s0s : s0 ≤ s
  sr : s ≤ r
  rr : r ≤ r0
  lo : ∀ c, s0 ≤ c → c < s → lt (f (mid + m - 1 - c)) (f c) = false
  hi : ∀ c, r ≤ c → c < r0 → lt (f (mid + m - 1 - c)) (f c) = true
theorem Srch.left {f : Nat → Int} {a m b mid s0 r0 s r c : Nat} (h : Srch lt f a m b mid s0 r0 s r) (h1 : Sg lt f a m) (h2 : Sg lt f m b) (hcr : Cr f a m b) (hc1 : s ≤ c) (hc2 : c < r) (ha0 : a ≤ s0) (hrm : r0 ≤ m) (hpm : r0 ≤ mid) (hpb : mid + m ≤ b + s0) (hno : lt (f (mid + m - 1 - c)) (f c) = false) : Srch lt f a m b mid s0 r0 (c + 1) r := by
  have h3 := h.s0s; have h4 := h.rr
  refine ⟨by omega, by omega, h.rr, fun d hd1 hd2 => ?_, h.hi⟩
  have key : Bf lt (f c) (f (mid + m - 1 - c)) := Bf.of hw hno (hcr _ _ (by omega) (by omega) (by omega) (by omega))
  by_cases e : d = c
  · rw [e]; exact hno
  · have k1 : Bf lt (f d) (f c) := h1 _ _ (by omega) (by omega) (by omega)
    have k2 : Bf lt (f (mid + m - 1 - c)) (f (mid + m - 1 - d)) := h2 _ _ (by omega) (by omega) (by omega)
    exact Bf.not hw (Bf.trans hw (Bf.trans hw k1 key) k2)
theorem Srch.right {f : Nat → Int} {a m b mid s0 r0 s r c : Nat} (h : Srch lt f a m b mid s0 r0 s r) (h1 : Sg lt f a m) (h2 : Sg lt f m b) (hcr : Cr f a m b) (hc1 : s ≤ c) (hc2 : c < r) (ha0 : a ≤ s0) (hrm : r0 ≤ m) (hpm : r0 ≤ mid) (hpb : mid + m ≤ b + s0) (hyes : lt (f (mid + m - 1 - c)) (f c) = true) : Srch lt f a m b mid s0 r0 s c := by
  have h3 := h.s0s; have h4 := h.rr
  refine ⟨h.s0s, hc1, by omega, h.lo, fun d hd1 hd2 => ?_⟩
  by_cases e : d = c
  · rw [e]; exact hyes
  · have k1 : Bf lt (f c) (f d) := h1 _ _ (by omega) (by omega) (by omega)
    have k2 : Bf lt (f (mid + m - 1 - d)) (f (mid + m - 1 - c)) := h2 _ _ (by omega) (by omega) (by omega)
    have k3 := Bf.trans hw (Bf.trans hw k2 (.inl hyes)) k1
    rcases k3 with k3 | ⟨_, k3⟩
    · exact k3
    · exfalso
      have := hcr d (mid + m - 1 - d) (by omega) (by omega) (by omega) (by omega)
      omega
end
end Go.Proofs.Ythcfmfkigioaeaa
