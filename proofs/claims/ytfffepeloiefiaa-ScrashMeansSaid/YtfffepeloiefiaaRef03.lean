import Derived.Test.YtfffepeloiefiaaLit
namespace Go.Proofs.Ytfffepeloiefiaa
open Go.Mw
set_option linter.unusedVariables false
set_option linter.unusedSimpArgs false
set_option maxRecDepth 100000
attribute [local irreducible] M.val M.unit M.next M.pick M.new M.nilCheck M.load1 M.loadA M.store M.fieldAddr M.indexSl M.indexArr M.slice M.makeSlice M.buildSlice M.len M.lenS M.cap M.append M.extract M.conv M.not M.neg M.bin M.shift M.eqB M.eqNil M.call M.callv M.gd M.share M.cond M.loop M.draw pureW readW Ret
/-! breakwater/breakwaterref03.Same: function 9 -/
def sh9 (x0 x1 : Value) (R : Kt) (w : World) : Prop :=
  M.len x0 (fun t7 w =>
  M.len x1 (fun t9 w =>
  M.bin .neq t7 t9 (fun t10 w =>
  M.cond t10
  (R (Value.bool false) w)
  (M.loop [(Value.int IntKind.i64 0)] (fun s1 K1 w => ∀ _ : List Value,
  M.len x0 (fun t13 w =>
  M.bin .lss (s1.getD 0 undef) t13 (fun t14 w =>
  M.cond t14
  (M.draw (fun w =>
  M.indexSl 1 x0 (s1.getD 0 undef) (fun t19 w =>
  M.load1 t19 (fun t20 w =>
  M.indexSl 1 x1 (s1.getD 0 undef) (fun t23 w =>
  M.load1 t23 (fun t24 w =>
  M.bin .neq t20 t24 (fun t25 w =>
  M.cond t25
  (R (Value.bool false) w)
  (M.bin .add (s1.getD 0 undef) (Value.int IntKind.i64 1) (fun t16 w =>
  K1 [t16] w) w)) w) w) w) w) w) w)
  (R (Value.bool true) w)) w) w) w)) w) w) w
theorem ok9 (x0 x1 : Value) (R : Kt) (w : World) (h : sh9 x0 x1 R w) : Ret Try.prog 9 #[x0, x1] w R :=
  ret_mk <| calls_of_comp mixed (c := Try.f9.body.getD .skip) (args := [x0, x1]) (rs := [(ResultVar.tmp 4)]) (Ann.seq Ann.text (Ann.seq (Ann.seq Ann.text (Ann.cond (Ann.seq Ann.text Ann.leaf) Ann.leaf)) (Ann.seq (Ann.seq Ann.text (Ann.block (Ann.loop [5] [4, 11, 12, 13, 14, 15, 16, 17, 18, 19, 20, 21, 22, 23, 24, 25] (Ann.seq (Ann.seq Ann.text (Ann.cond Ann.leaf Ann.leaf)) (Ann.seq (Ann.block (Ann.seq (Ann.draw (Sch.take 0 (Sch.take 1 (Sch.take 2 (Sch.take 3 (Sch.take 4 (Sch.take 5 (Sch.take 6 (Sch.take 7 (Sch.take 8 Sch.done)))))))))) (Ann.cond (Ann.seq Ann.text Ann.leaf) Ann.leaf))) Ann.text))))) (Ann.seq Ann.text Ann.leaf))))
    Try.func9 (by kernel_rfl) (by kernel_rfl)
    (Eq.mp (by kernel_rfl) h)

/-! ### lists of numbers (no program here) -/
def insU (x : Int) : List Int → List Int
  | [] => [x]
  | y :: l => if x < y then x :: y :: l else if x = y then y :: l else y :: insU x l
/-- By rising numbers, each once. -/
def srt (xs : List Int) : List Int := xs.foldr insU []
theorem mem_insU (x y : Int) : ∀ l : List Int, y ∈ insU x l ↔ y = x ∨ y ∈ l
  | [] => by simp [insU]
  | z :: l => by
    unfold insU
    split
    · simp
    · split
      · rename_i h; subst h; simp
      · simp [mem_insU x y l]; constructor <;> (intro h; rcases h with h | h | h <;> simp [h])
theorem insU_lt (x : Int) : ∀ l : List Int, l.Pairwise (· < ·) → (insU x l).Pairwise (· < ·)
  | [], _ => by simp [insU]
  | z :: l, h => by
    obtain ⟨h1, h2⟩ := List.pairwise_cons.1 h
    unfold insU
    split
    · rename_i hx
      refine List.pairwise_cons.2 ⟨fun y hy => ?_, h⟩
      rcases List.mem_cons.1 hy with rfl | hy
      · exact hx
      · have := h1 y hy; omega
    · split
      · exact h
      · refine List.pairwise_cons.2 ⟨fun y hy => ?_, insU_lt x l h2⟩
        rcases (mem_insU x y l).1 hy with rfl | hy
        · omega
        · exact h1 y hy
theorem srt_lt (xs : List Int) : (srt xs).Pairwise (· < ·) := by
  induction xs with
  | nil => simp [srt]
  | cons x xs ih => exact insU_lt x _ ih
theorem mem_srt (xs : List Int) (y : Int) : y ∈ srt xs ↔ y ∈ xs := by
  induction xs with
  | nil => simp [srt]
  | cons x xs ih =>
    show y ∈ insU x (srt xs) ↔ _
    rw [mem_insU, ih]
    simp
/-- Two rising lists of the same numbers are one. -/
theorem lt_ext : ∀ (l m : List Int), l.Pairwise (· < ·) → m.Pairwise (· < ·) → (∀ y, y ∈ l ↔ y ∈ m) → l = m
  | [], [], _, _, _ => rfl
  | [], y :: m, _, _, h => by have := (h y).2 List.mem_cons_self; simp at this
  | x :: l, [], _, _, h => by have := (h x).1 List.mem_cons_self; simp at this
  | x :: l, y :: m, hl, hm, h => by
    obtain ⟨l1, l2⟩ := List.pairwise_cons.1 hl
    obtain ⟨m1, m2⟩ := List.pairwise_cons.1 hm
    have hxy : x = y := by
      rcases List.mem_cons.1 ((h x).1 List.mem_cons_self) with h1 | h1
      · exact h1
      · rcases List.mem_cons.1 ((h y).2 List.mem_cons_self) with h2 | h2
        · exact h2.symm
        · have := m1 x h1; have := l1 y h2; omega
    subst hxy
    congr 1
    refine lt_ext l m l2 m2 (fun z => ⟨fun hz => ?_, fun hz => ?_⟩)
    · rcases List.mem_cons.1 ((h z).1 (List.mem_cons_of_mem _ hz)) with h1 | h1
      · subst h1; have := l1 z hz; omega
      · exact h1
    · rcases List.mem_cons.1 ((h z).2 (List.mem_cons_of_mem _ hz)) with h1 | h1
      · subst h1; have := m1 z hz; omega
      · exact h1
theorem eq_srt {xs ys : List Int} (h1 : ys.Pairwise (· < ·)) (h2 : ∀ y, y ∈ ys ↔ y ∈ xs) : ys = srt xs :=
  lt_ext _ _ h1 (srt_lt xs) (fun y => by rw [h2, mem_srt])
theorem len_insU (x : Int) : ∀ l : List Int, (insU x l).length ≤ l.length + 1
  | [] => by simp [insU]
  | y :: l => by
    unfold insU
    split
    · simp
    · split
      · simp
      · have := len_insU x l; simp; omega
theorem len_srt (xs : List Int) : (srt xs).length ≤ xs.length := by
  induction xs with
  | nil => simp [srt]
  | cons x xs ih => have : (srt (x :: xs)).length ≤ _ := len_insU x (srt xs); simp; omega
/-- A new number put where it belongs. -/
theorem put_lt {l : List Int} {x : Int} {n : Nat} (h : l.Pairwise (· < ·)) (hx : x ∉ l) (hn : n ≤ l.length) (h1 : ∀ (j : Nat) y, n ≤ j → l[j]? = some y → x < y) (h2 : n = 0 ∨ ∃ y, l[n - 1]? = some y ∧ y ≤ x) :
    (l.take n ++ [x] ++ l.drop n).Pairwise (· < ·) ∧ ∀ y, y ∈ l.take n ++ [x] ++ l.drop n ↔ y = x ∨ y ∈ l := by
  have hlow : ∀ y ∈ l.take n, y < x := fun y hy => by
    obtain ⟨j, hj⟩ := List.mem_iff_getElem?.1 hy
    have hjn : j < n := by have := (List.getElem?_eq_some_iff.1 hj).1; simp at this; omega
    rw [List.getElem?_take, if_pos hjn] at hj
    rcases h2 with h2 | ⟨z, hz, hzx⟩
    · omega
    · have hzx' : z < x := by
        have : z ≠ x := fun e => hx (e ▸ List.mem_of_getElem? hz)
        omega
      by_cases hj1 : j = n - 1
      · subst hj1; rw [hz] at hj; cases hj; exact hzx'
      · obtain ⟨a1, a2⟩ := List.getElem?_eq_some_iff.1 hj
        obtain ⟨b1, b2⟩ := List.getElem?_eq_some_iff.1 hz
        have := List.pairwise_iff_getElem.1 h j (n - 1) a1 b1 (by omega)
        omega
  have hhigh : ∀ y ∈ l.drop n, x < y := fun y hy => by
    obtain ⟨j, hj⟩ := List.mem_iff_getElem?.1 hy
    rw [List.getElem?_drop] at hj
    exact h1 _ y (by omega) hj
  constructor
  · rw [List.append_assoc]
    refine List.pairwise_append.2 ⟨h.sublist (List.take_sublist _ _), ?_, fun a ha b hb => ?_⟩
    · refine List.pairwise_append.2 ⟨by simp, h.sublist (List.drop_sublist _ _), fun a ha b hb => ?_⟩
      simp at ha; subst ha; exact hhigh b hb
    · have ha := hlow a ha
      rcases List.mem_append.1 hb with hb | hb
      · simp at hb; subst hb; exact ha
      · have := hhigh b hb; omega
  · intro y
    have e : y ∈ l ↔ y ∈ l.take n ∨ y ∈ l.drop n := by
      rw [← List.mem_append, List.take_append_drop]
    rw [e]
    simp only [List.mem_append, List.mem_singleton]
    constructor
    · rintro ((h | h) | h)
      · exact .inr (.inl h)
      · exact .inl h
      · exact .inr (.inr h)
    · rintro (h | h | h)
      · exact .inl (.inr h)
      · exact .inl (.inl h)
      · exact .inr h
theorem mem_take_succ {α : Type} {l : List α} {i : Nat} {e y : α} (he : l[i]? = some e) : y ∈ l.take (i + 1) ↔ y ∈ l.take i ∨ y = e := by
  have e1 : l.take (i + 1) = l.take i ++ [e] := by rw [List.take_add_one, he]; rfl
  rw [e1]; simp

abbrev Few (n : Nat) : Prop := n ≤ 100000000000
/-! ### the walks -/
theorem same_ret {w : World} {D D' : Nat → Prop} {u v : Value} {xs ys : List Int} (h1 : LV vi w D u xs) (h2 : LV vi w D' v ys) (hf : Few xs.length) :
    Ret Try.prog 9 #[u, v] w (fun r w' => r = .bool (decide (xs = ys)) ∧ Keep w w' No) := by
  obtain ⟨A, c, rfl, h1, hc1⟩ := h1
  obtain ⟨B, c', rfl, h2, hc2⟩ := h2
  refine ok9 _ _ _ _ ?_
  unfold sh9
  refine M.len_i ?_
  refine M.len_i ?_
  refine M.neq_i ?_
  refine M.cond_i (fun hne => ?_) (fun heq => ?_)
  · refine ⟨?_, Keep.refl _ _⟩
    have : xs ≠ ys := fun h => hne (by rw [h])
    simp [this]
  · have hl : xs.length = ys.length := by omega
    refine M.loop_i (σ := Nat) (fun i vals w' => vals = [vi i] ∧ i ≤ xs.length ∧ xs.take i = ys.take i ∧ Keep w w' No) (fun i => xs.length - i) 0 ⟨rfl, by omega, by simp, Keep.refl _ _⟩ ?_
    rintro i vals w1 K ⟨rfl, hi, ht, hk⟩ hK _
    simp only [List.getD_cons_zero, List.getD_cons_succ]
    by_cases hlt' : i < xs.length
    · have h1' := h1.keep hk (fun _ _ _ h => h)
      have h2' := h2.keep hk (fun _ _ _ h => h)
      (repeat (first|refine ja ?_|refine jb ?_|refine jc ?_|refine jd ?_|refine je ?_|refine jf ?_|refine jg ?_|refine jh ?_|refine ji ?_|refine jj ?_|refine jk ?_|refine jl ?_|refine jm ?_|refine jn ?_|refine jo ?_|refine jp ?_|refine jq ?_|refine jr ?_|refine js ?_|refine jt ?_|refine ju ?_|refine jv ?_|refine jw ?_|refine jx ?_|refine jy ?_|refine jz ?_|refine jA ?_|refine jB ?_|refine jC ?_|refine jD ?_|refine jE ?_|refine jF ?_|refine jG ?_|refine jH ?_|refine jI ?_|refine jJ ?_|refine jK ?_|refine jL ?_|refine jM (by assumption) ?_|refine jN (by assumption) rfl ?_|refine jO (by assumption) ?_|refine jP (by assumption) rfl ?_|refine jQ ?_|refine jR ?_|refine jS ?_|refine jT ?_|refine jU (by assumption) rfl ?_))
      refine M.idxRow_i h1' (by simp) (by omega) (by omega) (fun b o hA hc => ?_)
      simp [hlt'] at hc
      (repeat (first|refine ja ?_|refine jb ?_|refine jc ?_|refine jd ?_|refine je ?_|refine jf ?_|refine jg ?_|refine jh ?_|refine ji ?_|refine jj ?_|refine jk ?_|refine jl ?_|refine jm ?_|refine jn ?_|refine jo ?_|refine jp ?_|refine jq ?_|refine jr ?_|refine js ?_|refine jt ?_|refine ju ?_|refine jv ?_|refine jw ?_|refine jx ?_|refine jy ?_|refine jz ?_|refine jA ?_|refine jB ?_|refine jC ?_|refine jD ?_|refine jE ?_|refine jF ?_|refine jG ?_|refine jH ?_|refine jI ?_|refine jJ ?_|refine jK ?_|refine jL ?_|refine jM (by assumption) ?_|refine jN (by assumption) rfl ?_|refine jO (by assumption) ?_|refine jP (by assumption) rfl ?_|refine jQ ?_|refine jR ?_|refine jS ?_|refine jT ?_|refine jU (by assumption) rfl ?_))
      refine M.idxRow_i h2' (by simp) (by omega) (by omega) (fun b' o' hB hc' => ?_)
      simp [hl ▸ hlt'] at hc'
      (repeat (first|refine ja ?_|refine jb ?_|refine jc ?_|refine jd ?_|refine je ?_|refine jf ?_|refine jg ?_|refine jh ?_|refine ji ?_|refine jj ?_|refine jk ?_|refine jl ?_|refine jm ?_|refine jn ?_|refine jo ?_|refine jp ?_|refine jq ?_|refine jr ?_|refine js ?_|refine jt ?_|refine ju ?_|refine jv ?_|refine jw ?_|refine jx ?_|refine jy ?_|refine jz ?_|refine jA ?_|refine jB ?_|refine jC ?_|refine jD ?_|refine jE ?_|refine jF ?_|refine jG ?_|refine jH ?_|refine jI ?_|refine jJ ?_|refine jK ?_|refine jL ?_|refine jM (by assumption) ?_|refine jN (by assumption) rfl ?_|refine jO (by assumption) ?_|refine jP (by assumption) rfl ?_|refine jQ ?_|refine jR ?_|refine jS ?_|refine jT ?_|refine jU (by assumption) rfl ?_))
      refine M.neq_i ?_
      refine M.cond_i (fun hne => ?_) (fun heq => ?_)
      · refine ⟨?_, hk.to_drew⟩
        have : xs ≠ ys := fun h => hne (by subst h; rfl)
        simp [this]
      · (repeat (first|refine ja ?_|refine jb ?_|refine jc ?_|refine jd ?_|refine je ?_|refine jf ?_|refine jg ?_|refine jh ?_|refine ji ?_|refine jj ?_|refine jk ?_|refine jl ?_|refine jm ?_|refine jn ?_|refine jo ?_|refine jp ?_|refine jq ?_|refine jr ?_|refine js ?_|refine jt ?_|refine ju ?_|refine jv ?_|refine jw ?_|refine jx ?_|refine jy ?_|refine jz ?_|refine jA ?_|refine jB ?_|refine jC ?_|refine jD ?_|refine jE ?_|refine jF ?_|refine jG ?_|refine jH ?_|refine jI ?_|refine jJ ?_|refine jK ?_|refine jL ?_|refine jM (by assumption) ?_|refine jN (by assumption) rfl ?_|refine jO (by assumption) ?_|refine jP (by assumption) rfl ?_|refine jQ ?_|refine jR ?_|refine jS ?_|refine jT ?_|refine jU (by assumption) rfl ?_))
        refine hK (i + 1) _ _ (by omega) ⟨by simp, by omega, ?_, hk.to_drew⟩
        rw [List.take_succ_eq_append_getElem hlt', List.take_succ_eq_append_getElem (hl ▸ hlt'), ht]
        simp at heq
        rw [heq]
    · (repeat (first|refine ja ?_|refine jb ?_|refine jc ?_|refine jd ?_|refine je ?_|refine jf ?_|refine jg ?_|refine jh ?_|refine ji ?_|refine jj ?_|refine jk ?_|refine jl ?_|refine jm ?_|refine jn ?_|refine jo ?_|refine jp ?_|refine jq ?_|refine jr ?_|refine js ?_|refine jt ?_|refine ju ?_|refine jv ?_|refine jw ?_|refine jx ?_|refine jy ?_|refine jz ?_|refine jA ?_|refine jB ?_|refine jC ?_|refine jD ?_|refine jE ?_|refine jF ?_|refine jG ?_|refine jH ?_|refine jI ?_|refine jJ ?_|refine jK ?_|refine jL ?_|refine jM (by assumption) ?_|refine jN (by assumption) rfl ?_|refine jO (by assumption) ?_|refine jP (by assumption) rfl ?_|refine jQ ?_|refine jR ?_|refine jS ?_|refine jT ?_|refine jU (by assumption) rfl ?_))
      refine ⟨?_, hk⟩
      have : i = xs.length := by omega
      subst this
      have : xs = ys := by rw [List.take_length] at ht; rw [ht, hl, List.take_length]
      simp [this]
end Go.Proofs.Ytfffepeloiefiaa
