import Derived.Test.YthkkjjbjpbgcpaaLit
namespace Go.Proofs.Ythkkjjbjpbgcpaa
open Go.Mw
set_option linter.unusedVariables false
set_option linter.unusedSimpArgs false
set_option maxRecDepth 100000
attribute [local irreducible] M.val M.unit M.next M.pick M.new M.nilCheck M.load1 M.loadA M.store M.fieldAddr M.indexSl M.indexArr M.slice M.makeSlice M.buildSlice M.len M.lenS M.cap M.append M.extract M.conv M.not M.neg M.bin M.shift M.eqB M.eqNil M.scat M.call M.callv M.gd M.share M.cond M.loop M.draw pureW readW Ret
/-! breakwater/breakwaterref03.Has: function 62 -/
def sh62 (x0 x1 : Value) (R : Kt) (w : World) : Prop :=
  M.loop [(Value.int IntKind.i64 0)] (fun s1 K1 w => ∀ _ : List Value,
  M.len x0 (fun t8 w =>
  M.bin .lss (s1.getD 0 undef) t8 (fun t9 w =>
  M.cond t9
  (M.indexSl 1 x0 (s1.getD 0 undef) (fun t14 w =>
  M.load1 t14 (fun t15 w =>
  M.bin .eql t15 x1 (fun t17 w =>
  M.cond t17
  (R (Value.bool true) w)
  (M.bin .add (s1.getD 0 undef) (Value.int IntKind.i64 1) (fun t11 w =>
  K1 [t11] w) w)) w) w) w)
  (R (Value.bool false) w)) w) w) w
theorem ok62 (x0 x1 : Value) (R : Kt) (w : World) (h : sh62 x0 x1 R w) : Ret Try.prog 62 #[x0, x1] w R :=
  ret_mk <| calls_of_comp mixed (c := Try.f62.body.getD .skip) (args := [x0, x1]) (rs := [(ResultVar.tmp 4)]) (Ann.seq Ann.text (Ann.seq (Ann.seq Ann.text (Ann.block (Ann.loop [5] [4, 6, 7, 8, 9, 10, 11, 12, 13, 14, 15, 16, 17] (Ann.seq (Ann.seq Ann.text (Ann.cond Ann.leaf Ann.leaf)) (Ann.seq (Ann.block (Ann.seq Ann.text (Ann.cond (Ann.seq Ann.text Ann.leaf) Ann.leaf))) Ann.text))))) (Ann.seq Ann.text Ann.leaf)))
    Try.func62 (by kernel_rfl) (by kernel_rfl)
    (Eq.mp (by kernel_rfl) h)
/-! breakwater/breakwaterref03.Sorted: function 33 -/
def sh33 (x0 : Value) (R : Kt) (w : World) : Prop :=
  M.loop [(Value.slice none 0 0), (Value.int IntKind.i64 0)] (fun s1 K1 w => ∀ _ : List Value,
  M.len x0 (fun t9 w =>
  M.bin .lss (s1.getD 1 undef) t9 (fun t10 w =>
  M.cond t10
  (M.share (fun K2 w =>
  M.indexSl 1 x0 (s1.getD 1 undef) (fun t16 w =>
  M.load1 t16 (fun t17 w =>
  M.call Try.prog 62 #[(s1.getD 0 undef), t17] (fun t18 w =>
  M.cond t18
  (K2 [(s1.getD 0 undef)] w)
  (M.len (s1.getD 0 undef) (fun t20 w =>
  M.loop [t20] (fun s3 K3 w => ∀ _ : List Value,
  M.draw (fun w =>
  M.bin .gtr (s3.getD 0 undef) (Value.int IntKind.i64 0) (fun t22 w =>
  M.gd t22 true (fun k w => k (s1.getD 0 undef) w) (fun t24 w =>
  M.gd t22 true (fun k w => k (s3.getD 0 undef) w) (fun t25 w =>
  M.gd t22 true (fun k w => M.bin .sub t25 (Value.int IntKind.i64 1) k w) (fun t26 w =>
  M.gd t22 true (fun k w => M.indexSl 1 t24 t26 k w) (fun t27 w =>
  M.gd t22 true (fun k w => M.load1 t27 k w) (fun t28 w =>
  M.gd t22 true (fun k w => k x0 w) (fun t29 w =>
  M.gd t22 true (fun k w => k (s1.getD 1 undef) w) (fun t30 w =>
  M.gd t22 true (fun k w => M.indexSl 1 t29 t30 k w) (fun t31 w =>
  M.gd t22 true (fun k w => M.load1 t31 k w) (fun t32 w =>
  M.gd t22 true (fun k w => M.bin .gtr t28 t32 k w) (fun t33 w =>
  M.pick t22 t33 (Value.bool false) (fun t34 w =>
  M.cond t34
  (M.bin .sub (s3.getD 0 undef) (Value.int IntKind.i64 1) (fun t36 w =>
  K3 [t36] w) w)
  (M.slice 1 (s1.getD 0 undef) none (some (s3.getD 0 undef)) none (fun t40 w =>
  M.append 3 1 8 #[.int .i64 0] (Value.slice none 0 0) t40 (fun t41 w =>
  M.indexSl 1 x0 (s1.getD 1 undef) (fun t45 w =>
  M.load1 t45 (fun t46 w =>
  M.buildSlice 3 1 #[.int .i64 0] 1 [(0, t46)] (fun t47 w =>
  M.append 3 1 8 #[.int .i64 0] t41 t47 (fun t48 w =>
  M.slice 1 (s1.getD 0 undef) (some (s3.getD 0 undef)) none none (fun t52 w =>
  M.append 3 1 8 #[.int .i64 0] t48 t52 (fun t53 w =>
  K2 [t53] w) w) w) w) w) w) w) w) w)) w) w) w) w) w) w) w) w) w) w) w) w) w) w) w)) w) w) w) (fun s2 w => ∀ _ : List Value,
  M.bin .add (s1.getD 1 undef) (Value.int IntKind.i64 1) (fun t12 w =>
  K1 [(s2.getD 0 undef), t12] w) w) w)
  (R (s1.getD 0 undef) w)) w) w) w
theorem ok33 (x0 : Value) (R : Kt) (w : World) (h : sh33 x0 R w) : Ret Try.prog 33 #[x0] w R :=
  ret_mk <| calls_of_comp mixed (c := Try.f33.body.getD .skip) (args := [x0]) (rs := [(ResultVar.tmp 2)]) (Ann.seq Ann.text (Ann.seq Ann.text (Ann.seq (Ann.seq Ann.text (Ann.block (Ann.loop [3, 4] [5, 6, 7, 8, 9, 10, 11, 12, 13, 14, 15, 16, 17, 18, 19, 20, 21, 22, 23, 24, 25, 26, 27, 28, 29, 30, 31, 32, 33, 34, 35, 36, 37, 38, 39, 40, 41, 42, 43, 44, 45, 46, 47, 48, 49, 50, 51, 52, 53, 54] (Ann.seq (Ann.seq Ann.text (Ann.cond Ann.leaf Ann.leaf)) (Ann.seq (Ann.jblock [3] [5, 6, 13, 14, 15, 16, 17, 18, 19, 20, 21, 22, 23, 24, 25, 26, 27, 28, 29, 30, 31, 32, 33, 34, 35, 36, 37, 38, 39, 40, 41, 42, 43, 44, 45, 46, 47, 48, 49, 50, 51, 52, 53, 54] (Ann.seq (Ann.seq Ann.text (Ann.cond Ann.leaf Ann.leaf)) (Ann.seq Ann.text (Ann.seq (Ann.block (Ann.loop [5] [21, 22, 23, 24, 25, 26, 27, 28, 29, 30, 31, 32, 33, 34, 35, 36] (Ann.seq (Ann.seq (Ann.draw (Sch.take 0 (Sch.take 1 (Sch.take 2 (Sch.take 3 (Sch.take 4 (Sch.take 5 (Sch.take 6 (Sch.take 7 (Sch.take 8 (Sch.take 9 (Sch.take 10 (Sch.take 11 (Sch.take 12 (Sch.take 13 Sch.done))))))))))))))) (Ann.cond Ann.leaf Ann.leaf)) (Ann.block Ann.text)))) (Ann.seq Ann.text (Ann.seq Ann.text (Ann.seq Ann.text (Ann.seq Ann.text Ann.text)))))))) Ann.text))))) (Ann.seq Ann.text Ann.leaf))))
    Try.func33 (by kernel_rfl) (by kernel_rfl)
    (Eq.mp (by kernel_rfl) h)

/-! ### lists of numbers (no program here) -/
def insU (x : Int) : List Int → List Int
  | [] => [x]
  | y :: l => if x < y then x :: y :: l else if x = y then y :: l else y :: insU x l
/-- By rising numbers, each once. -/
def srt (xs : List Int) : List Int := xs.foldr insU []
theorem mem_insU (x y : Int) : ∀ l : List Int, y ∈ insU x l ↔ y = x ∨ y ∈ l
  | [] => by simp [insU]
  | z :: l => by
    unfold insU
    split
    · simp
    · split
      · rename_i h; subst h; simp
      · simp [mem_insU x y l]; constructor <;> (intro h; rcases h with h | h | h <;> simp [h])
theorem insU_lt (x : Int) : ∀ l : List Int, l.Pairwise (· < ·) → (insU x l).Pairwise (· < ·)
  | [], _ => by simp [insU]
  | z :: l, h => by
    obtain ⟨h1, h2⟩ := List.pairwise_cons.1 h
    unfold insU
    split
    · rename_i hx
      refine List.pairwise_cons.2 ⟨fun y hy => ?_, h⟩
      rcases List.mem_cons.1 hy with rfl | hy
      · exact hx
      · have := h1 y hy; omega
    · split
      · exact h
      · refine List.pairwise_cons.2 ⟨fun y hy => ?_, insU_lt x l h2⟩
        rcases (mem_insU x y l).1 hy with rfl | hy
        · omega
        · exact h1 y hy
theorem srt_lt (xs : List Int) : (srt xs).Pairwise (· < ·) := by
  induction xs with
  | nil => simp [srt]
  | cons x xs ih => exact insU_lt x _ ih
theorem mem_srt (xs : List Int) (y : Int) : y ∈ srt xs ↔ y ∈ xs := by
  induction xs with
  | nil => simp [srt]
  | cons x xs ih =>
    show y ∈ insU x (srt xs) ↔ _
    rw [mem_insU, ih]
    simp
/-- Two rising lists of the same numbers are one. -/
theorem lt_ext : ∀ (l m : List Int), l.Pairwise (· < ·) → m.Pairwise (· < ·) → (∀ y, y ∈ l ↔ y ∈ m) → l = m
  | [], [], _, _, _ => rfl
  | [], y :: m, _, _, h => by have := (h y).2 List.mem_cons_self; simp at this
  | x :: l, [], _, _, h => by have := (h x).1 List.mem_cons_self; simp at this
  | x :: l, y :: m, hl, hm, h => by
    obtain ⟨l1, l2⟩ := List.pairwise_cons.1 hl
    obtain ⟨m1, m2⟩ := List.pairwise_cons.1 hm
    have hxy : x = y := by
      rcases List.mem_cons.1 ((h x).1 List.mem_cons_self) with h1 | h1
      · exact h1
      · rcases List.mem_cons.1 ((h y).2 List.mem_cons_self) with h2 | h2
        · exact h2.symm
        · have := m1 x h1; have := l1 y h2; omega
    subst hxy
    congr 1
    refine lt_ext l m l2 m2 (fun z => ⟨fun hz => ?_, fun hz => ?_⟩)
    · rcases List.mem_cons.1 ((h z).1 (List.mem_cons_of_mem _ hz)) with h1 | h1
      · subst h1; have := l1 z hz; omega
      · exact h1
    · rcases List.mem_cons.1 ((h z).2 (List.mem_cons_of_mem _ hz)) with h1 | h1
      · subst h1; have := m1 z hz; omega
      · exact h1
theorem eq_srt {xs ys : List Int} (h1 : ys.Pairwise (· < ·)) (h2 : ∀ y, y ∈ ys ↔ y ∈ xs) : ys = srt xs :=
  lt_ext _ _ h1 (srt_lt xs) (fun y => by rw [h2, mem_srt])
theorem len_insU (x : Int) : ∀ l : List Int, (insU x l).length ≤ l.length + 1
  | [] => by simp [insU]
  | y :: l => by
    unfold insU
    split
    · simp
    · split
      · simp
      · have := len_insU x l; simp; omega
theorem len_srt (xs : List Int) : (srt xs).length ≤ xs.length := by
  induction xs with
  | nil => simp [srt]
  | cons x xs ih => have : (srt (x :: xs)).length ≤ _ := len_insU x (srt xs); simp; omega
/-- A new number put where it belongs. -/
theorem put_lt {l : List Int} {x : Int} {n : Nat} (h : l.Pairwise (· < ·)) (hx : x ∉ l) (hn : n ≤ l.length) (h1 : ∀ (j : Nat) y, n ≤ j → l[j]? = some y → x < y) (h2 : n = 0 ∨ ∃ y, l[n - 1]? = some y ∧ y ≤ x) :
    (l.take n ++ [x] ++ l.drop n).Pairwise (· < ·) ∧ ∀ y, y ∈ l.take n ++ [x] ++ l.drop n ↔ y = x ∨ y ∈ l := by
  have hlow : ∀ y ∈ l.take n, y < x := fun y hy => by
    obtain ⟨j, hj⟩ := List.mem_iff_getElem?.1 hy
    have hjn : j < n := by have := (List.getElem?_eq_some_iff.1 hj).1; simp at this; omega
    rw [List.getElem?_take, if_pos hjn] at hj
    rcases h2 with h2 | ⟨z, hz, hzx⟩
    · omega
    · have hzx' : z < x := by
        have : z ≠ x := fun e => hx (e ▸ List.mem_of_getElem? hz)
        omega
      by_cases hj1 : j = n - 1
      · subst hj1; rw [hz] at hj; cases hj; exact hzx'
      · obtain ⟨a1, a2⟩ := List.getElem?_eq_some_iff.1 hj
        obtain ⟨b1, b2⟩ := List.getElem?_eq_some_iff.1 hz
        have := List.pairwise_iff_getElem.1 h j (n - 1) a1 b1 (by omega)
        omega
  have hhigh : ∀ y ∈ l.drop n, x < y := fun y hy => by
    obtain ⟨j, hj⟩ := List.mem_iff_getElem?.1 hy
    rw [List.getElem?_drop] at hj
    exact h1 _ y (by omega) hj
  constructor
  · rw [List.append_assoc]
    refine List.pairwise_append.2 ⟨h.sublist (List.take_sublist _ _), ?_, fun a ha b hb => ?_⟩
    · refine List.pairwise_append.2 ⟨by simp, h.sublist (List.drop_sublist _ _), fun a ha b hb => ?_⟩
      simp at ha; subst ha; exact hhigh b hb
    · have ha := hlow a ha
      rcases List.mem_append.1 hb with hb | hb
      · simp at hb; subst hb; exact ha
      · have := hhigh b hb; omega
  · intro y
    have e : y ∈ l ↔ y ∈ l.take n ∨ y ∈ l.drop n := by
      rw [← List.mem_append, List.take_append_drop]
    rw [e]
    simp only [List.mem_append, List.mem_singleton]
    constructor
    · rintro ((h | h) | h)
      · exact .inr (.inl h)
      · exact .inl h
      · exact .inr (.inr h)
    · rintro (h | h | h)
      · exact .inl (.inr h)
      · exact .inl (.inl h)
      · exact .inr h
theorem mem_take_succ {α : Type} {l : List α} {i : Nat} {e y : α} (he : l[i]? = some e) : y ∈ l.take (i + 1) ↔ y ∈ l.take i ∨ y = e := by
  have e1 : l.take (i + 1) = l.take i ++ [e] := by rw [List.take_add_one, he]; rfl
  rw [e1]; simp

abbrev Few (n : Nat) : Prop := n ≤ 100000000000
/-! ### the walks -/
theorem has_ret {w : World} {D : Nat → Prop} {v : Value} {xs : List Int} (h : LV vi w D v xs) (hf : Few xs.length) (x : Int) :
    Ret Try.prog 62 #[v, vi x] w (fun r w' => r = .bool (decide (x ∈ xs)) ∧ Keep w w' No) := by
  obtain ⟨A, c, rfl, hr, hc⟩ := h
  refine ok62 _ _ _ _ ?_
  unfold sh62
  refine M.loop_i (σ := Nat) (fun i vals w' => vals = [vi i] ∧ i ≤ xs.length ∧ x ∉ xs.take i ∧ w' = w) (fun i => xs.length - i) 0 ⟨rfl, by omega, by simp, rfl⟩ ?_
  rintro i vals w1 K ⟨rfl, hi, hno, rfl⟩ hK _
  simp only [List.getD_cons_zero, List.getD_cons_succ]
  by_cases hlt : i < xs.length
  · obtain ⟨e, he⟩ : ∃ e, xs[i]? = some e := ⟨_, List.getElem?_eq_getElem hlt⟩
    (repeat (first|refine ja ?_|refine jb ?_|refine jc ?_|refine jd ?_|refine je ?_|refine jf ?_|refine jg ?_|refine jh ?_|refine ji ?_|refine jj ?_|refine jk ?_|refine jl ?_|refine jm ?_|refine jn ?_|refine jo ?_|refine jp ?_|refine jq ?_|refine jr ?_|refine js ?_|refine jt ?_|refine ju ?_|refine jv ?_|refine jw ?_|refine jx ?_|refine jy ?_|refine jz ?_|refine jA ?_|refine jB ?_|refine jC ?_|refine jD ?_|refine jE ?_|refine jF ?_|refine jG ?_|refine jH ?_|refine jI ?_|refine jJ ?_|refine jK ?_|refine jL ?_|refine jM (by assumption) ?_|refine jN (by assumption) rfl ?_|refine jO (by assumption) ?_|refine jP (by assumption) rfl ?_|refine jQ ?_|refine jR ?_|refine jS ?_|refine jT ?_|refine jU (by assumption) rfl ?_))
    refine M.idxLV_i hr rfl (by omega) (by omega) (x := e) (by simpa using he) (fun b o hA hc => ?_)
    (repeat (first|refine ja ?_|refine jb ?_|refine jc ?_|refine jd ?_|refine je ?_|refine jf ?_|refine jg ?_|refine jh ?_|refine ji ?_|refine jj ?_|refine jk ?_|refine jl ?_|refine jm ?_|refine jn ?_|refine jo ?_|refine jp ?_|refine jq ?_|refine jr ?_|refine js ?_|refine jt ?_|refine ju ?_|refine jv ?_|refine jw ?_|refine jx ?_|refine jy ?_|refine jz ?_|refine jA ?_|refine jB ?_|refine jC ?_|refine jD ?_|refine jE ?_|refine jF ?_|refine jG ?_|refine jH ?_|refine jI ?_|refine jJ ?_|refine jK ?_|refine jL ?_|refine jM (by assumption) ?_|refine jN (by assumption) rfl ?_|refine jO (by assumption) ?_|refine jP (by assumption) rfl ?_|refine jQ ?_|refine jR ?_|refine jS ?_|refine jT ?_|refine jU (by assumption) rfl ?_))
    refine M.eql_i ?_
    refine M.cond_i (fun hx => ?_) (fun hx => ?_)
    · refine ⟨?_, Keep.refl _ _⟩
      have : x ∈ xs := hx ▸ List.mem_of_getElem? he
      simp [this]
    · (repeat (first|refine ja ?_|refine jb ?_|refine jc ?_|refine jd ?_|refine je ?_|refine jf ?_|refine jg ?_|refine jh ?_|refine ji ?_|refine jj ?_|refine jk ?_|refine jl ?_|refine jm ?_|refine jn ?_|refine jo ?_|refine jp ?_|refine jq ?_|refine jr ?_|refine js ?_|refine jt ?_|refine ju ?_|refine jv ?_|refine jw ?_|refine jx ?_|refine jy ?_|refine jz ?_|refine jA ?_|refine jB ?_|refine jC ?_|refine jD ?_|refine jE ?_|refine jF ?_|refine jG ?_|refine jH ?_|refine jI ?_|refine jJ ?_|refine jK ?_|refine jL ?_|refine jM (by assumption) ?_|refine jN (by assumption) rfl ?_|refine jO (by assumption) ?_|refine jP (by assumption) rfl ?_|refine jQ ?_|refine jR ?_|refine jS ?_|refine jT ?_|refine jU (by assumption) rfl ?_))
      refine hK (i + 1) _ _ (by omega) ⟨by simp, by omega, ?_, rfl⟩
      rw [mem_take_succ he]
      rintro (h | h)
      · exact hno h
      · exact hx h.symm
  · (repeat (first|refine ja ?_|refine jb ?_|refine jc ?_|refine jd ?_|refine je ?_|refine jf ?_|refine jg ?_|refine jh ?_|refine ji ?_|refine jj ?_|refine jk ?_|refine jl ?_|refine jm ?_|refine jn ?_|refine jo ?_|refine jp ?_|refine jq ?_|refine jr ?_|refine js ?_|refine jt ?_|refine ju ?_|refine jv ?_|refine jw ?_|refine jx ?_|refine jy ?_|refine jz ?_|refine jA ?_|refine jB ?_|refine jC ?_|refine jD ?_|refine jE ?_|refine jF ?_|refine jG ?_|refine jH ?_|refine jI ?_|refine jJ ?_|refine jK ?_|refine jL ?_|refine jM (by assumption) ?_|refine jN (by assumption) rfl ?_|refine jO (by assumption) ?_|refine jP (by assumption) rfl ?_|refine jQ ?_|refine jR ?_|refine jS ?_|refine jT ?_|refine jU (by assumption) rfl ?_))
    have : i = xs.length := by omega
    subst this
    rw [List.take_length] at hno
    exact ⟨by simp [hno], Keep.refl _ _⟩
set_option maxHeartbeats 1000000 in
theorem sorted_ret {w : World} {D : Nat → Prop} {u : Value} {xs : List Int} (h1 : LV vi w D u xs) (hf : Few xs.length) :
    Ret Try.prog 33 #[u] w (fun r w' => GI w' (w.heap.size ≤ ·) r (srt xs) ∧ Keep w w' No) := by
  obtain ⟨A, c, rfl, h1, hc1⟩ := h1
  refine ok33 _ _ _ ?_
  unfold sh33
  refine M.loop_i (σ := Nat) (fun i vals w' => ∃ vo, vals = [vo, vi i] ∧ i ≤ xs.length ∧ GI w' (w.heap.size ≤ ·) vo (srt (xs.take i)) ∧ Keep w w' No) (fun i => xs.length - i) 0 ⟨_, rfl, by omega, by simpa [srt] using GI.nil _ _, Keep.refl _ _⟩ ?_
  rintro i vals w1 K ⟨vo, rfl, hi, ho, k1⟩ hK _
  simp only [List.getD_cons_zero, List.getD_cons_succ]
  have h1 := h1.keep k1 (fun _ _ _ h => h)
  have q1 := k1.size
  by_cases hlt : i < xs.length
  · obtain ⟨e, he⟩ : ∃ e, xs[i]? = some e := ⟨_, List.getElem?_eq_getElem hlt⟩
    have hlen := len_srt (xs.take i)
    simp only [List.length_take] at hlen
    (repeat (first|refine ja ?_|refine jb ?_|refine jc ?_|refine jd ?_|refine je ?_|refine jf ?_|refine jg ?_|refine jh ?_|refine ji ?_|refine jj ?_|refine jk ?_|refine jl ?_|refine jm ?_|refine jn ?_|refine jo ?_|refine jp ?_|refine jq ?_|refine jr ?_|refine js ?_|refine jt ?_|refine ju ?_|refine jv ?_|refine jw ?_|refine jx ?_|refine jy ?_|refine jz ?_|refine jA ?_|refine jB ?_|refine jC ?_|refine jD ?_|refine jE ?_|refine jF ?_|refine jG ?_|refine jH ?_|refine jI ?_|refine jJ ?_|refine jK ?_|refine jL ?_|refine jM (by assumption) ?_|refine jN (by assumption) rfl ?_|refine jO (by assumption) ?_|refine jP (by assumption) rfl ?_|refine jQ ?_|refine jR ?_|refine jS ?_|refine jT ?_|refine jU (by assumption) rfl ?_))
    refine M.share_j (fun vals w' => ∃ vo, vals = [vo] ∧ GI w' (w.heap.size ≤ ·) vo (srt (xs.take (i + 1))) ∧ Keep w w' No) ?_ ?_
    · rintro vals w2 ⟨vo, rfl, ho, k2⟩ _
      simp only [List.getD_cons_zero, List.getD_cons_succ]
      (repeat (first|refine ja ?_|refine jb ?_|refine jc ?_|refine jd ?_|refine je ?_|refine jf ?_|refine jg ?_|refine jh ?_|refine ji ?_|refine jj ?_|refine jk ?_|refine jl ?_|refine jm ?_|refine jn ?_|refine jo ?_|refine jp ?_|refine jq ?_|refine jr ?_|refine js ?_|refine jt ?_|refine ju ?_|refine jv ?_|refine jw ?_|refine jx ?_|refine jy ?_|refine jz ?_|refine jA ?_|refine jB ?_|refine jC ?_|refine jD ?_|refine jE ?_|refine jF ?_|refine jG ?_|refine jH ?_|refine jI ?_|refine jJ ?_|refine jK ?_|refine jL ?_|refine jM (by assumption) ?_|refine jN (by assumption) rfl ?_|refine jO (by assumption) ?_|refine jP (by assumption) rfl ?_|refine jQ ?_|refine jR ?_|refine jS ?_|refine jT ?_|refine jU (by assumption) rfl ?_))
      exact hK (i + 1) _ _ (by omega) ⟨vo, by simp, by omega, ho, k2⟩
    · intro K2 hK2
      refine M.idxLV_i h1 rfl (by omega) (by omega) (x := e) (by simpa using he) (fun b o hA hc => ?_)
      (repeat (first|refine ja ?_|refine jb ?_|refine jc ?_|refine jd ?_|refine je ?_|refine jf ?_|refine jg ?_|refine jh ?_|refine ji ?_|refine jj ?_|refine jk ?_|refine jl ?_|refine jm ?_|refine jn ?_|refine jo ?_|refine jp ?_|refine jq ?_|refine jr ?_|refine js ?_|refine jt ?_|refine ju ?_|refine jv ?_|refine jw ?_|refine jx ?_|refine jy ?_|refine jz ?_|refine jA ?_|refine jB ?_|refine jC ?_|refine jD ?_|refine jE ?_|refine jF ?_|refine jG ?_|refine jH ?_|refine jI ?_|refine jJ ?_|refine jK ?_|refine jL ?_|refine jM (by assumption) ?_|refine jN (by assumption) rfl ?_|refine jO (by assumption) ?_|refine jP (by assumption) rfl ?_|refine jQ ?_|refine jR ?_|refine jS ?_|refine jT ?_|refine jU (by assumption) rfl ?_))
      refine M.call_i (has_ret ho.lv (by omega) e) ?_; rintro _ w2 ⟨rfl, k2⟩
      have ho := ho.keep k2 (fun _ _ _ h => h)
      have h1 := h1.keep k2 (fun _ _ _ h => h)
      have k1 := k1.trans k2 (fun _ _ h => h)
      have q1 := k1.size
      refine M.condB_i (fun hx => ?_) (fun hx => ?_)
      · refine hK2 _ _ ⟨vo, rfl, ?_, k1⟩
        have hx : e ∈ srt (xs.take i) := by simpa using hx
        have e2 : srt (xs.take (i + 1)) = srt (xs.take i) := (eq_srt (srt_lt _) (fun y => by
          rw [mem_srt, mem_take_succ he]
          constructor
          · exact .inl
          · rintro (h | rfl)
            · exact h
            · exact (mem_srt _ _).1 hx)).symm
        rw [e2]; exact ho
      · have hx : e ∉ srt (xs.take i) := by simpa using hx
        obtain ⟨Ao, co, rfl, hro, hco⟩ := GC.row2 ho (by omega)
        generalize hys : srt (xs.take i) = ys at *
        have hsl : ys.Pairwise (· < ·) := hys ▸ srt_lt _
        (repeat (first|refine ja ?_|refine jb ?_|refine jc ?_|refine jd ?_|refine je ?_|refine jf ?_|refine jg ?_|refine jh ?_|refine ji ?_|refine jj ?_|refine jk ?_|refine jl ?_|refine jm ?_|refine jn ?_|refine jo ?_|refine jp ?_|refine jq ?_|refine jr ?_|refine js ?_|refine jt ?_|refine ju ?_|refine jv ?_|refine jw ?_|refine jx ?_|refine jy ?_|refine jz ?_|refine jA ?_|refine jB ?_|refine jC ?_|refine jD ?_|refine jE ?_|refine jF ?_|refine jG ?_|refine jH ?_|refine jI ?_|refine jJ ?_|refine jK ?_|refine jL ?_|refine jM (by assumption) ?_|refine jN (by assumption) rfl ?_|refine jO (by assumption) ?_|refine jP (by assumption) rfl ?_|refine jQ ?_|refine jR ?_|refine jS ?_|refine jT ?_|refine jU (by assumption) rfl ?_))
        refine M.loop_i (σ := Nat) (fun n vals w' => vals = [vi n] ∧ n ≤ ys.length ∧ (∀ (j : Nat) y, n ≤ j → ys[j]? = some y → e < y) ∧ Keep w2 w' No) (fun n => n) ys.length
          ⟨rfl, Nat.le_refl _, fun j y hj hy => by have := (List.getElem?_eq_some_iff.1 hy).1; omega, Keep.refl _ _⟩ ?_
        rintro n vals w3 K3 ⟨rfl, hn, hgt, k3⟩ hK3 _
        simp only [List.getD_cons_zero, List.getD_cons_succ]
        have ho := ho.keep k3 (fun _ _ _ h => h)
        have hro := hro.keep k3 (fun _ _ _ h => h)
        have h1 := h1.keep k3 (fun _ _ _ h => h)
        have k1 := k1.trans k3 (fun _ _ h => h)
        have q1 := k1.size
        -- the new list
        have put : ∀ w4, Row w4 (w.heap.size ≤ ·) Ao (ys.map vi) → Row w4 D A (xs.map vi) → Keep w w4 No → (n = 0 ∨ ∃ y, ys[n - 1]? = some y ∧ y ≤ e) →
            M.slice 1 (.slice Ao ys.length co) none (some (vi n)) none (fun t40 w =>
              M.append 3 1 8 #[.int .i64 0] (Value.slice none 0 0) t40 (fun t41 w =>
              M.indexSl 1 (.slice A xs.length c) (vi i) (fun t45 w =>
              M.load1 t45 (fun t46 w =>
              M.buildSlice 3 1 #[.int .i64 0] 1 [(0, t46)] (fun t47 w =>
              M.append 3 1 8 #[.int .i64 0] t41 t47 (fun t48 w =>
              M.slice 1 (.slice Ao ys.length co) (some (vi n)) none none (fun t52 w =>
              M.append 3 1 8 #[.int .i64 0] t48 t52 (fun t53 w =>
              K2 [t53] w) w) w) w) w) w) w) w) w4 := by
          intro w4 hro h1 k4 hlow
          have q4 := k4.size
          have hro := hro.mono (D' := fun b => w.heap.size ≤ b ∧ b < w4.heap.size) (fun b hb h => ⟨h, hb⟩)
          refine M.slice_i 0 n co (sl3_h (by omega)) ?_
          refine M.appendI_i (ys := ys.take n) (by simp; omega) (GI.nil w4 No) (by rw [List.map_take]; exact (hro.take n).same) rfl (by simp; omega) (fun v5 w5 g5 k5 => ?_)
          have q5 := k5.size
          have hro := hro.keep k5 (fun _ _ _ h => h)
          have h1 := h1.keep k5 (fun _ _ _ h => h)
          refine M.idxLV_i h1 rfl (by omega) (by omega) (x := e) (by simpa using he) (fun b o hA hc => ?_)
          (repeat (first|refine ja ?_|refine jb ?_|refine jc ?_|refine jd ?_|refine je ?_|refine jf ?_|refine jg ?_|refine jh ?_|refine ji ?_|refine jj ?_|refine jk ?_|refine jl ?_|refine jm ?_|refine jn ?_|refine jo ?_|refine jp ?_|refine jq ?_|refine jr ?_|refine js ?_|refine jt ?_|refine ju ?_|refine jv ?_|refine jw ?_|refine jx ?_|refine jy ?_|refine jz ?_|refine jA ?_|refine jB ?_|refine jC ?_|refine jD ?_|refine jE ?_|refine jF ?_|refine jG ?_|refine jH ?_|refine jI ?_|refine jJ ?_|refine jK ?_|refine jL ?_|refine jM (by assumption) ?_|refine jN (by assumption) rfl ?_|refine jO (by assumption) ?_|refine jP (by assumption) rfl ?_|refine jQ ?_|refine jR ?_|refine jS ?_|refine jT ?_|refine jU (by assumption) rfl ?_))
          refine M.buildSlice_i [vi e] (by kernel_rfl) (fun w6 hn6 k6 s6 => ?_)
          have q6 := k6.size
          have g6 := g5.keep k6 (fun _ _ _ h => h)
          refine M.append1_i g6 (Row.of_blk' (D := fun _ => True) hn6 trivial) rfl (by simp; omega) (fun v7 w7 g7 k7 => ?_)
          have k57 := (k4.trans k5 (fun _ _ h => h)).trans k6 (fun _ _ h => h) |>.trans k7 (fun b hb h => by rcases h with h | h; exact h; omega)
          have hro := (hro.keep k6 (fun _ _ _ h => h)).keep k7 (fun b hb h1 h2 => by rcases h2 with h2 | h2; exact h2; omega)
          refine M.slice_i n ys.length co (sl3_l hn) ?_
          refine M.appendI_i (ys := ys.drop n) (by simp) g7 (by rw [List.map_drop]; exact hro.tail (by simpa using hco)) rfl (by simp; omega) (fun v8 w8 g8 k8 => ?_)
          have q7 := k7.size
          refine hK2 _ _ ⟨v8, rfl, ?_, k57.trans k8 (fun b hb h => by rcases h with (h | h) | h; exact h; omega; omega)⟩
          obtain ⟨p1, p2⟩ := put_lt hsl hx hn hgt hlow
          have e2 : srt (xs.take (i + 1)) = ys.take n ++ [e] ++ ys.drop n := (eq_srt p1 (fun y => by
            rw [p2, mem_take_succ he, ← hys, mem_srt]
            constructor
            · rintro (h | h)
              · exact .inr h
              · exact .inl h
            · rintro (h | h)
              · exact .inr h
              · exact .inl h)).symm
          rw [e2]
          refine GC.mono g8 (fun b hb h => ?_)
          rcases h with ((h | h) | h) | h
          · exact h.elim
          · omega
          · omega
          · omega
        refine M.draw_i ?_
        have kd : Keep w3 w3.drew No := Keep.drew _ _
        have hro := hro.keep kd (fun _ _ _ h => h)
        have h1 := h1.keep kd (fun _ _ _ h => h)
        have k1 := k1.trans kd (fun _ _ h => h)
        have k3 := k3.trans kd (fun _ _ h => h)
        generalize w3.drew = w4 at *
        by_cases hn0 : 0 < n
        · obtain ⟨y, hy⟩ : ∃ y, ys[n - 1]? = some y := ⟨_, List.getElem?_eq_getElem (by omega)⟩
          (repeat (first|refine ja ?_|refine jb ?_|refine jc ?_|refine jd ?_|refine je ?_|refine jf ?_|refine jg ?_|refine jh ?_|refine ji ?_|refine jj ?_|refine jk ?_|refine jl ?_|refine jm ?_|refine jn ?_|refine jo ?_|refine jp ?_|refine jq ?_|refine jr ?_|refine js ?_|refine jt ?_|refine ju ?_|refine jv ?_|refine jw ?_|refine jx ?_|refine jy ?_|refine jz ?_|refine jA ?_|refine jB ?_|refine jC ?_|refine jD ?_|refine jE ?_|refine jF ?_|refine jG ?_|refine jH ?_|refine jI ?_|refine jJ ?_|refine jK ?_|refine jL ?_|refine jM (by assumption) ?_|refine jN (by assumption) rfl ?_|refine jO (by assumption) ?_|refine jP (by assumption) rfl ?_|refine jQ ?_|refine jR ?_|refine jS ?_|refine jT ?_|refine jU (by assumption) rfl ?_))
          refine M.idxLV_i hro rfl (by omega) (by omega) (x := y) (by have : ((n : Int) - 1).toNat = n - 1 := by omega
                                                                      rw [this]; exact hy) (fun b o hA hc => ?_)
          (repeat (first|refine ja ?_|refine jb ?_|refine jc ?_|refine jd ?_|refine je ?_|refine jf ?_|refine jg ?_|refine jh ?_|refine ji ?_|refine jj ?_|refine jk ?_|refine jl ?_|refine jm ?_|refine jn ?_|refine jo ?_|refine jp ?_|refine jq ?_|refine jr ?_|refine js ?_|refine jt ?_|refine ju ?_|refine jv ?_|refine jw ?_|refine jx ?_|refine jy ?_|refine jz ?_|refine jA ?_|refine jB ?_|refine jC ?_|refine jD ?_|refine jE ?_|refine jF ?_|refine jG ?_|refine jH ?_|refine jI ?_|refine jJ ?_|refine jK ?_|refine jL ?_|refine jM (by assumption) ?_|refine jN (by assumption) rfl ?_|refine jO (by assumption) ?_|refine jP (by assumption) rfl ?_|refine jQ ?_|refine jR ?_|refine jS ?_|refine jT ?_|refine jU (by assumption) rfl ?_))
          refine M.idxLV_i h1 rfl (by omega) (by omega) (x := e) (by simpa using he) (fun b o hA hc => ?_)
          (repeat (first|refine ja ?_|refine jb ?_|refine jc ?_|refine jd ?_|refine je ?_|refine jf ?_|refine jg ?_|refine jh ?_|refine ji ?_|refine jj ?_|refine jk ?_|refine jl ?_|refine jm ?_|refine jn ?_|refine jo ?_|refine jp ?_|refine jq ?_|refine jr ?_|refine js ?_|refine jt ?_|refine ju ?_|refine jv ?_|refine jw ?_|refine jx ?_|refine jy ?_|refine jz ?_|refine jA ?_|refine jB ?_|refine jC ?_|refine jD ?_|refine jE ?_|refine jF ?_|refine jG ?_|refine jH ?_|refine jI ?_|refine jJ ?_|refine jK ?_|refine jL ?_|refine jM (by assumption) ?_|refine jN (by assumption) rfl ?_|refine jO (by assumption) ?_|refine jP (by assumption) rfl ?_|refine jQ ?_|refine jR ?_|refine jS ?_|refine jT ?_|refine jU (by assumption) rfl ?_))
          refine M.gtr_i ?_
          (repeat (first|refine ja ?_|refine jb ?_|refine jc ?_|refine jd ?_|refine je ?_|refine jf ?_|refine jg ?_|refine jh ?_|refine ji ?_|refine jj ?_|refine jk ?_|refine jl ?_|refine jm ?_|refine jn ?_|refine jo ?_|refine jp ?_|refine jq ?_|refine jr ?_|refine js ?_|refine jt ?_|refine ju ?_|refine jv ?_|refine jw ?_|refine jx ?_|refine jy ?_|refine jz ?_|refine jA ?_|refine jB ?_|refine jC ?_|refine jD ?_|refine jE ?_|refine jF ?_|refine jG ?_|refine jH ?_|refine jI ?_|refine jJ ?_|refine jK ?_|refine jL ?_|refine jM (by assumption) ?_|refine jN (by assumption) rfl ?_|refine jO (by assumption) ?_|refine jP (by assumption) rfl ?_|refine jQ ?_|refine jR ?_|refine jS ?_|refine jT ?_|refine jU (by assumption) rfl ?_))
          refine M.cond_i (fun hgt1 => ?_) (fun hgt1 => ?_)
          · (repeat (first|refine ja ?_|refine jb ?_|refine jc ?_|refine jd ?_|refine je ?_|refine jf ?_|refine jg ?_|refine jh ?_|refine ji ?_|refine jj ?_|refine jk ?_|refine jl ?_|refine jm ?_|refine jn ?_|refine jo ?_|refine jp ?_|refine jq ?_|refine jr ?_|refine js ?_|refine jt ?_|refine ju ?_|refine jv ?_|refine jw ?_|refine jx ?_|refine jy ?_|refine jz ?_|refine jA ?_|refine jB ?_|refine jC ?_|refine jD ?_|refine jE ?_|refine jF ?_|refine jG ?_|refine jH ?_|refine jI ?_|refine jJ ?_|refine jK ?_|refine jL ?_|refine jM (by assumption) ?_|refine jN (by assumption) rfl ?_|refine jO (by assumption) ?_|refine jP (by assumption) rfl ?_|refine jQ ?_|refine jR ?_|refine jS ?_|refine jT ?_|refine jU (by assumption) rfl ?_))
            refine hK3 (n - 1) _ _ (by omega) ⟨by simp; omega, by omega, fun j z hj hz => ?_, k3⟩
            by_cases hjn : j = n - 1
            · subst hjn; rw [hy] at hz; cases hz; exact hgt1
            · exact hgt j z (by omega) hz
          · exact put _ hro h1 k1 (.inr ⟨y, hy, by omega⟩)
        · (repeat (first|refine ja ?_|refine jb ?_|refine jc ?_|refine jd ?_|refine je ?_|refine jf ?_|refine jg ?_|refine jh ?_|refine ji ?_|refine jj ?_|refine jk ?_|refine jl ?_|refine jm ?_|refine jn ?_|refine jo ?_|refine jp ?_|refine jq ?_|refine jr ?_|refine js ?_|refine jt ?_|refine ju ?_|refine jv ?_|refine jw ?_|refine jx ?_|refine jy ?_|refine jz ?_|refine jA ?_|refine jB ?_|refine jC ?_|refine jD ?_|refine jE ?_|refine jF ?_|refine jG ?_|refine jH ?_|refine jI ?_|refine jJ ?_|refine jK ?_|refine jL ?_|refine jM (by assumption) ?_|refine jN (by assumption) rfl ?_|refine jO (by assumption) ?_|refine jP (by assumption) rfl ?_|refine jQ ?_|refine jR ?_|refine jS ?_|refine jT ?_|refine jU (by assumption) rfl ?_))
          exact put _ hro h1 k1 (.inl (by omega))
  · (repeat (first|refine ja ?_|refine jb ?_|refine jc ?_|refine jd ?_|refine je ?_|refine jf ?_|refine jg ?_|refine jh ?_|refine ji ?_|refine jj ?_|refine jk ?_|refine jl ?_|refine jm ?_|refine jn ?_|refine jo ?_|refine jp ?_|refine jq ?_|refine jr ?_|refine js ?_|refine jt ?_|refine ju ?_|refine jv ?_|refine jw ?_|refine jx ?_|refine jy ?_|refine jz ?_|refine jA ?_|refine jB ?_|refine jC ?_|refine jD ?_|refine jE ?_|refine jF ?_|refine jG ?_|refine jH ?_|refine jI ?_|refine jJ ?_|refine jK ?_|refine jL ?_|refine jM (by assumption) ?_|refine jN (by assumption) rfl ?_|refine jO (by assumption) ?_|refine jP (by assumption) rfl ?_|refine jQ ?_|refine jR ?_|refine jS ?_|refine jT ?_|refine jU (by assumption) rfl ?_))
    have : i = xs.length := by omega
    subst this
    rw [List.take_length] at ho
    exact ⟨ho, k1⟩
end Go.Proofs.Ythkkjjbjpbgcpaa
