import Derived.Test.YtnmbgfonlpjicaaW11a
namespace Go.Proofs.Ytnmbgfonlpjicaa
open Go.Mw Go.MapKept
set_option linter.unusedVariables false
set_option linter.unusedSimpArgs false
set_option maxRecDepth 100000
attribute [local irreducible] M.val M.unit M.next M.pick M.new M.nilCheck M.load1 M.loadA M.store M.fieldAddr M.indexSl M.indexArr M.slice M.makeSlice M.buildSlice M.len M.lenS M.cap M.append M.extract M.conv M.not M.neg M.bin M.shift M.eqB M.eqNil M.call M.callv M.gd M.share M.cond M.loop M.draw pureW readW Ret
/-! breakwater/watch.front: function 77 -/
def sh77 (x0 x1 : Value) (R : Kt) (w : World) : Prop :=
  M.nilCheck x1 (fun t9 w =>
  M.fieldAddr 0 t9 (fun t10 w =>
  M.load1 t10 (fun t11 w =>
  M.len t11 (fun t12 w =>
  M.share (fun K1 w =>
  M.loop [(Value.int IntKind.i64 0), (Value.int IntKind.i64 0)] (fun s2 K2 w => ∀ _ : List Value,
  M.bin .lss (s2.getD 1 undef) t12 (fun t14 w =>
  M.cond t14
  (M.indexSl 1 t11 (s2.getD 1 undef) (fun t16 w =>
  M.load1 t16 (fun t17 w =>
  M.share (fun K3 w =>
  M.call Try.prog 38 #[x0, t17] (fun t20 w =>
  M.bin .geq t20 (Value.int IntKind.i64 0) (fun t21 w =>
  M.cond t21
  (M.draw (fun w =>
  M.nilCheck x1 (fun t23 w =>
  M.fieldAddr 0 t23 (fun t24 w =>
  M.load1 t24 (fun t25 w =>
  M.nilCheck x1 (fun t28 w =>
  M.fieldAddr 0 t28 (fun t29 w =>
  M.load1 t29 (fun t30 w =>
  M.nilCheck x1 (fun t33 w =>
  M.fieldAddr 0 t33 (fun t34 w =>
  M.load1 t34 (fun t35 w =>
  M.indexSl 1 t35 (s2.getD 1 undef) (fun t37 w =>
  M.load1 t37 (fun t38 w =>
  M.nilCheck x1 (fun t40 w =>
  M.fieldAddr 0 t40 (fun t41 w =>
  M.load1 t41 (fun t42 w =>
  M.indexSl 1 t42 (s2.getD 0 undef) (fun t44 w =>
  M.load1 t44 (fun t45 w =>
  M.indexSl 1 t25 (s2.getD 0 undef) (fun t46 w =>
  M.store 1 t46 t38 (fun _ w =>
  M.indexSl 1 t30 (s2.getD 1 undef) (fun t47 w =>
  M.store 1 t47 t45 (fun _ w =>
  M.bin .add (s2.getD 0 undef) (Value.int IntKind.i64 1) (fun t49 w =>
  K3 [t49] w) w) w) w) w) w) w) w) w) w) w) w) w) w) w) w) w) w) w) w) w) w) w)
  (K3 [(s2.getD 0 undef)] w)) w) w) (fun s3 w => ∀ _ : List Value,
  M.bin .eql (s3.getD 0 undef) (Value.int IntKind.i64 2) (fun t51 w =>
  M.cond t51
  (K1 [(s3.getD 0 undef)] w)
  (M.bin .add (s2.getD 1 undef) (Value.int IntKind.i64 1) (fun t52 w =>
  K2 [(s3.getD 0 undef), t52] w) w)) w) w) w) w)
  (K1 [(s2.getD 0 undef)] w)) w) w) (fun s1 w => ∀ _ : List Value,
  R (s1.getD 0 undef) w) w) w) w) w) w
theorem ok77 (x0 x1 : Value) (R : Kt) (w : World) (h : sh77 x0 x1 R w) : Ret Try.prog 77 #[x0, x1] w R :=
  ret_mk <| calls_of_comp mixed (c := Try.f77.body.getD .skip) (args := [x0, x1]) (rs := [(ResultVar.tmp 4)]) (Ann.seq Ann.text (Ann.seq Ann.text (Ann.seq (Ann.seq Ann.text (Ann.jblock [5] [6, 7, 13, 14, 15, 16, 17, 18, 19, 20, 21, 22, 23, 24, 25, 26, 27, 28, 29, 30, 31, 32, 33, 34, 35, 36, 37, 38, 39, 40, 41, 42, 43, 44, 45, 46, 47, 48, 49, 50, 51, 52] (Ann.loop [5, 13] [6, 7, 14, 15, 16, 17, 18, 19, 20, 21, 22, 23, 24, 25, 26, 27, 28, 29, 30, 31, 32, 33, 34, 35, 36, 37, 38, 39, 40, 41, 42, 43, 44, 45, 46, 47, 48, 49, 50, 51, 52] (Ann.seq Ann.text (Ann.seq (Ann.cond Ann.leaf Ann.leaf) (Ann.seq (Ann.block (Ann.seq Ann.text (Ann.join [5] [18, 19, 20, 21, 22, 23, 24, 25, 26, 27, 28, 29, 30, 31, 32, 33, 34, 35, 36, 37, 38, 39, 40, 41, 42, 43, 44, 45, 46, 47, 48, 49] (Ann.seq Ann.text (Ann.cond (Ann.seq (Ann.draw (Sch.take 0 (Sch.take 1 (Sch.take 2 (Sch.take 3 (Sch.take 4 (Sch.take 5 (Sch.take 6 (Sch.take 7 (Sch.take 8 (Sch.take 9 (Sch.take 10 (Sch.take 11 (Sch.take 12 (Sch.take 13 (Sch.take 14 (Sch.take 15 (Sch.take 16 (Sch.take 17 (Sch.take 18 (Sch.take 19 (Sch.take 20 (Sch.take 21 (Sch.take 22 (Sch.take 23 (Sch.take 24 (Sch.one 25 (Sch.take 26 (Sch.one 27 Sch.done))))))))))))))))))))))))))))) Ann.text) Ann.leaf)) (Ann.seq Ann.text (Ann.cond Ann.leaf Ann.leaf))))) Ann.text)))))) (Ann.seq Ann.text Ann.leaf))))
    Try.func77 (by kernel_rfl) (by kernel_rfl)
    (Eq.mp (by kernel_rfl) h)
/-! (*breakwater/watch.Watch).wholly: function 51 -/
def sh51 (x0 x1 x2 : Value) (R : Kt) (w : World) : Prop :=
  M.nilCheck x0 (fun t13 w =>
  M.fieldAddr 2 t13 (fun t14 w =>
  M.load1 t14 (fun t15 w =>
  readW Try.prog (Instr.lookup 61 t15 x2 false) (fun t17 w =>
  M.call Try.prog 77 #[x1, t17] (fun t20 w =>
  M.bin .eql t20 (Value.int IntKind.i64 2) (fun t23 w =>
  M.cond t23
  (M.nilCheck t17 (fun t25 w =>
  M.fieldAddr 1 t25 (fun t26 w =>
  M.store 1 t26 (Value.bool false) (fun _ w =>
  M.nilCheck t17 (fun t28 w =>
  M.fieldAddr 0 t28 (fun t29 w =>
  M.load1 t29 (fun t30 w =>
  M.slice 1 t30 none (some (Value.int IntKind.i64 2)) none (fun t31 w =>
  M.len t31 (fun t32 w =>
  M.loop [(Value.int IntKind.i64 0)] (fun s1 K1 w => ∀ _ : List Value,
  M.bin .lss (s1.getD 0 undef) t32 (fun t34 w =>
  M.cond t34
  (M.indexSl 1 t31 (s1.getD 0 undef) (fun t35 w =>
  M.load1 t35 (fun t36 w =>
  M.draw (fun w =>
  M.nilCheck x0 (fun t38 w =>
  M.fieldAddr 3 t38 (fun t39 w =>
  M.load1 t39 (fun t40 w =>
  M.nilCheck x0 (fun t43 w =>
  M.fieldAddr 3 t43 (fun t44 w =>
  M.load1 t44 (fun t45 w =>
  M.indexSl 1 t45 t36 (fun t47 w =>
  M.load1 t47 (fun t48 w =>
  M.buildSlice 3 1 #[.int .i64 0] 1 [(0, x2)] (fun t50 w =>
  ((M.load1 t47 (fun v' _ => v' = t48) w) ∧ ((M.load1 t44 (fun v' _ => v' = t45) w) ∧ ((M.load1 t39 (fun v' _ => v' = t40) w) ∧ M.append 3 1 8 #[.int .i64 0] t48 t50 (fun t51 w =>
  ((M.load1 t44 (fun v' _ => v' = t45) w) ∧ ((M.load1 t39 (fun v' _ => v' = t40) w) ∧ M.indexSl 1 t40 t36 (fun t52 w =>
  M.store 1 t52 t51 (fun _ w =>
  M.bin .add (s1.getD 0 undef) (Value.int IntKind.i64 1) (fun t53 w =>
  K1 [t53] w) w) w) w))) w)))) w) w) w) w) w) w) w) w) w) w) w) w)
  (R (.tuple #[(Value.bool true), (Value.bool false)]) w)) w) w) w) w) w) w) w) w) w) w)
  (M.bin .eql t20 (Value.int IntKind.i64 0) (fun t56 w =>
  M.cond t56
  (R (.tuple #[(Value.bool false), (Value.bool false)]) w)
  (M.nilCheck t17 (fun t59 w =>
  M.fieldAddr 0 t59 (fun t60 w =>
  M.load1 t60 (fun t61 w =>
  M.indexSl 1 t61 (Value.int IntKind.i64 0) (fun t62 w =>
  M.load1 t62 (fun t63 w =>
  M.call Try.prog 16 #[x1, t63, x2] (fun t65 w =>
  R (.tuple #[(Value.bool true), t65]) w) w) w) w) w) w) w)) w)) w) w) w) w) w) w
theorem ok51 (x0 x1 x2 : Value) (R : Kt) (w : World) (h : sh51 x0 x1 x2 R w) : Ret Try.prog 51 #[x0, x1, x2] w R :=
  ret_mk <| calls_of_comp mixed (c := Try.f51.body.getD .skip) (args := [x0, x1, x2]) (rs := [(ResultVar.tmp 6), (ResultVar.tmp 7)]) (Ann.seq Ann.text (Ann.seq Ann.text (Ann.seq Ann.text (Ann.seq (Ann.block (Ann.seq Ann.text (Ann.cond (Ann.seq Ann.text (Ann.seq (Ann.seq Ann.text (Ann.block (Ann.loop [33] [11, 34, 35, 36, 37, 38, 39, 40, 41, 42, 43, 44, 45, 46, 47, 48, 49, 50, 51, 52, 53] (Ann.seq Ann.text (Ann.seq (Ann.cond Ann.leaf Ann.leaf) (Ann.seq (Ann.block (Ann.seq Ann.text (Ann.draw (Sch.take 0 (Sch.take 1 (Sch.take 2 (Sch.take 3 (Sch.take 4 (Sch.take 5 (Sch.take 6 (Sch.take 7 (Sch.take 8 (Sch.take 9 (Sch.take 10 (Sch.take 11 (Sch.take 12 (Sch.one 13 (Sch.one 14 (Sch.take 15 (Sch.one 16 Sch.done)))))))))))))))))))) Ann.text)))))) (Ann.seq Ann.text Ann.leaf))) (Ann.seq Ann.text (Ann.cond (Ann.seq Ann.text Ann.leaf) Ann.leaf))))) (Ann.seq Ann.text Ann.leaf)))))
    Try.func51 (by kernel_rfl) (by kernel_rfl)
    (Eq.mp (by kernel_rfl) h)

/-- What front brings about. -/
structure FrontP (t : Tr) (l : List Int) (n : Nat) (L : List Int) : Prop where
  perm : L.Perm l
  le : n ≤ 2
  len : n ≤ L.length
  ge : ∀ (j : Nat) x, j < n → L[j]? = some x → 0 ≤ t.val x
  lt : n < 2 → ∀ (j : Nat) x, n ≤ j → L[j]? = some x → t.val x < 0
structure FrI (t : Tr) (l : List Int) (i n : Nat) (L : List Int) : Prop where
  perm : L.Perm l
  n2 : n < 2
  ni : n ≤ i
  il : i ≤ L.length
  ge : ∀ (j : Nat) x, j < n → L[j]? = some x → 0 ≤ t.val x
  lt : ∀ (j : Nat) x, n ≤ j → j < i → L[j]? = some x → t.val x < 0
theorem swap_get {L : List Int} {a b : Nat} {x y : Int} (ha : L[a]? = some y) (hb : L[b]? = some x) (j : Nat) : ((L.set a x).set b y)[j]? = if j = b then some y else if j = a then some x else L[j]? := by
  have h1 := (List.getElem?_eq_some_iff.1 ha).1
  have h2 := (List.getElem?_eq_some_iff.1 hb).1
  by_cases e : j = b
  · subst e; rw [if_pos rfl, List.getElem?_set_self (by simpa using h2)]
  · rw [if_neg e, List.getElem?_set_ne (Ne.symm e)]
    by_cases e2 : j = a
    · subst e2; rw [if_pos rfl, List.getElem?_set_self h1]
    · rw [if_neg e2, List.getElem?_set_ne (Ne.symm e2)]
theorem swap_perm {L : List Int} {a b : Nat} {x y : Int} (ha : L[a]? = some y) (hb : L[b]? = some x) : ((L.set a x).set b y).Perm L := by
  obtain ⟨h1, rfl⟩ := List.getElem?_eq_some_iff.1 ha
  obtain ⟨h2, rfl⟩ := List.getElem?_eq_some_iff.1 hb
  exact List.set_set_perm h1 h2
theorem FrI.swap {t : Tr} {l : List Int} {i n : Nat} {L : List Int} {x y : Int} (h : FrI t l i n L) (hx : L[i]? = some x) (hy : L[n]? = some y) (hv : 0 ≤ t.val x) :
    ((L.set n x).set i y).Perm l ∧ (∀ (j : Nat) z, j < n + 1 → ((L.set n x).set i y)[j]? = some z → 0 ≤ t.val z) ∧ ∀ (j : Nat) z, n + 1 ≤ j → j < i + 1 → ((L.set n x).set i y)[j]? = some z → t.val z < 0 := by
  have hni := h.ni
  refine ⟨(swap_perm hy hx).trans h.perm, fun j z hj hz => ?_, fun j z h1 h2 hz => ?_⟩
  · rw [swap_get hy hx] at hz
    by_cases e : j = i
    · rw [if_pos e] at hz
      have : i = n := by omega
      subst this
      rw [hx] at hy
      cases hy; cases hz; exact hv
    · rw [if_neg e] at hz
      by_cases e2 : j = n
      · rw [if_pos e2] at hz
        cases hz; exact hv
      · rw [if_neg e2] at hz
        exact h.ge j z (by omega) hz
  · rw [swap_get hy hx] at hz
    by_cases e : j = i
    · rw [if_pos e] at hz
      cases hz
      exact h.lt n _ (Nat.le_refl _) (by omega) hy
    · rw [if_neg e, if_neg (by omega)] at hz
      exact h.lt j z (by omega) (by omega) hz
section
variable {w w1 : World} {p q r : Nat} {lab ow bk : Nat → Nat} {cv : Nat → Value} {wv : Value} {t : Tr} {s : Wt} {vb vw1 vd : Value} {bvs : List Value} {O : Nat → Prop}
set_option maxHeartbeats 1000000 in
theorem front_ret (h : TWR w p q O bk cv wv t s) {c : Wc} (hg : s.get c.n = some c) (hcl : c.lits.length ≤ 1000000) :
    Ret Try.prog 77 #[ptr p, ptr (bk c.n)] w (fun v w' => ∃ (n : Nat) (L : List Int), v = vi n ∧ FrontP t c.lits n L ∧ TWR w' p q O bk cv wv t (s.putC c.n L c.whole) ∧ Keep w w' O) := by
  obtain ⟨lab, ow, r, vb, vd, bvs, h⟩ := h
  obtain ⟨hc, _⟩ := get_some hg
  obtain ⟨ho, hb, hl⟩ := h.wb.one c hc
  obtain ⟨A, cap, hcv, _, _⟩ := GC.row2 hl (by omega)
  rw [hcv] at hb hl
  refine ok77 _ _ _ _ ?_
  unfold sh77
  (repeat (first|refine ja ?_|refine jb ?_|refine jc ?_|refine jd ?_|refine je ?_|refine jf ?_|refine jg ?_|refine jh ?_|refine ji ?_|refine jj ?_|refine jk ?_|refine jl ?_|refine jm ?_|refine jn ?_|refine jo ?_|refine jp ?_|refine jq ?_|refine jr ?_|refine js ?_|refine jt ?_|refine ju ?_|refine jv ?_|refine jw ?_|refine jx ?_|refine jy ?_|refine jz ?_|refine jA ?_|refine jB ?_|refine jC ?_|refine jD ?_|refine jE ?_|refine jF ?_|refine jG ?_|refine jH ?_|refine jI ?_|refine jJ ?_|refine jK ?_|refine jL ?_|refine jM (by assumption) ?_|refine jN (by assumption) rfl ?_|refine jO (by assumption) ?_|refine jP (by assumption) rfl ?_|refine jQ ?_|refine jR ?_|refine jS ?_|refine jT ?_|refine jU (by assumption) rfl ?_))
  refine M.share_j (fun vals w' => ∃ (n : Nat) (L : List Int), vals = [vi n] ∧ FrontP t c.lits n L ∧ GI w' (ow · = 8 + 3 * c.n) (.slice A c.lits.length cap) L ∧ Keep w w' (ow · = 8 + 3 * c.n)) ?_ ?_
  · rintro vals w1 ⟨n, L, rfl, hF, g1, k1⟩ _
    simp only [List.getD_cons_zero, List.getD_cons_succ]
    have hb1 := hb.keep k1 (by omega)
    refine ⟨n, L, rfl, hF, ⟨lab, ow, r, vb, vd, bvs, h.tr.keep k1 (fun b _ e e2 => by have := h.ap b e; omega), h.wb.setOne (k1.mono (fun _ _ e => .inr e)) ho (by rw [hcv]; exact hb1) (by rw [hcv]; exact g1), h.ap, h.iff⟩, k1.mono (fun b _ e => (h.iff b).2 (.inr (by omega)))⟩
  · intro K hK
    refine M.loop_i (σ := Nat) (fun i vals w' => ∃ (n : Nat) (L : List Int), vals = [vi n, vi i] ∧ FrI t c.lits i n L ∧ GI w' (ow · = 8 + 3 * c.n) (.slice A c.lits.length cap) L ∧ Keep w w' (ow · = 8 + 3 * c.n)) (fun i => c.lits.length - i) 0
      ⟨0, c.lits, rfl, ⟨List.Perm.refl _, by omega, by omega, by omega, fun j x hj => by omega, fun j x h1 h2 => by omega⟩, hl, Keep.refl _ _⟩ ?_
    rintro i vals w1 K2 ⟨n, L, rfl, hF, g1, k1⟩ hK2 _
    simp only [List.getD_cons_zero, List.getD_cons_succ]
    have hLl : L.length = c.lits.length := hF.perm.length_eq
    have hil := hF.il
    have hni := hF.ni
    have hn2 := hF.n2
    by_cases hlt : i < c.lits.length
    · obtain ⟨x, hx⟩ : ∃ x, L[i]? = some x := ⟨_, List.getElem?_eq_getElem (by omega)⟩
      obtain ⟨y, hy⟩ : ∃ y, L[n]? = some y := ⟨_, List.getElem?_eq_getElem (by omega)⟩
      have hr1 : Row w1 (ow · = 8 + 3 * c.n) A (L.map vi) := by
        obtain ⟨A', c', e, hr, _⟩ := GC.row2 g1 (by omega)
        simp only [Value.slice.injEq] at e
        rw [e.1]; exact hr
      (repeat (first|refine ja ?_|refine jb ?_|refine jc ?_|refine jd ?_|refine je ?_|refine jf ?_|refine jg ?_|refine jh ?_|refine ji ?_|refine jj ?_|refine jk ?_|refine jl ?_|refine jm ?_|refine jn ?_|refine jo ?_|refine jp ?_|refine jq ?_|refine jr ?_|refine js ?_|refine jt ?_|refine ju ?_|refine jv ?_|refine jw ?_|refine jx ?_|refine jy ?_|refine jz ?_|refine jA ?_|refine jB ?_|refine jC ?_|refine jD ?_|refine jE ?_|refine jF ?_|refine jG ?_|refine jH ?_|refine jI ?_|refine jJ ?_|refine jK ?_|refine jL ?_|refine jM (by assumption) ?_|refine jN (by assumption) rfl ?_|refine jO (by assumption) ?_|refine jP (by assumption) rfl ?_|refine jQ ?_|refine jR ?_|refine jS ?_|refine jT ?_|refine jU (by assumption) rfl ?_))
      refine M.idxLV_i hr1 hLl (by omega) (by omega) (x := x) (by simpa using hx) (fun bb oo hA hcc => ?_)
      (repeat (first|refine ja ?_|refine jb ?_|refine jc ?_|refine jd ?_|refine je ?_|refine jf ?_|refine jg ?_|refine jh ?_|refine ji ?_|refine jj ?_|refine jk ?_|refine jl ?_|refine jm ?_|refine jn ?_|refine jo ?_|refine jp ?_|refine jq ?_|refine jr ?_|refine js ?_|refine jt ?_|refine ju ?_|refine jv ?_|refine jw ?_|refine jx ?_|refine jy ?_|refine jz ?_|refine jA ?_|refine jB ?_|refine jC ?_|refine jD ?_|refine jE ?_|refine jF ?_|refine jG ?_|refine jH ?_|refine jI ?_|refine jJ ?_|refine jK ?_|refine jL ?_|refine jM (by assumption) ?_|refine jN (by assumption) rfl ?_|refine jO (by assumption) ?_|refine jP (by assumption) rfl ?_|refine jQ ?_|refine jR ?_|refine jS ?_|refine jT ?_|refine jU (by assumption) rfl ?_))
      have hsh : ∀ (n' : Nat) (L' : List Int) (w' : World) (hn' : (n' < 2 ∧ FrI t c.lits (i + 1) n' L') ∨ (n' = 2 ∧ FrontP t c.lits 2 L')), GI w' (ow · = 8 + 3 * c.n) (.slice A c.lits.length cap) L' → Keep w w' (ow · = 8 + 3 * c.n) → ∀ (_ : List Value),
          M.bin .eql (vi n') (Value.int IntKind.i64 2) (fun t51 w => M.cond t51 (K [vi n'] w) (M.bin .add (vi i) (Value.int IntKind.i64 1) (fun t52 w => K2 [vi n', t52] w) w)) w' := by
        intro n' L' w' hn' g' k' _
        rcases hn' with ⟨h2, hF'⟩ | ⟨rfl, hF'⟩
        · (repeat (first|refine ja ?_|refine jb ?_|refine jc ?_|refine jd ?_|refine je ?_|refine jf ?_|refine jg ?_|refine jh ?_|refine ji ?_|refine jj ?_|refine jk ?_|refine jl ?_|refine jm ?_|refine jn ?_|refine jo ?_|refine jp ?_|refine jq ?_|refine jr ?_|refine js ?_|refine jt ?_|refine ju ?_|refine jv ?_|refine jw ?_|refine jx ?_|refine jy ?_|refine jz ?_|refine jA ?_|refine jB ?_|refine jC ?_|refine jD ?_|refine jE ?_|refine jF ?_|refine jG ?_|refine jH ?_|refine jI ?_|refine jJ ?_|refine jK ?_|refine jL ?_|refine jM (by assumption) ?_|refine jN (by assumption) rfl ?_|refine jO (by assumption) ?_|refine jP (by assumption) rfl ?_|refine jQ ?_|refine jR ?_|refine jS ?_|refine jT ?_|refine jU (by assumption) rfl ?_))
          exact hK2 (i + 1) _ _ (by omega) ⟨n', L', rfl, hF', g', k'⟩
        · (repeat (first|refine ja ?_|refine jb ?_|refine jc ?_|refine jd ?_|refine je ?_|refine jf ?_|refine jg ?_|refine jh ?_|refine ji ?_|refine jj ?_|refine jk ?_|refine jl ?_|refine jm ?_|refine jn ?_|refine jo ?_|refine jp ?_|refine jq ?_|refine jr ?_|refine js ?_|refine jt ?_|refine ju ?_|refine jv ?_|refine jw ?_|refine jx ?_|refine jy ?_|refine jz ?_|refine jA ?_|refine jB ?_|refine jC ?_|refine jD ?_|refine jE ?_|refine jF ?_|refine jG ?_|refine jH ?_|refine jI ?_|refine jJ ?_|refine jK ?_|refine jL ?_|refine jM (by assumption) ?_|refine jN (by assumption) rfl ?_|refine jO (by assumption) ?_|refine jP (by assumption) rfl ?_|refine jQ ?_|refine jR ?_|refine jS ?_|refine jT ?_|refine jU (by assumption) rfl ?_|refine jG ?_ (by decide)|refine jH ?_ (by decide)|refine jI ?_ (by decide)|refine jJ ?_ (by decide)|refine jC ?_ (by decide)|refine jy ?_ (by decide)))
          exact hK _ _ ⟨2, L', rfl, hF', g', k'⟩
      refine M.share_j (fun vals w' => ∃ (n' : Nat) (L' : List Int), vals = [vi n'] ∧ ((n' < 2 ∧ FrI t c.lits (i + 1) n' L') ∨ (n' = 2 ∧ FrontP t c.lits 2 L')) ∧ GI w' (ow · = 8 + 3 * c.n) (.slice A c.lits.length cap) L' ∧ Keep w w' (ow · = 8 + 3 * c.n)) ?_ ?_
      · rintro vals w' ⟨n', L', rfl, h1, h2, h3⟩
        exact hsh n' L' w' h1 h2 h3
      · intro K3 hK3
        have ht1 := h.tr.keep k1 (fun b _ e e2 => by have := h.ap b e; omega)
        refine M.call_i (value_ret ht1 x) ?_; rintro _ w2 ⟨rfl, k2⟩
        have k02 := k1.trans k2 (fun _ _ e => e.elim)
        have g2 := g1.keep k2 (fun _ _ _ e => e)
        by_cases hv : 0 ≤ t.val x
        · (repeat (first|refine ja ?_|refine jb ?_|refine jc ?_|refine jd ?_|refine je ?_|refine jf ?_|refine jg ?_|refine jh ?_|refine ji ?_|refine jj ?_|refine jk ?_|refine jl ?_|refine jm ?_|refine jn ?_|refine jo ?_|refine jp ?_|refine jq ?_|refine jr ?_|refine js ?_|refine jt ?_|refine ju ?_|refine jv ?_|refine jw ?_|refine jx ?_|refine jy ?_|refine jz ?_|refine jA ?_|refine jB ?_|refine jC ?_|refine jD ?_|refine jE ?_|refine jF ?_|refine jG ?_|refine jH ?_|refine jI ?_|refine jJ ?_|refine jK ?_|refine jL ?_|refine jM (by assumption) ?_|refine jN (by assumption) rfl ?_|refine jO (by assumption) ?_|refine jP (by assumption) rfl ?_|refine jQ ?_|refine jR ?_|refine jS ?_|refine jT ?_|refine jU (by assumption) rfl ?_))
          have kd := Keep.drew w2 No
          have g2 := g2.keep kd (fun _ _ _ e => e)
          have k02 := k02.trans kd (fun _ _ e => e.elim)
          have hb2 := hb.keep k02 (by omega)
          generalize w2.drew = w3 at *
          have hr2 : Row w3 (ow · = 8 + 3 * c.n) A (L.map vi) := by
            obtain ⟨A', c', e, hr, _⟩ := GC.row2 g2 (by omega)
            simp only [Value.slice.injEq] at e
            rw [e.1]; exact hr
          (repeat (first|refine ja ?_|refine jb ?_|refine jc ?_|refine jd ?_|refine je ?_|refine jf ?_|refine jg ?_|refine jh ?_|refine ji ?_|refine jj ?_|refine jk ?_|refine jl ?_|refine jm ?_|refine jn ?_|refine jo ?_|refine jp ?_|refine jq ?_|refine jr ?_|refine js ?_|refine jt ?_|refine ju ?_|refine jv ?_|refine jw ?_|refine jx ?_|refine jy ?_|refine jz ?_|refine jA ?_|refine jB ?_|refine jC ?_|refine jD ?_|refine jE ?_|refine jF ?_|refine jG ?_|refine jH ?_|refine jI ?_|refine jJ ?_|refine jK ?_|refine jL ?_|refine jM (by assumption) ?_|refine jN (by assumption) rfl ?_|refine jO (by assumption) ?_|refine jP (by assumption) rfl ?_|refine jQ ?_|refine jR ?_|refine jS ?_|refine jT ?_|refine jU (by assumption) rfl ?_))
          refine M.idxLV_i hr2 hLl (by omega) (by omega) (x := x) (by simpa using hx) (fun bb oo hA hcc => ?_)
          (repeat (first|refine ja ?_|refine jb ?_|refine jc ?_|refine jd ?_|refine je ?_|refine jf ?_|refine jg ?_|refine jh ?_|refine ji ?_|refine jj ?_|refine jk ?_|refine jl ?_|refine jm ?_|refine jn ?_|refine jo ?_|refine jp ?_|refine jq ?_|refine jr ?_|refine js ?_|refine jt ?_|refine ju ?_|refine jv ?_|refine jw ?_|refine jx ?_|refine jy ?_|refine jz ?_|refine jA ?_|refine jB ?_|refine jC ?_|refine jD ?_|refine jE ?_|refine jF ?_|refine jG ?_|refine jH ?_|refine jI ?_|refine jJ ?_|refine jK ?_|refine jL ?_|refine jM (by assumption) ?_|refine jN (by assumption) rfl ?_|refine jO (by assumption) ?_|refine jP (by assumption) rfl ?_|refine jQ ?_|refine jR ?_|refine jS ?_|refine jT ?_|refine jU (by assumption) rfl ?_))
          refine M.idxLV_i hr2 hLl (by omega) (by omega) (x := y) (by simpa using hy) (fun bb oo hA hcc => ?_)
          (repeat (first|refine ja ?_|refine jb ?_|refine jc ?_|refine jd ?_|refine je ?_|refine jf ?_|refine jg ?_|refine jh ?_|refine ji ?_|refine jj ?_|refine jk ?_|refine jl ?_|refine jm ?_|refine jn ?_|refine jo ?_|refine jp ?_|refine jq ?_|refine jr ?_|refine js ?_|refine jt ?_|refine ju ?_|refine jv ?_|refine jw ?_|refine jx ?_|refine jy ?_|refine jz ?_|refine jA ?_|refine jB ?_|refine jC ?_|refine jD ?_|refine jE ?_|refine jF ?_|refine jG ?_|refine jH ?_|refine jI ?_|refine jJ ?_|refine jK ?_|refine jL ?_|refine jM (by assumption) ?_|refine jN (by assumption) rfl ?_|refine jO (by assumption) ?_|refine jP (by assumption) rfl ?_|refine jQ ?_|refine jR ?_|refine jS ?_|refine jT ?_|refine jU (by assumption) rfl ?_))
          rw [← hLl] at g2 ⊢
          refine M.idxStore_i g2 (by omega) (by omega) (fun w4 g4 k4 s4 => ?_)
          rw [Int.toNat_natCast] at g4
          have g4' : GI w4 (ow · = 8 + 3 * c.n) (.slice A (L.set n x).length cap) (L.set n x) := by simpa [GI] using g4
          rw [show L.length = (L.set n x).length by simp]
          refine M.idxStore_i g4' (by omega) (by simp; omega) (fun w5 g5 k5 s5 => ?_)
          rw [Int.toNat_natCast] at g5
          have k05 := (k02.trans k4 (fun _ _ e => e)).trans k5 (fun _ _ e => e)
          have g5' : GI w5 (ow · = 8 + 3 * c.n) (.slice A c.lits.length cap) ((L.set n x).set i y) := by simpa [GI, hLl] using g5
          obtain ⟨p1, p2, p3⟩ := hF.swap hx hy hv
          (repeat (first|refine ja ?_|refine jb ?_|refine jc ?_|refine jd ?_|refine je ?_|refine jf ?_|refine jg ?_|refine jh ?_|refine ji ?_|refine jj ?_|refine jk ?_|refine jl ?_|refine jm ?_|refine jn ?_|refine jo ?_|refine jp ?_|refine jq ?_|refine jr ?_|refine js ?_|refine jt ?_|refine ju ?_|refine jv ?_|refine jw ?_|refine jx ?_|refine jy ?_|refine jz ?_|refine jA ?_|refine jB ?_|refine jC ?_|refine jD ?_|refine jE ?_|refine jF ?_|refine jG ?_|refine jH ?_|refine jI ?_|refine jJ ?_|refine jK ?_|refine jL ?_|refine jM (by assumption) ?_|refine jN (by assumption) rfl ?_|refine jO (by assumption) ?_|refine jP (by assumption) rfl ?_|refine jQ ?_|refine jR ?_|refine jS ?_|refine jT ?_|refine jU (by assumption) rfl ?_))
          refine hK3 _ _ ⟨n + 1, (L.set n x).set i y, rfl, ?_, g5', k05⟩
          by_cases e : n = 1
          · subst e
            exact .inr ⟨rfl, ⟨p1, by omega, by simp; omega, p2, fun h2 => by omega⟩⟩
          · exact .inl ⟨by omega, ⟨p1, by omega, by omega, by simp; omega, p2, p3⟩⟩
        · (repeat (first|refine ja ?_|refine jb ?_|refine jc ?_|refine jd ?_|refine je ?_|refine jf ?_|refine jg ?_|refine jh ?_|refine ji ?_|refine jj ?_|refine jk ?_|refine jl ?_|refine jm ?_|refine jn ?_|refine jo ?_|refine jp ?_|refine jq ?_|refine jr ?_|refine js ?_|refine jt ?_|refine ju ?_|refine jv ?_|refine jw ?_|refine jx ?_|refine jy ?_|refine jz ?_|refine jA ?_|refine jB ?_|refine jC ?_|refine jD ?_|refine jE ?_|refine jF ?_|refine jG ?_|refine jH ?_|refine jI ?_|refine jJ ?_|refine jK ?_|refine jL ?_|refine jM (by assumption) ?_|refine jN (by assumption) rfl ?_|refine jO (by assumption) ?_|refine jP (by assumption) rfl ?_|refine jQ ?_|refine jR ?_|refine jS ?_|refine jT ?_|refine jU (by assumption) rfl ?_))
          refine hK3 _ _ ⟨n, L, rfl, .inl ⟨hn2, hF.perm, hn2, by omega, by omega, hF.ge, fun j z h1 h2 hz => ?_⟩, g2, k02⟩
          by_cases e : j = i
          · subst e
            rw [hx] at hz; cases hz; omega
          · exact hF.lt j z h1 (by omega) hz
    · (repeat (first|refine ja ?_|refine jb ?_|refine jc ?_|refine jd ?_|refine je ?_|refine jf ?_|refine jg ?_|refine jh ?_|refine ji ?_|refine jj ?_|refine jk ?_|refine jl ?_|refine jm ?_|refine jn ?_|refine jo ?_|refine jp ?_|refine jq ?_|refine jr ?_|refine js ?_|refine jt ?_|refine ju ?_|refine jv ?_|refine jw ?_|refine jx ?_|refine jy ?_|refine jz ?_|refine jA ?_|refine jB ?_|refine jC ?_|refine jD ?_|refine jE ?_|refine jF ?_|refine jG ?_|refine jH ?_|refine jI ?_|refine jJ ?_|refine jK ?_|refine jL ?_|refine jM (by assumption) ?_|refine jN (by assumption) rfl ?_|refine jO (by assumption) ?_|refine jP (by assumption) rfl ?_|refine jQ ?_|refine jR ?_|refine jS ?_|refine jT ?_|refine jU (by assumption) rfl ?_))
      exact hK _ _ ⟨n, L, rfl, ⟨hF.perm, by omega, by omega, hF.ge, fun _ j x h1 hx => hF.lt j x h1 (by have := (List.getElem?_eq_some_iff.1 hx).1; omega) hx⟩, g1, k1⟩
end
end Go.Proofs.Ytnmbgfonlpjicaa
