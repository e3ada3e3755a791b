import Derived.Test.YthcfmfkigioaeaaStab13b
namespace Go.Proofs.Ythcfmfkigioaeaa
open Go.Mw
set_option linter.unusedVariables false
set_option linter.unusedSimpArgs false
set_option maxRecDepth 100000
attribute [local irreducible] M.val M.unit M.next M.pick M.new M.nilCheck M.load1 M.loadA M.store M.fieldAddr M.indexSl M.indexArr M.slice M.makeSlice M.buildSlice M.len M.lenS M.cap M.append M.extract M.conv M.not M.neg M.bin M.shift M.eqB M.eqNil M.call M.callv M.gd M.share M.cond M.loop M.draw pureW readW Ret
/-! slices.stableCmpFunc[int]: function 17 -/
def sh17 (x0 x1 x2 : Value) (R : Kt) (w : World) : Prop :=
  M.loop [(Value.int IntKind.i64 0), (Value.int IntKind.i64 20)] (fun s1 K1 w => ∀ _ : List Value,
  M.bin .leq (s1.getD 1 undef) x1 (fun t13 w =>
  M.cond t13
  (M.call Try.prog 19 #[x0, (s1.getD 0 undef), (s1.getD 1 undef), x2] (fun t18 w =>
  M.bin .add (s1.getD 1 undef) (Value.int IntKind.i64 20) (fun t22 w =>
  K1 [(s1.getD 1 undef), t22] w) w) w)
  (M.call Try.prog 19 #[x0, (s1.getD 0 undef), x1, x2] (fun t27 w =>
  M.loop [(Value.int IntKind.i64 20)] (fun s2 K2 w => ∀ _ : List Value,
  M.bin .lss (s2.getD 0 undef) x1 (fun t30 w =>
  M.cond t30
  (M.bin .mul (Value.int IntKind.i64 2) (s2.getD 0 undef) (fun t32 w =>
  M.loop [(Value.int IntKind.i64 0), t32] (fun s3 K3 w => ∀ _ : List Value,
  M.bin .leq (s3.getD 1 undef) x1 (fun t35 w =>
  M.cond t35
  (M.bin .add (s3.getD 0 undef) (s2.getD 0 undef) (fun t40 w =>
  M.call Try.prog 20 #[x0, (s3.getD 0 undef), t40, (s3.getD 1 undef), x2] (fun t43 w =>
  M.bin .mul (Value.int IntKind.i64 2) (s2.getD 0 undef) (fun t47 w =>
  M.bin .add (s3.getD 1 undef) t47 (fun t48 w =>
  K3 [(s3.getD 1 undef), t48] w) w) w) w) w)
  (M.share (fun K4 w =>
  M.bin .add (s3.getD 0 undef) (s2.getD 0 undef) (fun t51 w =>
  M.bin .lss t51 x1 (fun t54 w =>
  M.cond t54
  (M.call Try.prog 20 #[x0, (s3.getD 0 undef), t51, x1, x2] (fun t60 w =>
  K4 [] w) w)
  (K4 [] w)) w) w) (fun s4 w => ∀ _ : List Value,
  M.bin .mul (s2.getD 0 undef) (Value.int IntKind.i64 2) (fun t62 w =>
  K2 [t62] w) w) w)) w) w) w)
  (R (.tuple #[]) w)) w) w) w)) w) w
theorem ok17 (x0 x1 x2 : Value) (R : Kt) (w : World) (h : sh17 x0 x1 x2 R w) : Ret Try.prog 17 #[x0, x1, x2] w R :=
  ret_mk <| calls_of_comp mixed (c := Try.f17.body.getD .skip) (args := [x0, x1, x2]) (rs := []) (Ann.seq Ann.text (Ann.seq Ann.text (Ann.seq (Ann.block (Ann.loop [7, 8] [11, 12, 13, 14, 15, 16, 17, 18, 19, 20, 21, 22] (Ann.seq (Ann.seq Ann.text (Ann.cond Ann.leaf Ann.leaf)) (Ann.block (Ann.seq Ann.text (Ann.seq Ann.text Ann.text)))))) (Ann.seq Ann.text (Ann.block (Ann.loop [6] [7, 8, 9, 28, 29, 30, 31, 32, 33, 34, 35, 36, 37, 38, 39, 40, 41, 42, 43, 44, 45, 46, 47, 48, 49, 50, 51, 52, 53, 54, 55, 56, 57, 58, 59, 60, 61, 62] (Ann.seq (Ann.seq Ann.text (Ann.cond Ann.leaf Ann.leaf)) (Ann.block (Ann.seq Ann.text (Ann.seq (Ann.block (Ann.loop [7, 8] [33, 34, 35, 36, 37, 38, 39, 40, 41, 42, 43, 44, 45, 46, 47, 48] (Ann.seq (Ann.seq Ann.text (Ann.cond Ann.leaf Ann.leaf)) (Ann.block (Ann.seq Ann.text (Ann.seq Ann.text Ann.text)))))) (Ann.join [] [9, 49, 50, 51, 52, 53, 54, 55, 56, 57, 58, 59, 60] (Ann.seq Ann.text (Ann.seq Ann.text (Ann.cond Ann.text Ann.leaf))) Ann.text)))))))))))
    Try.func17 (by kernel_rfl) (by kernel_rfl)
    (Eq.mp (by kernel_rfl) h)
/-! slices.SortStableFunc[[]int,int]: function 12 -/
def sh12 (x0 x1 : Value) (R : Kt) (w : World) : Prop :=
  M.len x0 (fun t6 w =>
  M.call Try.prog 17 #[x0, t6, x1] (fun t8 w =>
  R (.tuple #[]) w) w) w
theorem ok12 (x0 x1 : Value) (R : Kt) (w : World) (h : sh12 x0 x1 R w) : Ret Try.prog 12 #[x0, x1] w R :=
  ret_mk <| calls_of_comp mixed (c := Try.f12.body.getD .skip) (args := [x0, x1]) (rs := []) Ann.text
    Try.func12 (by kernel_rfl) (by kernel_rfl)
    (Eq.mp (by kernel_rfl) h)

structure Blks (lt : Int → Int → Bool) (f f0 : Nat → Int) (bs n : Nat) : Prop where
  sg : ∀ k, Sg lt f (k * bs) (min (k * bs + bs) n)
  mb : ∀ k, k * bs ≤ n → (∀ x, In f 0 (k * bs) x ↔ In f0 0 (k * bs) x) ∧ ∀ x, In f (k * bs) n x ↔ In f0 (k * bs) n x
theorem cross_of {f f0 : Nat → Int} {c n i j : Nat} (hup : ∀ i j, i < j → j < n → f0 i < f0 j) (h1 : ∀ x, In f 0 c x ↔ In f0 0 c x) (h2 : ∀ x, In f c n x ↔ In f0 c n x) (hi : i < c) (hc : c ≤ j) (hj : j < n) : f i < f j := by
  obtain ⟨p, p1, p2, p3⟩ := (h1 _).1 (In.mk (Nat.zero_le i) hi)
  obtain ⟨q, q1, q2, q3⟩ := (h2 _).1 (In.mk hc hj)
  rw [← p3, ← q3]; exact hup p q (by omega) q2
section
variable {L : Nat → Prop} {v g : Value} {I : World → Prop} {lt : Int → Int → Bool} {Okk : Int → Prop}
theorem okk_of {xs ys : List Int} {n : Nat} (hok : ∀ j, j < n → Okk (fn xs j)) (h : ∀ x, In (fn ys) 0 n x ↔ In (fn xs) 0 n x) : ∀ j, j < n → Okk (fn ys j) := fun j hj => by
  obtain ⟨p, _, p2, p3⟩ := (h _).1 (In.mk (Nat.zero_le j) hj)
  rw [← p3]; exact hok p p2
set_option maxHeartbeats 2000000 in
theorem stable_ret (hw : Wk lt) (hc : CmpF g I lt Okk) (hIk : ∀ w w', I w → Keep w w' L → I w') {w : World} {xs : List Int} (h : GI w L v xs) (hf : Few xs.length) (hI : I w) (hok : ∀ j, j < xs.length → Okk (fn xs j)) (hup : ∀ i j, i < j → j < xs.length → fn xs i < fn xs j) :
    Ret Try.prog 17 #[v, vi xs.length, g] w (fun r w' => r = .tuple #[] ∧ ∃ ys, GI w' L v ys ∧ ys.length = xs.length ∧ Sg lt (fn ys) 0 xs.length ∧ (∀ x, In (fn ys) 0 xs.length x ↔ In (fn xs) 0 xs.length x) ∧ Keep w w' L) := by
  have hfx : xs.length ≤ 100000000000 := hf
  generalize hn : xs.length = n at *
  refine ok17 _ _ _ _ _ ?_
  unfold sh17
  refine M.loop_i (σ := Nat) (fun k vals w' => ∃ ys, vals = [vi (20 * k : Nat), vi (20 * k + 20 : Nat)] ∧ 20 * k ≤ n ∧ GI w' L v ys ∧ ys.length = n ∧ (∀ k', k' < k → Sg lt (fn ys) (20 * k') (20 * k' + 20)) ∧ (∀ j, 20 * k ≤ j → fn ys j = fn xs j) ∧
      (∀ c, c ≤ n → (c % 20 = 0 ∨ 20 * k ≤ c) → (∀ x, In (fn ys) 0 c x ↔ In (fn xs) 0 c x) ∧ ∀ x, In (fn ys) c n x ↔ In (fn xs) c n x) ∧ Keep w w' L) (fun k => n - 20 * k) 0
    ⟨xs, rfl, by omega, h, hn, fun k' hk => by omega, fun _ _ => rfl, fun _ _ _ => ⟨fun _ => Iff.rfl, fun _ => Iff.rfl⟩, Keep.refl _ _⟩ ?_
  rintro k vals w1 K ⟨ys, rfl, hk, g1, hl, hsg, hhi, hmb, k1⟩ hK _
  simp only [List.getD_cons_zero, List.getD_cons_succ]
  have hall := (hmb n (Nat.le_refl _) (.inr hk)).1
  have hoky := okk_of hok hall
  have hupy : ∀ i j, 20 * k ≤ i → i < j → j < n → fn ys i < fn ys j := fun i j h1 h2 h3 => by rw [hhi i h1, hhi j (by omega)]; exact hup i j h2 h3
  by_cases hlt : 20 * k + 20 ≤ n
  · (repeat (first|refine ja ?_|refine jb ?_|refine jc ?_|refine jd ?_|refine je ?_|refine jf ?_|refine jg ?_|refine jh ?_|refine ji ?_|refine jj ?_|refine jk ?_|refine jl ?_|refine jm ?_|refine jn ?_|refine jo ?_|refine jp ?_|refine jq ?_|refine jr ?_|refine js ?_|refine jt ?_|refine ju ?_|refine jv ?_|refine jw ?_|refine jx ?_|refine jy ?_|refine jz ?_|refine jA ?_|refine jB ?_|refine jC ?_|refine jD ?_|refine jE ?_|refine jF ?_|refine jG ?_|refine jH ?_|refine jI ?_|refine jJ ?_|refine jK ?_|refine jL ?_|refine jM (by assumption) ?_|refine jN (by assumption) rfl ?_|refine jO (by assumption) ?_|refine jP (by assumption) rfl ?_|refine jQ ?_|refine jR ?_|refine jS ?_|refine jT ?_|refine jU (by assumption) rfl ?_))
    refine M.call_i (insort_ret hw g1 (by rw [hl]; exact hfx) hc (hIk _ _ hI k1) hIk (a := 20 * k) (b := 20 * k + 20) (by omega) (by omega) (fun j _ h2 => hoky j (by omega)) (fun i j h1 h2 h3 => hupy i j h1 h2 (by omega))) ?_; rintro _ w2 ⟨rfl, zs, g2, hl2, hs2, hch2, k2⟩
    (repeat (first|refine ja ?_|refine jb ?_|refine jc ?_|refine jd ?_|refine je ?_|refine jf ?_|refine jg ?_|refine jh ?_|refine ji ?_|refine jj ?_|refine jk ?_|refine jl ?_|refine jm ?_|refine jn ?_|refine jo ?_|refine jp ?_|refine jq ?_|refine jr ?_|refine js ?_|refine jt ?_|refine ju ?_|refine jv ?_|refine jw ?_|refine jx ?_|refine jy ?_|refine jz ?_|refine jA ?_|refine jB ?_|refine jC ?_|refine jD ?_|refine jE ?_|refine jF ?_|refine jG ?_|refine jH ?_|refine jI ?_|refine jJ ?_|refine jK ?_|refine jL ?_|refine jM (by assumption) ?_|refine jN (by assumption) rfl ?_|refine jO (by assumption) ?_|refine jP (by assumption) rfl ?_|refine jQ ?_|refine jR ?_|refine jS ?_|refine jT ?_|refine jU (by assumption) rfl ?_))
    refine hK (k + 1) _ _ (by omega) ⟨zs, ?_, by omega, g2, by omega, fun k' hk' => ?_, fun j hj => ?_, fun c hc1 hc2 => ?_, k1.trans k2 (fun _ _ h => h)⟩
    · simp only [List.cons.injEq, Value.int.injEq, true_and, and_true]; omega
    · by_cases e : k' = k
      · subst e; exact hs2
      · exact (hsg k' (by omega)).congr (fun j _ hj => (hch2.out j (.inl (by omega))).symm)
    · rw [hch2.out j (.inr (by omega))]; exact hhi j (by omega)
    · have h1 := hmb c hc1 (by omega)
      have h2 := hch2.mb (n := n) (c := c) (by omega) hlt (by omega) hc1
      exact ⟨fun x => (h2.1 x).trans (h1.1 x), fun x => (h2.2 x).trans (h1.2 x)⟩
  · (repeat (first|refine ja ?_|refine jb ?_|refine jc ?_|refine jd ?_|refine je ?_|refine jf ?_|refine jg ?_|refine jh ?_|refine ji ?_|refine jj ?_|refine jk ?_|refine jl ?_|refine jm ?_|refine jn ?_|refine jo ?_|refine jp ?_|refine jq ?_|refine jr ?_|refine js ?_|refine jt ?_|refine ju ?_|refine jv ?_|refine jw ?_|refine jx ?_|refine jy ?_|refine jz ?_|refine jA ?_|refine jB ?_|refine jC ?_|refine jD ?_|refine jE ?_|refine jF ?_|refine jG ?_|refine jH ?_|refine jI ?_|refine jJ ?_|refine jK ?_|refine jL ?_|refine jM (by assumption) ?_|refine jN (by assumption) rfl ?_|refine jO (by assumption) ?_|refine jP (by assumption) rfl ?_|refine jQ ?_|refine jR ?_|refine jS ?_|refine jT ?_|refine jU (by assumption) rfl ?_))
    refine M.call_i (insort_ret hw g1 (by rw [hl]; exact hfx) hc (hIk _ _ hI k1) hIk (a := 20 * k) (b := n) hk (by omega) (fun j _ h2 => hoky j h2) hupy) ?_; rintro _ w2 ⟨rfl, zs, g2, hl2, hs2, hch2, k2⟩
    have k02 := k1.trans k2 (fun _ _ h => h)
    have hb0 : Blks lt (fn zs) (fn xs) 20 n := by
      refine ⟨fun q => ?_, fun q hq => ?_⟩
      · rw [show q * 20 = 20 * q by omega]
        by_cases c1 : q < k
        · rw [show min (20 * q + 20) n = 20 * q + 20 by omega]
          exact (hsg q c1).congr (fun j _ hj => (hch2.out j (.inl (by omega))).symm)
        · by_cases c2 : q = k
          · subst c2
            rw [show min (20 * q + 20) n = n by omega]; exact hs2
          · intro i j h1 h2 h3; omega
      · have h1 := hmb (q * 20) hq (.inl (by omega))
        have h2 := hch2.mb (n := n) (c := q * 20) hk (Nat.le_refl _) (by omega) hq
        exact ⟨fun x => (h2.1 x).trans (h1.1 x), fun x => (h2.2 x).trans (h1.2 x)⟩
    refine M.loop_i (σ := Nat) (fun bs vals w' => ∃ ys, vals = [vi bs] ∧ 0 < bs ∧ bs ≤ 2 * n + 20 ∧ GI w' L v ys ∧ ys.length = n ∧ Blks lt (fn ys) (fn xs) bs n ∧ Keep w w' L) (fun bs => 2 * n - bs) 20
      ⟨zs, rfl, by omega, by omega, g2, by omega, hb0, k02⟩ ?_
    rintro bs vals w3 K2 ⟨ps, rfl, hbs, hbn, g3, hl3, hB, k3⟩ hK2 _
    simp only [List.getD_cons_zero, List.getD_cons_succ]
    by_cases hbl : bs < n
    · (repeat (first|refine ja ?_|refine jb ?_|refine jc ?_|refine jd ?_|refine je ?_|refine jf ?_|refine jg ?_|refine jh ?_|refine ji ?_|refine jj ?_|refine jk ?_|refine jl ?_|refine jm ?_|refine jn ?_|refine jo ?_|refine jp ?_|refine jq ?_|refine jr ?_|refine js ?_|refine jt ?_|refine ju ?_|refine jv ?_|refine jw ?_|refine jx ?_|refine jy ?_|refine jz ?_|refine jA ?_|refine jB ?_|refine jC ?_|refine jD ?_|refine jE ?_|refine jF ?_|refine jG ?_|refine jH ?_|refine jI ?_|refine jJ ?_|refine jK ?_|refine jL ?_|refine jM (by assumption) ?_|refine jN (by assumption) rfl ?_|refine jO (by assumption) ?_|refine jP (by assumption) rfl ?_|refine jQ ?_|refine jR ?_|refine jS ?_|refine jT ?_|refine jU (by assumption) rfl ?_))
      refine M.mul_i (by omega) (by omega) ?_
      refine M.loop_i (σ := Nat) (fun k vals w' => ∃ ys, vals = [vi (k * (2 * bs) : Nat), vi (k * (2 * bs) + 2 * bs : Nat)] ∧ k * (2 * bs) ≤ n ∧ GI w' L v ys ∧ ys.length = n ∧ (∀ k', k' < k → Sg lt (fn ys) (k' * (2 * bs)) (k' * (2 * bs) + 2 * bs)) ∧ (∀ j, k * (2 * bs) ≤ j → fn ys j = fn ps j) ∧
          (∀ q, q * (2 * bs) ≤ n → (∀ x, In (fn ys) 0 (q * (2 * bs)) x ↔ In (fn xs) 0 (q * (2 * bs)) x) ∧ ∀ x, In (fn ys) (q * (2 * bs)) n x ↔ In (fn xs) (q * (2 * bs)) n x) ∧ Keep w w' L) (fun k => n - k * (2 * bs)) 0
        ⟨ps, by simp, by omega, g3, hl3, fun k' hk => by omega, fun _ _ => rfl, fun q hq => by
          have e : q * (2 * bs) = (q * 2) * bs := (Nat.mul_assoc q 2 bs).symm
          rw [e]; exact hB.mb (q * 2) (by rw [← e]; exact hq), k3⟩ ?_
      rintro k vals w4 K3 ⟨qs, rfl, hka, g4, hl4, hsg4, hhi4, hmb4, k4⟩ hK3 _
      simp only [List.getD_cons_zero, List.getD_cons_succ]
      obtain ⟨a, ha⟩ : ∃ a, k * (2 * bs) = a := ⟨_, rfl⟩
      rw [ha] at hka hhi4 ⊢
      have ea1 : (2 * k) * bs = a := by rw [← ha, Nat.mul_comm 2 k, Nat.mul_assoc]
      have ea2 : (2 * k + 1) * bs = a + bs := by rw [Nat.succ_mul, ea1]
      have hmbn := (hmb4 0 (by omega)).2
      rw [Nat.zero_mul] at hmbn
      have hokq := okk_of hok hmbn
      have sA : Sg lt (fn qs) a (min (a + bs) n) := by
        have := hB.sg (2 * k)
        rw [ea1] at this
        exact this.congr (fun j hj _ => (hhi4 j hj).symm)
      have sB : Sg lt (fn qs) (a + bs) (min (a + bs + bs) n) := by
        have := hB.sg (2 * k + 1)
        rw [ea2] at this
        exact this.congr (fun j hj _ => (hhi4 j (by omega)).symm)
      have cr : a + bs ≤ n → ∀ i j, a ≤ i → i < a + bs → a + bs ≤ j → j < n → fn qs i < fn qs j := fun hle i j h1 h2 h3 h4 => by
        rw [hhi4 i h1, hhi4 j (by omega)]
        have h5 := hB.mb (2 * k + 1) (by rw [ea2]; exact hle)
        rw [ea2] at h5
        exact cross_of hup h5.1 h5.2 h2 h3 h4
      have mult : ∀ q, q * (2 * bs) ≤ a ∨ a + 2 * bs ≤ q * (2 * bs) := fun q => by
        by_cases c : q ≤ k
        · left; rw [← ha]; exact Nat.mul_le_mul_right _ c
        · right
          have := Nat.mul_le_mul_right (2 * bs) (show k + 1 ≤ q by omega)
          rw [Nat.succ_mul, ha] at this; exact this
      by_cases hfull : a + 2 * bs ≤ n
      · (repeat (first|refine ja ?_|refine jb ?_|refine jc ?_|refine jd ?_|refine je ?_|refine jf ?_|refine jg ?_|refine jh ?_|refine ji ?_|refine jj ?_|refine jk ?_|refine jl ?_|refine jm ?_|refine jn ?_|refine jo ?_|refine jp ?_|refine jq ?_|refine jr ?_|refine js ?_|refine jt ?_|refine ju ?_|refine jv ?_|refine jw ?_|refine jx ?_|refine jy ?_|refine jz ?_|refine jA ?_|refine jB ?_|refine jC ?_|refine jD ?_|refine jE ?_|refine jF ?_|refine jG ?_|refine jH ?_|refine jI ?_|refine jJ ?_|refine jK ?_|refine jL ?_|refine jM (by assumption) ?_|refine jN (by assumption) rfl ?_|refine jO (by assumption) ?_|refine jP (by assumption) rfl ?_|refine jQ ?_|refine jR ?_|refine jS ?_|refine jT ?_|refine jU (by assumption) rfl ?_))
        have e1 : ((a : Int) + bs) = ((a + bs : Nat) : Int) := by omega
        rw [e1]
        rw [show min (a + bs) n = a + bs by omega] at sA
        rw [show min (a + bs + bs) n = a + 2 * bs by omega] at sB
        refine M.call_i (symMerge_ret hw hc hIk (2 * bs) (a := a) (m := a + bs) (b := a + 2 * bs) (by omega) g4 (by rw [hl4]; exact hfx) (hIk _ _ hI k4) (by omega) (by omega) (by omega) (fun j _ h2 => hokq j (by omega)) sA sB (fun i j h1 h2 h3 h4 => cr (by omega) i j h1 h2 h3 (by omega))) ?_; rintro _ w5 ⟨rfl, us, g5, hl5, hs5, hch5, k5⟩
        refine M.mul_i (by omega) (by omega) ?_
        (repeat (first|refine ja ?_|refine jb ?_|refine jc ?_|refine jd ?_|refine je ?_|refine jf ?_|refine jg ?_|refine jh ?_|refine ji ?_|refine jj ?_|refine jk ?_|refine jl ?_|refine jm ?_|refine jn ?_|refine jo ?_|refine jp ?_|refine jq ?_|refine jr ?_|refine js ?_|refine jt ?_|refine ju ?_|refine jv ?_|refine jw ?_|refine jx ?_|refine jy ?_|refine jz ?_|refine jA ?_|refine jB ?_|refine jC ?_|refine jD ?_|refine jE ?_|refine jF ?_|refine jG ?_|refine jH ?_|refine jI ?_|refine jJ ?_|refine jK ?_|refine jL ?_|refine jM (by assumption) ?_|refine jN (by assumption) rfl ?_|refine jO (by assumption) ?_|refine jP (by assumption) rfl ?_|refine jQ ?_|refine jR ?_|refine jS ?_|refine jT ?_|refine jU (by assumption) rfl ?_))
        have e2 : (k + 1) * (2 * bs) = a + 2 * bs := by rw [Nat.succ_mul, ha]
        refine hK3 (k + 1) _ _ (by rw [e2]; omega) ⟨us, ?_, by rw [e2]; exact hfull, g5, by omega, fun k' hk' => ?_, fun j hj => ?_, fun q hq => ?_, k4.trans k5 (fun _ _ h => h)⟩
        · rw [e2]
          simp only [List.cons.injEq, Value.int.injEq, true_and, and_true]; omega
        · by_cases e : k' = k
          · subst e; rw [ha]; exact hs5
          · have hle := Nat.mul_le_mul_right (2 * bs) (show k' + 1 ≤ k by omega)
            rw [Nat.succ_mul, ha] at hle
            exact (hsg4 k' (by omega)).congr (fun j _ hj => (hch5.out j (.inl (by omega))).symm)
        · rw [e2] at hj
          rw [hch5.out j (.inr hj)]; exact hhi4 j (by omega)
        · have h1 := hmb4 q hq
          have h2 := hch5.mb (n := n) (c := q * (2 * bs)) (by omega) hfull (mult q) hq
          exact ⟨fun x => (h2.1 x).trans (h1.1 x), fun x => (h2.2 x).trans (h1.2 x)⟩
      · have next : ∀ us w5, GI w5 L v us → us.length = n → Sg lt (fn us) a n → Ch (fn qs) (fn us) a n → Keep w w5 L → K2 [vi ((bs : Int) * 2)] w5 := fun us w5 g5 hl5 hs5 hch5 k5 => by
          have hle2 : bs ≤ 2 * n := by omega
          refine hK2 (2 * bs) _ _ (by omega) ⟨us, ?_, by omega, by omega, g5, hl5, ⟨fun q => ?_, fun q hq => ?_⟩, k5⟩
          · simp only [List.cons.injEq, Value.int.injEq, true_and, and_true]; omega
          · by_cases c1 : q < k
            · have hle := Nat.mul_le_mul_right (2 * bs) (show q + 1 ≤ k by omega)
              rw [Nat.succ_mul, ha] at hle
              rw [show min (q * (2 * bs) + 2 * bs) n = q * (2 * bs) + 2 * bs by omega]
              exact (hsg4 q c1).congr (fun j _ hj => (hch5.out j (.inl (by omega))).symm)
            · by_cases c2 : q = k
              · subst c2
                rw [ha, show min (a + 2 * bs) n = n by omega]; exact hs5
              · have hle := Nat.mul_le_mul_right (2 * bs) (show k + 1 ≤ q by omega)
                rw [Nat.succ_mul, ha] at hle
                intro i j h1 h2 h3; omega
          · have h1 := hmb4 q hq
            have h2 := hch5.mb (n := n) (c := q * (2 * bs)) (by omega) (Nat.le_refl _) (by have := mult q; omega) hq
            exact ⟨fun x => (h2.1 x).trans (h1.1 x), fun x => (h2.2 x).trans (h1.2 x)⟩
        (repeat (first|refine ja ?_|refine jb ?_|refine jc ?_|refine jd ?_|refine je ?_|refine jf ?_|refine jg ?_|refine jh ?_|refine ji ?_|refine jj ?_|refine jk ?_|refine jl ?_|refine jm ?_|refine jn ?_|refine jo ?_|refine jp ?_|refine jq ?_|refine jr ?_|refine js ?_|refine jt ?_|refine ju ?_|refine jv ?_|refine jw ?_|refine jx ?_|refine jy ?_|refine jz ?_|refine jA ?_|refine jB ?_|refine jC ?_|refine jD ?_|refine jE ?_|refine jF ?_|refine jG ?_|refine jH ?_|refine jI ?_|refine jJ ?_|refine jK ?_|refine jL ?_|refine jM (by assumption) ?_|refine jN (by assumption) rfl ?_|refine jO (by assumption) ?_|refine jP (by assumption) rfl ?_|refine jQ ?_|refine jR ?_|refine jS ?_|refine jT ?_|refine jU (by assumption) rfl ?_))
        refine M.share_j (fun vals w' => ∃ us, GI w' L v us ∧ us.length = n ∧ Sg lt (fn us) a n ∧ Ch (fn qs) (fn us) a n ∧ Keep w w' L) ?_ ?_
        · rintro vals w5 ⟨us, a1, a2, a3, a4, a5⟩ _
          refine M.mul_i (by omega) (by omega) ?_
          exact next us w5 a1 a2 a3 a4 a5
        · intro K4 hK4
          have e1 : ((a : Int) + bs) = ((a + bs : Nat) : Int) := by omega
          by_cases hpart : a + bs < n
          · (repeat (first|refine ja ?_|refine jb ?_|refine jc ?_|refine jd ?_|refine je ?_|refine jf ?_|refine jg ?_|refine jh ?_|refine ji ?_|refine jj ?_|refine jk ?_|refine jl ?_|refine jm ?_|refine jn ?_|refine jo ?_|refine jp ?_|refine jq ?_|refine jr ?_|refine js ?_|refine jt ?_|refine ju ?_|refine jv ?_|refine jw ?_|refine jx ?_|refine jy ?_|refine jz ?_|refine jA ?_|refine jB ?_|refine jC ?_|refine jD ?_|refine jE ?_|refine jF ?_|refine jG ?_|refine jH ?_|refine jI ?_|refine jJ ?_|refine jK ?_|refine jL ?_|refine jM (by assumption) ?_|refine jN (by assumption) rfl ?_|refine jO (by assumption) ?_|refine jP (by assumption) rfl ?_|refine jQ ?_|refine jR ?_|refine jS ?_|refine jT ?_|refine jU (by assumption) rfl ?_))
            rw [e1]
            rw [show min (a + bs) n = a + bs by omega] at sA
            rw [show min (a + bs + bs) n = n by omega] at sB
            refine M.call_i (symMerge_ret hw hc hIk n (a := a) (m := a + bs) (b := n) (by omega) g4 (by rw [hl4]; exact hfx) (hIk _ _ hI k4) (by omega) (by omega) (by omega) (fun j _ h2 => hokq j h2) sA sB (fun i j h1 h2 h3 h4 => cr (by omega) i j h1 h2 h3 h4)) ?_; rintro _ w5 ⟨rfl, us, g5, hl5, hs5, hch5, k5⟩
            exact hK4 _ _ ⟨us, g5, by omega, hs5, hch5, k4.trans k5 (fun _ _ h => h)⟩
          · rw [show min (a + bs) n = n by omega] at sA
            (repeat (first|refine ja ?_|refine jb ?_|refine jc ?_|refine jd ?_|refine je ?_|refine jf ?_|refine jg ?_|refine jh ?_|refine ji ?_|refine jj ?_|refine jk ?_|refine jl ?_|refine jm ?_|refine jn ?_|refine jo ?_|refine jp ?_|refine jq ?_|refine jr ?_|refine js ?_|refine jt ?_|refine ju ?_|refine jv ?_|refine jw ?_|refine jx ?_|refine jy ?_|refine jz ?_|refine jA ?_|refine jB ?_|refine jC ?_|refine jD ?_|refine jE ?_|refine jF ?_|refine jG ?_|refine jH ?_|refine jI ?_|refine jJ ?_|refine jK ?_|refine jL ?_|refine jM (by assumption) ?_|refine jN (by assumption) rfl ?_|refine jO (by assumption) ?_|refine jP (by assumption) rfl ?_|refine jQ ?_|refine jR ?_|refine jS ?_|refine jT ?_|refine jU (by assumption) rfl ?_))
            exact hK4 _ _ ⟨qs, g4, hl4, sA, Ch.refl _ _ _, k4⟩
    · have h0 := hB.sg 0
      have h1 := (hB.mb 0 (by omega)).2
      rw [Nat.zero_mul] at h0 h1
      rw [show min (0 + bs) n = n by omega] at h0
      (repeat (first|refine ja ?_|refine jb ?_|refine jc ?_|refine jd ?_|refine je ?_|refine jf ?_|refine jg ?_|refine jh ?_|refine ji ?_|refine jj ?_|refine jk ?_|refine jl ?_|refine jm ?_|refine jn ?_|refine jo ?_|refine jp ?_|refine jq ?_|refine jr ?_|refine js ?_|refine jt ?_|refine ju ?_|refine jv ?_|refine jw ?_|refine jx ?_|refine jy ?_|refine jz ?_|refine jA ?_|refine jB ?_|refine jC ?_|refine jD ?_|refine jE ?_|refine jF ?_|refine jG ?_|refine jH ?_|refine jI ?_|refine jJ ?_|refine jK ?_|refine jL ?_|refine jM (by assumption) ?_|refine jN (by assumption) rfl ?_|refine jO (by assumption) ?_|refine jP (by assumption) rfl ?_|refine jQ ?_|refine jR ?_|refine jS ?_|refine jT ?_|refine jU (by assumption) rfl ?_))
      exact ⟨by trivial, ps, g3, hl3, h0, h1, k3⟩
theorem sortStable_ret (hw : Wk lt) (hc : CmpF g I lt Okk) (hIk : ∀ w w', I w → Keep w w' L → I w') {w : World} {xs : List Int} (h : GI w L v xs) (hf : Few xs.length) (hI : I w) (hok : ∀ j, j < xs.length → Okk (fn xs j)) (hup : ∀ i j, i < j → j < xs.length → fn xs i < fn xs j) :
    Ret Try.prog 12 #[v, g] w (fun r w' => r = .tuple #[] ∧ ∃ ys, GI w' L v ys ∧ ys.length = xs.length ∧ Sg lt (fn ys) 0 xs.length ∧ (∀ x, In (fn ys) 0 xs.length x ↔ In (fn xs) 0 xs.length x) ∧ Keep w w' L) := by
  obtain ⟨A, c, rfl, _⟩ := GC.row2 h (by omega)
  refine ok12 _ _ _ _ ?_
  unfold sh12
  (repeat (first|refine ja ?_|refine jb ?_|refine jc ?_|refine jd ?_|refine je ?_|refine jf ?_|refine jg ?_|refine jh ?_|refine ji ?_|refine jj ?_|refine jk ?_|refine jl ?_|refine jm ?_|refine jn ?_|refine jo ?_|refine jp ?_|refine jq ?_|refine jr ?_|refine js ?_|refine jt ?_|refine ju ?_|refine jv ?_|refine jw ?_|refine jx ?_|refine jy ?_|refine jz ?_|refine jA ?_|refine jB ?_|refine jC ?_|refine jD ?_|refine jE ?_|refine jF ?_|refine jG ?_|refine jH ?_|refine jI ?_|refine jJ ?_|refine jK ?_|refine jL ?_|refine jM (by assumption) ?_|refine jN (by assumption) rfl ?_|refine jO (by assumption) ?_|refine jP (by assumption) rfl ?_|refine jQ ?_|refine jR ?_|refine jS ?_|refine jT ?_|refine jU (by assumption) rfl ?_))
  refine M.call_i (stable_ret hw hc hIk h hf hI hok hup) ?_; rintro _ w1 ⟨rfl, r⟩
  exact ⟨by trivial, r⟩
end
end Go.Proofs.Ythcfmfkigioaeaa
