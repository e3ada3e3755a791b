import Derived.Test.YtfffepeloiefiaaWord2
namespace Go.Proofs.Ytfffepeloiefiaa
open Go.Mw
set_option linter.unusedVariables false
set_option linter.unusedSimpArgs false
set_option maxRecDepth 100000
attribute [local irreducible] M.val M.unit M.next M.pick M.new M.nilCheck M.load1 M.loadA M.store M.fieldAddr M.indexSl M.indexArr M.slice M.makeSlice M.buildSlice M.len M.lenS M.cap M.append M.extract M.conv M.not M.neg M.bin M.shift M.eqB M.eqNil M.call M.callv M.gd M.share M.cond M.loop M.draw pureW readW Ret
theorem one_bit (b : Bool) (k : Nat) : (if b then (1 : W64) else 0).getLsbD k = (b && decide (k = 0)) := by
  cases b with
  | false => simp
  | true =>
    simp only [if_true, Bool.true_and]
    show (1#64).getLsbD k = _
    rw [BitVec.getLsbD_one]
    by_cases h : k = 0
    · subst h; rfl
    · have : ¬ 0 = k := fun e => h e.symm
      simp [h, this]
def isB (m : Nat) (a : W64) (s : Int) (fill : Bool) (j : Nat) : Bool := if (m : Int) ≤ (j : Int) - s then fill else if 0 ≤ (j : Int) - s then a.getLsbD ((j : Int) - s).toNat else false
theorem word_nat (i : Nat) (h : i < 18446744073709551616) : vw (BitVec.ofInt 64 (i : Int)) = .int .u64 (i : Int) := by
  show Value.int .u64 _ = _
  congr 1
  rw [BitVec.toNat_ofInt]; omega
theorem rmoved_ret {m : Nat} (h2 : m ≤ 64) (a : W64) {s : Int} (hs : -64 ≤ s ∧ s ≤ 64) (fill : Bool) (w : World) :
    Ret Try.prog 79 #[vi m, vw a, vi s, .bool fill] w (fun r w' => ∃ x : W64, r = vw x ∧ (∀ j, x.getLsbD j = (decide (j < m) && isB m a s fill j)) ∧ w' = w) := by
  refine ok79 _ _ _ _ _ _ ?_
  unfold sh79
  refine M.loop_i (σ := Nat × W64) (fun t vals w' => vals = [vw t.2, vi t.1] ∧ t.1 ≤ m ∧ (∀ j, t.2.getLsbD j = (decide (j < t.1) && isB m a s fill j)) ∧ w' = w) (fun t => m - t.1) (0, 0) ⟨rfl, Nat.zero_le _, fun j => by simp, rfl⟩ ?_
  rintro ⟨i, x⟩ vals w1 K ⟨rfl, hi, hx, rfl⟩ hK _
  simp only at hi hx
  simp only [List.getD_cons_zero, List.getD_cons_succ]
  by_cases hlt : i < m
  · (repeat (first|refine ja ?_|refine jb ?_|refine jc ?_|refine jd ?_|refine je ?_|refine jf ?_|refine jg ?_|refine jh ?_|refine ji ?_|refine jj ?_|refine jk ?_|refine jl ?_|refine jm ?_|refine jn ?_|refine jo ?_|refine jp ?_|refine jq ?_|refine jr ?_|refine js ?_|refine jt ?_|refine ju ?_|refine jv ?_|refine jw ?_|refine jx ?_|refine jy ?_|refine jz ?_|refine jA ?_|refine jB ?_|refine jC ?_|refine jD ?_|refine jE ?_|refine jF ?_|refine jG ?_|refine jH ?_|refine jI ?_|refine jJ ?_|refine jK ?_|refine jL ?_|refine jM (by assumption) ?_|refine jN (by assumption) rfl ?_|refine jO (by assumption) ?_|refine jP (by assumption) rfl ?_|refine jQ ?_|refine jR ?_|refine jS ?_|refine jT ?_|refine jU (by assumption) rfl ?_))
    refine M.share_j (fun vals w' => vals = [vb (isB m a s fill i)] ∧ w' = w1) ?_ ?_
    · rintro vals w2 ⟨rfl, rfl⟩ _
      simp only [List.getD_cons_zero, List.getD_cons_succ]
      refine M.call_i (one_ret (isB m a s fill i) w2) ?_; rintro _ w3 ⟨rfl, rfl⟩
      refine M.toWord_i ?_
      rw [word_nat i (by omega)]
      refine M.shlW_i ?_
      refine M.orW_i ?_
      (repeat (first|refine ja ?_|refine jb ?_|refine jc ?_|refine jd ?_|refine je ?_|refine jf ?_|refine jg ?_|refine jh ?_|refine ji ?_|refine jj ?_|refine jk ?_|refine jl ?_|refine jm ?_|refine jn ?_|refine jo ?_|refine jp ?_|refine jq ?_|refine jr ?_|refine js ?_|refine jt ?_|refine ju ?_|refine jv ?_|refine jw ?_|refine jx ?_|refine jy ?_|refine jz ?_|refine jA ?_|refine jB ?_|refine jC ?_|refine jD ?_|refine jE ?_|refine jF ?_|refine jG ?_|refine jH ?_|refine jI ?_|refine jJ ?_|refine jK ?_|refine jL ?_|refine jM (by assumption) ?_|refine jN (by assumption) rfl ?_|refine jO (by assumption) ?_|refine jP (by assumption) rfl ?_|refine jQ ?_|refine jR ?_|refine jS ?_|refine jT ?_|refine jU (by assumption) rfl ?_))
      refine hK (i + 1, x ||| (if isB m a s fill i then (1 : W64) else 0) <<< i) _ _ (by show m - (i + 1) < m - i; omega) ⟨by simp, by show i + 1 ≤ m; omega, fun j => ?_, rfl⟩
      show (x ||| (if isB m a s fill i then (1 : W64) else 0) <<< i).getLsbD j = _
      rw [BitVec.getLsbD_or, hx, BitVec.getLsbD_shiftLeft, one_bit]
      rcases Nat.lt_trichotomy j i with h | h | h
      · have a1 : j < i + 1 := by omega
        simp [h, a1]
      · subst h
        have a1 : j < 64 := by omega
        simp [a1]
      · have a1 : ¬ j < i := by omega
        have a2 : ¬ j < i + 1 := by omega
        have a3 : ¬ j - i = 0 := by omega
        simp [a1, a2, a3]
    · intro K2 hK2
      by_cases h1 : (m : Int) ≤ (i : Int) - s
      · (repeat (first|refine ja ?_|refine jb ?_|refine jc ?_|refine jd ?_|refine je ?_|refine jf ?_|refine jg ?_|refine jh ?_|refine ji ?_|refine jj ?_|refine jk ?_|refine jl ?_|refine jm ?_|refine jn ?_|refine jo ?_|refine jp ?_|refine jq ?_|refine jr ?_|refine js ?_|refine jt ?_|refine ju ?_|refine jv ?_|refine jw ?_|refine jx ?_|refine jy ?_|refine jz ?_|refine jA ?_|refine jB ?_|refine jC ?_|refine jD ?_|refine jE ?_|refine jF ?_|refine jG ?_|refine jH ?_|refine jI ?_|refine jJ ?_|refine jK ?_|refine jL ?_|refine jM (by assumption) ?_|refine jN (by assumption) rfl ?_|refine jO (by assumption) ?_|refine jP (by assumption) rfl ?_|refine jQ ?_|refine jR ?_|refine jS ?_|refine jT ?_|refine jU (by assumption) rfl ?_))
        refine hK2 _ _ ⟨?_, rfl⟩
        unfold isB
        rw [if_pos h1]
      · by_cases h0 : 0 ≤ (i : Int) - s
        · (repeat (first|refine ja ?_|refine jb ?_|refine jc ?_|refine jd ?_|refine je ?_|refine jf ?_|refine jg ?_|refine jh ?_|refine ji ?_|refine jj ?_|refine jk ?_|refine jl ?_|refine jm ?_|refine jn ?_|refine jo ?_|refine jp ?_|refine jq ?_|refine jr ?_|refine js ?_|refine jt ?_|refine ju ?_|refine jv ?_|refine jw ?_|refine jx ?_|refine jy ?_|refine jz ?_|refine jA ?_|refine jB ?_|refine jC ?_|refine jD ?_|refine jE ?_|refine jF ?_|refine jG ?_|refine jH ?_|refine jI ?_|refine jJ ?_|refine jK ?_|refine jL ?_|refine jM (by assumption) ?_|refine jN (by assumption) rfl ?_|refine jO (by assumption) ?_|refine jP (by assumption) rfl ?_|refine jQ ?_|refine jR ?_|refine jS ?_|refine jT ?_|refine jU (by assumption) rfl ?_))
          refine M.call_i (rbit_ret a ((i : Int) - s) w1) ?_; rintro _ w2 ⟨rfl, rfl⟩
          refine hK2 _ _ ⟨?_, rfl⟩
          unfold isB
          rw [if_neg h1, if_pos h0, decide_eq_true h0]; simp
        · (repeat (first|refine ja ?_|refine jb ?_|refine jc ?_|refine jd ?_|refine je ?_|refine jf ?_|refine jg ?_|refine jh ?_|refine ji ?_|refine jj ?_|refine jk ?_|refine jl ?_|refine jm ?_|refine jn ?_|refine jo ?_|refine jp ?_|refine jq ?_|refine jr ?_|refine js ?_|refine jt ?_|refine ju ?_|refine jv ?_|refine jw ?_|refine jx ?_|refine jy ?_|refine jz ?_|refine jA ?_|refine jB ?_|refine jC ?_|refine jD ?_|refine jE ?_|refine jF ?_|refine jG ?_|refine jH ?_|refine jI ?_|refine jJ ?_|refine jK ?_|refine jL ?_|refine jM (by assumption) ?_|refine jN (by assumption) rfl ?_|refine jO (by assumption) ?_|refine jP (by assumption) rfl ?_|refine jQ ?_|refine jR ?_|refine jS ?_|refine jT ?_|refine jU (by assumption) rfl ?_))
          refine hK2 _ _ ⟨?_, rfl⟩
          unfold isB
          rw [if_neg h1, if_neg h0]
  · (repeat (first|refine ja ?_|refine jb ?_|refine jc ?_|refine jd ?_|refine je ?_|refine jf ?_|refine jg ?_|refine jh ?_|refine ji ?_|refine jj ?_|refine jk ?_|refine jl ?_|refine jm ?_|refine jn ?_|refine jo ?_|refine jp ?_|refine jq ?_|refine jr ?_|refine js ?_|refine jt ?_|refine ju ?_|refine jv ?_|refine jw ?_|refine jx ?_|refine jy ?_|refine jz ?_|refine jA ?_|refine jB ?_|refine jC ?_|refine jD ?_|refine jE ?_|refine jF ?_|refine jG ?_|refine jH ?_|refine jI ?_|refine jJ ?_|refine jK ?_|refine jL ?_|refine jM (by assumption) ?_|refine jN (by assumption) rfl ?_|refine jO (by assumption) ?_|refine jP (by assumption) rfl ?_|refine jQ ?_|refine jR ?_|refine jS ?_|refine jT ?_|refine jU (by assumption) rfl ?_))
    have : i = m := by omega
    subst this
    exact ⟨x, rfl, hx, rfl⟩
theorem cut_high {m : Nat} (h1 : 1 ≤ m) (h2 : m ≤ 64) {a : W64} (ca : cutW m a = a) {k : Nat} (hk : m ≤ k) : a.getLsbD k = false := by
  rw [← ca, cutW_bit h1 h2, decide_eq_false (by omega)]; simp
theorem sar_bit {m : Nat} (h1 : 1 ≤ m) (h2 : m ≤ 64) (a : W64) (n j : Nat) (hj : j < 64) : ((sgnW m a).sshiftRight n).getLsbD j = a.getLsbD (if n + j < m then n + j else m - 1) := by
  rw [BitVec.getLsbD_sshiftRight, decide_eq_false (by omega)]
  have hmsb : (sgnW m a).msb = a.getLsbD (m - 1) := by
    rw [BitVec.msb_eq_getLsbD_last, sgnW_bit h1 h2 _ _ (by omega)]
    congr 1
    split <;> omega
  by_cases h : n + j < 64
  · rw [if_pos h, sgnW_bit h1 h2 _ _ h]; rfl
  · rw [if_neg h, hmsb, if_neg (by omega)]; rfl
theorem rshift_ret {op : Int} {m : Nat} (h1 : 1 ≤ m) (h2 : m ≤ 64) (a b : W64) (ca : cutW m a = a) (ho : op = 9 ∨ op = 10 ∨ op = 11) (w : World) :
    Ret Try.prog 71 #[vi op, vi m, vw a, vw b] w (fun r w' => ∃ x : W64, r = vw x ∧ cutW m x = cutW m (binC op m a b) ∧ w' = w) := by
  refine ok71 _ _ _ _ _ _ ?_
  unfold sh71
  have hb := b.isLt
  obtain ⟨s, hs⟩ : ∃ s : Nat, s = if b.toNat < 64 then b.toNat else 64 := ⟨_, rfl⟩
  refine M.share_j (fun vals w' => vals = [vi s] ∧ w' = w) ?_ ?_
  rotate_left
  · intro K hK
    by_cases h : b.toNat < 64
    · rw [if_pos h] at hs
      change M.bin .lss (.int .u64 (b.toNat : Int)) (.int .u64 64) _ _
      (repeat (first|refine ja ?_|refine jb ?_|refine jc ?_|refine jd ?_|refine je ?_|refine jf ?_|refine jg ?_|refine jh ?_|refine ji ?_|refine jj ?_|refine jk ?_|refine jl ?_|refine jm ?_|refine jn ?_|refine jo ?_|refine jp ?_|refine jq ?_|refine jr ?_|refine js ?_|refine jt ?_|refine ju ?_|refine jv ?_|refine jw ?_|refine jx ?_|refine jy ?_|refine jz ?_|refine jA ?_|refine jB ?_|refine jC ?_|refine jD ?_|refine jE ?_|refine jF ?_|refine jG ?_|refine jH ?_|refine jI ?_|refine jJ ?_|refine jK ?_|refine jL ?_|refine jM (by assumption) ?_|refine jN (by assumption) rfl ?_|refine jO (by assumption) ?_|refine jP (by assumption) rfl ?_|refine jQ ?_|refine jR ?_|refine jS ?_|refine jT ?_|refine jU (by assumption) rfl ?_))
      refine M.int8_i (by omega) (by omega) ?_
      exact hK _ _ ⟨by rw [hs], rfl⟩
    · rw [if_neg h] at hs
      change M.bin .lss (.int .u64 (b.toNat : Int)) (.int .u64 64) _ _
      (repeat (first|refine ja ?_|refine jb ?_|refine jc ?_|refine jd ?_|refine je ?_|refine jf ?_|refine jg ?_|refine jh ?_|refine ji ?_|refine jj ?_|refine jk ?_|refine jl ?_|refine jm ?_|refine jn ?_|refine jo ?_|refine jp ?_|refine jq ?_|refine jr ?_|refine js ?_|refine jt ?_|refine ju ?_|refine jv ?_|refine jw ?_|refine jx ?_|refine jy ?_|refine jz ?_|refine jA ?_|refine jB ?_|refine jC ?_|refine jD ?_|refine jE ?_|refine jF ?_|refine jG ?_|refine jH ?_|refine jI ?_|refine jJ ?_|refine jK ?_|refine jL ?_|refine jM (by assumption) ?_|refine jN (by assumption) rfl ?_|refine jO (by assumption) ?_|refine jP (by assumption) rfl ?_|refine jQ ?_|refine jR ?_|refine jS ?_|refine jT ?_|refine jU (by assumption) rfl ?_))
      exact hK _ _ ⟨by rw [hs]; rfl, rfl⟩
  rintro vals w1 ⟨rfl, rfl⟩ _
  simp only [List.getD_cons_zero, List.getD_cons_succ]
  have hs64 : s ≤ 64 := by rw [hs]; split <;> omega
  have hn : (b.toNat ≤ m ∧ byN m b = s ∧ s ≤ m) ∨ (m < b.toNat ∧ byN m b = m ∧ m ≤ s) := by
    unfold byN
    by_cases h : m < b.toNat
    · right
      rw [if_pos h]
      refine ⟨h, rfl, ?_⟩
      rw [hs]; split <;> omega
    · left
      rw [if_neg h]
      refine ⟨by omega, ?_, ?_⟩
      · rw [hs]; split <;> omega
      · rw [hs]; split <;> omega
  rcases ho with rfl | rfl | rfl
  · (repeat (first|refine ja ?_|refine jb ?_|refine jc ?_|refine jd ?_|refine je ?_|refine jf ?_|refine jg ?_|refine jh ?_|refine ji ?_|refine jj ?_|refine jk ?_|refine jl ?_|refine jm ?_|refine jn ?_|refine jo ?_|refine jp ?_|refine jq ?_|refine jr ?_|refine js ?_|refine jt ?_|refine ju ?_|refine jv ?_|refine jw ?_|refine jx ?_|refine jy ?_|refine jz ?_|refine jA ?_|refine jB ?_|refine jC ?_|refine jD ?_|refine jE ?_|refine jF ?_|refine jG ?_|refine jH ?_|refine jI ?_|refine jJ ?_|refine jK ?_|refine jL ?_|refine jM (by assumption) ?_|refine jN (by assumption) rfl ?_|refine jO (by assumption) ?_|refine jP (by assumption) rfl ?_|refine jQ ?_|refine jR ?_|refine jS ?_|refine jT ?_|refine jU (by assumption) rfl ?_))
    refine M.call_i (rmoved_ret h2 a (s := s) (by omega) false w1) ?_; rintro _ w2 ⟨x, rfl, hx, rfl⟩
    refine ⟨x, rfl, ?_, rfl⟩
    have e : binC 9 m a b = a <<< byN m b := rfl
    rw [e]
    apply BitVec.eq_of_getLsbD_eq
    intro j hj
    rw [cutW_bit h1 h2, cutW_bit h1 h2, hx, BitVec.getLsbD_shiftLeft]
    by_cases hjm : j < m
    · simp only [hjm, hj, decide_true, Bool.true_and, Bool.and_true]
      unfold isB
      rw [if_neg (by omega)]
      rcases hn with ⟨_, hn, _⟩ | ⟨_, hn, _⟩
      · rw [hn]
        by_cases hjs : j < s
        · rw [if_neg (by omega)]; simp [hjs]
        · rw [if_pos (by omega)]
          have : ((j : Int) - (s : Int)).toNat = j - s := by omega
          rw [this]; simp [hjs]
      · rw [hn, if_neg (by omega)]; simp [hjm]
    · simp [hjm]
  · (repeat (first|refine ja ?_|refine jb ?_|refine jc ?_|refine jd ?_|refine je ?_|refine jf ?_|refine jg ?_|refine jh ?_|refine ji ?_|refine jj ?_|refine jk ?_|refine jl ?_|refine jm ?_|refine jn ?_|refine jo ?_|refine jp ?_|refine jq ?_|refine jr ?_|refine js ?_|refine jt ?_|refine ju ?_|refine jv ?_|refine jw ?_|refine jx ?_|refine jy ?_|refine jz ?_|refine jA ?_|refine jB ?_|refine jC ?_|refine jD ?_|refine jE ?_|refine jF ?_|refine jG ?_|refine jH ?_|refine jI ?_|refine jJ ?_|refine jK ?_|refine jL ?_|refine jM (by assumption) ?_|refine jN (by assumption) rfl ?_|refine jO (by assumption) ?_|refine jP (by assumption) rfl ?_|refine jQ ?_|refine jR ?_|refine jS ?_|refine jT ?_|refine jU (by assumption) rfl ?_))
    refine M.negI_i (by omega) (by omega) ?_
    refine M.call_i (rmoved_ret h2 a (s := -(s : Int)) (by omega) false w1) ?_; rintro _ w2 ⟨x, rfl, hx, rfl⟩
    refine ⟨x, rfl, ?_, rfl⟩
    have e : binC 10 m a b = a >>> byN m b := rfl
    rw [e]
    apply BitVec.eq_of_getLsbD_eq
    intro j hj
    rw [cutW_bit h1 h2, cutW_bit h1 h2, hx, BitVec.getLsbD_ushiftRight]
    by_cases hjm : j < m
    · simp only [hjm, decide_true, Bool.true_and, Bool.and_true]
      unfold isB
      have e2 : (j : Int) - -(s : Int) = ((s + j : Nat) : Int) := by omega
      rw [e2]
      rcases hn with ⟨_, hn, _⟩ | ⟨_, hn, hms⟩
      · rw [hn]
        by_cases hjs : m ≤ s + j
        · rw [if_pos (by omega), cut_high h1 h2 ca hjs]
        · rw [if_neg (by omega), if_pos (by omega), Int.toNat_natCast]
      · rw [hn, if_pos (by omega), cut_high h1 h2 ca (by omega)]
    · simp [hjm]
  · (repeat (first|refine ja ?_|refine jb ?_|refine jc ?_|refine jd ?_|refine je ?_|refine jf ?_|refine jg ?_|refine jh ?_|refine ji ?_|refine jj ?_|refine jk ?_|refine jl ?_|refine jm ?_|refine jn ?_|refine jo ?_|refine jp ?_|refine jq ?_|refine jr ?_|refine js ?_|refine jt ?_|refine ju ?_|refine jv ?_|refine jw ?_|refine jx ?_|refine jy ?_|refine jz ?_|refine jA ?_|refine jB ?_|refine jC ?_|refine jD ?_|refine jE ?_|refine jF ?_|refine jG ?_|refine jH ?_|refine jI ?_|refine jJ ?_|refine jK ?_|refine jL ?_|refine jM (by assumption) ?_|refine jN (by assumption) rfl ?_|refine jO (by assumption) ?_|refine jP (by assumption) rfl ?_|refine jQ ?_|refine jR ?_|refine jS ?_|refine jT ?_|refine jU (by assumption) rfl ?_))
    refine M.negI_i (by omega) (by omega) ?_
    (repeat (first|refine ja ?_|refine jb ?_|refine jc ?_|refine jd ?_|refine je ?_|refine jf ?_|refine jg ?_|refine jh ?_|refine ji ?_|refine jj ?_|refine jk ?_|refine jl ?_|refine jm ?_|refine jn ?_|refine jo ?_|refine jp ?_|refine jq ?_|refine jr ?_|refine js ?_|refine jt ?_|refine ju ?_|refine jv ?_|refine jw ?_|refine jx ?_|refine jy ?_|refine jz ?_|refine jA ?_|refine jB ?_|refine jC ?_|refine jD ?_|refine jE ?_|refine jF ?_|refine jG ?_|refine jH ?_|refine jI ?_|refine jJ ?_|refine jK ?_|refine jL ?_|refine jM (by assumption) ?_|refine jN (by assumption) rfl ?_|refine jO (by assumption) ?_|refine jP (by assumption) rfl ?_|refine jQ ?_|refine jR ?_|refine jS ?_|refine jT ?_|refine jU (by assumption) rfl ?_))
    have e1 : (m : Int) - 1 = ((m - 1 : Nat) : Int) := by omega
    rw [e1]
    refine M.call_i (rbit_ret a ((m - 1 : Nat) : Int) w1) ?_; rintro _ w2 ⟨rfl, rfl⟩
    have e3 : (decide (0 ≤ ((m - 1 : Nat) : Int)) && a.getLsbD (((m - 1 : Nat) : Int)).toNat) = a.getLsbD (m - 1) := by
      rw [decide_eq_true (by omega), Int.toNat_natCast]; simp
    rw [e3]
    refine M.call_i (rmoved_ret h2 a (s := -(s : Int)) (by omega) (a.getLsbD (m - 1)) w2) ?_; rintro _ w3 ⟨x, rfl, hx, rfl⟩
    refine ⟨x, rfl, ?_, rfl⟩
    have e : binC 11 m a b = (sgnW m a).sshiftRight (byN m b) := rfl
    rw [e]
    apply BitVec.eq_of_getLsbD_eq
    intro j hj
    rw [cutW_bit h1 h2, cutW_bit h1 h2, hx, sar_bit h1 h2 _ _ _ hj]
    by_cases hjm : j < m
    · simp only [hjm, decide_true, Bool.true_and, Bool.and_true]
      unfold isB
      have e2 : (j : Int) - -(s : Int) = ((s + j : Nat) : Int) := by omega
      rw [e2]
      rcases hn with ⟨_, hn, _⟩ | ⟨_, hn, hms⟩
      · rw [hn]
        by_cases hjs : m ≤ s + j
        · rw [if_pos (by omega), if_neg (by omega)]
        · rw [if_neg (by omega), if_pos (by omega), Int.toNat_natCast, if_pos (by omega)]
      · rw [hn, if_pos (by omega), if_neg (by omega)]
    · simp [hjm]
set_option maxHeartbeats 1000000 in
theorem rbinary_ret (op n : Int) (a b : W64) (w : World) : Ret Try.prog 56 #[vi op, vi n, vw a, vw b] w (fun r w' => r = .tuple #[vw (binW op n a b), vi (binE op n)] ∧ w' = w) := by
  refine ok56 _ _ _ _ _ _ ?_
  unfold sh56
  by_cases ho : op < 1
  · (repeat (first|refine ja ?_|refine jb ?_|refine jc ?_|refine jd ?_|refine je ?_|refine jf ?_|refine jg ?_|refine jh ?_|refine ji ?_|refine jj ?_|refine jk ?_|refine jl ?_|refine jm ?_|refine jn ?_|refine jo ?_|refine jp ?_|refine jq ?_|refine jr ?_|refine js ?_|refine jt ?_|refine ju ?_|refine jv ?_|refine jw ?_|refine jx ?_|refine jy ?_|refine jz ?_|refine jA ?_|refine jB ?_|refine jC ?_|refine jD ?_|refine jE ?_|refine jF ?_|refine jG ?_|refine jH ?_|refine jI ?_|refine jJ ?_|refine jK ?_|refine jL ?_|refine jM (by assumption) ?_|refine jN (by assumption) rfl ?_|refine jO (by assumption) ?_|refine jP (by assumption) rfl ?_|refine jQ ?_|refine jR ?_|refine jS ?_|refine jT ?_|refine jU (by assumption) rfl ?_))
    exact ⟨by simp [binW, binE, ho], rfl⟩
  by_cases ho2 : 14 < op
  · (repeat (first|refine ja ?_|refine jb ?_|refine jc ?_|refine jd ?_|refine je ?_|refine jf ?_|refine jg ?_|refine jh ?_|refine ji ?_|refine jj ?_|refine jk ?_|refine jl ?_|refine jm ?_|refine jn ?_|refine jo ?_|refine jp ?_|refine jq ?_|refine jr ?_|refine js ?_|refine jt ?_|refine ju ?_|refine jv ?_|refine jw ?_|refine jx ?_|refine jy ?_|refine jz ?_|refine jA ?_|refine jB ?_|refine jC ?_|refine jD ?_|refine jE ?_|refine jF ?_|refine jG ?_|refine jH ?_|refine jI ?_|refine jJ ?_|refine jK ?_|refine jL ?_|refine jM (by assumption) ?_|refine jN (by assumption) rfl ?_|refine jO (by assumption) ?_|refine jP (by assumption) rfl ?_|refine jQ ?_|refine jR ?_|refine jS ?_|refine jT ?_|refine jU (by assumption) rfl ?_))
    exact ⟨by simp [binW, binE, ho2], rfl⟩
  (repeat (first|refine ja ?_|refine jb ?_|refine jc ?_|refine jd ?_|refine je ?_|refine jf ?_|refine jg ?_|refine jh ?_|refine ji ?_|refine jj ?_|refine jk ?_|refine jl ?_|refine jm ?_|refine jn ?_|refine jo ?_|refine jp ?_|refine jq ?_|refine jr ?_|refine js ?_|refine jt ?_|refine ju ?_|refine jv ?_|refine jw ?_|refine jx ?_|refine jy ?_|refine jz ?_|refine jA ?_|refine jB ?_|refine jC ?_|refine jD ?_|refine jE ?_|refine jF ?_|refine jG ?_|refine jH ?_|refine jI ?_|refine jJ ?_|refine jK ?_|refine jL ?_|refine jM (by assumption) ?_|refine jN (by assumption) rfl ?_|refine jO (by assumption) ?_|refine jP (by assumption) rfl ?_|refine jQ ?_|refine jR ?_|refine jS ?_|refine jT ?_|refine jU (by assumption) rfl ?_))
  refine M.call_i (rfits_ret n w) ?_; rintro _ w1 ⟨rfl, rfl⟩
  refine M.not_i ?_
  cases hf : fitsB n with
  | false =>
    (repeat (first|refine ja ?_|refine jb ?_|refine jc ?_|refine jd ?_|refine je ?_|refine jf ?_|refine jg ?_|refine jh ?_|refine ji ?_|refine jj ?_|refine jk ?_|refine jl ?_|refine jm ?_|refine jn ?_|refine jo ?_|refine jp ?_|refine jq ?_|refine jr ?_|refine js ?_|refine jt ?_|refine ju ?_|refine jv ?_|refine jw ?_|refine jx ?_|refine jy ?_|refine jz ?_|refine jA ?_|refine jB ?_|refine jC ?_|refine jD ?_|refine jE ?_|refine jF ?_|refine jG ?_|refine jH ?_|refine jI ?_|refine jJ ?_|refine jK ?_|refine jL ?_|refine jM (by assumption) ?_|refine jN (by assumption) rfl ?_|refine jO (by assumption) ?_|refine jP (by assumption) rfl ?_|refine jQ ?_|refine jR ?_|refine jS ?_|refine jT ?_|refine jU (by assumption) rfl ?_))
    exact ⟨by simp [binW, binE, ho, ho2, hf], rfl⟩
  | true =>
    have eW : binW op n a b = cutW n (binC op n.toNat (cutW n a) (cutW n b)) := by
      unfold binW
      rw [if_neg (by omega), if_pos hf]
    have eE : binE op n = 0 := by
      unfold binE
      rw [if_neg (by omega), if_pos hf]
    rw [eW, eE]
    have ca := cut_cut hf a
    have cb := cut_cut hf b
    obtain ⟨m, rfl, h1, h2⟩ := fits_nat hf
    rw [Int.toNat_natCast]
    (repeat (first|refine ja ?_|refine jb ?_|refine jc ?_|refine jd ?_|refine je ?_|refine jf ?_|refine jg ?_|refine jh ?_|refine ji ?_|refine jj ?_|refine jk ?_|refine jl ?_|refine jm ?_|refine jn ?_|refine jo ?_|refine jp ?_|refine jq ?_|refine jr ?_|refine js ?_|refine jt ?_|refine ju ?_|refine jv ?_|refine jw ?_|refine jx ?_|refine jy ?_|refine jz ?_|refine jA ?_|refine jB ?_|refine jC ?_|refine jD ?_|refine jE ?_|refine jF ?_|refine jG ?_|refine jH ?_|refine jI ?_|refine jJ ?_|refine jK ?_|refine jL ?_|refine jM (by assumption) ?_|refine jN (by assumption) rfl ?_|refine jO (by assumption) ?_|refine jP (by assumption) rfl ?_|refine jQ ?_|refine jR ?_|refine jS ?_|refine jT ?_|refine jU (by assumption) rfl ?_))
    refine M.call_i (rcut_ret m a w1) ?_; rintro _ w2 ⟨rfl, rfl⟩
    refine M.call_i (rcut_ret m b w2) ?_; rintro _ w3 ⟨rfl, rfl⟩
    generalize cutW m a = a at ca ⊢
    generalize cutW m b = b at cb ⊢
    have fin : ∀ {x : W64}, cutW m x = cutW m (binC op m a b) → ∀ s : List Value, M.call Try.prog 52 #[vi m, ([vw x] : List Value).getD 0 undef] (fun t97 w => (Value.tuple #[t97, vi 0] = .tuple #[vw (cutW m (binC op m a b)), vi 0] ∧ w = w3)) w3 := by
      intro x hx s
      simp only [List.getD_cons_zero, List.getD_cons_succ]
      refine M.call_i (rcut_ret m x w3) ?_; rintro _ w4 ⟨rfl, rfl⟩
      exact ⟨by rw [hx], rfl⟩
    refine M.share_i ?_
    have hop : op = 1 ∨ op = 2 ∨ op = 3 ∨ op = 4 ∨ op = 5 ∨ op = 6 ∨ op = 7 ∨ op = 8 ∨ op = 12 ∨ op = 13 ∨ op = 14 ∨ (op = 9 ∨ op = 10 ∨ op = 11) := by omega
    rcases hop with rfl | rfl | rfl | rfl | rfl | rfl | rfl | rfl | rfl | rfl | rfl | hop
    · (repeat (first|refine ja ?_|refine jb ?_|refine jc ?_|refine jd ?_|refine je ?_|refine jf ?_|refine jg ?_|refine jh ?_|refine ji ?_|refine jj ?_|refine jk ?_|refine jl ?_|refine jm ?_|refine jn ?_|refine jo ?_|refine jp ?_|refine jq ?_|refine jr ?_|refine js ?_|refine jt ?_|refine ju ?_|refine jv ?_|refine jw ?_|refine jx ?_|refine jy ?_|refine jz ?_|refine jA ?_|refine jB ?_|refine jC ?_|refine jD ?_|refine jE ?_|refine jF ?_|refine jG ?_|refine jH ?_|refine jI ?_|refine jJ ?_|refine jK ?_|refine jL ?_|refine jM (by assumption) ?_|refine jN (by assumption) rfl ?_|refine jO (by assumption) ?_|refine jP (by assumption) rfl ?_|refine jQ ?_|refine jR ?_|refine jS ?_|refine jT ?_|refine jU (by assumption) rfl ?_))
      refine M.addW_i ?_
      exact fin rfl
    · (repeat (first|refine ja ?_|refine jb ?_|refine jc ?_|refine jd ?_|refine je ?_|refine jf ?_|refine jg ?_|refine jh ?_|refine ji ?_|refine jj ?_|refine jk ?_|refine jl ?_|refine jm ?_|refine jn ?_|refine jo ?_|refine jp ?_|refine jq ?_|refine jr ?_|refine js ?_|refine jt ?_|refine ju ?_|refine jv ?_|refine jw ?_|refine jx ?_|refine jy ?_|refine jz ?_|refine jA ?_|refine jB ?_|refine jC ?_|refine jD ?_|refine jE ?_|refine jF ?_|refine jG ?_|refine jH ?_|refine jI ?_|refine jJ ?_|refine jK ?_|refine jL ?_|refine jM (by assumption) ?_|refine jN (by assumption) rfl ?_|refine jO (by assumption) ?_|refine jP (by assumption) rfl ?_|refine jQ ?_|refine jR ?_|refine jS ?_|refine jT ?_|refine jU (by assumption) rfl ?_))
      refine M.subW_i ?_
      exact fin rfl
    · (repeat (first|refine ja ?_|refine jb ?_|refine jc ?_|refine jd ?_|refine je ?_|refine jf ?_|refine jg ?_|refine jh ?_|refine ji ?_|refine jj ?_|refine jk ?_|refine jl ?_|refine jm ?_|refine jn ?_|refine jo ?_|refine jp ?_|refine jq ?_|refine jr ?_|refine js ?_|refine jt ?_|refine ju ?_|refine jv ?_|refine jw ?_|refine jx ?_|refine jy ?_|refine jz ?_|refine jA ?_|refine jB ?_|refine jC ?_|refine jD ?_|refine jE ?_|refine jF ?_|refine jG ?_|refine jH ?_|refine jI ?_|refine jJ ?_|refine jK ?_|refine jL ?_|refine jM (by assumption) ?_|refine jN (by assumption) rfl ?_|refine jO (by assumption) ?_|refine jP (by assumption) rfl ?_|refine jQ ?_|refine jR ?_|refine jS ?_|refine jT ?_|refine jU (by assumption) rfl ?_))
      refine M.mulW_i ?_
      exact fin rfl
    · (repeat (first|refine ja ?_|refine jb ?_|refine jc ?_|refine jd ?_|refine je ?_|refine jf ?_|refine jg ?_|refine jh ?_|refine ji ?_|refine jj ?_|refine jk ?_|refine jl ?_|refine jm ?_|refine jn ?_|refine jo ?_|refine jp ?_|refine jq ?_|refine jr ?_|refine js ?_|refine jt ?_|refine ju ?_|refine jv ?_|refine jw ?_|refine jx ?_|refine jy ?_|refine jz ?_|refine jA ?_|refine jB ?_|refine jC ?_|refine jD ?_|refine jE ?_|refine jF ?_|refine jG ?_|refine jH ?_|refine jI ?_|refine jJ ?_|refine jK ?_|refine jL ?_|refine jM (by assumption) ?_|refine jN (by assumption) rfl ?_|refine jO (by assumption) ?_|refine jP (by assumption) rfl ?_|refine jQ ?_|refine jR ?_|refine jS ?_|refine jT ?_|refine jU (by assumption) rfl ?_))
      refine M.call_i (rmask_ret m w3) ?_; rintro _ w4 ⟨rfl, rfl⟩
      change M.bin .neq (vw b) (vw 0) _ _
      refine M.neqW_i ?_
      by_cases hb : b = 0
      · rw [decide_eq_false (by simpa using hb)]
        (repeat (first|refine ja ?_|refine jb ?_|refine jc ?_|refine jd ?_|refine je ?_|refine jf ?_|refine jg ?_|refine jh ?_|refine ji ?_|refine jj ?_|refine jk ?_|refine jl ?_|refine jm ?_|refine jn ?_|refine jo ?_|refine jp ?_|refine jq ?_|refine jr ?_|refine js ?_|refine jt ?_|refine ju ?_|refine jv ?_|refine jw ?_|refine jx ?_|refine jy ?_|refine jz ?_|refine jA ?_|refine jB ?_|refine jC ?_|refine jD ?_|refine jE ?_|refine jF ?_|refine jG ?_|refine jH ?_|refine jI ?_|refine jJ ?_|refine jK ?_|refine jL ?_|refine jM (by assumption) ?_|refine jN (by assumption) rfl ?_|refine jO (by assumption) ?_|refine jP (by assumption) rfl ?_|refine jQ ?_|refine jR ?_|refine jS ?_|refine jT ?_|refine jU (by assumption) rfl ?_))
        exact fin (by simp [binC, hb])
      · rw [decide_eq_true hb]
        (repeat (first|refine ja ?_|refine jb ?_|refine jc ?_|refine jd ?_|refine je ?_|refine jf ?_|refine jg ?_|refine jh ?_|refine ji ?_|refine jj ?_|refine jk ?_|refine jl ?_|refine jm ?_|refine jn ?_|refine jo ?_|refine jp ?_|refine jq ?_|refine jr ?_|refine js ?_|refine jt ?_|refine ju ?_|refine jv ?_|refine jw ?_|refine jx ?_|refine jy ?_|refine jz ?_|refine jA ?_|refine jB ?_|refine jC ?_|refine jD ?_|refine jE ?_|refine jF ?_|refine jG ?_|refine jH ?_|refine jI ?_|refine jJ ?_|refine jK ?_|refine jL ?_|refine jM (by assumption) ?_|refine jN (by assumption) rfl ?_|refine jO (by assumption) ?_|refine jP (by assumption) rfl ?_|refine jQ ?_|refine jR ?_|refine jS ?_|refine jT ?_|refine jU (by assumption) rfl ?_))
        refine M.quoW_i hb ?_
        have e : binC 4 m a b = if b = 0 then maskW m else a / b := rfl
        exact fin (by rw [e, if_neg hb])
    · (repeat (first|refine ja ?_|refine jb ?_|refine jc ?_|refine jd ?_|refine je ?_|refine jf ?_|refine jg ?_|refine jh ?_|refine ji ?_|refine jj ?_|refine jk ?_|refine jl ?_|refine jm ?_|refine jn ?_|refine jo ?_|refine jp ?_|refine jq ?_|refine jr ?_|refine js ?_|refine jt ?_|refine ju ?_|refine jv ?_|refine jw ?_|refine jx ?_|refine jy ?_|refine jz ?_|refine jA ?_|refine jB ?_|refine jC ?_|refine jD ?_|refine jE ?_|refine jF ?_|refine jG ?_|refine jH ?_|refine jI ?_|refine jJ ?_|refine jK ?_|refine jL ?_|refine jM (by assumption) ?_|refine jN (by assumption) rfl ?_|refine jO (by assumption) ?_|refine jP (by assumption) rfl ?_|refine jQ ?_|refine jR ?_|refine jS ?_|refine jT ?_|refine jU (by assumption) rfl ?_))
      change M.bin .neq (vw b) (vw 0) _ _
      refine M.neqW_i ?_
      by_cases hb : b = 0
      · rw [decide_eq_false (by simpa using hb)]
        (repeat (first|refine ja ?_|refine jb ?_|refine jc ?_|refine jd ?_|refine je ?_|refine jf ?_|refine jg ?_|refine jh ?_|refine ji ?_|refine jj ?_|refine jk ?_|refine jl ?_|refine jm ?_|refine jn ?_|refine jo ?_|refine jp ?_|refine jq ?_|refine jr ?_|refine js ?_|refine jt ?_|refine ju ?_|refine jv ?_|refine jw ?_|refine jx ?_|refine jy ?_|refine jz ?_|refine jA ?_|refine jB ?_|refine jC ?_|refine jD ?_|refine jE ?_|refine jF ?_|refine jG ?_|refine jH ?_|refine jI ?_|refine jJ ?_|refine jK ?_|refine jL ?_|refine jM (by assumption) ?_|refine jN (by assumption) rfl ?_|refine jO (by assumption) ?_|refine jP (by assumption) rfl ?_|refine jQ ?_|refine jR ?_|refine jS ?_|refine jT ?_|refine jU (by assumption) rfl ?_))
        exact fin (by simp [binC, hb])
      · rw [decide_eq_true hb]
        (repeat (first|refine ja ?_|refine jb ?_|refine jc ?_|refine jd ?_|refine je ?_|refine jf ?_|refine jg ?_|refine jh ?_|refine ji ?_|refine jj ?_|refine jk ?_|refine jl ?_|refine jm ?_|refine jn ?_|refine jo ?_|refine jp ?_|refine jq ?_|refine jr ?_|refine js ?_|refine jt ?_|refine ju ?_|refine jv ?_|refine jw ?_|refine jx ?_|refine jy ?_|refine jz ?_|refine jA ?_|refine jB ?_|refine jC ?_|refine jD ?_|refine jE ?_|refine jF ?_|refine jG ?_|refine jH ?_|refine jI ?_|refine jJ ?_|refine jK ?_|refine jL ?_|refine jM (by assumption) ?_|refine jN (by assumption) rfl ?_|refine jO (by assumption) ?_|refine jP (by assumption) rfl ?_|refine jQ ?_|refine jR ?_|refine jS ?_|refine jT ?_|refine jU (by assumption) rfl ?_))
        refine M.remW_i hb ?_
        have e : binC 5 m a b = if b = 0 then a else a % b := rfl
        exact fin (by rw [e, if_neg hb])
    · (repeat (first|refine ja ?_|refine jb ?_|refine jc ?_|refine jd ?_|refine je ?_|refine jf ?_|refine jg ?_|refine jh ?_|refine ji ?_|refine jj ?_|refine jk ?_|refine jl ?_|refine jm ?_|refine jn ?_|refine jo ?_|refine jp ?_|refine jq ?_|refine jr ?_|refine js ?_|refine jt ?_|refine ju ?_|refine jv ?_|refine jw ?_|refine jx ?_|refine jy ?_|refine jz ?_|refine jA ?_|refine jB ?_|refine jC ?_|refine jD ?_|refine jE ?_|refine jF ?_|refine jG ?_|refine jH ?_|refine jI ?_|refine jJ ?_|refine jK ?_|refine jL ?_|refine jM (by assumption) ?_|refine jN (by assumption) rfl ?_|refine jO (by assumption) ?_|refine jP (by assumption) rfl ?_|refine jQ ?_|refine jR ?_|refine jS ?_|refine jT ?_|refine jU (by assumption) rfl ?_))
      refine M.andW_i ?_
      exact fin rfl
    · (repeat (first|refine ja ?_|refine jb ?_|refine jc ?_|refine jd ?_|refine je ?_|refine jf ?_|refine jg ?_|refine jh ?_|refine ji ?_|refine jj ?_|refine jk ?_|refine jl ?_|refine jm ?_|refine jn ?_|refine jo ?_|refine jp ?_|refine jq ?_|refine jr ?_|refine js ?_|refine jt ?_|refine ju ?_|refine jv ?_|refine jw ?_|refine jx ?_|refine jy ?_|refine jz ?_|refine jA ?_|refine jB ?_|refine jC ?_|refine jD ?_|refine jE ?_|refine jF ?_|refine jG ?_|refine jH ?_|refine jI ?_|refine jJ ?_|refine jK ?_|refine jL ?_|refine jM (by assumption) ?_|refine jN (by assumption) rfl ?_|refine jO (by assumption) ?_|refine jP (by assumption) rfl ?_|refine jQ ?_|refine jR ?_|refine jS ?_|refine jT ?_|refine jU (by assumption) rfl ?_))
      refine M.orW_i ?_
      exact fin rfl
    · (repeat (first|refine ja ?_|refine jb ?_|refine jc ?_|refine jd ?_|refine je ?_|refine jf ?_|refine jg ?_|refine jh ?_|refine ji ?_|refine jj ?_|refine jk ?_|refine jl ?_|refine jm ?_|refine jn ?_|refine jo ?_|refine jp ?_|refine jq ?_|refine jr ?_|refine js ?_|refine jt ?_|refine ju ?_|refine jv ?_|refine jw ?_|refine jx ?_|refine jy ?_|refine jz ?_|refine jA ?_|refine jB ?_|refine jC ?_|refine jD ?_|refine jE ?_|refine jF ?_|refine jG ?_|refine jH ?_|refine jI ?_|refine jJ ?_|refine jK ?_|refine jL ?_|refine jM (by assumption) ?_|refine jN (by assumption) rfl ?_|refine jO (by assumption) ?_|refine jP (by assumption) rfl ?_|refine jQ ?_|refine jR ?_|refine jS ?_|refine jT ?_|refine jU (by assumption) rfl ?_))
      refine M.xorW_i ?_
      exact fin rfl
    · (repeat (first|refine ja ?_|refine jb ?_|refine jc ?_|refine jd ?_|refine je ?_|refine jf ?_|refine jg ?_|refine jh ?_|refine ji ?_|refine jj ?_|refine jk ?_|refine jl ?_|refine jm ?_|refine jn ?_|refine jo ?_|refine jp ?_|refine jq ?_|refine jr ?_|refine js ?_|refine jt ?_|refine ju ?_|refine jv ?_|refine jw ?_|refine jx ?_|refine jy ?_|refine jz ?_|refine jA ?_|refine jB ?_|refine jC ?_|refine jD ?_|refine jE ?_|refine jF ?_|refine jG ?_|refine jH ?_|refine jI ?_|refine jJ ?_|refine jK ?_|refine jL ?_|refine jM (by assumption) ?_|refine jN (by assumption) rfl ?_|refine jO (by assumption) ?_|refine jP (by assumption) rfl ?_|refine jQ ?_|refine jR ?_|refine jS ?_|refine jT ?_|refine jU (by assumption) rfl ?_))
      refine M.eqlW_i ?_
      refine M.call_i (one_ret (decide (a = b)) w3) ?_; rintro _ w4 ⟨rfl, rfl⟩
      exact fin rfl
    · (repeat (first|refine ja ?_|refine jb ?_|refine jc ?_|refine jd ?_|refine je ?_|refine jf ?_|refine jg ?_|refine jh ?_|refine ji ?_|refine jj ?_|refine jk ?_|refine jl ?_|refine jm ?_|refine jn ?_|refine jo ?_|refine jp ?_|refine jq ?_|refine jr ?_|refine js ?_|refine jt ?_|refine ju ?_|refine jv ?_|refine jw ?_|refine jx ?_|refine jy ?_|refine jz ?_|refine jA ?_|refine jB ?_|refine jC ?_|refine jD ?_|refine jE ?_|refine jF ?_|refine jG ?_|refine jH ?_|refine jI ?_|refine jJ ?_|refine jK ?_|refine jL ?_|refine jM (by assumption) ?_|refine jN (by assumption) rfl ?_|refine jO (by assumption) ?_|refine jP (by assumption) rfl ?_|refine jQ ?_|refine jR ?_|refine jS ?_|refine jT ?_|refine jU (by assumption) rfl ?_))
      refine M.lssW_i ?_
      refine M.call_i (one_ret (decide (a < b)) w3) ?_; rintro _ w4 ⟨rfl, rfl⟩
      exact fin rfl
    · (repeat (first|refine ja ?_|refine jb ?_|refine jc ?_|refine jd ?_|refine je ?_|refine jf ?_|refine jg ?_|refine jh ?_|refine ji ?_|refine jj ?_|refine jk ?_|refine jl ?_|refine jm ?_|refine jn ?_|refine jo ?_|refine jp ?_|refine jq ?_|refine jr ?_|refine js ?_|refine jt ?_|refine ju ?_|refine jv ?_|refine jw ?_|refine jx ?_|refine jy ?_|refine jz ?_|refine jA ?_|refine jB ?_|refine jC ?_|refine jD ?_|refine jE ?_|refine jF ?_|refine jG ?_|refine jH ?_|refine jI ?_|refine jJ ?_|refine jK ?_|refine jL ?_|refine jM (by assumption) ?_|refine jN (by assumption) rfl ?_|refine jO (by assumption) ?_|refine jP (by assumption) rfl ?_|refine jQ ?_|refine jR ?_|refine jS ?_|refine jT ?_|refine jU (by assumption) rfl ?_))
      refine M.call_i (rsigned_ret m a w3) ?_; rintro _ w4 ⟨rfl, rfl⟩
      refine M.call_i (rsigned_ret m b w4) ?_; rintro _ w5 ⟨rfl, rfl⟩
      refine M.lss_i ?_
      refine M.call_i (one_ret (decide ((sgnW m a).toInt < (sgnW m b).toInt)) w5) ?_; rintro _ w6 ⟨rfl, rfl⟩
      exact fin rfl
    · have n1 : ¬ op = 1 := by omega
      have n2 : ¬ op = 2 := by omega
      (repeat (first|refine ja ?_|refine jb ?_|refine jc ?_|refine jd ?_|refine je ?_|refine jf ?_|refine jg ?_|refine jh ?_|refine ji ?_|refine jj ?_|refine jk ?_|refine jl ?_|refine jm ?_|refine jn ?_|refine jo ?_|refine jp ?_|refine jq ?_|refine jr ?_|refine js ?_|refine jt ?_|refine ju ?_|refine jv ?_|refine jw ?_|refine jx ?_|refine jy ?_|refine jz ?_|refine jA ?_|refine jB ?_|refine jC ?_|refine jD ?_|refine jE ?_|refine jF ?_|refine jG ?_|refine jH ?_|refine jI ?_|refine jJ ?_|refine jK ?_|refine jL ?_|refine jM (by assumption) ?_|refine jN (by assumption) rfl ?_|refine jO (by assumption) ?_|refine jP (by assumption) rfl ?_|refine jQ ?_|refine jR ?_|refine jS ?_|refine jT ?_|refine jU (by assumption) rfl ?_))
      refine M.call_i (rshift_ret h1 h2 a b ca hop w3) ?_; rintro _ w4 ⟨x, rfl, hx, rfl⟩
      exact fin hx
end Go.Proofs.Ytfffepeloiefiaa
