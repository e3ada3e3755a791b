import Derived.Test.YtnbcglnefoinlaaGreatK1
namespace Go.Proofs.YtnbcglnefoinlaaGreat
open Go.Mw
set_option linter.unusedVariables false
set_option linter.unusedSimpArgs false
set_option maxRecDepth 100000
attribute [local irreducible] M.val M.unit M.next M.pick M.new M.nilCheck M.load1 M.loadA M.store M.fieldAddr M.indexSl M.indexArr M.slice M.makeSlice M.buildSlice M.len M.lenS M.cap M.append M.extract M.conv M.not M.neg M.bin M.shift M.eqB M.eqNil M.scat M.call M.callv M.gd M.share M.cond M.loop M.draw pureW readW Ret
def sh76 (x0 : Value) (R : Kt) (w : World) : Prop :=
  M.bin .geq x0 (Value.int IntKind.i64 1) (fun t4 w =>
  M.gd t4 true (fun k w => k x0 w) (fun t6 w =>
  M.gd t4 true (fun k w => M.bin .leq t6 (Value.int IntKind.i64 64) k w) (fun t7 w =>
  M.pick t4 t7 (Value.bool false) (fun t8 w =>
  R t8 w) w) w) w) w
theorem ok76 (x0 : Value) (R : Kt) (w : World) (h : sh76 x0 R w) : Ret Tryz.prog 76 #[x0] w R :=
  ret_mk <| calls_of_comp mixed (c := Tryz.f76.body.getD .skip) (args := [x0]) (rs := [(ResultVar.tmp 2)]) (Ann.seq Ann.text (Ann.seq Ann.text Ann.leaf))
    Tryz.func76 (by kernel_rfl) (by kernel_rfl)
    (Eq.mp (by kernel_rfl) h)
def sh39 (x0 : Value) (R : Kt) (w : World) : Prop :=
  M.call Tryz.prog 76 #[x0] (fun t4 w =>
  M.not t4 (fun t5 w =>
  M.cond t5
  (R (Value.int IntKind.u64 0) w)
  (M.bin .sub (Value.int IntKind.i64 64) x0 (fun t7 w =>
  M.shift .shr (Value.int IntKind.u64 18446744073709551615) t7 (fun t8 w =>
  R t8 w) w) w)) w) w
theorem ok39 (x0 : Value) (R : Kt) (w : World) (h : sh39 x0 R w) : Ret Tryz.prog 39 #[x0] w R :=
  ret_mk <| calls_of_comp mixed (c := Tryz.f39.body.getD .skip) (args := [x0]) (rs := [(ResultVar.tmp 2)]) (Ann.seq Ann.text (Ann.seq (Ann.seq Ann.text (Ann.cond (Ann.seq Ann.text Ann.leaf) Ann.leaf)) (Ann.seq Ann.text Ann.leaf)))
    Tryz.func39 (by kernel_rfl) (by kernel_rfl)
    (Eq.mp (by kernel_rfl) h)
def sh43 (x0 x1 : Value) (R : Kt) (w : World) : Prop :=
  M.call Tryz.prog 39 #[x0] (fun t7 w =>
  M.bin .and x1 t7 (fun t8 w =>
  R t8 w) w) w
theorem ok43 (x0 x1 : Value) (R : Kt) (w : World) (h : sh43 x0 x1 R w) : Ret Tryz.prog 43 #[x0, x1] w R :=
  ret_mk <| calls_of_comp mixed (c := Tryz.f43.body.getD .skip) (args := [x0, x1]) (rs := [(ResultVar.tmp 4)]) (Ann.seq Ann.text (Ann.seq Ann.text Ann.leaf))
    Tryz.func43 (by kernel_rfl) (by kernel_rfl)
    (Eq.mp (by kernel_rfl) h)
def sh79 (x0 : Value) (R : Kt) (w : World) : Prop :=
  M.bin .geq x0 (Value.int IntKind.i64 1) (fun t4 w =>
  M.gd t4 true (fun k w => k x0 w) (fun t6 w =>
  M.gd t4 true (fun k w => M.bin .leq t6 (Value.int IntKind.i64 64) k w) (fun t7 w =>
  M.pick t4 t7 (Value.bool false) (fun t8 w =>
  R t8 w) w) w) w) w
theorem ok79 (x0 : Value) (R : Kt) (w : World) (h : sh79 x0 R w) : Ret Tryz.prog 79 #[x0] w R :=
  ret_mk <| calls_of_comp mixed (c := Tryz.f79.body.getD .skip) (args := [x0]) (rs := [(ResultVar.tmp 2)]) (Ann.seq Ann.text (Ann.seq Ann.text Ann.leaf))
    Tryz.func79 (by kernel_rfl) (by kernel_rfl)
    (Eq.mp (by kernel_rfl) h)
def sh31 (x0 x1 : Value) (R : Kt) (w : World) : Prop :=
  M.bin .geq x1 (Value.int IntKind.i64 0) (fun t6 w =>
  M.gd t6 true (fun k w => k x1 w) (fun t8 w =>
  M.gd t6 true (fun k w => M.bin .lss t8 (Value.int IntKind.i64 64) k w) (fun t9 w =>
  M.pick t6 t9 (Value.bool false) (fun t10 w =>
  M.gd t10 true (fun k w => k x0 w) (fun t12 w =>
  M.gd t10 true (fun k w => k x1 w) (fun t13 w =>
  M.gd t10 true (fun k w => M.conv .u64 t13 k w) (fun t14 w =>
  M.gd t10 true (fun k w => M.shift .shr t12 t14 k w) (fun t15 w =>
  M.gd t10 true (fun k w => M.bin .rem t15 (Value.int IntKind.u64 2) k w) (fun t16 w =>
  M.gd t10 true (fun k w => M.bin .eql t16 (Value.int IntKind.u64 1) k w) (fun t17 w =>
  M.pick t10 t17 (Value.bool false) (fun t18 w =>
  R t18 w) w) w) w) w) w) w) w) w) w) w) w
theorem ok31 (x0 x1 : Value) (R : Kt) (w : World) (h : sh31 x0 x1 R w) : Ret Tryz.prog 31 #[x0, x1] w R :=
  ret_mk <| calls_of_comp mixed (c := Tryz.f31.body.getD .skip) (args := [x0, x1]) (rs := [(ResultVar.tmp 4)]) (Ann.seq Ann.text (Ann.seq Ann.text Ann.leaf))
    Tryz.func31 (by kernel_rfl) (by kernel_rfl)
    (Eq.mp (by kernel_rfl) h)
def sh75 (x0 : Value) (R : Kt) (w : World) : Prop :=
  M.loop [(Value.int IntKind.u64 0), (Value.int IntKind.i64 0)] (fun s1 K1 w => ∀ _ : List Value,
  M.bin .lss (s1.getD 1 undef) x0 (fun t7 w =>
  M.gd t7 true (fun k w => k x0 w) (fun t9 w =>
  M.gd t7 true (fun k w => M.call Tryz.prog 79 #[t9] k w) (fun t10 w =>
  M.pick t7 t10 (Value.bool false) (fun t11 w =>
  M.cond t11
  (M.bin .mul (s1.getD 0 undef) (Value.int IntKind.u64 2) (fun t15 w =>
  M.bin .add t15 (Value.int IntKind.u64 1) (fun t16 w =>
  M.bin .add (s1.getD 1 undef) (Value.int IntKind.i64 1) (fun t13 w =>
  K1 [t16, t13] w) w) w) w)
  (R (s1.getD 0 undef) w)) w) w) w) w) w
theorem ok75 (x0 : Value) (R : Kt) (w : World) (h : sh75 x0 R w) : Ret Tryz.prog 75 #[x0] w R :=
  ret_mk <| calls_of_comp mixed (c := Tryz.f75.body.getD .skip) (args := [x0]) (rs := [(ResultVar.tmp 2)]) (Ann.seq Ann.text (Ann.seq Ann.text (Ann.seq (Ann.seq Ann.text (Ann.block (Ann.loop [3, 4] [5, 6, 7, 8, 9, 10, 11, 12, 13, 14, 15, 16] (Ann.seq (Ann.seq Ann.text (Ann.cond Ann.leaf Ann.leaf)) (Ann.seq (Ann.block Ann.text) Ann.text))))) (Ann.seq Ann.text Ann.leaf))))
    Tryz.func75 (by kernel_rfl) (by kernel_rfl)
    (Eq.mp (by kernel_rfl) h)
def sh37 (x0 x1 : Value) (R : Kt) (w : World) : Prop :=
  M.call Tryz.prog 75 #[x0] (fun t7 w =>
  M.bin .and x1 t7 (fun t8 w =>
  R t8 w) w) w
theorem ok37 (x0 x1 : Value) (R : Kt) (w : World) (h : sh37 x0 x1 R w) : Ret Tryz.prog 37 #[x0, x1] w R :=
  ret_mk <| calls_of_comp mixed (c := Tryz.f37.body.getD .skip) (args := [x0, x1]) (rs := [(ResultVar.tmp 4)]) (Ann.seq Ann.text (Ann.seq Ann.text Ann.leaf))
    Tryz.func37 (by kernel_rfl) (by kernel_rfl)
    (Eq.mp (by kernel_rfl) h)
def sh72 (x0 x1 : Value) (R : Kt) (w : World) : Prop :=
  M.call Tryz.prog 79 #[x0] (fun t6 w =>
  M.not t6 (fun t7 w =>
  M.cond t7
  (R (Value.int IntKind.i64 0) w)
  (M.call Tryz.prog 37 #[x0, x1] (fun t10 w =>
  M.share (fun K1 w =>
  M.bin .sub x0 (Value.int IntKind.i64 1) (fun t13 w =>
  M.call Tryz.prog 31 #[t10, t13] (fun t14 w =>
  M.cond t14
  (M.call Tryz.prog 75 #[x0] (fun t17 w =>
  M.val Tryz.prog (Op.unary .xor t17) (fun t18 w =>
  M.bin .or t10 t18 (fun t19 w =>
  K1 [t19] w) w) w) w)
  (K1 [t10] w)) w) w) (fun s1 w => ∀ _ : List Value,
  M.conv .i64 (s1.getD 0 undef) (fun t21 w =>
  R t21 w) w) w) w)) w) w
theorem ok72 (x0 x1 : Value) (R : Kt) (w : World) (h : sh72 x0 x1 R w) : Ret Tryz.prog 72 #[x0, x1] w R :=
  ret_mk <| calls_of_comp mixed (c := Tryz.f72.body.getD .skip) (args := [x0, x1]) (rs := [(ResultVar.tmp 4)]) (Ann.seq Ann.text (Ann.seq (Ann.seq Ann.text (Ann.cond (Ann.seq Ann.text Ann.leaf) Ann.leaf)) (Ann.seq Ann.text (Ann.join [1] [11, 12, 13, 14, 15, 16, 17, 18, 19] (Ann.seq Ann.text (Ann.cond Ann.text Ann.leaf)) (Ann.seq Ann.text Ann.leaf)))))
    Tryz.func72 (by kernel_rfl) (by kernel_rfl)
    (Eq.mp (by kernel_rfl) h)
def sh97 (x0 : Value) (R : Kt) (w : World) : Prop :=
  M.cond x0
  (R (Value.int IntKind.u64 1) w)
  (R (Value.int IntKind.u64 0) w)
theorem ok97 (x0 : Value) (R : Kt) (w : World) (h : sh97 x0 R w) : Ret Tryz.prog 97 #[x0] w R :=
  ret_mk <| calls_of_comp mixed (c := Tryz.f97.body.getD .skip) (args := [x0]) (rs := [(ResultVar.tmp 2)]) (Ann.seq Ann.text (Ann.seq (Ann.seq Ann.text (Ann.cond (Ann.seq Ann.text Ann.leaf) Ann.leaf)) (Ann.seq Ann.text Ann.leaf)))
    Tryz.func97 (by kernel_rfl) (by kernel_rfl)
    (Eq.mp (by kernel_rfl) h)
def fitsB (n : Int) : Bool := decide (1 ≤ n ∧ n ≤ 64)
def maskW (n : Int) : W64 := if fitsB n then BitVec.allOnes 64 >>> (64 - n.toNat) else 0
def cutW (n : Int) (x : W64) : W64 := x &&& maskW n
def sgnW (n : Int) (x : W64) : W64 := if fitsB n then (x <<< (64 - n.toNat)).sshiftRight (64 - n.toNat) else 0
theorem fits_ret (n : Int) (w : World) : Ret Tryz.prog 76 #[vi n] w (fun r w' => r = .bool (fitsB n) ∧ w' = w) := by
  refine ok76 _ _ _ ?_
  unfold sh76
  by_cases h1 : 1 ≤ n
  · (repeat (first|refine jf ?_|refine jE ?_))
    refine M.leq_i ?_
    (repeat (refine jk ?_))
    exact ⟨by simp [fitsB, h1], rfl⟩
  · (repeat (first|refine jh ?_|refine jl ?_|refine jF ?_))
    exact ⟨by simp [fitsB, h1], rfl⟩
theorem rfits_ret (n : Int) (w : World) : Ret Tryz.prog 79 #[vi n] w (fun r w' => r = .bool (fitsB n) ∧ w' = w) := by
  refine ok79 _ _ _ ?_
  unfold sh79
  by_cases h1 : 1 ≤ n
  · (repeat (first|refine jf ?_|refine jE ?_))
    refine M.leq_i ?_
    (repeat (refine jk ?_))
    exact ⟨by simp [fitsB, h1], rfl⟩
  · (repeat (first|refine jh ?_|refine jl ?_|refine jF ?_))
    exact ⟨by simp [fitsB, h1], rfl⟩
theorem fits_nat {n : Int} (h : fitsB n = true) : ∃ m : Nat, n = m ∧ 1 ≤ m ∧ m ≤ 64 := by
  unfold fitsB at h
  rw [decide_eq_true_iff] at h
  exact ⟨n.toNat, by omega, by omega, by omega⟩
theorem fits_of {m : Nat} (h1 : 1 ≤ m) (h2 : m ≤ 64) : fitsB m = true := by
  unfold fitsB
  rw [decide_eq_true_iff]; omega
theorem maskW_nat {m : Nat} (h1 : 1 ≤ m) (h2 : m ≤ 64) : maskW m = BitVec.allOnes 64 >>> (64 - m) := by
  unfold maskW
  rw [if_pos (fits_of h1 h2), Int.toNat_natCast]
theorem mask_ret (n : Int) (w : World) : Ret Tryz.prog 39 #[vi n] w (fun r w' => r = vw (maskW n) ∧ w' = w) := by
  refine ok39 _ _ _ ?_
  unfold sh39
  refine M.call_i (fits_ret n w) ?_; rintro _ w1 ⟨rfl, rfl⟩
  refine M.not_i ?_
  cases hf : fitsB n with
  | false =>
    (repeat (refine jo ?_))
    exact ⟨by unfold maskW; rw [hf]; rfl, rfl⟩
  | true =>
    obtain ⟨m, rfl, h1, h2⟩ := fits_nat hf
    (repeat (first|refine jp ?_|refine jL ?_))
    have e : (64 : Int) - (m : Int) = ((64 - m : Nat) : Int) := by omega
    rw [e]
    change M.shift .shr (vw (BitVec.allOnes 64)) _ _ _
    refine M.shrW_i ⟨?_, rfl⟩
    rw [maskW_nat h1 h2]
theorem cut_ret (n : Int) (x : W64) (w : World) : Ret Tryz.prog 43 #[vi n, vw x] w (fun r w' => r = vw (cutW n x) ∧ w' = w) := by
  refine ok43 _ _ _ _ ?_
  unfold sh43
  refine M.call_i (mask_ret n w) ?_; rintro _ w1 ⟨rfl, rfl⟩
  exact M.andW_i ⟨rfl, rfl⟩
theorem sgnW_nat {m : Nat} (h1 : 1 ≤ m) (h2 : m ≤ 64) (x : W64) : sgnW m x = (x <<< (64 - m)).sshiftRight (64 - m) := by
  unfold sgnW
  rw [if_pos (fits_of h1 h2), Int.toNat_natCast]
theorem one_ret (b : Bool) (w : World) : Ret Tryz.prog 97 #[.bool b] w (fun r w' => r = vw (if b then 1 else 0) ∧ w' = w) := by
  refine ok97 _ _ _ ?_
  unfold sh97
  cases b with
  | false => exact M.cond_f ⟨rfl, rfl⟩
  | true => exact M.cond_t ⟨rfl, rfl⟩
theorem maskW_bit {m : Nat} (h1 : 1 ≤ m) (h2 : m ≤ 64) (i : Nat) : (maskW m).getLsbD i = decide (i < m) := by
  rw [maskW_nat h1 h2, BitVec.getLsbD_ushiftRight, BitVec.getLsbD_allOnes]
  by_cases h : i < m
  · rw [decide_eq_true h, decide_eq_true]; omega
  · rw [decide_eq_false h, decide_eq_false]; omega
theorem cutW_bit {m : Nat} (h1 : 1 ≤ m) (h2 : m ≤ 64) (x : W64) (i : Nat) : (cutW m x).getLsbD i = (x.getLsbD i && decide (i < m)) := by
  unfold cutW
  rw [BitVec.getLsbD_and, maskW_bit h1 h2]
theorem sgnW_bit {m : Nat} (h1 : 1 ≤ m) (h2 : m ≤ 64) (x : W64) (i : Nat) (hi : i < 64) : (sgnW m x).getLsbD i = x.getLsbD (if i < m then i else m - 1) := by
  rw [sgnW_nat h1 h2, BitVec.getLsbD_sshiftRight]
  have hm : (x <<< (64 - m)).msb = x.getLsbD (m - 1) := by
    rw [BitVec.msb_eq_getLsbD_last, BitVec.getLsbD_shiftLeft]
    have e : 64 - 1 - (64 - m) = m - 1 := by omega
    rw [e]
    have h3 : decide (64 - 1 < 64) = true := by decide
    have h4 : decide (64 - 1 < 64 - m) = false := by rw [decide_eq_false_iff_not]; omega
    rw [h3, h4]; rfl
  have h5 : decide (64 ≤ i) = false := by rw [decide_eq_false_iff_not]; omega
  rw [h5, hm]
  by_cases h : i < m
  · rw [if_pos h, if_pos (by omega), BitVec.getLsbD_shiftLeft]
    have e : 64 - m + i - (64 - m) = i := by omega
    have h6 : decide (64 - m + i < 64) = true := by rw [decide_eq_true_iff]; omega
    have h7 : decide (64 - m + i < 64 - m) = false := by rw [decide_eq_false_iff_not]; omega
    rw [e, h6, h7]; rfl
  · rw [if_neg h, if_neg (by omega)]; rfl
theorem maskR_eq {m : Nat} (h1 : 1 ≤ m) (h2 : m ≤ 64) : BitVec.ofNat 64 (2 ^ m - 1) = maskW m := by
  apply BitVec.eq_of_getLsbD_eq
  intro i hi
  rw [maskW_bit h1 h2, BitVec.getLsbD_ofNat, Nat.testBit_two_pow_sub_one]
  simp [hi]
theorem rmask_ret (n : Int) (w : World) : Ret Tryz.prog 75 #[vi n] w (fun r w' => r = vw (maskW n) ∧ w' = w) := by
  refine ok75 _ _ _ ?_
  unfold sh75
  refine M.loop_i (σ := Nat) (fun i vals w' => vals = [vw (BitVec.ofNat 64 (2 ^ i - 1)), vi i] ∧ (fitsB n = false → i = 0) ∧ ((i : Int) ≤ n ∨ i = 0) ∧ w' = w) (fun i => n.toNat - i) 0 ⟨rfl, fun _ => rfl, .inr rfl, rfl⟩ ?_
  rintro i vals w1 K ⟨rfl, h0, hi, rfl⟩ hK _
  simp only [List.getD_cons_zero, List.getD_cons_succ]
  by_cases hlt : (i : Int) < n
  · (repeat (first|refine jf ?_|refine jy ?_))
    refine M.call_i (rfits_ret n w1) ?_; rintro _ w2 ⟨rfl, rfl⟩
    (repeat (refine jk ?_))
    cases hf : fitsB n with
    | false =>
      obtain rfl := h0 hf
      (repeat (refine jp ?_))
      exact ⟨by unfold maskW; rw [hf]; rfl, rfl⟩
    | true =>
      obtain ⟨m, rfl, h1, h2⟩ := fits_nat hf
      (repeat (refine jo ?_))
      change M.bin .mul (vw _) (vw 2) _ _
      refine M.mulW_i ?_
      change M.bin .add (vw _) (vw 1) _ _
      refine M.addW_i ?_
      have e : BitVec.ofNat 64 (2 ^ i - 1) * 2 + 1 = BitVec.ofNat 64 (2 ^ (i + 1) - 1) := by
        have h2 : (2 : W64) = BitVec.ofNat 64 2 := rfl
        have h3 : (1 : W64) = BitVec.ofNat 64 1 := rfl
        rw [h2, h3, ← BitVec.ofNat_mul, ← BitVec.ofNat_add]
        congr 1
        have := Nat.one_le_two_pow (n := i)
        rw [Nat.pow_succ]; omega
      rw [e]
      (repeat (refine jK ?_))
      exact hK (i + 1) _ _ (by omega) ⟨by simp, fun h => by simp [hf] at h, .inl (by omega), rfl⟩
  · (repeat (first|refine jh ?_|refine jl ?_|refine jp ?_|refine jz ?_))
    refine ⟨?_, rfl⟩
    cases hf : fitsB n with
    | false =>
      obtain rfl := h0 hf
      unfold maskW; rw [hf]; rfl
    | true =>
      obtain ⟨m, rfl, h1, h2⟩ := fits_nat hf
      have : i = m := by omega
      subst this
      rw [maskR_eq h1 h2]
theorem rcut_ret (n : Int) (x : W64) (w : World) : Ret Tryz.prog 37 #[vi n, vw x] w (fun r w' => r = vw (cutW n x) ∧ w' = w) := by
  refine ok37 _ _ _ _ ?_
  unfold sh37
  refine M.call_i (rmask_ret n w) ?_; rintro _ w1 ⟨rfl, rfl⟩
  exact M.andW_i ⟨rfl, rfl⟩
theorem bit_of (x : W64) (i : Nat) : decide ((x >>> i) % 2 = 1) = x.getLsbD i := by
  have e : ((x >>> i) % 2 = 1) ↔ x.toNat / 2 ^ i % 2 = 1 := by
    constructor
    · intro h
      have := congrArg BitVec.toNat h
      rw [BitVec.toNat_umod, BitVec.toNat_ushiftRight, Nat.shiftRight_eq_div_pow] at this
      exact this
    · intro h
      apply BitVec.eq_of_toNat_eq
      rw [BitVec.toNat_umod, BitVec.toNat_ushiftRight, Nat.shiftRight_eq_div_pow]
      exact h
  unfold BitVec.getLsbD
  rw [Nat.testBit_eq_decide_div_mod_eq]
  by_cases h : x.toNat / 2 ^ i % 2 = 1
  · rw [decide_eq_true h, decide_eq_true (e.2 h)]
  · rw [decide_eq_false h, decide_eq_false (fun h' => h (e.1 h'))]
theorem rbit_ret (x : W64) (i : Int) (w : World) : Ret Tryz.prog 31 #[vw x, vi i] w (fun r w' => r = .bool (decide (0 ≤ i) && x.getLsbD i.toNat) ∧ w' = w) := by
  refine ok31 _ _ _ _ ?_
  unfold sh31
  by_cases h0 : 0 ≤ i
  · obtain ⟨m, rfl⟩ : ∃ m : Nat, i = m := ⟨i.toNat, by omega⟩
    by_cases h1 : (m : Int) < 64
    · (repeat (first|refine jf ?_|refine jk ?_|refine jy ?_|refine jE ?_))
      refine M.toWord_i ?_
      have e : vw (BitVec.ofInt 64 (m : Int)) = .int .u64 (m : Int) := by
        show Value.int .u64 _ = _
        congr 1
        rw [BitVec.toNat_ofInt]; omega
      rw [e]
      (repeat (refine jf ?_))
      refine M.shrW_i ?_
      change M.gd _ _ (fun k w => M.bin .rem (vw _) (vw 2) k w) _ _
      (repeat (refine jf ?_))
      refine M.remW_i (by decide) ?_
      change M.gd _ _ (fun k w => M.bin .eql (vw _) (vw 1) k w) _ _
      (repeat (refine jf ?_))
      refine M.eqlW_i ?_
      (repeat (refine jk ?_))
      refine ⟨?_, rfl⟩
      rw [bit_of]
      simp
    · (repeat (first|refine jf ?_|refine jh ?_|refine jk ?_|refine jl ?_|refine jz ?_|refine jE ?_))
      refine ⟨?_, rfl⟩
      rw [BitVec.getLsbD_of_ge _ _ (by omega)]; simp
  · (repeat (first|refine jh ?_|refine jl ?_|refine jF ?_))
    refine ⟨?_, rfl⟩
    simp [h0]
end Go.Proofs.YtnbcglnefoinlaaGreat
namespace Go.Proofs.YtnbcglnefoinlaaGreat
open Go.Mw
set_option linter.unusedVariables false
set_option linter.unusedSimpArgs false
set_option maxRecDepth 100000
attribute [local irreducible] M.val M.unit M.next M.pick M.new M.nilCheck M.load1 M.loadA M.store M.fieldAddr M.indexSl M.indexArr M.slice M.makeSlice M.buildSlice M.len M.lenS M.cap M.append M.extract M.conv M.not M.neg M.bin M.shift M.eqB M.eqNil M.scat M.call M.callv M.gd M.share M.cond M.loop M.draw pureW readW Ret
def sh120 (x0 x1 x2 x3 : Value) (R : Kt) (w : World) : Prop :=
  M.loop [(Value.int IntKind.u64 0), (Value.int IntKind.i64 0)] (fun s1 K1 w => ∀ _ : List Value,
  M.bin .lss (s1.getD 1 undef) x0 (fun t15 w =>
  M.cond t15
  (M.bin .sub (s1.getD 1 undef) x2 (fun t20 w =>
  M.share (fun K2 w =>
  M.bin .geq t20 x0 (fun t23 w =>
  M.cond t23
  (K2 [x3] w)
  (M.bin .geq t20 (Value.int IntKind.i64 0) (fun t26 w =>
  M.cond t26
  (M.call Tryz.prog 31 #[x1, t20] (fun t29 w =>
  K2 [t29] w) w)
  (K2 [(Value.bool false)] w)) w)) w) (fun s2 w => ∀ _ : List Value,
  M.call Tryz.prog 97 #[(s2.getD 0 undef)] (fun t32 w =>
  M.conv .u64 (s1.getD 1 undef) (fun t34 w =>
  M.shift .shl t32 t34 (fun t35 w =>
  M.bin .or (s1.getD 0 undef) t35 (fun t36 w =>
  M.bin .add (s1.getD 1 undef) (Value.int IntKind.i64 1) (fun t17 w =>
  K1 [t36, t17] w) w) w) w) w) w) w) w)
  (R (s1.getD 0 undef) w)) w) w
theorem ok120 (x0 x1 x2 x3 : Value) (R : Kt) (w : World) (h : sh120 x0 x1 x2 x3 R w) : Ret Tryz.prog 120 #[x0, x1, x2, x3] w R :=
  ret_mk <| calls_of_comp mixed (c := Tryz.f120.body.getD .skip) (args := [x0, x1, x2, x3]) (rs := [(ResultVar.tmp 8)]) (Ann.seq Ann.text (Ann.seq Ann.text (Ann.seq (Ann.seq Ann.text (Ann.block (Ann.loop [9, 10] [11, 12, 13, 14, 15, 16, 17, 18, 19, 20, 21, 22, 23, 24, 25, 26, 27, 28, 29, 30, 31, 32, 33, 34, 35, 36] (Ann.seq (Ann.seq Ann.text (Ann.cond Ann.leaf Ann.leaf)) (Ann.seq (Ann.block (Ann.seq Ann.text (Ann.seq Ann.text (Ann.join [12] [21, 22, 23, 24, 25, 26, 27, 28, 29] (Ann.seq Ann.text (Ann.cond Ann.text (Ann.seq Ann.text (Ann.cond Ann.text Ann.leaf)))) Ann.text)))) Ann.text))))) (Ann.seq Ann.text Ann.leaf))))
    Tryz.func120 (by kernel_rfl) (by kernel_rfl)
    (Eq.mp (by kernel_rfl) h)
def sh98 (x0 x1 x2 x3 : Value) (R : Kt) (w : World) : Prop :=
  M.share (fun K1 w =>
  M.bin .lss x3 (Value.int IntKind.u64 64) (fun t11 w =>
  M.cond t11
  (M.conv .i64 x3 (fun t13 w =>
  K1 [t13] w) w)
  (K1 [(Value.int IntKind.i64 64)] w)) w) (fun s1 w => ∀ _ : List Value,
  M.bin .eql x0 (Value.int IntKind.i64 9) (fun t16 w =>
  M.cond t16
  (M.call Tryz.prog 120 #[x1, x2, (s1.getD 0 undef), (Value.bool false)] (fun t20 w =>
  R t20 w) w)
  (M.bin .eql x0 (Value.int IntKind.i64 10) (fun t22 w =>
  M.cond t22
  (M.neg (s1.getD 0 undef) (fun t26 w =>
  M.call Tryz.prog 120 #[x1, x2, t26, (Value.bool false)] (fun t27 w =>
  R t27 w) w) w)
  (M.neg (s1.getD 0 undef) (fun t31 w =>
  M.bin .sub x1 (Value.int IntKind.i64 1) (fun t34 w =>
  M.call Tryz.prog 31 #[x2, t34] (fun t35 w =>
  M.call Tryz.prog 120 #[x1, x2, t31, t35] (fun t36 w =>
  R t36 w) w) w) w) w)) w)) w) w
theorem ok98 (x0 x1 x2 x3 : Value) (R : Kt) (w : World) (h : sh98 x0 x1 x2 x3 R w) : Ret Tryz.prog 98 #[x0, x1, x2, x3] w R :=
  ret_mk <| calls_of_comp mixed (c := Tryz.f98.body.getD .skip) (args := [x0, x1, x2, x3]) (rs := [(ResultVar.tmp 8)]) (Ann.seq Ann.text (Ann.seq Ann.text (Ann.join [9] [10, 11, 12, 13] (Ann.seq Ann.text (Ann.cond Ann.text Ann.leaf)) (Ann.seq (Ann.seq Ann.text (Ann.block (Ann.seq Ann.text (Ann.cond (Ann.seq Ann.text Ann.leaf) (Ann.seq Ann.text (Ann.cond (Ann.seq Ann.text Ann.leaf) Ann.leaf)))))) (Ann.seq Ann.text Ann.leaf)))))
    Tryz.func98 (by kernel_rfl) (by kernel_rfl)
    (Eq.mp (by kernel_rfl) h)
def sh74 (x0 x1 x2 x3 : Value) (R : Kt) (w : World) : Prop :=
  M.bin .lss x0 (Value.int IntKind.i64 1) (fun t12 w =>
  M.gd t12 false (fun k w => k x0 w) (fun t14 w =>
  M.gd t12 false (fun k w => M.bin .gtr t14 (Value.int IntKind.i64 14) k w) (fun t15 w =>
  M.pick t12 (Value.bool true) t15 (fun t16 w =>
  M.cond t16
  (R (.tuple #[(Value.int IntKind.u64 0), (Value.int IntKind.i64 3)]) w)
  (M.call Tryz.prog 79 #[x1] (fun t18 w =>
  M.not t18 (fun t19 w =>
  M.cond t19
  (R (.tuple #[(Value.int IntKind.u64 0), (Value.int IntKind.i64 2)]) w)
  (M.call Tryz.prog 37 #[x1, x2] (fun t22 w =>
  M.call Tryz.prog 37 #[x1, x3] (fun t25 w =>
  M.share (fun K1 w =>
  M.bin .eql x0 (Value.int IntKind.i64 1) (fun t33 w =>
  M.cond t33
  (M.bin .add t22 t25 (fun t36 w =>
  K1 [t36] w) w)
  (M.bin .eql x0 (Value.int IntKind.i64 2) (fun t38 w =>
  M.cond t38
  (M.bin .sub t22 t25 (fun t41 w =>
  K1 [t41] w) w)
  (M.bin .eql x0 (Value.int IntKind.i64 3) (fun t43 w =>
  M.cond t43
  (M.bin .mul t22 t25 (fun t46 w =>
  K1 [t46] w) w)
  (M.bin .eql x0 (Value.int IntKind.i64 4) (fun t48 w =>
  M.cond t48
  (M.call Tryz.prog 75 #[x1] (fun t50 w =>
  M.bin .neq t25 (Value.int IntKind.u64 0) (fun t52 w =>
  M.cond t52
  (M.bin .quo t22 t25 (fun t55 w =>
  K1 [t55] w) w)
  (K1 [t50] w)) w) w)
  (M.bin .eql x0 (Value.int IntKind.i64 5) (fun t57 w =>
  M.cond t57
  (M.bin .neq t25 (Value.int IntKind.u64 0) (fun t60 w =>
  M.cond t60
  (M.bin .rem t22 t25 (fun t63 w =>
  K1 [t63] w) w)
  (K1 [t22] w)) w)
  (M.bin .eql x0 (Value.int IntKind.i64 6) (fun t65 w =>
  M.cond t65
  (M.bin .and t22 t25 (fun t68 w =>
  K1 [t68] w) w)
  (M.bin .eql x0 (Value.int IntKind.i64 7) (fun t70 w =>
  M.cond t70
  (M.bin .or t22 t25 (fun t73 w =>
  K1 [t73] w) w)
  (M.bin .eql x0 (Value.int IntKind.i64 8) (fun t75 w =>
  M.cond t75
  (M.bin .xor t22 t25 (fun t78 w =>
  K1 [t78] w) w)
  (M.bin .eql x0 (Value.int IntKind.i64 12) (fun t80 w =>
  M.cond t80
  (M.bin .eql t22 t25 (fun t83 w =>
  M.call Tryz.prog 97 #[t83] (fun t84 w =>
  K1 [t84] w) w) w)
  (M.bin .eql x0 (Value.int IntKind.i64 13) (fun t86 w =>
  M.cond t86
  (M.bin .lss t22 t25 (fun t89 w =>
  M.call Tryz.prog 97 #[t89] (fun t90 w =>
  K1 [t90] w) w) w)
  (M.bin .eql x0 (Value.int IntKind.i64 14) (fun t92 w =>
  M.cond t92
  (M.call Tryz.prog 72 #[x1, t22] (fun t95 w =>
  M.call Tryz.prog 72 #[x1, t25] (fun t98 w =>
  M.bin .lss t95 t98 (fun t99 w =>
  M.call Tryz.prog 97 #[t99] (fun t100 w =>
  K1 [t100] w) w) w) w) w)
  (M.call Tryz.prog 98 #[x0, x1, t22, t25] (fun t31 w =>
  K1 [t31] w) w)) w)) w)) w)) w)) w)) w)) w)) w)) w)) w)) w) (fun s1 w => ∀ _ : List Value,
  M.call Tryz.prog 37 #[x1, (s1.getD 0 undef)] (fun t103 w =>
  R (.tuple #[t103, (Value.int IntKind.i64 0)]) w) w) w) w) w)) w) w)) w) w) w) w
theorem ok74 (x0 x1 x2 x3 : Value) (R : Kt) (w : World) (h : sh74 x0 x1 x2 x3 R w) : Ret Tryz.prog 74 #[x0, x1, x2, x3] w R :=
  ret_mk <| calls_of_comp mixed (c := Tryz.f74.body.getD .skip) (args := [x0, x1, x2, x3]) (rs := [(ResultVar.tmp 8), (ResultVar.tmp 9)]) (Ann.seq Ann.text (Ann.seq (Ann.seq Ann.text (Ann.cond (Ann.seq Ann.text Ann.leaf) Ann.leaf)) (Ann.seq (Ann.seq Ann.text (Ann.cond (Ann.seq Ann.text Ann.leaf) Ann.leaf)) (Ann.seq Ann.text (Ann.seq Ann.text (Ann.seq Ann.text (Ann.seq (Ann.seq Ann.text (Ann.jblock [10] [27, 28, 29, 30, 31, 32, 33, 34, 35, 36, 37, 38, 39, 40, 41, 42, 43, 44, 45, 46, 47, 48, 49, 50, 51, 52, 53, 54, 55, 56, 57, 58, 59, 60, 61, 62, 63, 64, 65, 66, 67, 68, 69, 70, 71, 72, 73, 74, 75, 76, 77, 78, 79, 80, 81, 82, 83, 84, 85, 86, 87, 88, 89, 90, 91, 92, 93, 94, 95, 96, 97, 98, 99, 100] (Ann.seq Ann.text (Ann.cond Ann.text (Ann.seq Ann.text (Ann.cond Ann.text (Ann.seq Ann.text (Ann.cond Ann.text (Ann.seq Ann.text (Ann.cond (Ann.seq Ann.text (Ann.seq Ann.text (Ann.cond Ann.text Ann.leaf))) (Ann.seq Ann.text (Ann.cond (Ann.seq Ann.text (Ann.seq Ann.text (Ann.cond Ann.text Ann.leaf))) (Ann.seq Ann.text (Ann.cond Ann.text (Ann.seq Ann.text (Ann.cond Ann.text (Ann.seq Ann.text (Ann.cond Ann.text (Ann.seq Ann.text (Ann.cond Ann.text (Ann.seq Ann.text (Ann.cond Ann.text (Ann.seq Ann.text (Ann.cond Ann.text Ann.text)))))))))))))))))))))))) (Ann.seq Ann.text Ann.leaf))))))))
    Tryz.func74 (by kernel_rfl) (by kernel_rfl)
    (Eq.mp (by kernel_rfl) h)
def sh73 (x0 x1 x2 : Value) (R : Kt) (w : World) : Prop :=
  M.bin .neq x0 (Value.int IntKind.i64 15) (fun t9 w =>
  M.gd t9 true (fun k w => k x0 w) (fun t11 w =>
  M.gd t9 true (fun k w => M.bin .neq t11 (Value.int IntKind.i64 16) k w) (fun t12 w =>
  M.pick t9 t12 (Value.bool false) (fun t13 w =>
  M.cond t13
  (R (.tuple #[(Value.int IntKind.u64 0), (Value.int IntKind.i64 3)]) w)
  (M.call Tryz.prog 79 #[x1] (fun t15 w =>
  M.not t15 (fun t16 w =>
  M.cond t16
  (R (.tuple #[(Value.int IntKind.u64 0), (Value.int IntKind.i64 2)]) w)
  (M.bin .eql x0 (Value.int IntKind.i64 15) (fun t18 w =>
  M.cond t18
  (M.val Tryz.prog (Op.unary .xor x2) (fun t21 w =>
  M.call Tryz.prog 37 #[x1, t21] (fun t22 w =>
  R (.tuple #[t22, (Value.int IntKind.i64 0)]) w) w) w)
  (M.neg x2 (fun t25 w =>
  M.call Tryz.prog 37 #[x1, t25] (fun t26 w =>
  R (.tuple #[t26, (Value.int IntKind.i64 0)]) w) w) w)) w)) w) w)) w) w) w) w
theorem ok73 (x0 x1 x2 : Value) (R : Kt) (w : World) (h : sh73 x0 x1 x2 R w) : Ret Tryz.prog 73 #[x0, x1, x2] w R :=
  ret_mk <| calls_of_comp mixed (c := Tryz.f73.body.getD .skip) (args := [x0, x1, x2]) (rs := [(ResultVar.tmp 6), (ResultVar.tmp 7)]) (Ann.seq Ann.text (Ann.seq (Ann.seq Ann.text (Ann.cond (Ann.seq Ann.text Ann.leaf) Ann.leaf)) (Ann.seq (Ann.seq Ann.text (Ann.cond (Ann.seq Ann.text Ann.leaf) Ann.leaf)) (Ann.seq (Ann.seq Ann.text (Ann.cond (Ann.seq Ann.text Ann.leaf) Ann.leaf)) (Ann.seq Ann.text Ann.leaf)))))
    Tryz.func73 (by kernel_rfl) (by kernel_rfl)
    (Eq.mp (by kernel_rfl) h)
theorem sgnR_eq {m : Nat} (h1 : 1 ≤ m) (h2 : m ≤ 64) (x : W64) : sgnW m x = if (cutW m x).getLsbD (m - 1) then cutW m x ||| ~~~maskW m else cutW m x := by
  apply BitVec.eq_of_getLsbD_eq
  intro i hi
  rw [sgnW_bit h1 h2 _ _ hi, cutW_bit h1 h2]
  have hm : decide (m - 1 < m) = true := by rw [decide_eq_true_iff]; omega
  rw [hm, Bool.and_true]
  cases hb : x.getLsbD (m - 1) with
  | false =>
    simp only [Bool.false_eq_true, if_false]
    rw [cutW_bit h1 h2]
    by_cases h : i < m
    · simp [h]
    · simp [h, hb]
  | true =>
    simp only [if_true]
    rw [BitVec.getLsbD_or, cutW_bit h1 h2, BitVec.getLsbD_not, maskW_bit h1 h2]
    by_cases h : i < m
    · simp [h]
    · simp [h, hb, hi]
theorem rsigned_ret (n : Int) (x : W64) (w : World) : Ret Tryz.prog 72 #[vi n, vw x] w (fun r w' => r = vi (sgnW n x).toInt ∧ w' = w) := by
  refine ok72 _ _ _ _ ?_
  unfold sh72
  refine M.call_i (rfits_ret n w) ?_; rintro _ w1 ⟨rfl, rfl⟩
  refine M.not_i ?_
  cases hf : fitsB n with
  | false =>
    (repeat (refine jo ?_))
    exact ⟨by unfold sgnW; rw [hf]; rfl, rfl⟩
  | true =>
    obtain ⟨m, rfl, h1, h2⟩ := fits_nat hf
    (repeat (refine jp ?_))
    refine M.call_i (rcut_ret m x w1) ?_; rintro _ w2 ⟨rfl, rfl⟩
    refine M.share_i ?_
    (repeat (refine jL ?_))
    have e : (m : Int) - 1 = ((m - 1 : Nat) : Int) := by omega
    rw [e]
    refine M.call_i (rbit_ret (cutW m x) ((m - 1 : Nat) : Int) w2) ?_; rintro _ w3 ⟨rfl, rfl⟩
    have e2 : (decide (0 ≤ ((m - 1 : Nat) : Int)) && (cutW m x).getLsbD (((m - 1 : Nat) : Int)).toNat) = (cutW m x).getLsbD (m - 1) := by
      rw [decide_eq_true (by omega), Int.toNat_natCast]; simp
    rw [e2]
    have es := sgnR_eq h1 h2 x
    cases hb : (cutW m x).getLsbD (m - 1) with
    | false =>
      rw [hb] at es
      (repeat (refine jp ?_))
      intro _
      simp only [List.getD_cons_zero, List.getD_cons_succ]
      refine M.toIntW_i ⟨?_, rfl⟩
      rw [es]; rfl
    | true =>
      rw [hb] at es
      (repeat (refine jo ?_))
      refine M.call_i (rmask_ret m w3) ?_; rintro _ w4 ⟨rfl, rfl⟩
      refine M.notW_i ?_
      refine M.orW_i ?_
      intro _
      simp only [List.getD_cons_zero, List.getD_cons_succ]
      refine M.toIntW_i ⟨?_, rfl⟩
      rw [es]; rfl
def byN (m : Nat) (b : W64) : Nat := if m < b.toNat then m else b.toNat
def binC (op : Int) (m : Nat) (a b : W64) : W64 :=
  if op = 1 then a + b else if op = 2 then a - b else if op = 3 then a * b
  else if op = 4 then (if b = 0 then maskW m else a / b) else if op = 5 then (if b = 0 then a else a % b)
  else if op = 6 then a &&& b else if op = 7 then a ||| b else if op = 8 then a ^^^ b
  else if op = 9 then a <<< byN m b else if op = 10 then a >>> byN m b else if op = 11 then (sgnW m a).sshiftRight (byN m b)
  else if op = 12 then (if decide (a = b) then 1 else 0) else if op = 13 then (if decide (a < b) then 1 else 0)
  else if decide ((sgnW m a).toInt < (sgnW m b).toInt) then 1 else 0
def binW (op : Int) (n : Int) (a b : W64) : W64 := if op < 1 ∨ 14 < op then 0 else if fitsB n then cutW n (binC op n.toNat (cutW n a) (cutW n b)) else 0
def binE (op : Int) (n : Int) : Int := if op < 1 ∨ 14 < op then 3 else if fitsB n then 0 else 2
def unW (op : Int) (n : Int) (a : W64) : W64 := if op ≠ 15 ∧ op ≠ 16 then 0 else if fitsB n then cutW n (if op = 15 then ~~~a else -a) else 0
def unE (op : Int) (n : Int) : Int := if op ≠ 15 ∧ op ≠ 16 then 3 else if fitsB n then 0 else 2
theorem cut_lt {m : Nat} (h1 : 1 ≤ m) (h2 : m ≤ 64) (x : W64) : (cutW m x).toNat < 2 ^ m := by
  unfold cutW
  rw [BitVec.toNat_and, ← maskR_eq h1 h2, BitVec.toNat_ofNat]
  have h3 : 2 ^ m ≤ 2 ^ 64 := Nat.pow_le_pow_right (by omega) h2
  have h4 := Nat.one_le_two_pow (n := m)
  rw [Nat.mod_eq_of_lt (by omega)]
  have := Nat.and_le_right (n := x.toNat) (m := 2 ^ m - 1)
  omega
theorem sgn_toInt {m : Nat} (h1 : 1 ≤ m) (h2 : m ≤ 64) (x : W64) (hx : x.toNat < 2 ^ m) : (sgnW m x).toInt = if x.toNat < 2 ^ (m - 1) then (x.toNat : Int) else (x.toNat : Int) - ((2 ^ m : Nat) : Int) := by
  rw [sgnW_nat h1 h2, BitVec.toInt_sshiftRight, Int.shiftRight_eq_div_pow]
  have hs : 2 ^ m * 2 ^ (64 - m) = 2 ^ 64 := by rw [← Nat.pow_add]; congr 1; omega
  have hm : 2 ^ m = 2 ^ (m - 1) * 2 := by
    have := Nat.pow_succ 2 (m - 1)
    rw [show (m - 1).succ = m by omega] at this
    exact this
  have hq : 0 < 2 ^ (64 - m) := Nat.two_pow_pos _
  have hlt : x.toNat * 2 ^ (64 - m) < 2 ^ 64 := by
    rw [← hs]
    exact Nat.mul_lt_mul_of_pos_right hx hq
  have e : (x <<< (64 - m)).toNat = x.toNat * 2 ^ (64 - m) := by
    rw [BitVec.toNat_shiftLeft, Nat.shiftLeft_eq, Nat.mod_eq_of_lt hlt]
  rw [BitVec.toInt_eq_toNat_cond, e]
  generalize 2 ^ (64 - m) = q at *
  generalize 2 ^ m = p2 at *
  generalize 2 ^ (m - 1) = p at *
  subst hm
  by_cases hxp : x.toNat < p
  · have : 2 * (x.toNat * q) < 2 ^ 64 := by
      rw [← hs]
      have : x.toNat * q < p * q := Nat.mul_lt_mul_of_pos_right hxp hq
      rw [Nat.mul_right_comm]; omega
    rw [if_pos this, if_pos hxp]
    have : ((x.toNat * q : Nat) : Int) = (x.toNat : Int) * (q : Int) := by push_cast; rfl
    rw [this]
    exact Int.mul_ediv_cancel _ (by omega)
  · have : ¬ 2 * (x.toNat * q) < 2 ^ 64 := by
      rw [← hs]
      have : p * q ≤ x.toNat * q := Nat.mul_le_mul_right _ (by omega)
      rw [Nat.mul_right_comm]; omega
    rw [if_neg this, if_neg hxp, ← hs]
    have : ((x.toNat * q : Nat) : Int) - ((p * 2 * q : Nat) : Int) = ((x.toNat : Int) - ((p * 2 : Nat) : Int)) * (q : Int) := by
      push_cast; rw [Int.sub_mul]
    rw [this]
    exact Int.mul_ediv_cancel _ (by omega)
theorem cut_cut {n : Int} (hf : fitsB n = true) (x : W64) : cutW n (cutW n x) = cutW n x := by
  obtain ⟨m, rfl, h1, h2⟩ := fits_nat hf
  unfold cutW
  rw [BitVec.and_assoc, BitVec.and_self]
theorem runary_ret (op n : Int) (a : W64) (w : World) : Ret Tryz.prog 73 #[vi op, vi n, vw a] w (fun r w' => r = .tuple #[vw (unW op n a), vi (unE op n)] ∧ w' = w) := by
  refine ok73 _ _ _ _ _ ?_
  unfold sh73
  by_cases ho : op ≠ 15 ∧ op ≠ 16
  · have h1 := ho.1
    have h2 := ho.2
    (repeat (first|refine jf ?_|refine jk ?_|refine jo ?_|refine jI ?_))
    exact ⟨by simp [unW, unE, ho], rfl⟩
  have rest : ∀ {k : Kt}, (fitsB n = false → k (.bool true) w) → (fitsB n = true → k (.bool false) w) → M.call Tryz.prog 79 #[vi n] (fun t17 w => M.not t17 k w) w := by
    intro k h1 h2
    refine M.call_i (rfits_ret n w) ?_; rintro _ w1 ⟨rfl, rfl⟩
    refine M.not_i ?_
    cases hf : fitsB n with
    | false => exact h1 hf
    | true => exact h2 hf
  rcases (by omega : op = 15 ∨ op = 16) with rfl | rfl
  · (repeat (first|refine jh ?_|refine jl ?_|refine jp ?_|refine jJ ?_))
    refine rest (fun hf => ?_) (fun hf => ?_)
    · (repeat (refine jo ?_))
      exact ⟨by simp [unW, unE, hf], rfl⟩
    · (repeat (first|refine jo ?_|refine jp ?_|refine jG ?_))
      refine M.notW_i ?_
      refine M.call_i (rcut_ret n (~~~a) w) ?_; rintro _ w1 ⟨rfl, rfl⟩
      exact ⟨by simp [unW, unE, hf], rfl⟩
  · (repeat (first|refine jf ?_|refine jk ?_|refine jp ?_|refine jI ?_|refine jJ ?_))
    refine rest (fun hf => ?_) (fun hf => ?_)
    · (repeat (refine jo ?_))
      exact ⟨by simp [unW, unE, hf], rfl⟩
    · (repeat (first|refine jp ?_|refine jH ?_))
      refine M.negW_i ?_
      refine M.call_i (rcut_ret n (-a) w) ?_; rintro _ w1 ⟨rfl, rfl⟩
      exact ⟨by simp [unW, unE, hf], rfl⟩
end Go.Proofs.YtnbcglnefoinlaaGreat
namespace Go.Proofs.YtnbcglnefoinlaaGreat
open Go.Mw
set_option linter.unusedVariables false
set_option linter.unusedSimpArgs false
set_option maxRecDepth 100000
attribute [local irreducible] M.val M.unit M.next M.pick M.new M.nilCheck M.load1 M.loadA M.store M.fieldAddr M.indexSl M.indexArr M.slice M.makeSlice M.buildSlice M.len M.lenS M.cap M.append M.extract M.conv M.not M.neg M.bin M.shift M.eqB M.eqNil M.scat M.call M.callv M.gd M.share M.cond M.loop M.draw pureW readW Ret
theorem one_bit (b : Bool) (k : Nat) : (if b then (1 : W64) else 0).getLsbD k = (b && decide (k = 0)) := by
  cases b with
  | false => simp
  | true =>
    simp only [if_true, Bool.true_and]
    show (1#64).getLsbD k = _
    rw [BitVec.getLsbD_one]
    by_cases h : k = 0
    · subst h; rfl
    · have : ¬ 0 = k := fun e => h e.symm
      simp [h, this]
def isB (m : Nat) (a : W64) (s : Int) (fill : Bool) (j : Nat) : Bool := if (m : Int) ≤ (j : Int) - s then fill else if 0 ≤ (j : Int) - s then a.getLsbD ((j : Int) - s).toNat else false
theorem word_nat (i : Nat) (h : i < 18446744073709551616) : vw (BitVec.ofInt 64 (i : Int)) = .int .u64 (i : Int) := by
  show Value.int .u64 _ = _
  congr 1
  rw [BitVec.toNat_ofInt]; omega
theorem rmoved_ret {m : Nat} (h2 : m ≤ 64) (a : W64) {s : Int} (hs : -64 ≤ s ∧ s ≤ 64) (fill : Bool) (w : World) :
    Ret Tryz.prog 120 #[vi m, vw a, vi s, .bool fill] w (fun r w' => ∃ x : W64, r = vw x ∧ (∀ j, x.getLsbD j = (decide (j < m) && isB m a s fill j)) ∧ w' = w) := by
  refine ok120 _ _ _ _ _ _ ?_
  unfold sh120
  refine M.loop_i (σ := Nat × W64) (fun t vals w' => vals = [vw t.2, vi t.1] ∧ t.1 ≤ m ∧ (∀ j, t.2.getLsbD j = (decide (j < t.1) && isB m a s fill j)) ∧ w' = w) (fun t => m - t.1) (0, 0) ⟨rfl, Nat.zero_le _, fun j => by simp, rfl⟩ ?_
  rintro ⟨i, x⟩ vals w1 K ⟨rfl, hi, hx, rfl⟩ hK _
  simp only at hi hx
  simp only [List.getD_cons_zero, List.getD_cons_succ]
  by_cases hlt : i < m
  · (repeat (first|refine jo ?_|refine jy ?_|refine jL ?_))
    refine M.share_j (fun vals w' => vals = [vb (isB m a s fill i)] ∧ w' = w1) ?_ ?_
    · rintro vals w2 ⟨rfl, rfl⟩ _
      simp only [List.getD_cons_zero, List.getD_cons_succ]
      refine M.call_i (one_ret (isB m a s fill i) w2) ?_; rintro _ w3 ⟨rfl, rfl⟩
      refine M.toWord_i ?_
      rw [word_nat i (by omega)]
      refine M.shlW_i ?_
      refine M.orW_i ?_
      (repeat (refine jK ?_))
      refine hK (i + 1, x ||| (if isB m a s fill i then (1 : W64) else 0) <<< i) _ _ (by show m - (i + 1) < m - i; omega) ⟨by simp, by show i + 1 ≤ m; omega, fun j => ?_, rfl⟩
      show (x ||| (if isB m a s fill i then (1 : W64) else 0) <<< i).getLsbD j = _
      rw [BitVec.getLsbD_or, hx, BitVec.getLsbD_shiftLeft, one_bit]
      rcases Nat.lt_trichotomy j i with h | h | h
      · have a1 : j < i + 1 := by omega
        simp [h, a1]
      · subst h
        have a1 : j < 64 := by omega
        simp [a1]
      · have a1 : ¬ j < i := by omega
        have a2 : ¬ j < i + 1 := by omega
        have a3 : ¬ j - i = 0 := by omega
        simp [a1, a2, a3]
    · intro K2 hK2
      by_cases h1 : (m : Int) ≤ (i : Int) - s
      · (repeat (first|refine jo ?_|refine jE ?_))
        refine hK2 _ _ ⟨?_, rfl⟩
        unfold isB
        rw [if_pos h1]
      · by_cases h0 : 0 ≤ (i : Int) - s
        · (repeat (first|refine jo ?_|refine jp ?_|refine jE ?_|refine jF ?_))
          refine M.call_i (rbit_ret a ((i : Int) - s) w1) ?_; rintro _ w2 ⟨rfl, rfl⟩
          refine hK2 _ _ ⟨?_, rfl⟩
          unfold isB
          rw [if_neg h1, if_pos h0, decide_eq_true h0]; simp
        · (repeat (first|refine jp ?_|refine jF ?_))
          refine hK2 _ _ ⟨?_, rfl⟩
          unfold isB
          rw [if_neg h1, if_neg h0]
  · (repeat (first|refine jp ?_|refine jz ?_))
    have : i = m := by omega
    subst this
    exact ⟨x, rfl, hx, rfl⟩
theorem cut_high {m : Nat} (h1 : 1 ≤ m) (h2 : m ≤ 64) {a : W64} (ca : cutW m a = a) {k : Nat} (hk : m ≤ k) : a.getLsbD k = false := by
  rw [← ca, cutW_bit h1 h2, decide_eq_false (by omega)]; simp
theorem sar_bit {m : Nat} (h1 : 1 ≤ m) (h2 : m ≤ 64) (a : W64) (n j : Nat) (hj : j < 64) : ((sgnW m a).sshiftRight n).getLsbD j = a.getLsbD (if n + j < m then n + j else m - 1) := by
  rw [BitVec.getLsbD_sshiftRight, decide_eq_false (by omega)]
  have hmsb : (sgnW m a).msb = a.getLsbD (m - 1) := by
    rw [BitVec.msb_eq_getLsbD_last, sgnW_bit h1 h2 _ _ (by omega)]
    congr 1
    split <;> omega
  by_cases h : n + j < 64
  · rw [if_pos h, sgnW_bit h1 h2 _ _ h]; rfl
  · rw [if_neg h, hmsb, if_neg (by omega)]; rfl
theorem rshift_ret {op : Int} {m : Nat} (h1 : 1 ≤ m) (h2 : m ≤ 64) (a b : W64) (ca : cutW m a = a) (ho : op = 9 ∨ op = 10 ∨ op = 11) (w : World) :
    Ret Tryz.prog 98 #[vi op, vi m, vw a, vw b] w (fun r w' => ∃ x : W64, r = vw x ∧ cutW m x = cutW m (binC op m a b) ∧ w' = w) := by
  refine ok98 _ _ _ _ _ _ ?_
  unfold sh98
  have hb := b.isLt
  obtain ⟨s, hs⟩ : ∃ s : Nat, s = if b.toNat < 64 then b.toNat else 64 := ⟨_, rfl⟩
  refine M.share_j (fun vals w' => vals = [vi s] ∧ w' = w) ?_ ?_
  rotate_left
  · intro K hK
    by_cases h : b.toNat < 64
    · rw [if_pos h] at hs
      change M.bin .lss (.int .u64 (b.toNat : Int)) (.int .u64 64) _ _
      (repeat (first|refine jo ?_|refine jy ?_))
      refine M.int8_i (by omega) (by omega) ?_
      exact hK _ _ ⟨by rw [hs], rfl⟩
    · rw [if_neg h] at hs
      change M.bin .lss (.int .u64 (b.toNat : Int)) (.int .u64 64) _ _
      (repeat (first|refine jp ?_|refine jz ?_))
      exact hK _ _ ⟨by rw [hs]; rfl, rfl⟩
  rintro vals w1 ⟨rfl, rfl⟩ _
  simp only [List.getD_cons_zero, List.getD_cons_succ]
  have hs64 : s ≤ 64 := by rw [hs]; split <;> omega
  have hn : (b.toNat ≤ m ∧ byN m b = s ∧ s ≤ m) ∨ (m < b.toNat ∧ byN m b = m ∧ m ≤ s) := by
    unfold byN
    by_cases h : m < b.toNat
    · right
      rw [if_pos h]
      refine ⟨h, rfl, ?_⟩
      rw [hs]; split <;> omega
    · left
      rw [if_neg h]
      refine ⟨by omega, ?_, ?_⟩
      · rw [hs]; split <;> omega
      · rw [hs]; split <;> omega
  rcases ho with rfl | rfl | rfl
  · (repeat (first|refine jo ?_|refine jG ?_))
    refine M.call_i (rmoved_ret h2 a (s := s) (by omega) false w1) ?_; rintro _ w2 ⟨x, rfl, hx, rfl⟩
    refine ⟨x, rfl, ?_, rfl⟩
    have e : binC 9 m a b = a <<< byN m b := rfl
    rw [e]
    apply BitVec.eq_of_getLsbD_eq
    intro j hj
    rw [cutW_bit h1 h2, cutW_bit h1 h2, hx, BitVec.getLsbD_shiftLeft]
    by_cases hjm : j < m
    · simp only [hjm, hj, decide_true, Bool.true_and, Bool.and_true]
      unfold isB
      rw [if_neg (by omega)]
      rcases hn with ⟨_, hn, _⟩ | ⟨_, hn, _⟩
      · rw [hn]
        by_cases hjs : j < s
        · rw [if_neg (by omega)]; simp [hjs]
        · rw [if_pos (by omega)]
          have : ((j : Int) - (s : Int)).toNat = j - s := by omega
          rw [this]; simp [hjs]
      · rw [hn, if_neg (by omega)]; simp [hjm]
    · simp [hjm]
  · (repeat (first|refine jo ?_|refine jp ?_|refine jG ?_|refine jH ?_))
    refine M.negI_i (by omega) (by omega) ?_
    refine M.call_i (rmoved_ret h2 a (s := -(s : Int)) (by omega) false w1) ?_; rintro _ w2 ⟨x, rfl, hx, rfl⟩
    refine ⟨x, rfl, ?_, rfl⟩
    have e : binC 10 m a b = a >>> byN m b := rfl
    rw [e]
    apply BitVec.eq_of_getLsbD_eq
    intro j hj
    rw [cutW_bit h1 h2, cutW_bit h1 h2, hx, BitVec.getLsbD_ushiftRight]
    by_cases hjm : j < m
    · simp only [hjm, decide_true, Bool.true_and, Bool.and_true]
      unfold isB
      have e2 : (j : Int) - -(s : Int) = ((s + j : Nat) : Int) := by omega
      rw [e2]
      rcases hn with ⟨_, hn, _⟩ | ⟨_, hn, hms⟩
      · rw [hn]
        by_cases hjs : m ≤ s + j
        · rw [if_pos (by omega), cut_high h1 h2 ca hjs]
        · rw [if_neg (by omega), if_pos (by omega), Int.toNat_natCast]
      · rw [hn, if_pos (by omega), cut_high h1 h2 ca (by omega)]
    · simp [hjm]
  · (repeat (first|refine jp ?_|refine jH ?_))
    refine M.negI_i (by omega) (by omega) ?_
    (repeat (refine jL ?_))
    have e1 : (m : Int) - 1 = ((m - 1 : Nat) : Int) := by omega
    rw [e1]
    refine M.call_i (rbit_ret a ((m - 1 : Nat) : Int) w1) ?_; rintro _ w2 ⟨rfl, rfl⟩
    have e3 : (decide (0 ≤ ((m - 1 : Nat) : Int)) && a.getLsbD (((m - 1 : Nat) : Int)).toNat) = a.getLsbD (m - 1) := by
      rw [decide_eq_true (by omega), Int.toNat_natCast]; simp
    rw [e3]
    refine M.call_i (rmoved_ret h2 a (s := -(s : Int)) (by omega) (a.getLsbD (m - 1)) w2) ?_; rintro _ w3 ⟨x, rfl, hx, rfl⟩
    refine ⟨x, rfl, ?_, rfl⟩
    have e : binC 11 m a b = (sgnW m a).sshiftRight (byN m b) := rfl
    rw [e]
    apply BitVec.eq_of_getLsbD_eq
    intro j hj
    rw [cutW_bit h1 h2, cutW_bit h1 h2, hx, sar_bit h1 h2 _ _ _ hj]
    by_cases hjm : j < m
    · simp only [hjm, decide_true, Bool.true_and, Bool.and_true]
      unfold isB
      have e2 : (j : Int) - -(s : Int) = ((s + j : Nat) : Int) := by omega
      rw [e2]
      rcases hn with ⟨_, hn, _⟩ | ⟨_, hn, hms⟩
      · rw [hn]
        by_cases hjs : m ≤ s + j
        · rw [if_pos (by omega), if_neg (by omega)]
        · rw [if_neg (by omega), if_pos (by omega), Int.toNat_natCast, if_pos (by omega)]
      · rw [hn, if_pos (by omega), if_neg (by omega)]
    · simp [hjm]
set_option maxHeartbeats 1000000 in
theorem rbinary_ret (op n : Int) (a b : W64) (w : World) : Ret Tryz.prog 74 #[vi op, vi n, vw a, vw b] w (fun r w' => r = .tuple #[vw (binW op n a b), vi (binE op n)] ∧ w' = w) := by
  refine ok74 _ _ _ _ _ _ ?_
  unfold sh74
  by_cases ho : op < 1
  · (repeat (first|refine ji ?_|refine jk ?_|refine jo ?_|refine jy ?_))
    exact ⟨by simp [binW, binE, ho], rfl⟩
  by_cases ho2 : 14 < op
  · (repeat (first|refine jg ?_|refine jl ?_|refine jo ?_|refine jz ?_|refine jC ?_))
    exact ⟨by simp [binW, binE, ho2], rfl⟩
  (repeat (first|refine jg ?_|refine jl ?_|refine jp ?_|refine jz ?_|refine jD ?_))
  refine M.call_i (rfits_ret n w) ?_; rintro _ w1 ⟨rfl, rfl⟩
  refine M.not_i ?_
  cases hf : fitsB n with
  | false =>
    (repeat (refine jo ?_))
    exact ⟨by simp [binW, binE, ho, ho2, hf], rfl⟩
  | true =>
    have eW : binW op n a b = cutW n (binC op n.toNat (cutW n a) (cutW n b)) := by
      unfold binW
      rw [if_neg (by omega), if_pos hf]
    have eE : binE op n = 0 := by
      unfold binE
      rw [if_neg (by omega), if_pos hf]
    rw [eW, eE]
    have ca := cut_cut hf a
    have cb := cut_cut hf b
    obtain ⟨m, rfl, h1, h2⟩ := fits_nat hf
    rw [Int.toNat_natCast]
    (repeat (refine jp ?_))
    refine M.call_i (rcut_ret m a w1) ?_; rintro _ w2 ⟨rfl, rfl⟩
    refine M.call_i (rcut_ret m b w2) ?_; rintro _ w3 ⟨rfl, rfl⟩
    generalize cutW m a = a at ca ⊢
    generalize cutW m b = b at cb ⊢
    have fin : ∀ {x : W64}, cutW m x = cutW m (binC op m a b) → ∀ s : List Value, M.call Tryz.prog 37 #[vi m, ([vw x] : List Value).getD 0 undef] (fun t97 w => (Value.tuple #[t97, vi 0] = .tuple #[vw (cutW m (binC op m a b)), vi 0] ∧ w = w3)) w3 := by
      intro x hx s
      simp only [List.getD_cons_zero, List.getD_cons_succ]
      refine M.call_i (rcut_ret m x w3) ?_; rintro _ w4 ⟨rfl, rfl⟩
      exact ⟨by rw [hx], rfl⟩
    refine M.share_i ?_
    have hop : op = 1 ∨ op = 2 ∨ op = 3 ∨ op = 4 ∨ op = 5 ∨ op = 6 ∨ op = 7 ∨ op = 8 ∨ op = 12 ∨ op = 13 ∨ op = 14 ∨ (op = 9 ∨ op = 10 ∨ op = 11) := by omega
    rcases hop with rfl | rfl | rfl | rfl | rfl | rfl | rfl | rfl | rfl | rfl | rfl | hop
    · (repeat (first|refine jo ?_|refine jG ?_))
      refine M.addW_i ?_
      exact fin rfl
    · (repeat (first|refine jo ?_|refine jp ?_|refine jG ?_|refine jH ?_))
      refine M.subW_i ?_
      exact fin rfl
    · (repeat (first|refine jo ?_|refine jp ?_|refine jG ?_|refine jH ?_))
      refine M.mulW_i ?_
      exact fin rfl
    · (repeat (first|refine jo ?_|refine jp ?_|refine jG ?_|refine jH ?_))
      refine M.call_i (rmask_ret m w3) ?_; rintro _ w4 ⟨rfl, rfl⟩
      change M.bin .neq (vw b) (vw 0) _ _
      refine M.neqW_i ?_
      by_cases hb : b = 0
      · rw [decide_eq_false (by simpa using hb)]
        (repeat (refine jp ?_))
        exact fin (by simp [binC, hb])
      · rw [decide_eq_true hb]
        (repeat (refine jo ?_))
        refine M.quoW_i hb ?_
        have e : binC 4 m a b = if b = 0 then maskW m else a / b := rfl
        exact fin (by rw [e, if_neg hb])
    · (repeat (first|refine jo ?_|refine jp ?_|refine jG ?_|refine jH ?_))
      change M.bin .neq (vw b) (vw 0) _ _
      refine M.neqW_i ?_
      by_cases hb : b = 0
      · rw [decide_eq_false (by simpa using hb)]
        (repeat (refine jp ?_))
        exact fin (by simp [binC, hb])
      · rw [decide_eq_true hb]
        (repeat (refine jo ?_))
        refine M.remW_i hb ?_
        have e : binC 5 m a b = if b = 0 then a else a % b := rfl
        exact fin (by rw [e, if_neg hb])
    · (repeat (first|refine jo ?_|refine jp ?_|refine jG ?_|refine jH ?_))
      refine M.andW_i ?_
      exact fin rfl
    · (repeat (first|refine jo ?_|refine jp ?_|refine jG ?_|refine jH ?_))
      refine M.orW_i ?_
      exact fin rfl
    · (repeat (first|refine jo ?_|refine jp ?_|refine jG ?_|refine jH ?_))
      refine M.xorW_i ?_
      exact fin rfl
    · (repeat (first|refine jo ?_|refine jp ?_|refine jG ?_|refine jH ?_))
      refine M.eqlW_i ?_
      refine M.call_i (one_ret (decide (a = b)) w3) ?_; rintro _ w4 ⟨rfl, rfl⟩
      exact fin rfl
    · (repeat (first|refine jo ?_|refine jp ?_|refine jG ?_|refine jH ?_))
      refine M.lssW_i ?_
      refine M.call_i (one_ret (decide (a < b)) w3) ?_; rintro _ w4 ⟨rfl, rfl⟩
      exact fin rfl
    · (repeat (first|refine jo ?_|refine jp ?_|refine jG ?_|refine jH ?_))
      refine M.call_i (rsigned_ret m a w3) ?_; rintro _ w4 ⟨rfl, rfl⟩
      refine M.call_i (rsigned_ret m b w4) ?_; rintro _ w5 ⟨rfl, rfl⟩
      refine M.lss_i ?_
      refine M.call_i (one_ret (decide ((sgnW m a).toInt < (sgnW m b).toInt)) w5) ?_; rintro _ w6 ⟨rfl, rfl⟩
      exact fin rfl
    · have n1 : ¬ op = 1 := by omega
      have n2 : ¬ op = 2 := by omega
      (repeat (first|refine jp ?_|refine jH ?_))
      refine M.call_i (rshift_ret h1 h2 a b ca hop w3) ?_; rintro _ w4 ⟨x, rfl, hx, rfl⟩
      exact fin hx
end Go.Proofs.YtnbcglnefoinlaaGreat
namespace Go.Proofs.YtnbcglnefoinlaaGreat
open Go.Mw
set_option linter.unusedVariables false
set_option linter.unusedSimpArgs false
set_option maxRecDepth 100000
attribute [local irreducible] M.val M.unit M.next M.pick M.new M.nilCheck M.load1 M.loadA M.store M.fieldAddr M.indexSl M.indexArr M.slice M.makeSlice M.buildSlice M.len M.lenS M.cap M.append M.extract M.conv M.not M.neg M.bin M.shift M.eqB M.eqNil M.scat M.call M.callv M.gd M.share M.cond M.loop M.draw pureW readW Ret
structure Nd where
  op : Int
  wd : Int
  a : Int
  b : Int
  c : Int
  val : W64
deriving DecidableEq
def Nd.cells (n : Nd) : List Value := [vi n.op, vi n.wd, vi n.a, vi n.b, vi n.c, vw n.val]
abbrev encN (n : Nd) : Value := .agg ⟨n.cells⟩
abbrev NL (N : List Nd) : List Value := N.flatMap Nd.cells
def Nd.Ok (n : Nd) : Prop := I64 n.op ∧ I64 n.wd ∧ I64 n.a ∧ I64 n.b ∧ I64 n.c
def isN (N : List Nd) (i : Int) : Bool := decide (0 ≤ i ∧ i < N.length)
def wdN (N : List Nd) (i : Int) : Int := if isN N i then ((N[i.toNat]?).map Nd.wd).getD 0 else 0
def madeN (most : Int) (N : List Nd) (n : Nd) : List Nd × Int × Int :=
  if n ∈ N then (N, (N.idxOf n : Int), 0) else if most ≤ N.length then (N, 0, 8) else (N ++ [n], N.length, 0)
def constN (most : Int) (N : List Nd) (w : Int) (x : W64) : List Nd × Int × Int := if fitsB w then madeN most N ⟨20, w, 0, 0, 0, cutW w x⟩ else (N, 0, 2)
def otherW (N : List Nd) (w i : Int) : Bool := N.any (fun n => decide (n.op = 21) && decide (n.a = i) && decide (n.wd ≠ w))
def varN (most : Int) (N : List Nd) (w i : Int) : List Nd × Int × Int :=
  if fitsB w = false then (N, 0, 2) else if i < 0 ∨ 255 < i then (N, 0, 10) else if otherW N w i then (N, 0, 2) else madeN most N ⟨21, w, i, 0, 0, 0⟩
def unaryN (most : Int) (N : List Nd) (op a : Int) : List Nd × Int × Int :=
  if op ≠ 15 ∧ op ≠ 16 then (N, 0, 3) else if isN N a = false then (N, 0, 11) else madeN most N ⟨op, wdN N a, a, 0, 0, 0⟩
def binaryN (most : Int) (N : List Nd) (op a b : Int) : List Nd × Int × Int :=
  if op < 1 ∨ 14 < op then (N, 0, 3) else if isN N a = false ∨ isN N b = false then (N, 0, 11) else if wdN N a ≠ wdN N b then (N, 0, 2)
  else madeN most N ⟨op, if 12 ≤ op then 1 else wdN N a, a, b, 0, 0⟩
def iteN (most : Int) (N : List Nd) (c a b : Int) : List Nd × Int × Int :=
  if isN N c = false ∨ isN N a = false ∨ isN N b = false then (N, 0, 11) else if wdN N c ≠ 1 ∨ wdN N a ≠ wdN N b then (N, 0, 2)
  else madeN most N ⟨22, wdN N a, c, a, b, 0⟩
def extractN (most : Int) (N : List Nd) (a lo w : Int) : List Nd × Int × Int :=
  if isN N a = false then (N, 0, 11) else if w < 1 ∨ lo < 0 ∨ wdN N a < w ∨ wdN N a - w < lo then (N, 0, 2) else madeN most N ⟨23, w, a, lo, 0, 0⟩
def concatN (most : Int) (N : List Nd) (a b : Int) : List Nd × Int × Int :=
  if isN N a = false ∨ isN N b = false then (N, 0, 11) else if 64 < wdN N a + wdN N b then (N, 0, 2) else madeN most N ⟨24, wdN N a + wdN N b, a, b, 0, 0⟩
def extendN (most : Int) (N : List Nd) (a w : Int) (signed : Bool) : List Nd × Int × Int :=
  if isN N a = false then (N, 0, 11) else if w < wdN N a ∨ 64 < w then (N, 0, 2) else if w = wdN N a then (N, a, 0)
  else madeN most N ⟨if signed then 26 else 25, w, a, 0, 0, 0⟩
def kidsN (n : Nd) : List Int := if n.op = 20 ∨ n.op = 21 then [] else if n.op = 22 then [n.a, n.b, n.c] else if n.op ≤ 14 ∨ n.op = 24 then [n.a, n.b] else [n.a]
def goodN (N : List Nd) (n : Nd) : Prop := (1 ≤ n.wd ∧ n.wd ≤ 64) ∧ (∀ k ∈ kidsN n, isN N k = true) ∧
  ((n.op = 20 ∧ n.a = 0 ∧ n.b = 0 ∧ n.c = 0 ∧ cutW n.wd n.val = n.val) ∨ (n.op = 21 ∧ 0 ≤ n.a ∧ n.a ≤ 255 ∧ n.b = 0 ∧ n.c = 0 ∧ n.val = 0) ∨
   ((n.op = 15 ∨ n.op = 16) ∧ n.wd = wdN N n.a ∧ n.b = 0 ∧ n.c = 0 ∧ n.val = 0) ∨
   (1 ≤ n.op ∧ n.op ≤ 14 ∧ wdN N n.a = wdN N n.b ∧ n.wd = (if 12 ≤ n.op then 1 else wdN N n.a) ∧ n.c = 0 ∧ n.val = 0) ∨
   (n.op = 22 ∧ wdN N n.a = 1 ∧ wdN N n.b = wdN N n.c ∧ n.wd = wdN N n.b ∧ n.val = 0) ∨
   (n.op = 23 ∧ 0 ≤ n.b ∧ n.b ≤ 64 ∧ n.b + n.wd ≤ wdN N n.a ∧ n.c = 0 ∧ n.val = 0) ∨
   (n.op = 24 ∧ n.wd = wdN N n.a + wdN N n.b ∧ n.c = 0 ∧ n.val = 0) ∨
   ((n.op = 25 ∨ n.op = 26) ∧ wdN N n.a < n.wd ∧ n.b = 0 ∧ n.c = 0 ∧ n.val = 0))
def GoodN (N : List Nd) : Prop := ∀ (i : Nat) n, N[i]? = some n → goodN (N.take i) n
theorem isN_iff {N : List Nd} {i : Int} : isN N i = true ↔ 0 ≤ i ∧ i < N.length := by simp [isN]
theorem isN_no {N : List Nd} {i : Int} : isN N i = false ↔ ¬ (0 ≤ i ∧ i < N.length) := by simp [isN]
theorem wdN_at {N : List Nd} {i : Nat} {n : Nd} (h : N[i]? = some n) : wdN N i = n.wd := by
  have := (List.getElem?_eq_some_iff.1 h).1
  unfold wdN
  rw [if_pos (isN_iff.2 ⟨by omega, by omega⟩), Int.toNat_natCast, h]; rfl
theorem wdN_none {N : List Nd} {i : Int} (h : isN N i = false) : wdN N i = 0 := by
  unfold wdN
  rw [h]; rfl
theorem isN_get {N : List Nd} {i : Int} (h : isN N i = true) : ∃ (j : Nat) (n : Nd), i = j ∧ N[j]? = some n := by
  obtain ⟨h0, h1⟩ := isN_iff.1 h
  exact ⟨i.toNat, N[i.toNat]'(by omega), by omega, List.getElem?_eq_getElem (by omega)⟩
theorem GoodN.wd {N : List Nd} (h : GoodN N) {i : Int} (hi : isN N i = true) : 1 ≤ wdN N i ∧ wdN N i ≤ 64 := by
  obtain ⟨j, n, rfl, hj⟩ := isN_get hi
  rw [wdN_at hj]
  exact (h j n hj).1
theorem isN_take {N : List Nd} {i : Int} {j : Nat} (h : isN (N.take j) i = true) : isN N i = true := by
  rw [isN_iff] at h ⊢
  rw [List.length_take] at h; omega
theorem wdN_take {N : List Nd} {i : Int} {j : Nat} (h : isN (N.take j) i = true) : wdN (N.take j) i = wdN N i := by
  have h' := isN_take h
  rw [isN_iff, List.length_take] at h
  obtain ⟨k, n, rfl, hk⟩ := isN_get h'
  have : (N.take j)[k]? = some n := by rw [List.getElem?_take, if_pos (by omega)]; exact hk
  rw [wdN_at hk, wdN_at this]
theorem GoodN.snoc {N : List Nd} {n : Nd} (h : GoodN N) (hn : goodN N n) : GoodN (N ++ [n]) := fun i m hm => by
  by_cases hi : i < N.length
  · rw [List.getElem?_append_left hi] at hm
    rw [List.take_append_of_le_length (by omega)]
    exact h i m hm
  · rw [List.getElem?_append_right (by omega)] at hm
    have hl := (List.getElem?_eq_some_iff.1 hm).1
    simp only [List.length_singleton] at hl
    have e : i = N.length := by omega
    subst e
    simp at hm; subst hm
    simpa using hn
structure AskR (most : Int) (N : List Nd) (r : List Nd × Int × Int) : Prop where
  good : GoodN r.1
  len : (r.1.length : Int) ≤ most ∨ r.1 = N
  pre : ∃ l, r.1 = N ++ l
  id : 0 ≤ r.2.1 ∧ (r.2.2 = 0 → isN r.1 r.2.1 = true)
theorem ask_no {most : Int} {N : List Nd} {e : Int} (h : GoodN N) (he : e ≠ 0) : AskR most N (N, 0, e) := ⟨h, .inr rfl, ⟨[], by simp⟩, by show (0 : Int) ≤ 0; omega, fun h => absurd h he⟩
theorem ask_made {most : Int} {N : List Nd} {n : Nd} (h : GoodN N) (hn : goodN N n) : AskR most N (madeN most N n) := by
  unfold madeN
  split
  · rename_i hm
    refine ⟨h, .inr rfl, ⟨[], by simp⟩, Int.natCast_nonneg _, fun _ => ?_⟩
    rw [isN_iff]
    have := List.idxOf_lt_length_of_mem hm
    show (0 : Int) ≤ (N.idxOf n : Int) ∧ (N.idxOf n : Int) < (N.length : Int)
    omega
  · split
    · exact ask_no h (by decide)
    · refine ⟨h.snoc hn, .inl ?_, ⟨[n], rfl⟩, Int.natCast_nonneg _, fun _ => ?_⟩
      · show ((N ++ [n]).length : Int) ≤ most
        rw [List.length_append, List.length_singleton]; omega
      · rw [isN_iff]
        show (0 : Int) ≤ (N.length : Int) ∧ (N.length : Int) < ((N ++ [n]).length : Int)
        rw [List.length_append, List.length_singleton]; omega
theorem ask_const {most : Int} {N : List Nd} (h : GoodN N) (w : Int) (x : W64) : AskR most N (constN most N w x) := by
  unfold constN
  split
  · rename_i hf
    obtain ⟨m, rfl, h1, h2⟩ := fits_nat hf
    refine ask_made h ⟨by show 1 ≤ (m : Int) ∧ (m : Int) ≤ 64; omega, by intro k hk; simp [kidsN] at hk, .inl ⟨rfl, rfl, rfl, rfl, ?_⟩⟩
    show cutW m (cutW m x) = cutW m x
    unfold cutW
    rw [BitVec.and_assoc, BitVec.and_self]
  · exact ask_no h (by decide)
theorem ask_var {most : Int} {N : List Nd} (h : GoodN N) (w i : Int) : AskR most N (varN most N w i) := by
  unfold varN
  split
  · exact ask_no h (by decide)
  · rename_i hf
    split
    · exact ask_no h (by decide)
    · rename_i hi
      split
      · exact ask_no h (by decide)
      · obtain ⟨m, rfl, h1, h2⟩ := fits_nat (by simpa using hf)
        exact ask_made h ⟨by show 1 ≤ (m : Int) ∧ (m : Int) ≤ 64; omega, by intro k hk; simp [kidsN] at hk, .inr (.inl ⟨rfl, by show 0 ≤ i; omega, by show i ≤ 255; omega, rfl, rfl, rfl⟩)⟩
theorem ask_unary {most : Int} {N : List Nd} (h : GoodN N) (op a : Int) : AskR most N (unaryN most N op a) := by
  unfold unaryN
  split
  · exact ask_no h (by decide)
  · rename_i ho
    split
    · exact ask_no h (by decide)
    · rename_i ha
      have ha : isN N a = true := by simpa using ha
      refine ask_made h ⟨h.wd ha, fun k hk => ?_, .inr (.inr (.inl ⟨by show op = 15 ∨ op = 16; omega, rfl, rfl, rfl, rfl⟩))⟩
      unfold kidsN at hk
      rw [if_neg (by show ¬ (op = 20 ∨ op = 21); omega), if_neg (by show ¬ op = 22; omega), if_neg (by show ¬ (op ≤ 14 ∨ op = 24); omega)] at hk
      simp at hk; subst hk; exact ha
theorem ask_binary {most : Int} {N : List Nd} (h : GoodN N) (op a b : Int) : AskR most N (binaryN most N op a b) := by
  unfold binaryN
  split
  · exact ask_no h (by decide)
  · rename_i ho
    split
    · exact ask_no h (by decide)
    · rename_i hab
      split
      · exact ask_no h (by decide)
      · rename_i hw
        have ha : isN N a = true := by
          cases hh : isN N a
          · exact absurd (.inl hh) hab
          · rfl
        have hb : isN N b = true := by
          cases hh : isN N b
          · exact absurd (.inr hh) hab
          · rfl
        have hwa := h.wd ha
        refine ask_made h ⟨?_, fun k hk => ?_, .inr (.inr (.inr (.inl ⟨by show 1 ≤ op; omega, by show op ≤ 14; omega, by show wdN N a = wdN N b; omega, rfl, rfl, rfl⟩)))⟩
        · show 1 ≤ (if 12 ≤ op then (1 : Int) else wdN N a) ∧ (if 12 ≤ op then (1 : Int) else wdN N a) ≤ 64
          split <;> omega
        · unfold kidsN at hk
          rw [if_neg (by show ¬ (op = 20 ∨ op = 21); omega), if_neg (by show ¬ op = 22; omega), if_pos (by show op ≤ 14 ∨ op = 24; omega)] at hk
          simp at hk
          rcases hk with rfl | rfl
          · exact ha
          · exact hb
theorem ask_ite {most : Int} {N : List Nd} (h : GoodN N) (c a b : Int) : AskR most N (iteN most N c a b) := by
  unfold iteN
  split
  · exact ask_no h (by decide)
  · rename_i hab
    split
    · exact ask_no h (by decide)
    · rename_i hw
      have hc : isN N c = true := by
        cases hh : isN N c
        · exact absurd (.inl hh) hab
        · rfl
      have ha : isN N a = true := by
        cases hh : isN N a
        · exact absurd (.inr (.inl hh)) hab
        · rfl
      have hb : isN N b = true := by
        cases hh : isN N b
        · exact absurd (.inr (.inr hh)) hab
        · rfl
      refine ask_made h ⟨h.wd ha, fun k hk => ?_, .inr (.inr (.inr (.inr (.inl ⟨rfl, by show wdN N c = 1; omega, by show wdN N a = wdN N b; omega, rfl, rfl⟩))))⟩
      simp [kidsN] at hk
      rcases hk with rfl | rfl | rfl
      · exact hc
      · exact ha
      · exact hb
theorem ask_extract {most : Int} {N : List Nd} (h : GoodN N) (a lo w : Int) : AskR most N (extractN most N a lo w) := by
  unfold extractN
  split
  · exact ask_no h (by decide)
  · rename_i ha
    split
    · exact ask_no h (by decide)
    · rename_i hw
      have ha : isN N a = true := by simpa using ha
      have hwa := h.wd ha
      refine ask_made h ⟨by show 1 ≤ w ∧ w ≤ 64; omega, fun k hk => ?_, .inr (.inr (.inr (.inr (.inr (.inl ⟨rfl, by show 0 ≤ lo; omega, by show lo ≤ 64; omega, by show lo + w ≤ wdN N a; omega, rfl, rfl⟩)))))⟩
      simp [kidsN] at hk
      subst hk; exact ha
theorem ask_concat {most : Int} {N : List Nd} (h : GoodN N) (a b : Int) : AskR most N (concatN most N a b) := by
  unfold concatN
  split
  · exact ask_no h (by decide)
  · rename_i hab
    split
    · exact ask_no h (by decide)
    · rename_i hw
      have ha : isN N a = true := by
        cases hh : isN N a
        · exact absurd (.inl hh) hab
        · rfl
      have hb : isN N b = true := by
        cases hh : isN N b
        · exact absurd (.inr hh) hab
        · rfl
      have hwa := h.wd ha
      have hwb := h.wd hb
      refine ask_made h ⟨by show 1 ≤ wdN N a + wdN N b ∧ wdN N a + wdN N b ≤ 64; omega, fun k hk => ?_, .inr (.inr (.inr (.inr (.inr (.inr (.inl ⟨rfl, rfl, rfl, rfl⟩))))))⟩
      simp [kidsN] at hk
      rcases hk with rfl | rfl
      · exact ha
      · exact hb
theorem ask_extend {most : Int} {N : List Nd} (h : GoodN N) (a w : Int) (s : Bool) : AskR most N (extendN most N a w s) := by
  unfold extendN
  split
  · exact ask_no h (by decide)
  · rename_i ha
    have ha : isN N a = true := by simpa using ha
    have hwa := h.wd ha
    split
    · exact ask_no h (by decide)
    · rename_i hw
      split
      · refine ⟨h, .inr rfl, ⟨[], by simp⟩, ?_, fun _ => ha⟩
        exact (isN_iff.1 ha).1
      · refine ask_made h ⟨by show 1 ≤ w ∧ w ≤ 64; omega, fun k hk => ?_, .inr (.inr (.inr (.inr (.inr (.inr (.inr ⟨?_, ?_, rfl, rfl, rfl⟩))))))⟩
        · cases s <;> (simp [kidsN] at hk; subst hk; exact ha)
        · cases s
          · exact .inl rfl
          · exact .inr rfl
        · show wdN N a < w; omega
theorem goodN.ok {N : List Nd} {n : Nd} (h : goodN N n) (hN : N.length ≤ 1000000) : n.Ok := by
  obtain ⟨h1, h2, h3⟩ := h
  have hk : ∀ k ∈ kidsN n, I64 k := fun k hk => by
    have := isN_iff.1 (h2 k hk)
    exact ⟨by omega, by omega⟩
  have small : ∀ x : Int, -1000 ≤ x → x ≤ 1000 → I64 x := fun x h1 h2 => ⟨by omega, by omega⟩
  have hw := small n.wd (by omega) (by omega)
  rcases h3 with ⟨ho, ha, hb, hc, _⟩ | ⟨ho, ha, ha2, hb, hc, _⟩ | ⟨ho, _, hb, hc, _⟩ | ⟨ho, ho2, _, _, hc, _⟩ | ⟨ho, _⟩ | ⟨ho, hb, hb2, _, hc, _⟩ | ⟨ho, _, hc, _⟩ | ⟨ho, _, hb, hc, _⟩
  · exact ⟨small _ (by omega) (by omega), hw, small _ (by omega) (by omega), small _ (by omega) (by omega), small _ (by omega) (by omega)⟩
  · exact ⟨small _ (by omega) (by omega), hw, small _ (by omega) (by omega), small _ (by omega) (by omega), small _ (by omega) (by omega)⟩
  · have ha : I64 n.a := hk _ (by
      unfold kidsN
      rw [if_neg (by omega), if_neg (by omega), if_neg (by omega)]; simp)
    exact ⟨small _ (by omega) (by omega), hw, ha, small _ (by omega) (by omega), small _ (by omega) (by omega)⟩
  · have hab : kidsN n = [n.a, n.b] := by
      unfold kidsN
      rw [if_neg (by omega), if_neg (by omega), if_pos (by omega)]
    rw [hab] at hk
    exact ⟨small _ (by omega) (by omega), hw, hk _ (by simp), hk _ (by simp), small _ (by omega) (by omega)⟩
  · have hab : kidsN n = [n.a, n.b, n.c] := by
      unfold kidsN
      rw [if_neg (by omega), if_pos ho]
    rw [hab] at hk
    exact ⟨small _ (by omega) (by omega), hw, hk _ (by simp), hk _ (by simp), hk _ (by simp)⟩
  · have hab : kidsN n = [n.a] := by
      unfold kidsN
      rw [if_neg (by omega), if_neg (by omega), if_neg (by omega)]
    rw [hab] at hk
    exact ⟨small _ (by omega) (by omega), hw, hk _ (by simp), small _ (by omega) (by omega), small _ (by omega) (by omega)⟩
  · have hab : kidsN n = [n.a, n.b] := by
      unfold kidsN
      rw [if_neg (by omega), if_neg (by omega), if_pos (by omega)]
    rw [hab] at hk
    exact ⟨small _ (by omega) (by omega), hw, hk _ (by simp), hk _ (by simp), small _ (by omega) (by omega)⟩
  · have hab : kidsN n = [n.a] := by
      unfold kidsN
      rw [if_neg (by omega), if_neg (by omega), if_neg (by omega)]
    rw [hab] at hk
    exact ⟨small _ (by omega) (by omega), hw, hk _ (by simp), small _ (by omega) (by omega), small _ (by omega) (by omega)⟩
end Go.Proofs.YtnbcglnefoinlaaGreat
namespace Go.Proofs.YtnbcglnefoinlaaGreat
open Go.Mw Go.Maps Go.MapKept
set_option linter.unusedVariables false
set_option linter.unusedSimpArgs false
set_option maxRecDepth 100000
attribute [local irreducible] M.val M.unit M.next M.pick M.new M.nilCheck M.load1 M.loadA M.store M.fieldAddr M.indexSl M.indexArr M.slice M.makeSlice M.buildSlice M.len M.lenS M.cap M.append M.extract M.conv M.not M.neg M.bin M.shift M.eqB M.eqNil M.scat M.call M.callv M.gd M.share M.cond M.loop M.draw pureW readW Ret
def sh16 (x0 : Value) (R : Kt) (w : World) : Prop :=
  M.share (fun K1 w =>
  M.bin .lss x0 (Value.int IntKind.i64 0) (fun t4 w =>
  M.gd t4 false (fun k w => k x0 w) (fun t6 w =>
  M.gd t4 false (fun k w => M.bin .gtr t6 (Value.int IntKind.i64 65536) k w) (fun t7 w =>
  M.pick t4 (Value.bool true) t7 (fun t8 w =>
  M.cond t8
  (K1 [(Value.int IntKind.i64 0)] w)
  (K1 [x0] w)) w) w) w) w) (fun s1 w => ∀ _ : List Value,
  M.val Tryz.prog (Instr.makeMap 90 none) (fun t9 w =>
  M.val Tryz.prog (Instr.makeMap 91 none) (fun t10 w =>
  pureW Tryz.prog (Instr.build 93 #[(1, t9), (2, t10), (3, (s1.getD 0 undef))]) (fun t12 w =>
  M.new 93 (Value.cells t12) (fun t13 w =>
  R t13 w) w) w) w) w) w
theorem ok16 (x0 : Value) (R : Kt) (w : World) (h : sh16 x0 R w) : Ret Tryz.prog 16 #[x0] w R :=
  ret_mk <| calls_of_comp mixed (c := Tryz.f16.body.getD .skip) (args := [x0]) (rs := [(ResultVar.tmp 2)]) (Ann.seq Ann.text (Ann.join [0] [3, 4, 5, 6, 7, 8] (Ann.seq Ann.text (Ann.cond Ann.text Ann.leaf)) (Ann.seq Ann.text Ann.leaf)))
    Tryz.func16 (by kernel_rfl) (by kernel_rfl)
    (Eq.mp (by kernel_rfl) h)
def sh40 (x0 x1 : Value) (R : Kt) (w : World) : Prop :=
  M.new 73 (Value.cells x1) (fun t3 w =>
  M.draw (fun w =>
  M.nilCheck x0 (fun t10 w =>
  M.fieldAddr 1 t10 (fun t11 w =>
  M.load1 t11 (fun t12 w =>
  M.loadA 6 t3 (fun t13 w =>
  readW Tryz.prog (Instr.lookup 90 t12 t13 true) (fun t14 w =>
  M.extract 0 t14 (fun t15 w =>
  M.extract 1 t14 (fun t16 w =>
  M.cond t16
  (R (.tuple #[t15, (Value.int IntKind.i64 0)]) w)
  (M.draw (fun w =>
  M.nilCheck x0 (fun t20 w =>
  M.fieldAddr 0 t20 (fun t21 w =>
  M.load1 t21 (fun t22 w =>
  M.len t22 (fun t23 w =>
  M.nilCheck x0 (fun t25 w =>
  M.fieldAddr 3 t25 (fun t26 w =>
  M.load1 t26 (fun t27 w =>
  M.bin .geq t23 t27 (fun t28 w =>
  M.cond t28
  (R (.tuple #[(Value.int IntKind.i64 0), (Value.int IntKind.i64 8)]) w)
  (M.draw (fun w =>
  M.nilCheck x0 (fun t30 w =>
  M.fieldAddr 1 t30 (fun t31 w =>
  M.load1 t31 (fun t32 w =>
  M.loadA 6 t3 (fun t33 w =>
  M.nilCheck x0 (fun t35 w =>
  M.fieldAddr 0 t35 (fun t36 w =>
  M.load1 t36 (fun t37 w =>
  M.len t37 (fun t38 w =>
  M.unit Tryz.prog (Instr.mapUpdate 90 t32 t33 t38) (fun _ w =>
  M.draw (fun w =>
  M.nilCheck x0 (fun t41 w =>
  M.fieldAddr 0 t41 (fun t42 w =>
  M.load1 t42 (fun t43 w =>
  M.loadA 6 t3 (fun t44 w =>
  M.buildSlice 73 6 #[.int .i64 0, .int .i64 0, .int .i64 0, .int .i64 0, .int .i64 0, .int .u64 0] 1 [(0, t44)] (fun t45 w =>
  ((M.load1 t42 (fun v' _ => v' = t43) w) ∧ M.append 73 6 48 #[.int .i64 0, .int .i64 0, .int .i64 0, .int .i64 0, .int .i64 0, .int .u64 0] t43 t45 (fun t46 w =>
  M.nilCheck x0 (fun t47 w =>
  M.fieldAddr 0 t47 (fun t48 w =>
  M.store 1 t48 t46 (fun _ w =>
  M.draw (fun w =>
  M.nilCheck x0 (fun t50 w =>
  M.fieldAddr 1 t50 (fun t51 w =>
  M.load1 t51 (fun t52 w =>
  M.loadA 6 t3 (fun t53 w =>
  readW Tryz.prog (Instr.lookup 90 t52 t53 false) (fun t54 w =>
  R (.tuple #[t54, (Value.int IntKind.i64 0)]) w) w) w) w) w) w) w) w) w) w) w)) w) w) w) w) w) w) w) w) w) w) w) w) w) w) w) w)) w) w) w) w) w) w) w) w) w)) w) w) w) w) w) w) w) w) w
theorem ok40 (x0 x1 : Value) (R : Kt) (w : World) (h : sh40 x0 x1 R w) : Ret Tryz.prog 40 #[x0, x1] w R :=
  ret_mk <| calls_of_comp mixed (c := Tryz.f40.body.getD .skip) (args := [x0, x1]) (rs := [(ResultVar.tmp 4), (ResultVar.tmp 5)]) (Ann.seq Ann.text (Ann.seq (Ann.seq (Ann.draw (Sch.take 0 (Sch.take 1 (Sch.take 2 (Sch.take 3 (Sch.take 4 (Sch.take 5 (Sch.take 6 (Sch.take 7 (Sch.take 8 (Sch.take 9 (Sch.take 10 Sch.done)))))))))))) (Ann.seq Ann.text (Ann.cond (Ann.seq Ann.text Ann.leaf) Ann.leaf))) (Ann.seq (Ann.seq (Ann.draw (Sch.take 0 (Sch.take 1 (Sch.take 2 (Sch.take 3 (Sch.take 4 (Sch.take 5 (Sch.take 6 (Sch.take 7 (Sch.take 8 (Sch.take 9 Sch.done))))))))))) (Ann.cond (Ann.seq Ann.text Ann.leaf) Ann.leaf)) (Ann.seq (Ann.draw (Sch.take 0 (Sch.take 1 (Sch.take 2 (Sch.take 3 (Sch.take 4 (Sch.take 5 (Sch.take 6 (Sch.take 7 (Sch.take 8 (Sch.take 9 (Sch.one 10 Sch.done)))))))))))) (Ann.seq (Ann.draw (Sch.take 0 (Sch.take 1 (Sch.take 2 (Sch.take 3 (Sch.take 4 (Sch.take 5 (Sch.one 6 (Sch.one 7 (Sch.take 8 (Sch.take 9 (Sch.one 10 Sch.done)))))))))))) (Ann.seq (Ann.draw (Sch.take 0 (Sch.take 1 (Sch.take 2 (Sch.take 3 (Sch.take 4 (Sch.take 5 (Sch.take 6 (Sch.take 7 Sch.done))))))))) Ann.leaf))))))
    Tryz.func40 (by kernel_rfl) (by kernel_rfl)
    (Eq.mp (by kernel_rfl) h)
def sh41 (x0 x1 : Value) (R : Kt) (w : World) : Prop :=
  M.len x1 (fun t8 w =>
  M.loop [(Value.int IntKind.i64 0)] (fun s1 K1 w => ∀ _ : List Value,
  M.bin .lss (s1.getD 0 undef) t8 (fun t10 w =>
  M.cond t10
  (M.indexSl 1 x1 (s1.getD 0 undef) (fun t11 w =>
  M.load1 t11 (fun t12 w =>
  M.bin .lss t12 (Value.int IntKind.i64 0) (fun t14 w =>
  M.gd t14 false (fun k w => k t12 w) (fun t16 w =>
  M.gd t14 false (fun k w => k x0 w) (fun t17 w =>
  M.gd t14 false (fun k w => M.nilCheck t17 k w) (fun t18 w =>
  M.gd t14 false (fun k w => M.fieldAddr 0 t18 k w) (fun t19 w =>
  M.gd t14 false (fun k w => M.load1 t19 k w) (fun t20 w =>
  M.gd t14 false (fun k w => M.len t20 k w) (fun t21 w =>
  M.gd t14 false (fun k w => M.bin .geq t16 t21 k w) (fun t22 w =>
  M.pick t14 (Value.bool true) t22 (fun t23 w =>
  M.cond t23
  (R (Value.bool true) w)
  (M.bin .add (s1.getD 0 undef) (Value.int IntKind.i64 1) (fun t24 w =>
  K1 [t24] w) w)) w) w) w) w) w) w) w) w) w) w) w)
  (R (Value.bool false) w)) w) w) w
theorem ok41 (x0 x1 : Value) (R : Kt) (w : World) (h : sh41 x0 x1 R w) : Ret Tryz.prog 41 #[x0, x1] w R :=
  ret_mk <| calls_of_comp mixed (c := Tryz.f41.body.getD .skip) (args := [x0, x1]) (rs := [(ResultVar.tmp 4)]) (Ann.seq Ann.text (Ann.seq (Ann.seq Ann.text (Ann.block (Ann.loop [9] [4, 6, 10, 11, 12, 13, 14, 15, 16, 17, 18, 19, 20, 21, 22, 23, 24] (Ann.seq Ann.text (Ann.seq (Ann.cond Ann.leaf Ann.leaf) (Ann.seq (Ann.block (Ann.seq Ann.text (Ann.seq Ann.text (Ann.cond (Ann.seq Ann.text Ann.leaf) Ann.leaf)))) Ann.text)))))) (Ann.seq Ann.text Ann.leaf)))
    Tryz.func41 (by kernel_rfl) (by kernel_rfl)
    (Eq.mp (by kernel_rfl) h)
def sh28 (x0 x1 : Value) (R : Kt) (w : World) : Prop :=
  M.new 73 #[.int .i64 0, .int .i64 0, .int .i64 0, .int .i64 0, .int .i64 0, .int .u64 0] (fun t4 w =>
  M.eqNil 0 false x0 (fun t7 w =>
  M.gd t7 false (fun k w => k x0 w) (fun t9 w =>
  M.gd t7 false (fun k w => k x1 w) (fun t10 w =>
  M.gd t7 false (fun k w => M.buildSlice 3 1 #[.int .i64 0] 1 [(0, t10)] k w) (fun t11 w =>
  M.gd t7 false (fun k w => M.call Tryz.prog 41 #[t9, t11] k w) (fun t12 w =>
  M.pick t7 (Value.bool true) t12 (fun t13 w =>
  M.cond t13
  (pureW Tryz.prog (Instr.build 73 #[]) (fun t14 w =>
  M.store 6 t4 t14 (fun _ w =>
  M.loadA 6 t4 (fun r0 w => R (.tuple #[r0, (Value.bool false)]) w) w) w) w)
  (M.nilCheck x0 (fun t16 w =>
  M.fieldAddr 0 t16 (fun t17 w =>
  M.load1 t17 (fun t18 w =>
  M.indexSl 6 t18 x1 (fun t20 w =>
  M.loadA 6 t20 (fun t21 w =>
  M.store 6 t4 t21 (fun _ w =>
  M.loadA 6 t4 (fun r0 w => R (.tuple #[r0, (Value.bool true)]) w) w) w) w) w) w) w) w)) w) w) w) w) w) w) w
theorem ok28 (x0 x1 : Value) (R : Kt) (w : World) (h : sh28 x0 x1 R w) : Ret Tryz.prog 28 #[x0, x1] w R :=
  ret_mk <| calls_of_comp mixed (c := Tryz.f28.body.getD .skip) (args := [x0, x1]) (rs := [(ResultVar.cell 4 73), (ResultVar.tmp 5)]) (Ann.seq Ann.text (Ann.seq (Ann.seq Ann.text (Ann.cond (Ann.seq Ann.text Ann.leaf) Ann.leaf)) (Ann.seq Ann.text Ann.leaf)))
    Tryz.func28 (by kernel_rfl) (by kernel_rfl)
    (Eq.mp (by kernel_rfl) h)
def sh42 (x0 x1 : Value) (R : Kt) (w : World) : Prop :=
  M.call Tryz.prog 28 #[x0, x1] (fun t10 w =>
  M.extract 0 t10 (fun t11 w =>
  M.extract 1 t10 (fun t12 w =>
  M.new 73 #[.int .i64 0, .int .i64 0, .int .i64 0, .int .i64 0, .int .i64 0, .int .u64 0] (fun t5 w =>
  M.store 6 t5 t11 (fun _ w =>
  M.fieldAddr 1 t5 (fun t13 w =>
  M.load1 t13 (fun t14 w =>
  R t14 w) w) w) w) w) w) w) w
theorem ok42 (x0 x1 : Value) (R : Kt) (w : World) (h : sh42 x0 x1 R w) : Ret Tryz.prog 42 #[x0, x1] w R :=
  ret_mk <| calls_of_comp mixed (c := Tryz.f42.body.getD .skip) (args := [x0, x1]) (rs := [(ResultVar.tmp 4)]) (Ann.seq Ann.text (Ann.seq Ann.text (Ann.seq Ann.text Ann.leaf)))
    Tryz.func42 (by kernel_rfl) (by kernel_rfl)
    (Eq.mp (by kernel_rfl) h)
def sh25 (x0 : Value) (R : Kt) (w : World) : Prop :=
  M.eqNil 0 false x0 (fun t4 w =>
  M.cond t4
  (R (Value.int IntKind.i64 0) w)
  (M.nilCheck x0 (fun t6 w =>
  M.fieldAddr 0 t6 (fun t7 w =>
  M.load1 t7 (fun t8 w =>
  M.len t8 (fun t9 w =>
  R t9 w) w) w) w) w)) w
theorem ok25 (x0 : Value) (R : Kt) (w : World) (h : sh25 x0 R w) : Ret Tryz.prog 25 #[x0] w R :=
  ret_mk <| calls_of_comp mixed (c := Tryz.f25.body.getD .skip) (args := [x0]) (rs := [(ResultVar.tmp 2)]) (Ann.seq Ann.text (Ann.seq (Ann.seq Ann.text (Ann.cond (Ann.seq Ann.text Ann.leaf) Ann.leaf)) (Ann.seq Ann.text Ann.leaf)))
    Tryz.func25 (by kernel_rfl) (by kernel_rfl)
    (Eq.mp (by kernel_rfl) h)
abbrev ptr (p : Nat) : Value := .pointer (some ⟨p, 0, none⟩)
def blkOf (v : Value) (b : Nat) : Prop := ∃ n c, v = .slice (some ⟨b, 0, none⟩) n c
theorem GC.own {w : World} {L : Nat → Prop} {sz n : Nat} {v : Value} {l : List Value} (h : GC w L sz v n l) : GC w (blkOf v) sz v n l := by
  obtain ⟨h0, h | ⟨b, c, rest, h1, h2, h3, h4⟩⟩ := h
  · exact ⟨h0, .inl h⟩
  · exact ⟨h0, .inr ⟨b, c, rest, h1, ⟨n, c, h1⟩, h3, h4⟩⟩
theorem GC.blkOf {w : World} {L : Nat → Prop} {sz n : Nat} {v : Value} {l : List Value} (h : GC w L sz v n l) {b : Nat} (hb : blkOf v b) : L b ∧ ∃ l', Blk w b l' := by
  obtain ⟨n', c', rfl⟩ := hb
  obtain ⟨h0, ⟨h, _⟩ | ⟨b', c, rest, h1, h2, h3, h4⟩⟩ := h
  · simp at h
  · simp only [Value.slice.injEq, Option.some.injEq, Addr.mk.injEq] at h1
    obtain ⟨⟨rfl, _⟩, _⟩ := h1
    exact ⟨h2, _, h3⟩
theorem NL_len : ∀ N : List Nd, (NL N).length = N.length * 6
  | [] => rfl
  | n :: N => by
    have := NL_len N
    simp only [NL, List.flatMap_cons, List.length_append, List.length_cons] at this ⊢
    rw [this]; simp [Nd.cells]; omega
theorem NL_snoc (N : List Nd) (n : Nd) : NL (N ++ [n]) = NL N ++ n.cells := by simp [NL]
theorem NL_get : ∀ {N : List Nd} {i : Nat} {n : Nd} (j : Nat), N[i]? = some n → j < 6 → (NL N)[i * 6 + j]? = n.cells[j]?
  | [], i, n, j, h, _ => by simp at h
  | m :: N, 0, n, j, h, hj => by
    simp at h; subst h
    simp only [NL, List.flatMap_cons]
    rw [List.getElem?_append_left (by simp [Nd.cells]; omega)]
    congr 1; omega
  | m :: N, i + 1, n, j, h, hj => by
    simp only [List.getElem?_cons_succ] at h
    simp only [NL, List.flatMap_cons]
    rw [List.getElem?_append_right (by simp [Nd.cells]; omega), ← NL_get j h hj]
    congr 1
    simp [Nd.cells]; omega
theorem cells_one (n : Nd) : ∀ y ∈ n.cells, y.oneCell' = true := by
  intro y hy
  simp only [Nd.cells, List.mem_cons, List.not_mem_nil, or_false] at hy
  rcases hy with rfl | rfl | rfl | rfl | rfl | rfl <;> rfl
theorem NL_one (N : List Nd) : ∀ y ∈ NL N, y.oneCell' = true := fun y hy => by
  obtain ⟨n, _, h⟩ := List.mem_flatMap.1 hy
  exact cells_one n y h
theorem M.idxN_i {k : Kt} {w : World} {D : Nat → Prop} {A : Option Addr} {N : List Nd} {m c : Nat} {d : IntKind} {i : Int} {n : Nd} (hr : Row w D A (NL N)) (hm : N.length = m) (h0 : 0 ≤ i) (hn : N[i.toNat]? = some n)
    (h : ∀ b o, (∀ (j : Nat) v, n.cells[j]? = some v → w.cell? ⟨b, o + j, none⟩ = some v) → k (.pointer (some ⟨b, o, none⟩)) w) : M.indexSl 6 (.slice A m c) (.int d i) k w := by
  have hlt := (List.getElem?_eq_some_iff.1 hn).1
  refine M.idxRowN_i hr (by rw [NL_len, hm]) (by omega) h0 (by omega) (fun b o _ hc => h b _ (fun j v hv => ?_))
  have hj : j < 6 := by
    have := (List.getElem?_eq_some_iff.1 hv).1
    simpa [Nd.cells] using this
  rw [hc j hj, NL_get j hn hj, hv]
theorem M.loadN_i {k : Kt} {w : World} {b o : Nat} {n : Nd} (hc : ∀ (j : Nat) v, n.cells[j]? = some v → w.cell? ⟨b, o + j, none⟩ = some v) (h : k (encN n) w) : M.loadA 6 (.pointer (some ⟨b, o, none⟩)) k w := by
  have := rdL_cells (w := w) (b := b) (o := o) (cs := n.cells) 6 0 (fun j hj => hc j _ (List.getElem?_eq_getElem hj)) rfl
  unfold M.loadA
  simp only [this]
  exact h
theorem find_map_upd {α : Type} [DecidableEq α] (kv : List (α × Value)) (x y : α) (v : Value) :
    (kv.map (fun p => if p.1 = x then (x, v) else p)).find? (fun p => decide (p.1 = y)) = (kv.find? (fun p => decide (p.1 = y))).map (fun p => if p.1 = x then (x, v) else p) := by
  induction kv with
  | nil => rfl
  | cons p kv ih =>
    simp only [List.map_cons, List.find?_cons]
    by_cases hpx : p.1 = x
    · rw [if_pos hpx]
      by_cases hxy : x = y
      · simp [hxy, hpx]
      · have : ¬ p.1 = y := fun e => hxy (hpx.symm.trans e)
        simp only [hxy, this, decide_false]
        exact ih
    · rw [if_neg hpx]
      by_cases hpy : p.1 = y
      · simp [hpy, hpx]
        intro h; exact absurd (hpy.trans h) (fun e => hpx e)
      · simp only [hpy, decide_false]
        exact ih
theorem lkpA_upd {α : Type} [DecidableEq α] (kv : List (α × Value)) (x y : α) (v : Value) : lkpA (updA kv x v) y = if y = x then some v else lkpA kv y := by
  unfold updA
  split
  · rename_i ha
    unfold lkpA
    rw [find_map_upd]
    by_cases hyx : y = x
    · subst hyx
      obtain ⟨p, hp, h1⟩ := List.any_eq_true.1 ha
      cases hf : kv.find? (fun p => decide (p.1 = y)) with
      | none =>
        rw [List.find?_eq_none] at hf
        exact absurd h1 (hf p hp)
      | some q =>
        have := List.find?_some hf
        simp at this
        simp [this]
    · rw [if_neg hyx]
      cases hf : kv.find? (fun p => decide (p.1 = y)) with
      | none => rfl
      | some q =>
        have := List.find?_some hf
        simp at this
        have : ¬ q.1 = x := fun e => hyx (this.symm.trans e)
        simp [this]
  · rename_i ha
    unfold lkpA
    rw [List.find?_append]
    by_cases hyx : y = x
    · subst hyx
      have : kv.find? (fun p => decide (p.1 = y)) = none := by
        rw [List.find?_eq_none]
        intro p hp h
        exact ha (List.any_eq_true.2 ⟨p, hp, h⟩)
      rw [this]
      simp
    · rw [if_neg hyx]
      cases hf : kv.find? (fun p => decide (p.1 = y)) with
      | none =>
        have : ¬ x = y := fun e => hyx e.symm
        simp [this]
      | some q => rfl
theorem lkp_upd (kv : List (Int × Value)) (x y : Int) (v : Value) : lkp (upd kv x v) y = if y = x then some v else lkp kv y := lkpA_upd kv x y v
theorem intLit {d : Nat} {x : Int} (h : I64 x) : Tryz.prog.keyLits (d + 1) 3 [vi x] = some [.int .i64 x] := by
  unfold Program.keyLits
  have hu : Tryz.prog.underlying 3 = some (.int .i64) := by kernel_rfl
  simp only [hu]
  have : (Lit.int .i64 x).wf = true := by
    obtain ⟨h1, h2⟩ := h
    simp [Lit.wf, IntKind.min, IntKind.max, IntKind.signed, IntKind.bits]
    omega
  simp [this]
theorem wordLit {d : Nat} {x : W64} : Tryz.prog.keyLits (d + 1) 53 [vw x] = some [.int .u64 (x.toNat : Int)] := by
  unfold Program.keyLits
  have hu : Tryz.prog.underlying 53 = some (.int .u64) := by kernel_rfl
  simp only [hu]
  have : (Lit.int .u64 (x.toNat : Int)).wf = true := by
    have := x.isLt
    simp [Lit.wf, IntKind.min, IntKind.max, IntKind.signed, IntKind.bits]
    omega
  simp [this]
theorem keyE : KeyE Tryz.prog 73 encN Nd.Ok where
  K := Keyed.of_law (deep_law_laid (by kernel_rfl) (m := 5) (by omega) (Nat.le_of_ble_eq_true (by kernel_rfl)) (by kernel_rfl) (by kernel_rfl))
  inj := fun a b h => by
    obtain ⟨a1, a2, a3, a4, a5, a6⟩ := a
    obtain ⟨b1, b2, b3, b4, b5, b6⟩ := b
    simp only [encN, Nd.cells, Value.agg.injEq, Array.mk.injEq, List.cons.injEq, Value.int.injEq, true_and, and_true] at h
    obtain ⟨rfl, rfl, rfl, rfl, rfl, h6⟩ := h
    have := vw_inj.1 h6
    subst this; rfl
  ok := fun a h => by
    unfold keyOf
    rw [Tryz.underlying73]
    simp only
    rw [if_pos (by kernel_rfl)]
    obtain ⟨d, hd⟩ : ∃ d, Tryz.prog.types.size = d + 1 := by
      have h1 : 1 ≤ Tryz.prog.types.size := Nat.le_of_ble_eq_true (by kernel_rfl)
      exact ⟨Tryz.prog.types.size - 1, by omega⟩
    have hc : Tryz.prog.cellsOf 3 = 1 := by kernel_rfl
    have hcu : Tryz.prog.cellsOf 53 = 1 := by kernel_rfl
    obtain ⟨h1, h2, h3, h4, h5⟩ := h
    have key : ∃ ls, Tryz.prog.keyLits (Tryz.prog.types.size + 1) 73 a.cells = some ls := by
      unfold Program.keyLits
      simp only [Tryz.underlying73]
      rw [if_pos ⟨by kernel_rfl, by kernel_rfl⟩]
      simp [hd, hc, hcu, Nd.cells, intLit h1, intLit h2, intLit h3, intLit h4, intLit h5, wordLit]
    obtain ⟨ls, hls⟩ := key
    show ∃ l, Option.map _ (Tryz.prog.keyLits (Tryz.prog.types.size + 1) 73 a.cells) = some l
    rw [hls]
    exact ⟨_, rfl⟩
end Go.Proofs.YtnbcglnefoinlaaGreat
namespace Go.Proofs.YtnbcglnefoinlaaGreat
open Go.Mw Go.Maps Go.MapKept
set_option linter.unusedVariables false
set_option linter.unusedSimpArgs false
set_option maxRecDepth 100000
attribute [local irreducible] M.val M.unit M.next M.pick M.new M.nilCheck M.load1 M.loadA M.store M.fieldAddr M.indexSl M.indexArr M.slice M.makeSlice M.buildSlice M.len M.lenS M.cap M.append M.extract M.conv M.not M.neg M.bin M.shift M.eqB M.eqNil M.scat M.call M.callv M.gd M.share M.cond M.loop M.draw pureW readW Ret
def AtR (N : List Nd) (kv : List (Nd × Value)) : Prop := ∀ n, lkpA kv n = if n ∈ N then some (vi (N.idxOf n)) else none
def DagC (w : World) (F : Nat → Prop) (p : Nat) (N : List Nd) (most : Int) (kw : List (Int × Value)) : Prop :=
  ∃ v r1 r2 kv, Blk w p [v, .map (some r1), .map (some r2), vi most] ∧ GC w F 6 v N.length (NL N) ∧ MapA encN Nd.Ok w r1 kv ∧ MapO w r2 kw ∧ AtR N kv ∧ (∀ b, F b ↔ b = p ∨ b = r1 ∨ b = r2 ∨ blkOf v b) ∧ r1 ≠ r2 ∧ p ≠ r1 ∧ p ≠ r2 ∧ (∀ b, blkOf v b → b ≠ p ∧ b ≠ r1 ∧ b ≠ r2)
theorem DagC.keep {w w' : World} {F S : Nat → Prop} {p : Nat} {N : List Nd} {most : Int} {kw : List (Int × Value)} (h : DagC w F p N most kw) (k : Keep w w' S) (hs : ∀ b, F b → ¬ S b) : DagC w' F p N most kw := by
  obtain ⟨v, r1, r2, kv, h1, h2, h3, h4, h5, h6, h7⟩ := h
  exact ⟨v, r1, r2, kv, h1.keep k (hs _ ((h6 _).2 (.inl rfl))), h2.keep k (fun b _ hb => hs b hb), h3.keep k (hs _ ((h6 _).2 (.inr (.inl rfl)))), h4.keep k (hs _ ((h6 _).2 (.inr (.inr (.inl rfl))))), h5, h6, h7⟩
theorem DagC.keepN {w w' : World} {F : Nat → Prop} {p : Nat} {N : List Nd} {most : Int} {kw : List (Int × Value)} (h : DagC w F p N most kw) (k : Keep w w' No) : DagC w' F p N most kw := h.keep k (fun _ _ h => h)
theorem DagC.lt {w : World} {F : Nat → Prop} {p : Nat} {N : List Nd} {most : Int} {kw : List (Int × Value)} (h : DagC w F p N most kw) {b : Nat} (hb : F b) : b < w.heap.size := by
  obtain ⟨v, r1, r2, kv, h1, h2, h3, h4, h5, h6, h7⟩ := h
  rcases (h6 b).1 hb with rfl | rfl | rfl | hb
  · exact h1.lt
  · exact h3.lt
  · exact h4.lt
  · obtain ⟨l, hl⟩ := (GC.blkOf h2 hb).2
    exact hl.lt
def zeroNd : Nd := ⟨0, 0, 0, 0, 0, 0⟩
def nodeAt (N : List Nd) (i : Int) : Nd := if isN N i then (N[i.toNat]?).getD zeroNd else zeroNd
section
variable {w : World} {F : Nat → Prop} {p : Nat} {N : List Nd} {most : Int} {kw : List (Int × Value)}
theorem none_ret {D : Nat → Prop} {v : Value} {ids : List Int} (h : DagC w F p N most kw) (hl : LV vi w D v ids) (hf : ids.length ≤ 1000000) :
    Ret Tryz.prog 41 #[ptr p, v] w (fun r w' => r = .bool (ids.any (fun i => !isN N i)) ∧ w' = w) := by
  obtain ⟨A, c, rfl, hr, hc⟩ := hl
  obtain ⟨vn, r1, r2, kv, h1, h2, h3, h4, h5, h6, h7⟩ := h
  obtain ⟨B, cb, rfl, hrn, hcb⟩ := GC.row2 h2 (by omega)
  refine ok41 _ _ _ _ ?_
  unfold sh41
  (repeat (refine ja ?_))
  refine M.loop_i (σ := Nat) (fun i vals w' => vals = [vi i] ∧ i ≤ ids.length ∧ (∀ x ∈ ids.take i, isN N x = true) ∧ w' = w) (fun i => ids.length - i) 0 ⟨rfl, by omega, by simp, rfl⟩ ?_
  rintro i vals w1 K ⟨rfl, hi, hno, rfl⟩ hK _
  simp only [List.getD_cons_zero, List.getD_cons_succ]
  by_cases hlt : i < ids.length
  · obtain ⟨x, hx⟩ : ∃ x, ids[i]? = some x := ⟨_, List.getElem?_eq_getElem hlt⟩
    have yes : isN N x = false → ids.any (fun i => !isN N i) = true := fun h => List.any_eq_true.2 ⟨x, List.mem_of_getElem? hx, by rw [h]; rfl⟩
    (repeat (first|refine jo ?_|refine jy ?_))
    refine M.idxLV_i hr rfl (by omega) (by omega) (x := x) (by simpa using hx) (fun bb oo hA hcc => ?_)
    (repeat (refine jM (by assumption) ?_))
    by_cases hx0 : x < 0
    · (repeat (first|refine ji ?_|refine jk ?_|refine jo ?_|refine jy ?_))
      exact ⟨by rw [yes (isN_no.2 (by omega))], rfl⟩
    · (repeat (first|refine ja ?_|refine jb ?_|refine jc ?_|refine jg ?_|refine jz ?_|refine jN (by assumption) rfl ?_))
      refine M.geq_i ?_
      (repeat (refine jl ?_))
      refine M.cond_i (fun hge => ?_) (fun hge => ?_)
      · exact ⟨by rw [yes (isN_no.2 (by omega))], rfl⟩
      · (repeat (refine jK ?_))
        refine hK (i + 1) _ _ (by omega) ⟨by simp, by omega, fun y hy => ?_, rfl⟩
        rcases (mem_take_succ hx).1 hy with h | rfl
        · exact hno y h
        · exact isN_iff.2 (by omega)
  · (repeat (first|refine jp ?_|refine jz ?_))
    have : i = ids.length := by omega
    subst this
    rw [List.take_length] at hno
    refine ⟨?_, rfl⟩
    have : ids.any (fun i => !isN N i) = false := by
      rw [List.any_eq_false]
      intro x hx
      rw [hno x hx]; simp
    rw [this]
theorem node_ret (h : DagC w F p N most kw) (i : Int) :
    Ret Tryz.prog 28 #[ptr p, vi i] w (fun r w' => r = .tuple #[encN (nodeAt N i), .bool (isN N i)] ∧ Keep w w' No) := by
  refine ok28 _ _ _ _ ?_
  unfold sh28
  refine M.new_i (l := zeroNd.cells) (fun w1 b1 k1 s1 => ?_)
  (repeat (first|refine jg ?_|refine jt ?_))
  refine M.buildSlice_i [vi i] (by kernel_rfl) (fun w2 b2 k2 s2 => ?_)
  (repeat (refine jg ?_))
  have k12 := k1.trans k2 (fun _ _ h => h)
  have hd := h.keepN k12
  refine M.call_i (none_ret hd (D := fun _ => True) (ids := [i]) ⟨_, _, rfl, Row.of_blk' b2 trivial, Nat.le_refl _⟩ (by show 1 ≤ 1000000; omega)) ?_; rintro _ w3 ⟨rfl, rfl⟩
  have e : ([i] : List Int).any (fun i => !isN N i) = !isN N i := by simp
  rw [e]
  have b1 := b1.keep k2 (fun h => h)
  cases hi : isN N i with
  | false =>
    (repeat (first|refine jl ?_|refine jo ?_))
    refine M.pure_i (encN zeroNd) (fun _ => by kernel_rfl) ?_
    refine M.storeAll_i b1 rfl rfl (cells_one _) (fun w4 b4 k4 s4 => ?_)
    refine M.loadAll_i b4 rfl ⟨?_, k12.trans k4 (fun b hb h => by omega)⟩
    unfold nodeAt
    rw [hi]; rfl
  | true =>
    obtain ⟨j, n, rfl, hj⟩ := isN_get hi
    obtain ⟨vn, r1, r2, kv, g1, g2, g3, g4, g5, g6, g7⟩ := hd
    obtain ⟨B, cb, rfl, hrn, hcb⟩ := GC.row2 g2 (by omega)
    (repeat (first|refine jb ?_|refine jc ?_|refine jl ?_|refine jp ?_|refine jN (by assumption) rfl ?_))
    refine M.idxN_i hrn rfl (by omega) (n := n) (by simpa using hj) (fun bb oo hc => ?_)
    refine M.loadN_i hc ?_
    refine M.storeAll_i b1 rfl rfl (cells_one _) (fun w4 b4 k4 s4 => ?_)
    refine M.loadAll_i b4 rfl ⟨?_, k12.trans k4 (fun b hb h => by omega)⟩
    unfold nodeAt
    rw [hi, Int.toNat_natCast, hj]; rfl
theorem nodeAt_wd (N : List Nd) (i : Int) : (nodeAt N i).wd = wdN N i := by
  unfold nodeAt
  cases hi : isN N i with
  | false => rw [wdN_none hi]; rfl
  | true =>
    obtain ⟨j, n, rfl, hj⟩ := isN_get hi
    rw [wdN_at hj, Int.toNat_natCast, hj]; rfl
theorem width_ret (h : DagC w F p N most kw) (i : Int) :
    Ret Tryz.prog 42 #[ptr p, vi i] w (fun r w' => r = vi (wdN N i) ∧ Keep w w' No) := by
  refine ok42 _ _ _ _ ?_
  unfold sh42
  refine M.call_i (node_ret h i) ?_; rintro _ w1 ⟨rfl, k1⟩
  refine M.extract_i rfl ?_
  refine M.extract_i rfl ?_
  refine M.new_i (l := zeroNd.cells) (fun w2 b2 k2 s2 => ?_)
  refine M.storeAll_i b2 rfl rfl (cells_one _) (fun w3 b3 k3 s3 => ?_)
  have b3 : Blk w3 w1.heap.size [vi (nodeAt N i).op, vi (nodeAt N i).wd, vi (nodeAt N i).a, vi (nodeAt N i).b, vi (nodeAt N i).c, vw (nodeAt N i).val] := b3
  (repeat (first|refine jc ?_|refine jN (by assumption) rfl ?_))
  refine ⟨by rw [nodeAt_wd], (k1.trans k2 (fun _ _ h => h)).trans k3 (fun b hb h => by have := k1.size; omega)⟩
theorem dlen_ret (h : DagC w F p N most kw) : Ret Tryz.prog 25 #[ptr p] w (fun r w' => r = vi N.length ∧ w' = w) := by
  obtain ⟨vn, r1, r2, kv, g1, g2, g3, g4, g5, g6, g7⟩ := h
  obtain ⟨B, cb, rfl, hrn, hcb⟩ := GC.row2 g2 (by omega)
  refine ok25 _ _ _ ?_
  unfold sh25
  (repeat (first|refine ja ?_|refine jb ?_|refine jc ?_|refine jp ?_|refine jt ?_|refine jN (by assumption) rfl ?_))
  exact ⟨rfl, rfl⟩
set_option maxHeartbeats 2000000 in
theorem make_ret (h : DagC w F p N most kw) (hN : N.length ≤ 1000000) {n : Nd} (hn : n.Ok) :
    Ret Tryz.prog 40 #[ptr p, encN n] w (fun r w' => ∃ F', r = .tuple #[vi (madeN most N n).2.1, vi (madeN most N n).2.2] ∧ DagC w' F' p (madeN most N n).1 most kw ∧ (∀ b, b < w.heap.size → F' b → F b) ∧ Keep w w' F) := by
  refine ok40 _ _ _ _ ?_
  unfold sh40
  refine M.new_i (l := n.cells) (fun w1 b1 k1 s1 => ?_)
  have kd := Keep.drew w1 No
  have h2 := (h.keepN k1).keepN kd
  have b2 := b1.keep kd (fun h => h)
  have k1d := k1.trans kd (fun _ _ h => h)
  obtain ⟨vn, r1, r2, kv, g1, g2, g3, g4, g5, g6, g7, g8, g9, g10⟩ := id h2
  have hF : ∀ {b : Nat}, F b → b < w.heap.size := fun hb => h.lt hb
  have hp := h2.lt ((g6 p).2 (.inl rfl))
  obtain ⟨B, cb, rfl, hrn, hcb⟩ := GC.row2 g2 (by omega)
  refine M.draw_i ?_
  (repeat (first|refine jb ?_|refine jc ?_|refine jN (by assumption) rfl ?_))
  refine M.loadAll_i b2 rfl ?_
  refine M.lookupOkA_i (enc := encN) (x := n) (et := 3) (z := vi 0) keyE (by kernel_rfl) (fun w => Tryz.zeroValue3 w) g3 hn ?_
  rw [g5 n]
  by_cases hm : n ∈ N
  · rw [if_pos hm]
    refine M.extract_i rfl ?_
    refine M.extract_i rfl ?_
    (repeat (refine jo ?_))
    refine ⟨F, ?_, ?_, fun b _ h => h, k1d.mono (fun _ _ h => h.elim)⟩
    · unfold madeN
      rw [if_pos hm]; rfl
    · unfold madeN
      rw [if_pos hm]; exact h2
  · rw [if_neg hm]
    refine M.extract_i rfl ?_
    refine M.extract_i rfl ?_
    have kd2 := Keep.drew w1.drew No
    have g1b := g1.keep kd2 (fun h => h)
    have b3 := b2.keep kd2 (fun h => h)
    have h3 := h2.keepN kd2
    (repeat (first|refine ja ?_|refine jb ?_|refine jc ?_|refine jd ?_|refine jp ?_|refine jN (by assumption) rfl ?_))
    refine M.geq_i ?_
    by_cases hmost : most ≤ (N.length : Int)
    · rw [decide_eq_true hmost]
      (repeat (refine jo ?_))
      refine ⟨F, ?_, ?_, fun b _ h => h, (k1d.trans kd2 (fun _ _ h => h)).mono (fun _ _ h => h.elim)⟩
      · unfold madeN
        rw [if_neg hm, if_pos hmost]
      · unfold madeN
        rw [if_neg hm, if_pos hmost]; exact h3
    · rw [decide_eq_false hmost]
      have em : madeN most N n = (N ++ [n], (N.length : Int), 0) := by
        unfold madeN
        rw [if_neg hm, if_neg hmost]
      rw [em]
      have kd3 := Keep.drew w1.drew.drew No
      have g1c := g1b.keep kd3 (fun h => h)
      have b4 := b3.keep kd3 (fun h => h)
      have kk := (k1d.trans kd2 (fun _ _ h => h)).trans kd3 (fun _ _ h => h)
      have h4 := h3.keepN kd3
      have g2c := (g2.keep kd2 (fun _ _ _ h => h)).keep kd3 (fun _ _ _ h => h)
      have g3c := (g3.keep kd2 (fun h => h)).keep kd3 (fun h => h)
      have g4c := (g4.keep kd2 (fun h => h)).keep kd3 (fun h => h)
      (repeat (first|refine jb ?_|refine jc ?_|refine jd ?_|refine jp ?_|refine jN (by assumption) rfl ?_))
      refine M.loadAll_i b4 rfl ?_
      (repeat (first|refine ja ?_|refine jb ?_|refine jc ?_|refine jN (by assumption) rfl ?_))
      refine M.mapUpdateA_i (enc := encN) (x := n) (et := 3) keyE (by kernel_rfl) g3c hn (fun w5 m5 k5 s5 => ?_)
      have hr1 : F r1 := (g6 r1).2 (.inr (.inl rfl))
      have hpF : F p := (g6 p).2 (.inl rfl)
      have g1d := g1c.keep k5 g8
      have b5 := b4.keep k5 (fun h => by have := hF hr1; omega)
      have g2d := (GC.own g2c).keep k5 (fun b _ hb h => (g10 b hb).2.1 h)
      have g4d := g4c.keep k5 (fun h => g7 h.symm)
      have kd5 := Keep.drew w5 No
      have g1e := g1d.keep kd5 (fun h => h)
      have b6 := b5.keep kd5 (fun h => h)
      (repeat (first|refine jb ?_|refine jc ?_|refine jd ?_|refine jN (by assumption) rfl ?_))
      refine M.loadAll_i b6 rfl ?_
      refine M.buildSlice_i n.cells (by kernel_rfl) (fun w6 b7 k6 s6 => ?_)
      have g1f := g1e.keep k6 (fun h => h)
      have b8 := b6.keep k6 (fun h => h)
      have g2f := (g2d.keep kd5 (fun _ _ _ h => h)).keep k6 (fun _ _ _ h => h)
      have g4f := (g4d.keep kd5 (fun h => h)).keep k6 (fun h => h)
      have g3f := (m5.keep kd5 (fun h => h)).keep k6 (fun h => h)
      have q6 : w5.heap.size ≤ w6.heap.size := k6.size
      (repeat (refine jP (by assumption) rfl ?_))
      refine M.append_i g2f (Row.of_blk' (D := fun _ => True) b7 trivial) rfl (cells_one n) rfl (by omega) (by omega) (fun v' w7 g2g k7 => ?_)
      have g1g := g1f.keep k7 (fun h => (g10 _ h).1 rfl)
      have b9 := b8.keep k7 (fun h => by have := hF ((g6 _).2 (.inr (.inr (.inr h)))); omega)
      have g4g := g4f.keep k7 (fun h => (g10 _ h).2.2 rfl)
      have g3g := g3f.keep k7 (fun h => (g10 _ h).2.1 rfl)
      (repeat (first|refine jb ?_|refine jc ?_))
      refine M.store_i g1g (by simp) (by obtain ⟨A', c', rfl, _⟩ := GC.row g2g; rfl) (fun w8 g1h k8 s8 => ?_)
      have hv' : ∀ b, blkOf v' b → blkOf (.slice B N.length cb) b ∨ w6.heap.size ≤ b := fun b hb => (GC.blkOf g2g hb).1
      have hw6 : ∀ b, F b → b < w6.heap.size := fun b hb => by
        have := h2.lt hb
        have e1 : w1.drew.heap.size = w1.heap.size := rfl
        have e2 : w5.drew.heap.size = w5.heap.size := rfl
        have e4 : w1.drew.drew.drew.heap.size = w1.heap.size := rfl
        have := k5.size
        omega
      have hdis : ∀ b, blkOf v' b → b ≠ p ∧ b ≠ r1 ∧ b ≠ r2 := fun b hb => by
        rcases hv' b hb with h | h
        · exact g10 b h
        · have h1 := hw6 p hpF
          have h2 := hw6 r1 hr1
          have h3 := hw6 r2 ((g6 r2).2 (.inr (.inr (.inl rfl))))
          exact ⟨by omega, by omega, by omega⟩
      have g2h := (GC.own g2g).keep k8 (fun b _ hb h => (hdis b hb).1 h)
      have g3h := g3g.keep k8 (fun h => g8 h.symm)
      have g4h := g4g.keep k8 (fun h => g9 h.symm)
      have b10 := b9.keep k8 (fun h => by have := hF hpF; omega)
      have g1h : Blk w8 p [v', .map (some r1), .map (some r2), vi most] := g1h
      have kd8 := Keep.drew w8 No
      have g1i := g1h.keep kd8 (fun h => h)
      (repeat (first|refine jb ?_|refine jc ?_|refine jd ?_|refine jN (by assumption) rfl ?_))
      refine M.loadAll_i (b10.keep kd8 (fun h => h)) rfl ?_
      refine M.lookupA_i (enc := encN) (x := n) (et := 3) (z := vi 0) keyE (by kernel_rfl) (fun w => Tryz.zeroValue3 w) (g3h.keep kd8 (fun h => h)) hn ?_
      rw [lkpA_upd, if_pos rfl]
      have kF : Keep w w1.drew.drew.drew F := kk.mono (fun _ _ h => h.elim)
      have kall : Keep w w8.drew F := (((((kF.trans k5 (fun b _ h => h ▸ hr1)).trans kd5 (fun _ _ h => h.elim)).trans k6 (fun _ _ h => h.elim)).trans k7 (fun b _ h => (g6 b).2 (.inr (.inr (.inr h))))).trans k8 (fun b _ h => h ▸ hpF)).trans kd8 (fun _ _ h => h.elim)
      refine ⟨fun b => b = p ∨ b = r1 ∨ b = r2 ∨ blkOf v' b, rfl, ⟨v', r1, r2, updA kv n (vi N.length), g1i, ?_, g3h.keep kd8 (fun h => h), g4h.keep kd8 (fun h => h), ?_, fun b => Iff.rfl, g7, g8, g9, hdis⟩, fun b hb h => ?_, kall⟩
      · rw [NL_snoc, List.length_append, List.length_singleton]
        exact (g2h.keep kd8 (fun _ _ _ h => h)).mono (fun b _ h => .inr (.inr (.inr h)))
      · intro m
        rw [lkpA_upd]
        by_cases hmn : m = n
        · subst hmn
          rw [if_pos rfl, if_pos (by simp), List.idxOf_append, if_neg hm]
          simp
        · rw [if_neg hmn, g5 m]
          by_cases hmN : m ∈ N
          · rw [if_pos hmN, if_pos (by simp [hmN]), List.idxOf_append, if_pos hmN]
          · rw [if_neg hmN, if_neg (by simp [hmN, hmn])]
      · rcases h with h | h | h | h
        · exact (g6 b).2 (.inl h)
        · exact (g6 b).2 (.inr (.inl h))
        · exact (g6 b).2 (.inr (.inr (.inl h)))
        · rcases hv' b h with h | h
          · exact (g6 b).2 (.inr (.inr (.inr h)))
          · exfalso
            have : w1.drew.drew.drew.heap.size = w1.heap.size := rfl
            have := k5.size
            have := k1.size
            omega
end
end Go.Proofs.YtnbcglnefoinlaaGreat
