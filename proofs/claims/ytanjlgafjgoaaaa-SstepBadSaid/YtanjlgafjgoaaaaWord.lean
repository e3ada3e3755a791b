import Derived.Test.YtanjlgafjgoaaaaLit
import Derived.Test.YtanjlgafjgoaaaaWordM
namespace Go.Proofs.Ytanjlgafjgoaaaa
open Go.Mw
set_option linter.unusedVariables false
set_option linter.unusedSimpArgs false
set_option maxRecDepth 100000
attribute [local irreducible] M.val M.unit M.next M.pick M.new M.nilCheck M.load1 M.loadA M.store M.fieldAddr M.indexSl M.indexArr M.slice M.makeSlice M.buildSlice M.len M.lenS M.cap M.append M.extract M.conv M.not M.neg M.bin M.shift M.eqB M.eqNil M.scat M.call M.callv M.gd M.share M.cond M.loop M.draw pureW readW Ret
/-! breakwater/word.fits: function 19 -/
def sh19 (x0 : Value) (R : Kt) (w : World) : Prop :=
  M.bin .geq x0 (Value.int IntKind.i64 1) (fun t4 w =>
  M.gd t4 true (fun k w => k x0 w) (fun t6 w =>
  M.gd t4 true (fun k w => M.bin .leq t6 (Value.int IntKind.i64 64) k w) (fun t7 w =>
  M.pick t4 t7 (Value.bool false) (fun t8 w =>
  R t8 w) w) w) w) w
theorem ok19 (x0 : Value) (R : Kt) (w : World) (h : sh19 x0 R w) : Ret Try.prog 19 #[x0] w R :=
  ret_mk <| calls_of_comp mixed (c := Try.f19.body.getD .skip) (args := [x0]) (rs := [(ResultVar.tmp 2)]) (Ann.seq Ann.text (Ann.seq Ann.text Ann.leaf))
    Try.func19 (by kernel_rfl) (by kernel_rfl)
    (Eq.mp (by kernel_rfl) h)
/-! breakwater/word.Mask: function 12 -/
def sh12 (x0 : Value) (R : Kt) (w : World) : Prop :=
  M.call Try.prog 19 #[x0] (fun t4 w =>
  M.not t4 (fun t5 w =>
  M.cond t5
  (R (Value.int IntKind.u64 0) w)
  (M.bin .sub (Value.int IntKind.i64 64) x0 (fun t7 w =>
  M.shift .shr (Value.int IntKind.u64 18446744073709551615) t7 (fun t8 w =>
  R t8 w) w) w)) w) w
theorem ok12 (x0 : Value) (R : Kt) (w : World) (h : sh12 x0 R w) : Ret Try.prog 12 #[x0] w R :=
  ret_mk <| calls_of_comp mixed (c := Try.f12.body.getD .skip) (args := [x0]) (rs := [(ResultVar.tmp 2)]) (Ann.seq Ann.text (Ann.seq (Ann.seq Ann.text (Ann.cond (Ann.seq Ann.text Ann.leaf) Ann.leaf)) (Ann.seq Ann.text Ann.leaf)))
    Try.func12 (by kernel_rfl) (by kernel_rfl)
    (Eq.mp (by kernel_rfl) h)
/-! breakwater/word.Cut: function 14 -/
def sh14 (x0 x1 : Value) (R : Kt) (w : World) : Prop :=
  M.call Try.prog 12 #[x0] (fun t7 w =>
  M.bin .and x1 t7 (fun t8 w =>
  R t8 w) w) w
theorem ok14 (x0 x1 : Value) (R : Kt) (w : World) (h : sh14 x0 x1 R w) : Ret Try.prog 14 #[x0, x1] w R :=
  ret_mk <| calls_of_comp mixed (c := Try.f14.body.getD .skip) (args := [x0, x1]) (rs := [(ResultVar.tmp 4)]) (Ann.seq Ann.text (Ann.seq Ann.text Ann.leaf))
    Try.func14 (by kernel_rfl) (by kernel_rfl)
    (Eq.mp (by kernel_rfl) h)
/-! breakwater/word.Signed: function 74 -/
def sh74 (x0 x1 : Value) (R : Kt) (w : World) : Prop :=
  M.call Try.prog 19 #[x0] (fun t7 w =>
  M.not t7 (fun t8 w =>
  M.cond t8
  (R (Value.int IntKind.i64 0) w)
  (M.bin .sub (Value.int IntKind.i64 64) x0 (fun t10 w =>
  M.shift .shl x1 t10 (fun t13 w =>
  M.conv .i64 t13 (fun t14 w =>
  M.shift .shr t14 t10 (fun t16 w =>
  R t16 w) w) w) w) w)) w) w
theorem ok74 (x0 x1 : Value) (R : Kt) (w : World) (h : sh74 x0 x1 R w) : Ret Try.prog 74 #[x0, x1] w R :=
  ret_mk <| calls_of_comp mixed (c := Try.f74.body.getD .skip) (args := [x0, x1]) (rs := [(ResultVar.tmp 4)]) (Ann.seq Ann.text (Ann.seq (Ann.seq Ann.text (Ann.cond (Ann.seq Ann.text Ann.leaf) Ann.leaf)) (Ann.seq Ann.text (Ann.seq Ann.text Ann.leaf))))
    Try.func74 (by kernel_rfl) (by kernel_rfl)
    (Eq.mp (by kernel_rfl) h)
/-! breakwater/word.truth: function 79 -/
def sh79 (x0 : Value) (R : Kt) (w : World) : Prop :=
  M.cond x0
  (R (Value.int IntKind.u64 1) w)
  (R (Value.int IntKind.u64 0) w)
theorem ok79 (x0 : Value) (R : Kt) (w : World) (h : sh79 x0 R w) : Ret Try.prog 79 #[x0] w R :=
  ret_mk <| calls_of_comp mixed (c := Try.f79.body.getD .skip) (args := [x0]) (rs := [(ResultVar.tmp 2)]) (Ann.seq Ann.text (Ann.seq (Ann.seq Ann.text (Ann.cond (Ann.seq Ann.text Ann.leaf) Ann.leaf)) (Ann.seq Ann.text Ann.leaf)))
    Try.func79 (by kernel_rfl) (by kernel_rfl)
    (Eq.mp (by kernel_rfl) h)

/-! ### words, their widths -/
def fitsB (n : Int) : Bool := decide (1 ≤ n ∧ n ≤ 64)
def maskW (n : Int) : W64 := if fitsB n then BitVec.allOnes 64 >>> (64 - n.toNat) else 0
def cutW (n : Int) (x : W64) : W64 := x &&& maskW n
def sgnW (n : Int) (x : W64) : W64 := if fitsB n then (x <<< (64 - n.toNat)).sshiftRight (64 - n.toNat) else 0
theorem fits_ret (n : Int) (w : World) : Ret Try.prog 19 #[vi n] w (fun r w' => r = .bool (fitsB n) ∧ w' = w) := by
  refine ok19 _ _ _ ?_
  unfold sh19
  by_cases h1 : 1 ≤ n
  · (repeat (first|refine ja ?_|refine jb ?_|refine jc ?_|refine jd ?_|refine je ?_|refine jf ?_|refine jg ?_|refine jh ?_|refine ji ?_|refine jj ?_|refine jk ?_|refine jl ?_|refine jm ?_|refine jn ?_|refine jo ?_|refine jp ?_|refine jq ?_|refine jr ?_|refine js ?_|refine jt ?_|refine ju ?_|refine jv ?_|refine jw ?_|refine jx ?_|refine jy ?_|refine jz ?_|refine jA ?_|refine jB ?_|refine jC ?_|refine jD ?_|refine jE ?_|refine jF ?_|refine jG ?_|refine jH ?_|refine jI ?_|refine jJ ?_|refine jK ?_|refine jL ?_|refine jM (by assumption) ?_|refine jN (by assumption) rfl ?_|refine jO (by assumption) ?_|refine jP (by assumption) rfl ?_|refine jQ ?_|refine jR ?_|refine jS ?_|refine jT ?_|refine jU (by assumption) rfl ?_))
    refine M.leq_i ?_
    (repeat (first|refine ja ?_|refine jb ?_|refine jc ?_|refine jd ?_|refine je ?_|refine jf ?_|refine jg ?_|refine jh ?_|refine ji ?_|refine jj ?_|refine jk ?_|refine jl ?_|refine jm ?_|refine jn ?_|refine jo ?_|refine jp ?_|refine jq ?_|refine jr ?_|refine js ?_|refine jt ?_|refine ju ?_|refine jv ?_|refine jw ?_|refine jx ?_|refine jy ?_|refine jz ?_|refine jA ?_|refine jB ?_|refine jC ?_|refine jD ?_|refine jE ?_|refine jF ?_|refine jG ?_|refine jH ?_|refine jI ?_|refine jJ ?_|refine jK ?_|refine jL ?_|refine jM (by assumption) ?_|refine jN (by assumption) rfl ?_|refine jO (by assumption) ?_|refine jP (by assumption) rfl ?_|refine jQ ?_|refine jR ?_|refine jS ?_|refine jT ?_|refine jU (by assumption) rfl ?_))
    exact ⟨by simp [fitsB, h1], rfl⟩
  · (repeat (first|refine ja ?_|refine jb ?_|refine jc ?_|refine jd ?_|refine je ?_|refine jf ?_|refine jg ?_|refine jh ?_|refine ji ?_|refine jj ?_|refine jk ?_|refine jl ?_|refine jm ?_|refine jn ?_|refine jo ?_|refine jp ?_|refine jq ?_|refine jr ?_|refine js ?_|refine jt ?_|refine ju ?_|refine jv ?_|refine jw ?_|refine jx ?_|refine jy ?_|refine jz ?_|refine jA ?_|refine jB ?_|refine jC ?_|refine jD ?_|refine jE ?_|refine jF ?_|refine jG ?_|refine jH ?_|refine jI ?_|refine jJ ?_|refine jK ?_|refine jL ?_|refine jM (by assumption) ?_|refine jN (by assumption) rfl ?_|refine jO (by assumption) ?_|refine jP (by assumption) rfl ?_|refine jQ ?_|refine jR ?_|refine jS ?_|refine jT ?_|refine jU (by assumption) rfl ?_))
    exact ⟨by simp [fitsB, h1], rfl⟩
theorem fits_nat {n : Int} (h : fitsB n = true) : ∃ m : Nat, n = m ∧ 1 ≤ m ∧ m ≤ 64 := by
  unfold fitsB at h
  rw [decide_eq_true_iff] at h
  exact ⟨n.toNat, by omega, by omega, by omega⟩
theorem fits_of {m : Nat} (h1 : 1 ≤ m) (h2 : m ≤ 64) : fitsB m = true := by
  unfold fitsB
  rw [decide_eq_true_iff]; omega
theorem maskW_nat {m : Nat} (h1 : 1 ≤ m) (h2 : m ≤ 64) : maskW m = BitVec.allOnes 64 >>> (64 - m) := by
  unfold maskW
  rw [if_pos (fits_of h1 h2), Int.toNat_natCast]
theorem mask_ret (n : Int) (w : World) : Ret Try.prog 12 #[vi n] w (fun r w' => r = vw (maskW n) ∧ w' = w) := by
  refine ok12 _ _ _ ?_
  unfold sh12
  refine M.call_i (fits_ret n w) ?_; rintro _ w1 ⟨rfl, rfl⟩
  refine M.not_i ?_
  cases hf : fitsB n with
  | false =>
    (repeat (first|refine ja ?_|refine jb ?_|refine jc ?_|refine jd ?_|refine je ?_|refine jf ?_|refine jg ?_|refine jh ?_|refine ji ?_|refine jj ?_|refine jk ?_|refine jl ?_|refine jm ?_|refine jn ?_|refine jo ?_|refine jp ?_|refine jq ?_|refine jr ?_|refine js ?_|refine jt ?_|refine ju ?_|refine jv ?_|refine jw ?_|refine jx ?_|refine jy ?_|refine jz ?_|refine jA ?_|refine jB ?_|refine jC ?_|refine jD ?_|refine jE ?_|refine jF ?_|refine jG ?_|refine jH ?_|refine jI ?_|refine jJ ?_|refine jK ?_|refine jL ?_|refine jM (by assumption) ?_|refine jN (by assumption) rfl ?_|refine jO (by assumption) ?_|refine jP (by assumption) rfl ?_|refine jQ ?_|refine jR ?_|refine jS ?_|refine jT ?_|refine jU (by assumption) rfl ?_))
    exact ⟨by unfold maskW; rw [hf]; rfl, rfl⟩
  | true =>
    obtain ⟨m, rfl, h1, h2⟩ := fits_nat hf
    (repeat (first|refine ja ?_|refine jb ?_|refine jc ?_|refine jd ?_|refine je ?_|refine jf ?_|refine jg ?_|refine jh ?_|refine ji ?_|refine jj ?_|refine jk ?_|refine jl ?_|refine jm ?_|refine jn ?_|refine jo ?_|refine jp ?_|refine jq ?_|refine jr ?_|refine js ?_|refine jt ?_|refine ju ?_|refine jv ?_|refine jw ?_|refine jx ?_|refine jy ?_|refine jz ?_|refine jA ?_|refine jB ?_|refine jC ?_|refine jD ?_|refine jE ?_|refine jF ?_|refine jG ?_|refine jH ?_|refine jI ?_|refine jJ ?_|refine jK ?_|refine jL ?_|refine jM (by assumption) ?_|refine jN (by assumption) rfl ?_|refine jO (by assumption) ?_|refine jP (by assumption) rfl ?_|refine jQ ?_|refine jR ?_|refine jS ?_|refine jT ?_|refine jU (by assumption) rfl ?_))
    have e : (64 : Int) - (m : Int) = ((64 - m : Nat) : Int) := by omega
    rw [e]
    change M.shift .shr (vw (BitVec.allOnes 64)) _ _ _
    refine M.shrW_i ⟨?_, rfl⟩
    rw [maskW_nat h1 h2]
theorem cut_ret (n : Int) (x : W64) (w : World) : Ret Try.prog 14 #[vi n, vw x] w (fun r w' => r = vw (cutW n x) ∧ w' = w) := by
  refine ok14 _ _ _ _ ?_
  unfold sh14
  refine M.call_i (mask_ret n w) ?_; rintro _ w1 ⟨rfl, rfl⟩
  exact M.andW_i ⟨rfl, rfl⟩
theorem sgnW_nat {m : Nat} (h1 : 1 ≤ m) (h2 : m ≤ 64) (x : W64) : sgnW m x = (x <<< (64 - m)).sshiftRight (64 - m) := by
  unfold sgnW
  rw [if_pos (fits_of h1 h2), Int.toNat_natCast]
theorem signed_ret (n : Int) (x : W64) (w : World) : Ret Try.prog 74 #[vi n, vw x] w (fun r w' => r = vi (sgnW n x).toInt ∧ w' = w) := by
  refine ok74 _ _ _ _ ?_
  unfold sh74
  refine M.call_i (fits_ret n w) ?_; rintro _ w1 ⟨rfl, rfl⟩
  refine M.not_i ?_
  cases hf : fitsB n with
  | false =>
    (repeat (first|refine ja ?_|refine jb ?_|refine jc ?_|refine jd ?_|refine je ?_|refine jf ?_|refine jg ?_|refine jh ?_|refine ji ?_|refine jj ?_|refine jk ?_|refine jl ?_|refine jm ?_|refine jn ?_|refine jo ?_|refine jp ?_|refine jq ?_|refine jr ?_|refine js ?_|refine jt ?_|refine ju ?_|refine jv ?_|refine jw ?_|refine jx ?_|refine jy ?_|refine jz ?_|refine jA ?_|refine jB ?_|refine jC ?_|refine jD ?_|refine jE ?_|refine jF ?_|refine jG ?_|refine jH ?_|refine jI ?_|refine jJ ?_|refine jK ?_|refine jL ?_|refine jM (by assumption) ?_|refine jN (by assumption) rfl ?_|refine jO (by assumption) ?_|refine jP (by assumption) rfl ?_|refine jQ ?_|refine jR ?_|refine jS ?_|refine jT ?_|refine jU (by assumption) rfl ?_))
    exact ⟨by unfold sgnW; rw [hf]; rfl, rfl⟩
  | true =>
    obtain ⟨m, rfl, h1, h2⟩ := fits_nat hf
    (repeat (first|refine ja ?_|refine jb ?_|refine jc ?_|refine jd ?_|refine je ?_|refine jf ?_|refine jg ?_|refine jh ?_|refine ji ?_|refine jj ?_|refine jk ?_|refine jl ?_|refine jm ?_|refine jn ?_|refine jo ?_|refine jp ?_|refine jq ?_|refine jr ?_|refine js ?_|refine jt ?_|refine ju ?_|refine jv ?_|refine jw ?_|refine jx ?_|refine jy ?_|refine jz ?_|refine jA ?_|refine jB ?_|refine jC ?_|refine jD ?_|refine jE ?_|refine jF ?_|refine jG ?_|refine jH ?_|refine jI ?_|refine jJ ?_|refine jK ?_|refine jL ?_|refine jM (by assumption) ?_|refine jN (by assumption) rfl ?_|refine jO (by assumption) ?_|refine jP (by assumption) rfl ?_|refine jQ ?_|refine jR ?_|refine jS ?_|refine jT ?_|refine jU (by assumption) rfl ?_))
    have e : (64 : Int) - (m : Int) = ((64 - m : Nat) : Int) := by omega
    rw [e]
    refine M.shlW_i ?_
    refine M.toIntW_i ?_
    refine M.sarW_i ⟨?_, rfl⟩ (by omega)
    rw [sgnW_nat h1 h2]
theorem truth_ret (b : Bool) (w : World) : Ret Try.prog 79 #[.bool b] w (fun r w' => r = vw (if b then 1 else 0) ∧ w' = w) := by
  refine ok79 _ _ _ ?_
  unfold sh79
  cases b with
  | false => exact M.cond_f ⟨rfl, rfl⟩
  | true => exact M.cond_t ⟨rfl, rfl⟩
/-! ### bit by bit -/
theorem maskW_bit {m : Nat} (h1 : 1 ≤ m) (h2 : m ≤ 64) (i : Nat) : (maskW m).getLsbD i = decide (i < m) := by
  rw [maskW_nat h1 h2, BitVec.getLsbD_ushiftRight, BitVec.getLsbD_allOnes]
  by_cases h : i < m
  · rw [decide_eq_true h, decide_eq_true]; omega
  · rw [decide_eq_false h, decide_eq_false]; omega
theorem cutW_bit {m : Nat} (h1 : 1 ≤ m) (h2 : m ≤ 64) (x : W64) (i : Nat) : (cutW m x).getLsbD i = (x.getLsbD i && decide (i < m)) := by
  unfold cutW
  rw [BitVec.getLsbD_and, maskW_bit h1 h2]
theorem sgnW_bit {m : Nat} (h1 : 1 ≤ m) (h2 : m ≤ 64) (x : W64) (i : Nat) (hi : i < 64) : (sgnW m x).getLsbD i = x.getLsbD (if i < m then i else m - 1) := by
  rw [sgnW_nat h1 h2, BitVec.getLsbD_sshiftRight]
  have hm : (x <<< (64 - m)).msb = x.getLsbD (m - 1) := by
    rw [BitVec.msb_eq_getLsbD_last, BitVec.getLsbD_shiftLeft]
    have e : 64 - 1 - (64 - m) = m - 1 := by omega
    rw [e]
    have h3 : decide (64 - 1 < 64) = true := by decide
    have h4 : decide (64 - 1 < 64 - m) = false := by rw [decide_eq_false_iff_not]; omega
    rw [h3, h4]; rfl
  have h5 : decide (64 ≤ i) = false := by rw [decide_eq_false_iff_not]; omega
  rw [h5, hm]
  by_cases h : i < m
  · rw [if_pos h, if_pos (by omega), BitVec.getLsbD_shiftLeft]
    have e : 64 - m + i - (64 - m) = i := by omega
    have h6 : decide (64 - m + i < 64) = true := by rw [decide_eq_true_iff]; omega
    have h7 : decide (64 - m + i < 64 - m) = false := by rw [decide_eq_false_iff_not]; omega
    rw [e, h6, h7]; rfl
  · rw [if_neg h, if_neg (by omega)]; rfl
theorem maskR_eq {m : Nat} (h1 : 1 ≤ m) (h2 : m ≤ 64) : BitVec.ofNat 64 (2 ^ m - 1) = maskW m := by
  apply BitVec.eq_of_getLsbD_eq
  intro i hi
  rw [maskW_bit h1 h2, BitVec.getLsbD_ofNat, Nat.testBit_two_pow_sub_one]
  simp [hi]
theorem bit_of (x : W64) (i : Nat) : decide ((x >>> i) % 2 = 1) = x.getLsbD i := by
  have e : ((x >>> i) % 2 = 1) ↔ x.toNat / 2 ^ i % 2 = 1 := by
    constructor
    · intro h
      have := congrArg BitVec.toNat h
      rw [BitVec.toNat_umod, BitVec.toNat_ushiftRight, Nat.shiftRight_eq_div_pow] at this
      exact this
    · intro h
      apply BitVec.eq_of_toNat_eq
      rw [BitVec.toNat_umod, BitVec.toNat_ushiftRight, Nat.shiftRight_eq_div_pow]
      exact h
  unfold BitVec.getLsbD
  rw [Nat.testBit_eq_decide_div_mod_eq]
  by_cases h : x.toNat / 2 ^ i % 2 = 1
  · rw [decide_eq_true h, decide_eq_true (e.2 h)]
  · rw [decide_eq_false h, decide_eq_false (fun h' => h (e.1 h'))]
end Go.Proofs.Ytanjlgafjgoaaaa
