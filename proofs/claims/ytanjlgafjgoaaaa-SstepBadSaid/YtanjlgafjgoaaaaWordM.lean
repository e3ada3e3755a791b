import Derived.Test.YtanjlgafjgoaaaaLib2
import Derived.Laws.Strings
namespace Go.Mw
set_option linter.unusedVariables false
set_option linter.unusedSimpArgs false
/-! ### words of 64 bits -/
abbrev W64 := BitVec 64
abbrev vw (x : W64) : Value := .int .u64 (x.toNat : Int)
theorem wrapU (n : Int) : IntKind.u64.wrap n = ((BitVec.ofInt 64 n).toNat : Int) := by
  have e : IntKind.u64.wrap n = n % 18446744073709551616 := by
    unfold IntKind.wrap
    simp [IntKind.bits, IntKind.signed]
  rw [e, BitVec.toNat_ofInt]
  omega
theorem wrapI (n : Int) : IntKind.i64.wrap n = (BitVec.ofInt 64 n).toInt := by
  have e : IntKind.i64.wrap n = if n % 18446744073709551616 ≥ 9223372036854775808 then n % 18446744073709551616 - 18446744073709551616 else n % 18446744073709551616 := by
    unfold IntKind.wrap
    simp [IntKind.bits, IntKind.signed]
  rw [e, BitVec.toInt_ofInt, Int.bmod_def]
  omega
theorem ofI (x : W64) : BitVec.ofInt 64 (x.toNat : Int) = x := by
  rw [BitVec.ofInt_natCast, BitVec.ofNat_toNat, BitVec.setWidth_eq]
theorem wrap_of {n : Int} {x : W64} (h : BitVec.ofInt 64 n = x) : IntKind.u64.wrap n = (x.toNat : Int) := by rw [wrapU, h]
section
variable {k : Kt} {w : World}
theorem M.addW_i {x y : W64} (h : k (vw (x + y)) w) : M.bin .add (vw x) (vw y) k w := by
  refine ⟨rfl, ?_⟩
  simp only [ibin]
  rw [wrap_of (x := x + y) (by rw [BitVec.ofInt_add, ofI, ofI])]
  exact h
theorem M.subW_i {x y : W64} (h : k (vw (x - y)) w) : M.bin .sub (vw x) (vw y) k w := by
  refine ⟨rfl, ?_⟩
  simp only [ibin]
  rw [wrap_of (x := x - y) (by rw [Int.sub_eq_add_neg, BitVec.ofInt_add, BitVec.ofInt_neg, ofI, ofI, BitVec.sub_eq_add_neg])]
  exact h
theorem M.mulW_i {x y : W64} (h : k (vw (x * y)) w) : M.bin .mul (vw x) (vw y) k w := by
  refine ⟨rfl, ?_⟩
  simp only [ibin]
  rw [wrap_of (x := x * y) (by rw [BitVec.ofInt_mul, ofI, ofI])]
  exact h
theorem M.negW_i {x : W64} (h : k (vw (-x)) w) : M.neg (vw x) k w := by
  show k (.int .u64 (IntKind.u64.wrap (0 - (x.toNat : Int)))) w
  rw [wrap_of (x := -x) (by rw [Int.zero_sub, BitVec.ofInt_neg, ofI])]
  exact h
theorem M.andW_i {x y : W64} (h : k (vw (x &&& y)) w) : M.bin .and (vw x) (vw y) k w := by
  refine ⟨rfl, ?_⟩
  show k (.int .u64 (IntKind.u64.wrap ((BitVec.ofInt 64 (x.toNat : Int) &&& BitVec.ofInt 64 (y.toNat : Int)).toNat : Int))) w
  rw [ofI, ofI, wrap_of (x := x &&& y) (ofI _)]
  exact h
theorem M.orW_i {x y : W64} (h : k (vw (x ||| y)) w) : M.bin .or (vw x) (vw y) k w := by
  refine ⟨rfl, ?_⟩
  show k (.int .u64 (IntKind.u64.wrap ((BitVec.ofInt 64 (x.toNat : Int) ||| BitVec.ofInt 64 (y.toNat : Int)).toNat : Int))) w
  rw [ofI, ofI, wrap_of (x := x ||| y) (ofI _)]
  exact h
theorem M.xorW_i {x y : W64} (h : k (vw (x ^^^ y)) w) : M.bin .xor (vw x) (vw y) k w := by
  refine ⟨rfl, ?_⟩
  show k (.int .u64 (IntKind.u64.wrap ((BitVec.ofInt 64 (x.toNat : Int) ^^^ BitVec.ofInt 64 (y.toNat : Int)).toNat : Int))) w
  rw [ofI, ofI, wrap_of (x := x ^^^ y) (ofI _)]
  exact h
theorem M.quoW_i {x y : W64} (hy : y ≠ 0) (h : k (vw (x / y)) w) : M.bin .quo (vw x) (vw y) k w := by
  have hy0 : y.toNat ≠ 0 := fun e => hy (BitVec.eq_of_toNat_eq (by simpa using e))
  refine ⟨rfl, ?_⟩
  simp only [ibin]
  rw [if_neg (by omega)]
  have e : ((x.toNat : Int).tdiv (y.toNat : Int)) = (((x / y).toNat : Nat) : Int) := by
    rw [BitVec.toNat_udiv, Int.ofNat_tdiv]
  rw [e, wrap_of (x := x / y) (ofI _)]
  exact h
theorem M.remW_i {x y : W64} (hy : y ≠ 0) (h : k (vw (x % y)) w) : M.bin .rem (vw x) (vw y) k w := by
  have hy0 : y.toNat ≠ 0 := fun e => hy (BitVec.eq_of_toNat_eq (by simpa using e))
  refine ⟨rfl, ?_⟩
  simp only [ibin]
  rw [if_neg (by omega)]
  have e : ((x.toNat : Int).tmod (y.toNat : Int)) = (((x % y).toNat : Nat) : Int) := by
    rw [BitVec.toNat_umod, Int.ofNat_tmod]
  rw [e]
  exact h
theorem vw_inj {x y : W64} : ((x.toNat : Int) = (y.toNat : Int)) ↔ x = y := by
  rw [Int.ofNat_inj]
  exact ⟨BitVec.eq_of_toNat_eq, fun h => by rw [h]⟩
theorem M.eqlW_i {x y : W64} (h : k (.bool (decide (x = y))) w) : M.bin .eql (vw x) (vw y) k w := by
  refine M.eql_i ?_
  have : decide ((x.toNat : Int) = (y.toNat : Int)) = decide (x = y) := by simp only [vw_inj]
  rw [this]; exact h
theorem M.neqW_i {x y : W64} (h : k (.bool (decide (x ≠ y))) w) : M.bin .neq (vw x) (vw y) k w := by
  refine M.neq_i ?_
  have : decide ((x.toNat : Int) ≠ (y.toNat : Int)) = decide (x ≠ y) := by simp only [ne_eq, vw_inj]
  rw [this]; exact h
theorem M.lssW_i {x y : W64} (h : k (.bool (decide (x < y))) w) : M.bin .lss (vw x) (vw y) k w := by
  refine M.lss_i ?_
  have : decide ((x.toNat : Int) < (y.toNat : Int)) = decide (x < y) := by simp only [Int.ofNat_lt, BitVec.lt_def]
  rw [this]; exact h
theorem min_pow {b : Nat} : 18446744073709551616 ∣ 2 ^ b ∨ min b 64 = b := by
  by_cases h : b ≤ 64
  · right; omega
  · left
    exact Nat.pow_dvd_pow 2 (m := 64) (n := b) (by omega)
theorem M.shlW_i {x : W64} {d : IntKind} {b : Nat} (h : k (vw (x <<< b)) w) : M.shift .shl (vw x) (.int d b) k w := by
  refine M.shift_i (v := vw (x <<< b)) ?_ h
  simp only [ishift]
  rw [if_neg (by omega)]
  have e64 : IntKind.u64.bits = 64 := rfl
  rw [e64, Int.toNat_natCast]
  have hw : IntKind.u64.wrap ((x.toNat : Int) * 2 ^ (min b 64)) = (((x <<< b).toNat : Nat) : Int) := by
    have e1 : (x.toNat : Int) * 2 ^ (min b 64) = ((x.toNat * 2 ^ (min b 64) : Nat) : Int) := by push_cast; rfl
    rw [e1, wrapU, BitVec.ofInt_natCast, BitVec.toNat_ofNat, BitVec.toNat_shiftLeft, Nat.shiftLeft_eq]
    rcases min_pow (b := b) with h | h
    · have h1 : x.toNat * 2 ^ b % 2 ^ 64 = 0 := Nat.mod_eq_zero_of_dvd (Nat.dvd_trans h (Nat.dvd_mul_left _ _))
      have hb : min b 64 = 64 ∨ min b 64 = b := by omega
      rcases hb with hb | hb
      · rw [h1, hb, Nat.mul_mod_left]
      · rw [hb]
    · rw [h]
  rw [hw]
theorem M.shrW_i {x : W64} {d : IntKind} {b : Nat} (h : k (vw (x >>> b)) w) : M.shift .shr (vw x) (.int d b) k w := by
  refine M.shift_i (v := vw (x >>> b)) ?_ h
  simp only [ishift]
  rw [if_neg (by omega)]
  have e64 : IntKind.u64.bits = 64 := rfl
  rw [e64, Int.toNat_natCast]
  have hw : (x.toNat : Int).fdiv (2 ^ (min b 64)) = (((x >>> b).toNat : Nat) : Int) := by
    rw [BitVec.toNat_ushiftRight, Nat.shiftRight_eq_div_pow]
    have e1 : (2 : Int) ^ (min b 64) = ((2 ^ (min b 64) : Nat) : Int) := by push_cast; rfl
    rw [e1, Int.fdiv_eq_ediv_of_nonneg _ (Int.natCast_nonneg _), ← Int.natCast_ediv]
    congr 1
    by_cases hb : b ≤ 64
    · rw [Nat.min_eq_left hb]
    · rw [Nat.min_eq_right (by omega)]
      have h1 : x.toNat < 2 ^ 64 := x.isLt
      have h2 : (2 : Nat) ^ 64 ≤ 2 ^ b := Nat.pow_le_pow_right (by omega) (by omega)
      rw [Nat.div_eq_of_lt h1, Nat.div_eq_of_lt (by omega)]
  rw [hw]
theorem M.shlWi_i {x : W64} {d : IntKind} {b : Int} (h0 : 0 ≤ b) (h : k (vw (x <<< b.toNat)) w) : M.shift .shl (vw x) (.int d b) k w := by
  obtain ⟨n, rfl⟩ : ∃ n : Nat, b = n := ⟨b.toNat, by omega⟩
  exact M.shlW_i (by simpa using h)
theorem M.shrWi_i {x : W64} {d : IntKind} {b : Int} (h0 : 0 ≤ b) (h : k (vw (x >>> b.toNat)) w) : M.shift .shr (vw x) (.int d b) k w := by
  obtain ⟨n, rfl⟩ : ∃ n : Nat, b = n := ⟨b.toNat, by omega⟩
  exact M.shrW_i (by simpa using h)
/-- 'int(x)'. -/
theorem M.toIntW_i {x : W64} (h : k (vi x.toInt) w) : M.conv .i64 (vw x) k w := by
  show k (.int .i64 (IntKind.i64.wrap (x.toNat : Int))) w
  rw [wrapI, ofI]; exact h
/-- 'uint64(n)'. -/
theorem M.toWord_i {n : Int} (h : k (vw (BitVec.ofInt 64 n)) w) : M.conv .u64 (vi n) k w := by
  show k (.int .u64 (IntKind.u64.wrap n)) w
  rw [wrapU]; exact h
theorem ofInt_toInt (x : W64) : BitVec.ofInt 64 x.toInt = x := BitVec.ofInt_toInt
/-- '>>' of a number that is a word's. -/
theorem M.sarW_i {x : W64} {d : IntKind} {b : Nat} (h : k (vi (x.sshiftRight b).toInt) w) (hb : b ≤ 64) : M.shift .shr (vi x.toInt) (.int d b) k w := by
  refine M.shift_i (v := vi (x.sshiftRight b).toInt) ?_ h
  simp only [ishift]
  rw [if_neg (by omega)]
  have e64 : IntKind.i64.bits = 64 := rfl
  rw [e64, Int.toNat_natCast, Nat.min_eq_left hb, BitVec.toInt_sshiftRight, Int.shiftRight_eq_div_pow, Int.fdiv_eq_ediv_of_nonneg _ (Int.pow_nonneg (by omega))]
  congr 2
theorem M.notW_i {P : Program} {x : W64} (h : k (vw (~~~x)) w) : M.val P (Op.unary .xor (vw x)) k w := by
  have e : (Op.unary .xor (vw x)).run P w = .ok (.int .u64 (IntKind.u64.wrap ((BitVec.ofInt 64 (18446744073709551615 : Int) ^^^ BitVec.ofInt 64 (x.toNat : Int)).toNat : Int))) w := rfl
  have e2 : IntKind.u64.wrap ((BitVec.ofInt 64 (18446744073709551615 : Int) ^^^ BitVec.ofInt 64 (x.toNat : Int)).toNat : Int) = ((~~~x).toNat : Int) := by
    rw [ofI, wrap_of (ofI _)]
    have h1 : BitVec.ofInt 64 (18446744073709551615 : Int) = BitVec.allOnes 64 := by decide
    rw [h1, BitVec.allOnes_xor]
  rw [e2] at e
  exact execW_value e h
theorem M.negI_i {n : Int} (h0 : -9223372036854775808 < n) (h1 : n < 9223372036854775808) (h : k (vi (-n)) w) : M.neg (vi n) k w := by
  show k (.int .i64 (IntKind.i64.wrap (0 - n))) w
  rw [wrap_i64 (by omega) (by omega), Int.zero_sub]; exact h
theorem M.int8_i {d : IntKind} {n : Int} (h0 : -9223372036854775808 ≤ n) (h1 : n < 9223372036854775808) (h : k (vi n) w) : M.conv .i64 (.int d n) k w := by
  unfold M.conv
  simp only [wrap_i64 h0 h1]; exact h
theorem M.byte_i {d : IntKind} {n : Int} (h : k (.int .u8 (n % 256)) w) : M.conv .u8 (.int d n) k w := by
  have e : IntKind.u8.wrap n = n % 256 := by
    unfold IntKind.wrap
    simp [IntKind.bits, IntKind.signed]
  show k (.int .u8 (IntKind.u8.wrap n)) w
  rw [e]; exact h
/-- The table of Len8, as far as it is used here. -/
def tabOk (s : ByteArray) : Bool := decide (s.size = 256) && (List.range 256).all (fun i => decide ((s.data.getD i 0).toNat ≤ 8) && (decide (7 < (s.data.getD i 0).toNat) == decide (128 ≤ i)))
theorem M.tab_i {P : Program} {t : TypeId} {s : ByteArray} {d : IntKind} {i : Int} (ht : P.underlying t = some .string) (hs : tabOk s = true) (h0 : 0 ≤ i) (h1 : i < 256) (h : ∀ z : Nat, z ≤ 8 → (7 < z ↔ 128 ≤ i) → k (.int .u8 z) w) :
    pureW P (Instr.index t (.string s) (.int d i)) k w := by
  unfold tabOk at hs
  rw [Bool.and_eq_true, decide_eq_true_iff, List.all_eq_true] at hs
  obtain ⟨hz, ha⟩ := hs
  have := ha i.toNat (by rw [List.mem_range]; omega)
  rw [Bool.and_eq_true, decide_eq_true_iff, beq_iff_eq] at this
  have hb : 0 ≤ i ∧ i < s.size := ⟨h0, by rw [hz]; exact h1⟩
  have hlt : i.toNat < s.data.size := by
    have : s.data.size = 256 := hz
    omega
  have eg : s.data.getD i.toNat 0 = s.data[i.toNat] := by
    rw [Array.getD_eq_getD_getElem?, Array.getElem?_eq_getElem hlt]; rfl
  rw [eg] at this
  refine ⟨_, fun w' => ?_, h (s.data[i.toNat]).toNat this.1 ?_⟩
  · rw [run_index_string w' t s d i ht, dif_pos hb]
    rfl
  · have h2 := this.2
    rw [decide_eq_decide] at h2
    rw [h2]; omega
end
end Go.Mw
