import Derived.Test.YthkkjjbjpbgcpaaWord
namespace Go.Proofs.Ythkkjjbjpbgcpaa
open Go.Mw
set_option linter.unusedVariables false
set_option linter.unusedSimpArgs false
set_option maxRecDepth 100000
attribute [local irreducible] M.val M.unit M.next M.pick M.new M.nilCheck M.load1 M.loadA M.store M.fieldAddr M.indexSl M.indexArr M.slice M.makeSlice M.buildSlice M.len M.lenS M.cap M.append M.extract M.conv M.not M.neg M.bin M.shift M.eqB M.eqNil M.scat M.call M.callv M.gd M.share M.cond M.loop M.draw pureW readW Ret
/-! math/bits.Len64: function 86 -/
def sh86 (x0 : Value) (R : Kt) (w : World) : Prop :=
  M.share (fun K1 w =>
  M.bin .geq x0 (Value.int IntKind.u64 4294967296) (fun t4 w =>
  M.cond t4
  (M.shift .shr x0 (Value.int IntKind.u64 32) (fun t6 w =>
  K1 [t6, (Value.int IntKind.i64 32)] w) w)
  (K1 [x0, (Value.int IntKind.i64 0)] w)) w) (fun s1 w => ∀ _ : List Value,
  M.share (fun K2 w =>
  M.bin .geq (s1.getD 0 undef) (Value.int IntKind.u64 65536) (fun t8 w =>
  M.cond t8
  (M.shift .shr (s1.getD 0 undef) (Value.int IntKind.u64 16) (fun t10 w =>
  M.bin .add (s1.getD 1 undef) (Value.int IntKind.i64 16) (fun t12 w =>
  K2 [t10, t12] w) w) w)
  (K2 [(s1.getD 0 undef), (s1.getD 1 undef)] w)) w) (fun s2 w => ∀ _ : List Value,
  M.share (fun K3 w =>
  M.bin .geq (s2.getD 0 undef) (Value.int IntKind.u64 256) (fun t14 w =>
  M.cond t14
  (M.shift .shr (s2.getD 0 undef) (Value.int IntKind.u64 8) (fun t16 w =>
  M.bin .add (s2.getD 1 undef) (Value.int IntKind.i64 8) (fun t18 w =>
  K3 [t16, t18] w) w) w)
  (K3 [(s2.getD 0 undef), (s2.getD 1 undef)] w)) w) (fun s3 w => ∀ _ : List Value,
  M.conv .u8 (s3.getD 0 undef) (fun t21 w =>
  pureW Try.prog (Instr.index 9 (Value.string { data := #[0, 1, 2, 2, 3, 3, 3, 3, 4, 4, 4, 4, 4, 4, 4, 4, 5, 5, 5, 5, 5, 5, 5, 5, 5, 5, 5, 5, 5, 5, 5, 5, 6, 6, 6, 6, 6, 6, 6, 6, 6, 6, 6, 6, 6, 6, 6, 6, 6, 6, 6, 6, 6, 6, 6, 6, 6, 6, 6, 6, 6, 6, 6, 6, 7, 7, 7, 7, 7, 7, 7, 7, 7, 7, 7, 7, 7, 7, 7, 7, 7, 7, 7, 7, 7, 7, 7, 7, 7, 7, 7, 7, 7, 7, 7, 7, 7, 7, 7, 7, 7, 7, 7, 7, 7, 7, 7, 7, 7, 7, 7, 7, 7, 7, 7, 7, 7, 7, 7, 7, 7, 7, 7, 7, 7, 7, 7, 7, 8, 8, 8, 8, 8, 8, 8, 8, 8, 8, 8, 8, 8, 8, 8, 8, 8, 8, 8, 8, 8, 8, 8, 8, 8, 8, 8, 8, 8, 8, 8, 8, 8, 8, 8, 8, 8, 8, 8, 8, 8, 8, 8, 8, 8, 8, 8, 8, 8, 8, 8, 8, 8, 8, 8, 8, 8, 8, 8, 8, 8, 8, 8, 8, 8, 8, 8, 8, 8, 8, 8, 8, 8, 8, 8, 8, 8, 8, 8, 8, 8, 8, 8, 8, 8, 8, 8, 8, 8, 8, 8, 8, 8, 8, 8, 8, 8, 8, 8, 8, 8, 8, 8, 8, 8, 8, 8, 8, 8, 8, 8, 8, 8, 8, 8, 8, 8, 8, 8, 8, 8, 8, 8, 8, 8, 8, 8, 8] }) t21) (fun t22 w =>
  M.conv .i64 t22 (fun t23 w =>
  M.bin .add (s3.getD 1 undef) t23 (fun t24 w =>
  R t24 w) w) w) w) w) w) w) w
theorem ok86 (x0 : Value) (R : Kt) (w : World) (h : sh86 x0 R w) : Ret Try.prog 86 #[x0] w R :=
  ret_mk <| calls_of_comp mixed (c := Try.f86.body.getD .skip) (args := [x0]) (rs := [(ResultVar.tmp 2)]) (Ann.seq Ann.text (Ann.join [0, 2] [3, 4, 5, 6] (Ann.seq Ann.text (Ann.cond (Ann.seq Ann.text Ann.text) Ann.leaf)) (Ann.join [0, 2] [7, 8, 9, 10, 11, 12] (Ann.seq Ann.text (Ann.cond (Ann.seq Ann.text Ann.text) Ann.leaf)) (Ann.join [0, 2] [13, 14, 15, 16, 17, 18] (Ann.seq Ann.text (Ann.cond (Ann.seq Ann.text Ann.text) Ann.leaf)) (Ann.seq Ann.text Ann.leaf)))))
    Try.func86 (by kernel_rfl) (by kernel_rfl)
    (Eq.mp (by kernel_rfl) h)

theorem sgnR_eq {m : Nat} (h1 : 1 ≤ m) (h2 : m ≤ 64) (x : W64) : sgnW m x = if (cutW m x).getLsbD (m - 1) then cutW m x ||| ~~~maskW m else cutW m x := by
  apply BitVec.eq_of_getLsbD_eq
  intro i hi
  rw [sgnW_bit h1 h2 _ _ hi, cutW_bit h1 h2]
  have hm : decide (m - 1 < m) = true := by rw [decide_eq_true_iff]; omega
  rw [hm, Bool.and_true]
  cases hb : x.getLsbD (m - 1) with
  | false =>
    simp only [Bool.false_eq_true, if_false]
    rw [cutW_bit h1 h2]
    by_cases h : i < m
    · simp [h]
    · simp [h, hb]
  | true =>
    simp only [if_true]
    rw [BitVec.getLsbD_or, cutW_bit h1 h2, BitVec.getLsbD_not, maskW_bit h1 h2]
    by_cases h : i < m
    · simp [h]
    · simp [h, hb, hi]
/-- How far. -/
def byN (m : Nat) (b : W64) : Nat := if m < b.toNat then m else b.toNat
/-- What an operator makes of two words that are cut. -/
def binC (op : Int) (m : Nat) (a b : W64) : W64 :=
  if op = 1 then a + b else if op = 2 then a - b else if op = 3 then a * b
  else if op = 4 then (if b = 0 then maskW m else a / b) else if op = 5 then (if b = 0 then a else a % b)
  else if op = 6 then a &&& b else if op = 7 then a ||| b else if op = 8 then a ^^^ b
  else if op = 9 then a <<< byN m b else if op = 10 then a >>> byN m b else if op = 11 then (sgnW m a).sshiftRight (byN m b)
  else if op = 12 then (if decide (a = b) then 1 else 0) else if op = 13 then (if decide (a < b) then 1 else 0)
  else if decide ((sgnW m a).toInt < (sgnW m b).toInt) then 1 else 0
def binW (op : Int) (n : Int) (a b : W64) : W64 := if op < 1 ∨ 14 < op then 0 else if fitsB n then cutW n (binC op n.toNat (cutW n a) (cutW n b)) else 0
def binE (op : Int) (n : Int) : Int := if op < 1 ∨ 14 < op then 3 else if fitsB n then 0 else 2
def unW (op : Int) (n : Int) (a : W64) : W64 := if op ≠ 15 ∧ op ≠ 16 then 0 else if fitsB n then cutW n (if op = 15 then ~~~a else -a) else 0
def unE (op : Int) (n : Int) : Int := if op ≠ 15 ∧ op ≠ 16 then 3 else if fitsB n then 0 else 2
set_option maxHeartbeats 1000000 in
theorem len64_ret (x : W64) (w : World) : Ret Try.prog 86 #[vw x] w (fun r w' => ∃ z : Int, r = vi z ∧ (7 < z ↔ 128 ≤ x.toNat) ∧ w' = w) := by
  have hx := x.isLt
  refine ok86 _ _ _ ?_
  unfold sh86
  refine M.share_j (fun vals w' => ∃ (y : W64) (n : Int), vals = [vw y, vi n] ∧ ((n = 0 ∧ y = x ∧ x.toNat < 4294967296) ∨ (n = 32 ∧ 4294967296 ≤ x.toNat)) ∧ w' = w) ?_ ?_
  rotate_left
  · intro K hK
    by_cases h : 4294967296 ≤ x.toNat
    · (repeat (first|refine ja ?_|refine jb ?_|refine jc ?_|refine jd ?_|refine je ?_|refine jf ?_|refine jg ?_|refine jh ?_|refine ji ?_|refine jj ?_|refine jk ?_|refine jl ?_|refine jm ?_|refine jn ?_|refine jo ?_|refine jp ?_|refine jq ?_|refine jr ?_|refine js ?_|refine jt ?_|refine ju ?_|refine jv ?_|refine jw ?_|refine jx ?_|refine jy ?_|refine jz ?_|refine jA ?_|refine jB ?_|refine jC ?_|refine jD ?_|refine jE ?_|refine jF ?_|refine jG ?_|refine jH ?_|refine jI ?_|refine jJ ?_|refine jK ?_|refine jL ?_|refine jM (by assumption) ?_|refine jN (by assumption) rfl ?_|refine jO (by assumption) ?_|refine jP (by assumption) rfl ?_|refine jQ ?_|refine jR ?_|refine jS ?_|refine jT ?_|refine jU (by assumption) rfl ?_))
      refine M.shrW_i (b := 32) ?_
      exact hK _ _ ⟨_, 32, rfl, .inr ⟨rfl, h⟩, rfl⟩
    · (repeat (first|refine ja ?_|refine jb ?_|refine jc ?_|refine jd ?_|refine je ?_|refine jf ?_|refine jg ?_|refine jh ?_|refine ji ?_|refine jj ?_|refine jk ?_|refine jl ?_|refine jm ?_|refine jn ?_|refine jo ?_|refine jp ?_|refine jq ?_|refine jr ?_|refine js ?_|refine jt ?_|refine ju ?_|refine jv ?_|refine jw ?_|refine jx ?_|refine jy ?_|refine jz ?_|refine jA ?_|refine jB ?_|refine jC ?_|refine jD ?_|refine jE ?_|refine jF ?_|refine jG ?_|refine jH ?_|refine jI ?_|refine jJ ?_|refine jK ?_|refine jL ?_|refine jM (by assumption) ?_|refine jN (by assumption) rfl ?_|refine jO (by assumption) ?_|refine jP (by assumption) rfl ?_|refine jQ ?_|refine jR ?_|refine jS ?_|refine jT ?_|refine jU (by assumption) rfl ?_))
      exact hK _ _ ⟨x, 0, rfl, .inl ⟨rfl, rfl, by omega⟩, rfl⟩
  rintro vals w1 ⟨y, n, rfl, hy, rfl⟩ _
  simp only [List.getD_cons_zero, List.getD_cons_succ]
  refine M.share_j (fun vals w' => ∃ (y : W64) (n : Int), vals = [vw y, vi n] ∧ ((n = 0 ∧ y = x ∧ x.toNat < 65536) ∨ (16 ≤ n ∧ n ≤ 48 ∧ 65536 ≤ x.toNat)) ∧ w' = w1) ?_ ?_
  rotate_left
  · intro K hK
    by_cases h : 65536 ≤ y.toNat
    · (repeat (first|refine ja ?_|refine jb ?_|refine jc ?_|refine jd ?_|refine je ?_|refine jf ?_|refine jg ?_|refine jh ?_|refine ji ?_|refine jj ?_|refine jk ?_|refine jl ?_|refine jm ?_|refine jn ?_|refine jo ?_|refine jp ?_|refine jq ?_|refine jr ?_|refine js ?_|refine jt ?_|refine ju ?_|refine jv ?_|refine jw ?_|refine jx ?_|refine jy ?_|refine jz ?_|refine jA ?_|refine jB ?_|refine jC ?_|refine jD ?_|refine jE ?_|refine jF ?_|refine jG ?_|refine jH ?_|refine jI ?_|refine jJ ?_|refine jK ?_|refine jL ?_|refine jM (by assumption) ?_|refine jN (by assumption) rfl ?_|refine jO (by assumption) ?_|refine jP (by assumption) rfl ?_|refine jQ ?_|refine jR ?_|refine jS ?_|refine jT ?_|refine jU (by assumption) rfl ?_))
      refine M.shrW_i (b := 16) ?_
      (repeat (first|refine ja ?_|refine jb ?_|refine jc ?_|refine jd ?_|refine je ?_|refine jf ?_|refine jg ?_|refine jh ?_|refine ji ?_|refine jj ?_|refine jk ?_|refine jl ?_|refine jm ?_|refine jn ?_|refine jo ?_|refine jp ?_|refine jq ?_|refine jr ?_|refine js ?_|refine jt ?_|refine ju ?_|refine jv ?_|refine jw ?_|refine jx ?_|refine jy ?_|refine jz ?_|refine jA ?_|refine jB ?_|refine jC ?_|refine jD ?_|refine jE ?_|refine jF ?_|refine jG ?_|refine jH ?_|refine jI ?_|refine jJ ?_|refine jK ?_|refine jL ?_|refine jM (by assumption) ?_|refine jN (by assumption) rfl ?_|refine jO (by assumption) ?_|refine jP (by assumption) rfl ?_|refine jQ ?_|refine jR ?_|refine jS ?_|refine jT ?_|refine jU (by assumption) rfl ?_))
      exact hK _ _ ⟨_, n + 16, rfl, .inr (by
        rcases hy with ⟨rfl, rfl, _⟩ | ⟨rfl, _⟩ <;> omega), rfl⟩
    · (repeat (first|refine ja ?_|refine jb ?_|refine jc ?_|refine jd ?_|refine je ?_|refine jf ?_|refine jg ?_|refine jh ?_|refine ji ?_|refine jj ?_|refine jk ?_|refine jl ?_|refine jm ?_|refine jn ?_|refine jo ?_|refine jp ?_|refine jq ?_|refine jr ?_|refine js ?_|refine jt ?_|refine ju ?_|refine jv ?_|refine jw ?_|refine jx ?_|refine jy ?_|refine jz ?_|refine jA ?_|refine jB ?_|refine jC ?_|refine jD ?_|refine jE ?_|refine jF ?_|refine jG ?_|refine jH ?_|refine jI ?_|refine jJ ?_|refine jK ?_|refine jL ?_|refine jM (by assumption) ?_|refine jN (by assumption) rfl ?_|refine jO (by assumption) ?_|refine jP (by assumption) rfl ?_|refine jQ ?_|refine jR ?_|refine jS ?_|refine jT ?_|refine jU (by assumption) rfl ?_))
      exact hK _ _ ⟨y, n, rfl, by
        rcases hy with ⟨rfl, rfl, _⟩ | ⟨rfl, _⟩
        · exact .inl ⟨rfl, rfl, by omega⟩
        · exact .inr (by omega), rfl⟩
  rintro vals w2 ⟨y2, n2, rfl, hy2, rfl⟩ _
  simp only [List.getD_cons_zero, List.getD_cons_succ]
  refine M.share_j (fun vals w' => ∃ (y : W64) (n : Int), vals = [vw y, vi n] ∧ ((n = 0 ∧ y = x ∧ x.toNat < 256) ∨ (8 ≤ n ∧ n ≤ 56 ∧ 256 ≤ x.toNat)) ∧ w' = w2) ?_ ?_
  rotate_left
  · intro K hK
    by_cases h : 256 ≤ y2.toNat
    · (repeat (first|refine ja ?_|refine jb ?_|refine jc ?_|refine jd ?_|refine je ?_|refine jf ?_|refine jg ?_|refine jh ?_|refine ji ?_|refine jj ?_|refine jk ?_|refine jl ?_|refine jm ?_|refine jn ?_|refine jo ?_|refine jp ?_|refine jq ?_|refine jr ?_|refine js ?_|refine jt ?_|refine ju ?_|refine jv ?_|refine jw ?_|refine jx ?_|refine jy ?_|refine jz ?_|refine jA ?_|refine jB ?_|refine jC ?_|refine jD ?_|refine jE ?_|refine jF ?_|refine jG ?_|refine jH ?_|refine jI ?_|refine jJ ?_|refine jK ?_|refine jL ?_|refine jM (by assumption) ?_|refine jN (by assumption) rfl ?_|refine jO (by assumption) ?_|refine jP (by assumption) rfl ?_|refine jQ ?_|refine jR ?_|refine jS ?_|refine jT ?_|refine jU (by assumption) rfl ?_))
      refine M.shrW_i (b := 8) ?_
      (repeat (first|refine ja ?_|refine jb ?_|refine jc ?_|refine jd ?_|refine je ?_|refine jf ?_|refine jg ?_|refine jh ?_|refine ji ?_|refine jj ?_|refine jk ?_|refine jl ?_|refine jm ?_|refine jn ?_|refine jo ?_|refine jp ?_|refine jq ?_|refine jr ?_|refine js ?_|refine jt ?_|refine ju ?_|refine jv ?_|refine jw ?_|refine jx ?_|refine jy ?_|refine jz ?_|refine jA ?_|refine jB ?_|refine jC ?_|refine jD ?_|refine jE ?_|refine jF ?_|refine jG ?_|refine jH ?_|refine jI ?_|refine jJ ?_|refine jK ?_|refine jL ?_|refine jM (by assumption) ?_|refine jN (by assumption) rfl ?_|refine jO (by assumption) ?_|refine jP (by assumption) rfl ?_|refine jQ ?_|refine jR ?_|refine jS ?_|refine jT ?_|refine jU (by assumption) rfl ?_))
      exact hK _ _ ⟨_, n2 + 8, rfl, .inr (by
        rcases hy2 with ⟨rfl, rfl, _⟩ | ⟨_, _, _⟩ <;> omega), rfl⟩
    · (repeat (first|refine ja ?_|refine jb ?_|refine jc ?_|refine jd ?_|refine je ?_|refine jf ?_|refine jg ?_|refine jh ?_|refine ji ?_|refine jj ?_|refine jk ?_|refine jl ?_|refine jm ?_|refine jn ?_|refine jo ?_|refine jp ?_|refine jq ?_|refine jr ?_|refine js ?_|refine jt ?_|refine ju ?_|refine jv ?_|refine jw ?_|refine jx ?_|refine jy ?_|refine jz ?_|refine jA ?_|refine jB ?_|refine jC ?_|refine jD ?_|refine jE ?_|refine jF ?_|refine jG ?_|refine jH ?_|refine jI ?_|refine jJ ?_|refine jK ?_|refine jL ?_|refine jM (by assumption) ?_|refine jN (by assumption) rfl ?_|refine jO (by assumption) ?_|refine jP (by assumption) rfl ?_|refine jQ ?_|refine jR ?_|refine jS ?_|refine jT ?_|refine jU (by assumption) rfl ?_))
      exact hK _ _ ⟨y2, n2, rfl, by
        rcases hy2 with ⟨rfl, rfl, _⟩ | ⟨_, _, _⟩
        · exact .inl ⟨rfl, rfl, by omega⟩
        · exact .inr (by omega), rfl⟩
  rintro vals w3 ⟨y3, n3, rfl, hy3, rfl⟩ _
  simp only [List.getD_cons_zero, List.getD_cons_succ]
  refine M.byte_i ?_
  refine M.tab_i (by kernel_rfl) (by kernel_rfl) (by omega) (by omega) (fun z hz hz7 => ?_)
  refine M.int8_i (by omega) (by omega) ?_
  refine M.add_i (by omega) (by omega) ⟨_, rfl, ?_, rfl⟩
  rcases hy3 with ⟨rfl, rfl, _⟩ | ⟨_, _, _⟩
  · rw [Int.emod_eq_of_lt (by omega) (by omega)] at hz7
    omega
  · omega
theorem cut_lt {m : Nat} (h1 : 1 ≤ m) (h2 : m ≤ 64) (x : W64) : (cutW m x).toNat < 2 ^ m := by
  unfold cutW
  rw [BitVec.toNat_and, ← maskR_eq h1 h2, BitVec.toNat_ofNat]
  have h3 : 2 ^ m ≤ 2 ^ 64 := Nat.pow_le_pow_right (by omega) h2
  have h4 := Nat.one_le_two_pow (n := m)
  rw [Nat.mod_eq_of_lt (by omega)]
  have := Nat.and_le_right (n := x.toNat) (m := 2 ^ m - 1)
  omega
theorem xor_top {r j : Nat} (hr : r < 2 ^ j) : r ^^^ 2 ^ j = 2 ^ j + r := by
  apply Nat.eq_of_testBit_eq
  intro i
  rw [Nat.testBit_xor, Nat.testBit_two_pow]
  rcases Nat.lt_trichotomy i j with h | h | h
  · rw [Nat.testBit_two_pow_add_gt h, decide_eq_false (by omega)]; simp
  · subst h
    rw [Nat.testBit_two_pow_add_eq, Nat.testBit_lt_two_pow hr]; simp
  · have h3 : 2 ^ (j + 1) ≤ 2 ^ i := Nat.pow_le_pow_right (by omega) h
    have h4 : 2 ^ (j + 1) = 2 ^ j * 2 := Nat.pow_succ 2 j
    rw [Nat.testBit_lt_two_pow (x := r) (by omega), Nat.testBit_lt_two_pow (x := 2 ^ j + r) (by omega), decide_eq_false (by omega)]; rfl
theorem xor_top2 {x j : Nat} (h1 : 2 ^ j ≤ x) (h2 : x < 2 ^ (j + 1)) : x ^^^ 2 ^ j = x - 2 ^ j := by
  have h4 : 2 ^ (j + 1) = 2 ^ j * 2 := Nat.pow_succ 2 j
  have e := xor_top (r := x - 2 ^ j) (j := j) (by omega)
  have e2 : 2 ^ j + (x - 2 ^ j) = x := by omega
  rw [e2] at e
  have e3 : ((x - 2 ^ j) ^^^ 2 ^ j) ^^^ 2 ^ j = x - 2 ^ j := by rw [Nat.xor_assoc, Nat.xor_self, Nat.xor_zero]
  rw [e] at e3
  exact e3
theorem sgn_toInt {m : Nat} (h1 : 1 ≤ m) (h2 : m ≤ 64) (x : W64) (hx : x.toNat < 2 ^ m) : (sgnW m x).toInt = if x.toNat < 2 ^ (m - 1) then (x.toNat : Int) else (x.toNat : Int) - ((2 ^ m : Nat) : Int) := by
  rw [sgnW_nat h1 h2, BitVec.toInt_sshiftRight, Int.shiftRight_eq_div_pow]
  have hs : 2 ^ m * 2 ^ (64 - m) = 2 ^ 64 := by rw [← Nat.pow_add]; congr 1; omega
  have hm : 2 ^ m = 2 ^ (m - 1) * 2 := by
    have := Nat.pow_succ 2 (m - 1)
    rw [show (m - 1).succ = m by omega] at this
    exact this
  have hq : 0 < 2 ^ (64 - m) := Nat.two_pow_pos _
  have hlt : x.toNat * 2 ^ (64 - m) < 2 ^ 64 := by
    rw [← hs]
    exact Nat.mul_lt_mul_of_pos_right hx hq
  have e : (x <<< (64 - m)).toNat = x.toNat * 2 ^ (64 - m) := by
    rw [BitVec.toNat_shiftLeft, Nat.shiftLeft_eq, Nat.mod_eq_of_lt hlt]
  rw [BitVec.toInt_eq_toNat_cond, e]
  generalize 2 ^ (64 - m) = q at *
  generalize 2 ^ m = p2 at *
  generalize 2 ^ (m - 1) = p at *
  subst hm
  by_cases hxp : x.toNat < p
  · have : 2 * (x.toNat * q) < 2 ^ 64 := by
      rw [← hs]
      have : x.toNat * q < p * q := Nat.mul_lt_mul_of_pos_right hxp hq
      rw [Nat.mul_right_comm]; omega
    rw [if_pos this, if_pos hxp]
    have : ((x.toNat * q : Nat) : Int) = (x.toNat : Int) * (q : Int) := by push_cast; rfl
    rw [this]
    exact Int.mul_ediv_cancel _ (by omega)
  · have : ¬ 2 * (x.toNat * q) < 2 ^ 64 := by
      rw [← hs]
      have : p * q ≤ x.toNat * q := Nat.mul_le_mul_right _ (by omega)
      rw [Nat.mul_right_comm]; omega
    rw [if_neg this, if_neg hxp, ← hs]
    have : ((x.toNat * q : Nat) : Int) - ((p * 2 * q : Nat) : Int) = ((x.toNat : Int) - ((p * 2 : Nat) : Int)) * (q : Int) := by
      push_cast; rw [Int.sub_mul]
    rw [this]
    exact Int.mul_ediv_cancel _ (by omega)
/-- With the highest bits turned they stand in order. -/
theorem slt_eq {m : Nat} (h1 : 1 ≤ m) (h2 : m ≤ 64) (a b : W64) (ha : cutW m a = a) (hb : cutW m b = b) : decide (a ^^^ ((1 : W64) <<< (m - 1)) < b ^^^ ((1 : W64) <<< (m - 1))) = decide ((sgnW m a).toInt < (sgnW m b).toInt) := by
  have la := cut_lt h1 h2 a
  have lb := cut_lt h1 h2 b
  rw [ha] at la
  rw [hb] at lb
  rw [sgn_toInt h1 h2 a la, sgn_toInt h1 h2 b lb]
  have ht : ((1 : W64) <<< (m - 1)).toNat = 2 ^ (m - 1) := by
    rw [BitVec.toNat_shiftLeft, Nat.shiftLeft_eq]
    have : (1 : W64).toNat = 1 := rfl
    rw [this, Nat.one_mul, Nat.mod_eq_of_lt]
    exact Nat.pow_lt_pow_right (by omega) (by omega)
  have hm : 2 ^ m = 2 ^ (m - 1 + 1) := by congr 1; omega
  rw [hm] at la lb ⊢
  have hx : ∀ x : W64, x.toNat < 2 ^ (m - 1 + 1) → (x ^^^ ((1 : W64) <<< (m - 1))).toNat = if x.toNat < 2 ^ (m - 1) then 2 ^ (m - 1) + x.toNat else x.toNat - 2 ^ (m - 1) := fun x hx => by
    rw [BitVec.toNat_xor, ht]
    split
    · rename_i h; exact xor_top h
    · rename_i h; exact xor_top2 (by omega) hx
  rw [decide_eq_decide, BitVec.lt_def, hx a la, hx b lb]
  have h4 : 2 ^ (m - 1 + 1) = 2 ^ (m - 1) * 2 := Nat.pow_succ 2 (m - 1)
  rw [h4] at la lb ⊢
  generalize 2 ^ (m - 1) = p at *
  split <;> split <;> omega
theorem cut_cut {n : Int} (hf : fitsB n = true) (x : W64) : cutW n (cutW n x) = cutW n x := by
  obtain ⟨m, rfl, h1, h2⟩ := fits_nat hf
  unfold cutW
  rw [BitVec.and_assoc, BitVec.and_self]
end Go.Proofs.Ythkkjjbjpbgcpaa
