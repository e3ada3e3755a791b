import Derived.Test.YtgbodhibflpgmaaProg
import Derived.Test.YtgbodhibflpgmaaLib2
namespace Go.Proofs.Ytgbodhibflpgmaa
open Go.Mw
set_option linter.unusedVariables false
set_option linter.unusedSimpArgs false
set_option maxRecDepth 100000
attribute [local irreducible] M.val M.unit M.next M.pick M.new M.nilCheck M.load1 M.loadA M.store M.fieldAddr M.indexSl M.indexArr M.slice M.makeSlice M.buildSlice M.len M.lenS M.cap M.append M.extract M.conv M.not M.neg M.bin M.shift M.eqB M.eqNil M.call M.callv M.gd M.share M.cond M.loop M.draw pureW readW Ret
theorem mixed : Try.prog.follows .mixedOrders = true := by kernel_rfl
/-! breakwater/lit.Not: function 104 -/
def sh104 (x0 : Value) (R : Kt) (w : World) : Prop :=
  M.bin .lss x0 (Value.int IntKind.i64 0) (fun t4 w =>
  M.cond t4
  (R x0 w)
  (M.bin .xor x0 (Value.int IntKind.i64 1) (fun t7 w =>
  R t7 w) w)) w
theorem ok104 (x0 : Value) (R : Kt) (w : World) (h : sh104 x0 R w) : Ret Try.prog 104 #[x0] w R :=
  ret_mk <| calls_of_comp mixed (c := Try.f104.body.getD .skip) (args := [x0]) (rs := [(ResultVar.tmp 2)]) (Ann.seq Ann.text (Ann.seq (Ann.seq Ann.text (Ann.cond (Ann.seq Ann.text Ann.leaf) Ann.leaf)) (Ann.seq Ann.text Ann.leaf)))
    Try.func104 (by kernel_rfl) (by kernel_rfl)
    (Eq.mp (by kernel_rfl) h)
/-! breakwater/breakwaterref02.Var: function 108 -/
def sh108 (x0 : Value) (R : Kt) (w : World) : Prop :=
  M.bin .lss x0 (Value.int IntKind.i64 0) (fun t4 w =>
  M.cond t4
  (R (Value.int IntKind.i64 (-1)) w)
  (M.bin .quo x0 (Value.int IntKind.i64 2) (fun t6 w =>
  R t6 w) w)) w
theorem ok108 (x0 : Value) (R : Kt) (w : World) (h : sh108 x0 R w) : Ret Try.prog 108 #[x0] w R :=
  ret_mk <| calls_of_comp mixed (c := Try.f108.body.getD .skip) (args := [x0]) (rs := [(ResultVar.tmp 2)]) (Ann.seq Ann.text (Ann.seq (Ann.seq Ann.text (Ann.cond (Ann.seq Ann.text Ann.leaf) Ann.leaf)) (Ann.seq Ann.text Ann.leaf)))
    Try.func108 (by kernel_rfl) (by kernel_rfl)
    (Eq.mp (by kernel_rfl) h)
/-! breakwater/breakwaterref02.Neg: function 109 -/
def sh109 (x0 : Value) (R : Kt) (w : World) : Prop :=
  M.bin .geq x0 (Value.int IntKind.i64 0) (fun t4 w =>
  M.gd t4 true (fun k w => k x0 w) (fun t6 w =>
  M.gd t4 true (fun k w => M.bin .rem t6 (Value.int IntKind.i64 2) k w) (fun t7 w =>
  M.gd t4 true (fun k w => M.bin .eql t7 (Value.int IntKind.i64 1) k w) (fun t8 w =>
  M.pick t4 t8 (Value.bool false) (fun t9 w =>
  R t9 w) w) w) w) w) w
theorem ok109 (x0 : Value) (R : Kt) (w : World) (h : sh109 x0 R w) : Ret Try.prog 109 #[x0] w R :=
  ret_mk <| calls_of_comp mixed (c := Try.f109.body.getD .skip) (args := [x0]) (rs := [(ResultVar.tmp 2)]) (Ann.seq Ann.text (Ann.seq Ann.text Ann.leaf))
    Try.func109 (by kernel_rfl) (by kernel_rfl)
    (Eq.mp (by kernel_rfl) h)
/-! breakwater/breakwaterref02.Not: function 74 -/
def sh74 (x0 : Value) (R : Kt) (w : World) : Prop :=
  M.bin .lss x0 (Value.int IntKind.i64 0) (fun t4 w =>
  M.cond t4
  (R x0 w)
  (M.bin .rem x0 (Value.int IntKind.i64 2) (fun t7 w =>
  M.bin .eql t7 (Value.int IntKind.i64 1) (fun t8 w =>
  M.cond t8
  (M.bin .sub x0 (Value.int IntKind.i64 1) (fun t10 w =>
  R t10 w) w)
  (M.bin .add x0 (Value.int IntKind.i64 1) (fun t12 w =>
  R t12 w) w)) w) w)) w
theorem ok74 (x0 : Value) (R : Kt) (w : World) (h : sh74 x0 R w) : Ret Try.prog 74 #[x0] w R :=
  ret_mk <| calls_of_comp mixed (c := Try.f74.body.getD .skip) (args := [x0]) (rs := [(ResultVar.tmp 2)]) (Ann.seq Ann.text (Ann.seq (Ann.seq Ann.text (Ann.cond (Ann.seq Ann.text Ann.leaf) Ann.leaf)) (Ann.seq (Ann.seq Ann.text (Ann.cond (Ann.seq Ann.text Ann.leaf) Ann.leaf)) (Ann.seq Ann.text Ann.leaf))))
    Try.func74 (by kernel_rfl) (by kernel_rfl)
    (Eq.mp (by kernel_rfl) h)
/-! breakwater/breakwaterref02.Holds: function 71 -/
def sh71 (x0 x1 : Value) (R : Kt) (w : World) : Prop :=
  M.bin .lss x0 (Value.int IntKind.i64 0) (fun t7 w =>
  M.cond t7
  (R (Value.bool false) w)
  (M.call Try.prog 108 #[x0] (fun t9 w =>
  M.len x1 (fun t11 w =>
  M.bin .lss t9 t11 (fun t12 w =>
  M.gd t12 true (fun k w => k x1 w) (fun t14 w =>
  M.gd t12 true (fun k w => k x0 w) (fun t15 w =>
  M.gd t12 true (fun k w => M.call Try.prog 108 #[t15] k w) (fun t16 w =>
  M.gd t12 true (fun k w => M.indexSl 1 t14 t16 k w) (fun t17 w =>
  M.gd t12 true (fun k w => M.load1 t17 k w) (fun t18 w =>
  M.pick t12 t18 (Value.bool false) (fun t19 w =>
  M.call Try.prog 109 #[x0] (fun t22 w =>
  M.eqB true t19 t22 (fun t23 w =>
  R t23 w) w) w) w) w) w) w) w) w) w) w) w)) w
theorem ok71 (x0 x1 : Value) (R : Kt) (w : World) (h : sh71 x0 x1 R w) : Ret Try.prog 71 #[x0, x1] w R :=
  ret_mk <| calls_of_comp mixed (c := Try.f71.body.getD .skip) (args := [x0, x1]) (rs := [(ResultVar.tmp 4)]) (Ann.seq Ann.text (Ann.seq (Ann.seq Ann.text (Ann.cond (Ann.seq Ann.text Ann.leaf) Ann.leaf)) (Ann.seq Ann.text (Ann.seq Ann.text Ann.leaf))))
    Try.func71 (by kernel_rfl) (by kernel_rfl)
    (Eq.mp (by kernel_rfl) h)


abbrev I64 (l : Int) : Prop := -9223372036854775808 ≤ l ∧ l < 9223372036854775808
theorem and_one_nat (l : Int) : (BitVec.ofInt 64 l &&& BitVec.ofInt 64 1).toNat = (l % 2).toNat := by
  simp only [BitVec.toNat_and, BitVec.toNat_ofInt]
  have h1 : ((1 : Int) % ((2 ^ 64 : Nat) : Int)).toNat = 1 := by decide
  rw [h1, Nat.and_one_is_mod]
  omega
theorem and_one (l : Int) : ibin .and .i64 l 1 = some (vi (l % 2)) := by
  simp only [ibin]
  have e : (BitVec.ofInt IntKind.i64.bits l &&& BitVec.ofInt IntKind.i64.bits 1).toNat = (l % 2).toNat := and_one_nat l
  rw [e]
  have h2 : ((l % 2).toNat : Int) = l % 2 := by omega
  rw [h2, wrap_i64 (by omega) (by omega)]
theorem shr_one (l : Int) : ishift .shr .i64 l 1 = some (vi (l / 2)) := by
  simp only [ishift]
  rw [if_neg (by omega)]
  have : min (1 : Int).toNat IntKind.i64.bits = 1 := by decide
  rw [this]
  simp [Int.fdiv_eq_ediv]

def varOf (l : Int) : Int := if l < 0 then -1 else l / 2
def flip1 (l : Int) : Int := if l % 2 = 0 then l + 1 else l - 1
theorem xor_one_nat (l : Int) (h0 : 0 ≤ l) (h1 : l < 9223372036854775808) : (BitVec.ofInt 64 l ^^^ BitVec.ofInt 64 1).toNat = (flip1 l).toNat := by
  obtain ⟨n, rfl⟩ : ∃ n : Nat, l = n := ⟨l.toNat, by omega⟩
  simp only [BitVec.toNat_xor, BitVec.toNat_ofInt]
  have h2 : ((1 : Int) % ((2 ^ 64 : Nat) : Int)).toNat = 1 := by decide
  have h3 : ((n : Int) % ((2 ^ 64 : Nat) : Int)).toNat = n := by omega
  rw [h2, h3]
  unfold flip1
  have e1 : (n ^^^ 1) / 2 = n / 2 := by rw [Nat.xor_div_two]; simp
  have e2 := Nat.xor_mod_two_eq_one (a := n) (b := 1)
  have e : n ^^^ 1 = if n % 2 = 0 then n + 1 else n - 1 := by
    split <;> omega
  rw [e]
  split <;> split <;> omega
theorem xor_one {l : Int} (h0 : 0 ≤ l) (h1 : l < 9223372036854775808) : ibin .xor .i64 l 1 = some (vi (flip1 l)) := by
  simp only [ibin]
  have e : (BitVec.ofInt IntKind.i64.bits l ^^^ BitVec.ofInt IntKind.i64.bits 1).toNat = (flip1 l).toNat := xor_one_nat l h0 h1
  rw [e]
  have h2 : ((flip1 l).toNat : Int) = flip1 l := by unfold flip1; split <;> omega
  rw [h2, wrap_i64 (by unfold flip1; split <;> omega) (by unfold flip1; split <;> omega)]

theorem xor_one' {l : Int} (hl : I64 l) (h0 : 0 ≤ l) : ibin .xor .i64 l 1 = some (vi (flip1 l)) := xor_one h0 hl.2
abbrev vb (b : Bool) : Value := .bool b
def negOf (l : Int) : Bool := decide (0 ≤ l ∧ l % 2 = 1)
def notOf (l : Int) : Int := if l < 0 then l else flip1 l
/-- What a list of truths tells of a variable. -/
def truth (m : List Bool) (v : Int) : Bool := if v < 0 then false else (m[v.toNat]?).getD false
def holdsL (m : List Bool) (l : Int) : Bool := if l < 0 then false else xor (truth m (l / 2)) (negOf l)
theorem not_ret {l : Int} (hl : I64 l) (w : World) : Ret Try.prog 104 #[vi l] w (fun v w' => v = vi (notOf l) ∧ Keep w w' No) := by
  refine ok104 _ _ _ ?_
  unfold sh104
  by_cases h : l < 0
  · (repeat (first|refine ja ?_|refine jb ?_|refine jc ?_|refine jd ?_|refine je ?_|refine jf ?_|refine jg ?_|refine jh ?_|refine ji ?_|refine jj ?_|refine jk ?_|refine jl ?_|refine jm ?_|refine jn ?_|refine jo ?_|refine jp ?_|refine jq ?_|refine jr ?_|refine js ?_|refine jt ?_|refine ju ?_|refine jv ?_|refine jw ?_|refine jx ?_|refine jy ?_|refine jz ?_|refine jA ?_|refine jB ?_|refine jC ?_|refine jD ?_|refine jE ?_|refine jF ?_|refine jG ?_|refine jH ?_|refine jI ?_|refine jJ ?_|refine jK ?_|refine jL ?_|refine jM (by assumption) ?_|refine jN (by assumption) rfl ?_|refine jO (by assumption) ?_|refine jP (by assumption) rfl ?_|refine jQ ?_|refine jR ?_|refine jS ?_|refine jT ?_|refine jU (by assumption) rfl ?_))
    exact ⟨by simp [notOf, h], Keep.refl _ _⟩
  · (repeat (first|refine ja ?_|refine jb ?_|refine jc ?_|refine jd ?_|refine je ?_|refine jf ?_|refine jg ?_|refine jh ?_|refine ji ?_|refine jj ?_|refine jk ?_|refine jl ?_|refine jm ?_|refine jn ?_|refine jo ?_|refine jp ?_|refine jq ?_|refine jr ?_|refine js ?_|refine jt ?_|refine ju ?_|refine jv ?_|refine jw ?_|refine jx ?_|refine jy ?_|refine jz ?_|refine jA ?_|refine jB ?_|refine jC ?_|refine jD ?_|refine jE ?_|refine jF ?_|refine jG ?_|refine jH ?_|refine jI ?_|refine jJ ?_|refine jK ?_|refine jL ?_|refine jM (by assumption) ?_|refine jN (by assumption) rfl ?_|refine jO (by assumption) ?_|refine jP (by assumption) rfl ?_|refine jQ ?_|refine jR ?_|refine jS ?_|refine jT ?_|refine jU (by assumption) rfl ?_))
    refine M.bin_i (xor_one' hl (by omega)) ?_
    exact ⟨by simp [notOf, h], Keep.refl _ _⟩
theorem rvar_ret {l : Int} (hl : I64 l) (w : World) : Ret Try.prog 108 #[vi l] w (fun v w' => v = vi (varOf l) ∧ Keep w w' No) := by
  refine ok108 _ _ _ ?_
  unfold sh108
  by_cases h : l < 0
  · (repeat (first|refine ja ?_|refine jb ?_|refine jc ?_|refine jd ?_|refine je ?_|refine jf ?_|refine jg ?_|refine jh ?_|refine ji ?_|refine jj ?_|refine jk ?_|refine jl ?_|refine jm ?_|refine jn ?_|refine jo ?_|refine jp ?_|refine jq ?_|refine jr ?_|refine js ?_|refine jt ?_|refine ju ?_|refine jv ?_|refine jw ?_|refine jx ?_|refine jy ?_|refine jz ?_|refine jA ?_|refine jB ?_|refine jC ?_|refine jD ?_|refine jE ?_|refine jF ?_|refine jG ?_|refine jH ?_|refine jI ?_|refine jJ ?_|refine jK ?_|refine jL ?_|refine jM (by assumption) ?_|refine jN (by assumption) rfl ?_|refine jO (by assumption) ?_|refine jP (by assumption) rfl ?_|refine jQ ?_|refine jR ?_|refine jS ?_|refine jT ?_|refine jU (by assumption) rfl ?_))
    exact ⟨by simp [varOf, h], Keep.refl _ _⟩
  · (repeat (first|refine ja ?_|refine jb ?_|refine jc ?_|refine jd ?_|refine je ?_|refine jf ?_|refine jg ?_|refine jh ?_|refine ji ?_|refine jj ?_|refine jk ?_|refine jl ?_|refine jm ?_|refine jn ?_|refine jo ?_|refine jp ?_|refine jq ?_|refine jr ?_|refine js ?_|refine jt ?_|refine ju ?_|refine jv ?_|refine jw ?_|refine jx ?_|refine jy ?_|refine jz ?_|refine jA ?_|refine jB ?_|refine jC ?_|refine jD ?_|refine jE ?_|refine jF ?_|refine jG ?_|refine jH ?_|refine jI ?_|refine jJ ?_|refine jK ?_|refine jL ?_|refine jM (by assumption) ?_|refine jN (by assumption) rfl ?_|refine jO (by assumption) ?_|refine jP (by assumption) rfl ?_|refine jQ ?_|refine jR ?_|refine jS ?_|refine jT ?_|refine jU (by assumption) rfl ?_))
    refine M.quo2_i (by omega) hl.2 ?_
    exact ⟨by simp [varOf, h], Keep.refl _ _⟩
theorem rem_two {l : Int} (h0 : 0 ≤ l) : ibin .rem .i64 l 2 = some (vi (l % 2)) := by
  simp only [ibin]
  rw [if_neg (by omega), Int.tmod_eq_emod_of_nonneg h0]
theorem rneg_ret (l : Int) (w : World) : Ret Try.prog 109 #[vi l] w (fun v w' => v = .bool (negOf l) ∧ Keep w w' No) := by
  refine ok109 _ _ _ ?_
  unfold sh109
  by_cases h : 0 ≤ l
  · (repeat (first|refine ja ?_|refine jb ?_|refine jc ?_|refine jd ?_|refine je ?_|refine jf ?_|refine jg ?_|refine jh ?_|refine ji ?_|refine jj ?_|refine jk ?_|refine jl ?_|refine jm ?_|refine jn ?_|refine jo ?_|refine jp ?_|refine jq ?_|refine jr ?_|refine js ?_|refine jt ?_|refine ju ?_|refine jv ?_|refine jw ?_|refine jx ?_|refine jy ?_|refine jz ?_|refine jA ?_|refine jB ?_|refine jC ?_|refine jD ?_|refine jE ?_|refine jF ?_|refine jG ?_|refine jH ?_|refine jI ?_|refine jJ ?_|refine jK ?_|refine jL ?_|refine jM (by assumption) ?_|refine jN (by assumption) rfl ?_|refine jO (by assumption) ?_|refine jP (by assumption) rfl ?_|refine jQ ?_|refine jR ?_|refine jS ?_|refine jT ?_|refine jU (by assumption) rfl ?_))
    refine M.bin_i (rem_two h) ?_
    (repeat (first|refine ja ?_|refine jb ?_|refine jc ?_|refine jd ?_|refine je ?_|refine jf ?_|refine jg ?_|refine jh ?_|refine ji ?_|refine jj ?_|refine jk ?_|refine jl ?_|refine jm ?_|refine jn ?_|refine jo ?_|refine jp ?_|refine jq ?_|refine jr ?_|refine js ?_|refine jt ?_|refine ju ?_|refine jv ?_|refine jw ?_|refine jx ?_|refine jy ?_|refine jz ?_|refine jA ?_|refine jB ?_|refine jC ?_|refine jD ?_|refine jE ?_|refine jF ?_|refine jG ?_|refine jH ?_|refine jI ?_|refine jJ ?_|refine jK ?_|refine jL ?_|refine jM (by assumption) ?_|refine jN (by assumption) rfl ?_|refine jO (by assumption) ?_|refine jP (by assumption) rfl ?_|refine jQ ?_|refine jR ?_|refine jS ?_|refine jT ?_|refine jU (by assumption) rfl ?_))
    refine M.eql_i ?_
    (repeat (first|refine ja ?_|refine jb ?_|refine jc ?_|refine jd ?_|refine je ?_|refine jf ?_|refine jg ?_|refine jh ?_|refine ji ?_|refine jj ?_|refine jk ?_|refine jl ?_|refine jm ?_|refine jn ?_|refine jo ?_|refine jp ?_|refine jq ?_|refine jr ?_|refine js ?_|refine jt ?_|refine ju ?_|refine jv ?_|refine jw ?_|refine jx ?_|refine jy ?_|refine jz ?_|refine jA ?_|refine jB ?_|refine jC ?_|refine jD ?_|refine jE ?_|refine jF ?_|refine jG ?_|refine jH ?_|refine jI ?_|refine jJ ?_|refine jK ?_|refine jL ?_|refine jM (by assumption) ?_|refine jN (by assumption) rfl ?_|refine jO (by assumption) ?_|refine jP (by assumption) rfl ?_|refine jQ ?_|refine jR ?_|refine jS ?_|refine jT ?_|refine jU (by assumption) rfl ?_))
    exact ⟨by simp [negOf, h], Keep.refl _ _⟩
  · (repeat (first|refine ja ?_|refine jb ?_|refine jc ?_|refine jd ?_|refine je ?_|refine jf ?_|refine jg ?_|refine jh ?_|refine ji ?_|refine jj ?_|refine jk ?_|refine jl ?_|refine jm ?_|refine jn ?_|refine jo ?_|refine jp ?_|refine jq ?_|refine jr ?_|refine js ?_|refine jt ?_|refine ju ?_|refine jv ?_|refine jw ?_|refine jx ?_|refine jy ?_|refine jz ?_|refine jA ?_|refine jB ?_|refine jC ?_|refine jD ?_|refine jE ?_|refine jF ?_|refine jG ?_|refine jH ?_|refine jI ?_|refine jJ ?_|refine jK ?_|refine jL ?_|refine jM (by assumption) ?_|refine jN (by assumption) rfl ?_|refine jO (by assumption) ?_|refine jP (by assumption) rfl ?_|refine jQ ?_|refine jR ?_|refine jS ?_|refine jT ?_|refine jU (by assumption) rfl ?_))
    exact ⟨by simp [negOf, h], Keep.refl _ _⟩
theorem rnot_ret {l : Int} (hl : I64 l) (w : World) : Ret Try.prog 74 #[vi l] w (fun v w' => v = vi (notOf l) ∧ Keep w w' No) := by
  refine ok74 _ _ _ ?_
  unfold sh74
  have hl1 := hl.1
  have hl2 := hl.2
  by_cases h : l < 0
  · (repeat (first|refine ja ?_|refine jb ?_|refine jc ?_|refine jd ?_|refine je ?_|refine jf ?_|refine jg ?_|refine jh ?_|refine ji ?_|refine jj ?_|refine jk ?_|refine jl ?_|refine jm ?_|refine jn ?_|refine jo ?_|refine jp ?_|refine jq ?_|refine jr ?_|refine js ?_|refine jt ?_|refine ju ?_|refine jv ?_|refine jw ?_|refine jx ?_|refine jy ?_|refine jz ?_|refine jA ?_|refine jB ?_|refine jC ?_|refine jD ?_|refine jE ?_|refine jF ?_|refine jG ?_|refine jH ?_|refine jI ?_|refine jJ ?_|refine jK ?_|refine jL ?_|refine jM (by assumption) ?_|refine jN (by assumption) rfl ?_|refine jO (by assumption) ?_|refine jP (by assumption) rfl ?_|refine jQ ?_|refine jR ?_|refine jS ?_|refine jT ?_|refine jU (by assumption) rfl ?_))
    exact ⟨by simp [notOf, h], Keep.refl _ _⟩
  · (repeat (first|refine ja ?_|refine jb ?_|refine jc ?_|refine jd ?_|refine je ?_|refine jf ?_|refine jg ?_|refine jh ?_|refine ji ?_|refine jj ?_|refine jk ?_|refine jl ?_|refine jm ?_|refine jn ?_|refine jo ?_|refine jp ?_|refine jq ?_|refine jr ?_|refine js ?_|refine jt ?_|refine ju ?_|refine jv ?_|refine jw ?_|refine jx ?_|refine jy ?_|refine jz ?_|refine jA ?_|refine jB ?_|refine jC ?_|refine jD ?_|refine jE ?_|refine jF ?_|refine jG ?_|refine jH ?_|refine jI ?_|refine jJ ?_|refine jK ?_|refine jL ?_|refine jM (by assumption) ?_|refine jN (by assumption) rfl ?_|refine jO (by assumption) ?_|refine jP (by assumption) rfl ?_|refine jQ ?_|refine jR ?_|refine jS ?_|refine jT ?_|refine jU (by assumption) rfl ?_))
    refine M.bin_i (rem_two (by omega)) ?_
    by_cases h1 : l % 2 = 1
    · (repeat (first|refine ja ?_|refine jb ?_|refine jc ?_|refine jd ?_|refine je ?_|refine jf ?_|refine jg ?_|refine jh ?_|refine ji ?_|refine jj ?_|refine jk ?_|refine jl ?_|refine jm ?_|refine jn ?_|refine jo ?_|refine jp ?_|refine jq ?_|refine jr ?_|refine js ?_|refine jt ?_|refine ju ?_|refine jv ?_|refine jw ?_|refine jx ?_|refine jy ?_|refine jz ?_|refine jA ?_|refine jB ?_|refine jC ?_|refine jD ?_|refine jE ?_|refine jF ?_|refine jG ?_|refine jH ?_|refine jI ?_|refine jJ ?_|refine jK ?_|refine jL ?_|refine jM (by assumption) ?_|refine jN (by assumption) rfl ?_|refine jO (by assumption) ?_|refine jP (by assumption) rfl ?_|refine jQ ?_|refine jR ?_|refine jS ?_|refine jT ?_|refine jU (by assumption) rfl ?_))
      refine ⟨?_, Keep.refl _ _⟩
      have : ¬ l % 2 = 0 := by omega
      simp [notOf, h, flip1, this]
    · (repeat (first|refine ja ?_|refine jb ?_|refine jc ?_|refine jd ?_|refine je ?_|refine jf ?_|refine jg ?_|refine jh ?_|refine ji ?_|refine jj ?_|refine jk ?_|refine jl ?_|refine jm ?_|refine jn ?_|refine jo ?_|refine jp ?_|refine jq ?_|refine jr ?_|refine js ?_|refine jt ?_|refine ju ?_|refine jv ?_|refine jw ?_|refine jx ?_|refine jy ?_|refine jz ?_|refine jA ?_|refine jB ?_|refine jC ?_|refine jD ?_|refine jE ?_|refine jF ?_|refine jG ?_|refine jH ?_|refine jI ?_|refine jJ ?_|refine jK ?_|refine jL ?_|refine jM (by assumption) ?_|refine jN (by assumption) rfl ?_|refine jO (by assumption) ?_|refine jP (by assumption) rfl ?_|refine jQ ?_|refine jR ?_|refine jS ?_|refine jT ?_|refine jU (by assumption) rfl ?_))
      refine ⟨?_, Keep.refl _ _⟩
      have : l % 2 = 0 := by omega
      simp [notOf, h, flip1, this]
theorem rlholds_ret {l : Int} (hl : I64 l) {w : World} {D : Nat → Prop} {v : Value} {m : List Bool} (hm : LV vb w D v m) (hf : m.length < 9223372036854775808) :
    Ret Try.prog 71 #[vi l, v] w (fun r w' => r = .bool (holdsL m l) ∧ Keep w w' No) := by
  obtain ⟨A, c, rfl, hr, hc⟩ := hm
  refine ok71 _ _ _ _ ?_
  unfold sh71
  by_cases h : l < 0
  · (repeat (first|refine ja ?_|refine jb ?_|refine jc ?_|refine jd ?_|refine je ?_|refine jf ?_|refine jg ?_|refine jh ?_|refine ji ?_|refine jj ?_|refine jk ?_|refine jl ?_|refine jm ?_|refine jn ?_|refine jo ?_|refine jp ?_|refine jq ?_|refine jr ?_|refine js ?_|refine jt ?_|refine ju ?_|refine jv ?_|refine jw ?_|refine jx ?_|refine jy ?_|refine jz ?_|refine jA ?_|refine jB ?_|refine jC ?_|refine jD ?_|refine jE ?_|refine jF ?_|refine jG ?_|refine jH ?_|refine jI ?_|refine jJ ?_|refine jK ?_|refine jL ?_|refine jM (by assumption) ?_|refine jN (by assumption) rfl ?_|refine jO (by assumption) ?_|refine jP (by assumption) rfl ?_|refine jQ ?_|refine jR ?_|refine jS ?_|refine jT ?_|refine jU (by assumption) rfl ?_))
    exact ⟨by simp [holdsL, h], Keep.refl _ _⟩
  · have e : varOf l = l / 2 := by simp [varOf, h]
    (repeat (first|refine ja ?_|refine jb ?_|refine jc ?_|refine jd ?_|refine je ?_|refine jf ?_|refine jg ?_|refine jh ?_|refine ji ?_|refine jj ?_|refine jk ?_|refine jl ?_|refine jm ?_|refine jn ?_|refine jo ?_|refine jp ?_|refine jq ?_|refine jr ?_|refine js ?_|refine jt ?_|refine ju ?_|refine jv ?_|refine jw ?_|refine jx ?_|refine jy ?_|refine jz ?_|refine jA ?_|refine jB ?_|refine jC ?_|refine jD ?_|refine jE ?_|refine jF ?_|refine jG ?_|refine jH ?_|refine jI ?_|refine jJ ?_|refine jK ?_|refine jL ?_|refine jM (by assumption) ?_|refine jN (by assumption) rfl ?_|refine jO (by assumption) ?_|refine jP (by assumption) rfl ?_|refine jQ ?_|refine jR ?_|refine jS ?_|refine jT ?_|refine jU (by assumption) rfl ?_))
    refine M.call_i (rvar_ret hl w) ?_; rintro _ w1 ⟨rfl, k1⟩
    rw [e]
    have h2 : ¬ l / 2 < 0 := by omega
    by_cases h1 : l / 2 < m.length
    · (repeat (first|refine ja ?_|refine jb ?_|refine jc ?_|refine jd ?_|refine je ?_|refine jf ?_|refine jg ?_|refine jh ?_|refine ji ?_|refine jj ?_|refine jk ?_|refine jl ?_|refine jm ?_|refine jn ?_|refine jo ?_|refine jp ?_|refine jq ?_|refine jr ?_|refine js ?_|refine jt ?_|refine ju ?_|refine jv ?_|refine jw ?_|refine jx ?_|refine jy ?_|refine jz ?_|refine jA ?_|refine jB ?_|refine jC ?_|refine jD ?_|refine jE ?_|refine jF ?_|refine jG ?_|refine jH ?_|refine jI ?_|refine jJ ?_|refine jK ?_|refine jL ?_|refine jM (by assumption) ?_|refine jN (by assumption) rfl ?_|refine jO (by assumption) ?_|refine jP (by assumption) rfl ?_|refine jQ ?_|refine jR ?_|refine jS ?_|refine jT ?_|refine jU (by assumption) rfl ?_))
      refine M.call_i (rvar_ret hl w1) ?_; rintro _ w2 ⟨rfl, k2⟩
      rw [e]
      have k12 := k1.trans k2 (fun _ _ h => h)
      have hr := hr.keep k12 (fun _ _ _ h => h)
      obtain ⟨x, hx⟩ : ∃ x, m[(l / 2).toNat]? = some x := ⟨_, List.getElem?_eq_getElem (by omega)⟩
      (repeat (first|refine ja ?_|refine jb ?_|refine jc ?_|refine jd ?_|refine je ?_|refine jf ?_|refine jg ?_|refine jh ?_|refine ji ?_|refine jj ?_|refine jk ?_|refine jl ?_|refine jm ?_|refine jn ?_|refine jo ?_|refine jp ?_|refine jq ?_|refine jr ?_|refine js ?_|refine jt ?_|refine ju ?_|refine jv ?_|refine jw ?_|refine jx ?_|refine jy ?_|refine jz ?_|refine jA ?_|refine jB ?_|refine jC ?_|refine jD ?_|refine jE ?_|refine jF ?_|refine jG ?_|refine jH ?_|refine jI ?_|refine jJ ?_|refine jK ?_|refine jL ?_|refine jM (by assumption) ?_|refine jN (by assumption) rfl ?_|refine jO (by assumption) ?_|refine jP (by assumption) rfl ?_|refine jQ ?_|refine jR ?_|refine jS ?_|refine jT ?_|refine jU (by assumption) rfl ?_))
      refine M.idxLV_i hr rfl (by omega) (by omega) hx (fun b o hA hc => ?_)
      (repeat (first|refine ja ?_|refine jb ?_|refine jc ?_|refine jd ?_|refine je ?_|refine jf ?_|refine jg ?_|refine jh ?_|refine ji ?_|refine jj ?_|refine jk ?_|refine jl ?_|refine jm ?_|refine jn ?_|refine jo ?_|refine jp ?_|refine jq ?_|refine jr ?_|refine js ?_|refine jt ?_|refine ju ?_|refine jv ?_|refine jw ?_|refine jx ?_|refine jy ?_|refine jz ?_|refine jA ?_|refine jB ?_|refine jC ?_|refine jD ?_|refine jE ?_|refine jF ?_|refine jG ?_|refine jH ?_|refine jI ?_|refine jJ ?_|refine jK ?_|refine jL ?_|refine jM (by assumption) ?_|refine jN (by assumption) rfl ?_|refine jO (by assumption) ?_|refine jP (by assumption) rfl ?_|refine jQ ?_|refine jR ?_|refine jS ?_|refine jT ?_|refine jU (by assumption) rfl ?_))
      refine M.call_i (rneg_ret l w2) ?_; rintro _ w3 ⟨rfl, k3⟩
      refine M.eqB_i ⟨?_, k12.trans k3 (fun _ _ h => h)⟩
      simp only [holdsL, h, truth, h2, if_false, hx]
      cases x <;> cases negOf l <;> rfl
    · (repeat (first|refine ja ?_|refine jb ?_|refine jc ?_|refine jd ?_|refine je ?_|refine jf ?_|refine jg ?_|refine jh ?_|refine ji ?_|refine jj ?_|refine jk ?_|refine jl ?_|refine jm ?_|refine jn ?_|refine jo ?_|refine jp ?_|refine jq ?_|refine jr ?_|refine js ?_|refine jt ?_|refine ju ?_|refine jv ?_|refine jw ?_|refine jx ?_|refine jy ?_|refine jz ?_|refine jA ?_|refine jB ?_|refine jC ?_|refine jD ?_|refine jE ?_|refine jF ?_|refine jG ?_|refine jH ?_|refine jI ?_|refine jJ ?_|refine jK ?_|refine jL ?_|refine jM (by assumption) ?_|refine jN (by assumption) rfl ?_|refine jO (by assumption) ?_|refine jP (by assumption) rfl ?_|refine jQ ?_|refine jR ?_|refine jS ?_|refine jT ?_|refine jU (by assumption) rfl ?_))
      refine M.call_i (rneg_ret l w1) ?_; rintro _ w3 ⟨rfl, k3⟩
      refine M.eqB_i ⟨?_, k1.trans k3 (fun _ _ h => h)⟩
      have hx : m[(l / 2).toNat]? = none := List.getElem?_eq_none (by omega)
      simp only [holdsL, h, truth, h2, if_false, hx]
      cases negOf l <;> rfl
end Go.Proofs.Ytgbodhibflpgmaa
