import Derived.Test.YtnmbgfonlpjicaaProg
import Derived.Test.YtnmbgfonlpjicaaLib2
namespace Go.Proofs.Ytnmbgfonlpjicaa
open Go.Mw
set_option linter.unusedVariables false
set_option linter.unusedSimpArgs false
set_option maxRecDepth 100000
attribute [local irreducible] M.val M.unit M.next M.pick M.new M.nilCheck M.load1 M.loadA M.store M.fieldAddr M.indexSl M.indexArr M.slice M.makeSlice M.buildSlice M.len M.lenS M.cap M.append M.extract M.conv M.not M.neg M.bin M.shift M.eqB M.eqNil M.call M.callv M.gd M.share M.cond M.loop M.draw pureW readW Ret
theorem mixed : Try.prog.follows .mixedOrders = true := by kernel_rfl
/-! breakwater/lit.of: function 45 -/
def sh45 (x0 : Value) (R : Kt) (w : World) : Prop :=
  M.new 80 #[.int .i64 0, .bool false] (fun t2 w =>
  M.bin .lss x0 (Value.int IntKind.i64 0) (fun t4 w =>
  M.cond t4
  (pureW Try.prog (Instr.build 80 #[(0, (Value.int IntKind.i64 (-1)))]) (fun t5 w =>
  M.store 2 t2 t5 (fun _ w =>
  M.loadA 2 t2 (fun r0 w => R r0 w) w) w) w)
  (M.shift .shr x0 (Value.int IntKind.u64 1) (fun t7 w =>
  M.bin .and x0 (Value.int IntKind.i64 1) (fun t9 w =>
  M.bin .eql t9 (Value.int IntKind.i64 1) (fun t10 w =>
  pureW Try.prog (Instr.build 80 #[(0, t7), (1, t10)]) (fun t11 w =>
  M.store 2 t2 t11 (fun _ w =>
  M.loadA 2 t2 (fun r0 w => R r0 w) w) w) w) w) w) w)) w) w
theorem ok45 (x0 : Value) (R : Kt) (w : World) (h : sh45 x0 R w) : Ret Try.prog 45 #[x0] w R :=
  ret_mk <| calls_of_comp mixed (c := Try.f45.body.getD .skip) (args := [x0]) (rs := [(ResultVar.cell 2 80)]) (Ann.seq Ann.text (Ann.seq (Ann.seq Ann.text (Ann.cond (Ann.seq Ann.text Ann.leaf) Ann.leaf)) (Ann.seq Ann.text Ann.leaf)))
    Try.func45 (by kernel_rfl) (by kernel_rfl)
    (Eq.mp (by kernel_rfl) h)
/-! breakwater/lit.Var: function 22 -/
def sh22 (x0 : Value) (R : Kt) (w : World) : Prop :=
  M.call Try.prog 45 #[x0] (fun t4 w =>
  pureW Try.prog (Instr.field 80 t4 0) (fun t5 w =>
  R t5 w) w) w
theorem ok22 (x0 : Value) (R : Kt) (w : World) (h : sh22 x0 R w) : Ret Try.prog 22 #[x0] w R :=
  ret_mk <| calls_of_comp mixed (c := Try.f22.body.getD .skip) (args := [x0]) (rs := [(ResultVar.tmp 2)]) (Ann.seq Ann.text (Ann.seq Ann.text Ann.leaf))
    Try.func22 (by kernel_rfl) (by kernel_rfl)
    (Eq.mp (by kernel_rfl) h)
/-! breakwater/lit.Not: function 28 -/
def sh28 (x0 : Value) (R : Kt) (w : World) : Prop :=
  M.bin .lss x0 (Value.int IntKind.i64 0) (fun t4 w =>
  M.cond t4
  (R x0 w)
  (M.bin .xor x0 (Value.int IntKind.i64 1) (fun t7 w =>
  R t7 w) w)) w
theorem ok28 (x0 : Value) (R : Kt) (w : World) (h : sh28 x0 R w) : Ret Try.prog 28 #[x0] w R :=
  ret_mk <| calls_of_comp mixed (c := Try.f28.body.getD .skip) (args := [x0]) (rs := [(ResultVar.tmp 2)]) (Ann.seq Ann.text (Ann.seq (Ann.seq Ann.text (Ann.cond (Ann.seq Ann.text Ann.leaf) Ann.leaf)) (Ann.seq Ann.text Ann.leaf)))
    Try.func28 (by kernel_rfl) (by kernel_rfl)
    (Eq.mp (by kernel_rfl) h)
/-! breakwater/breakwaterref02.Var: function 37 -/
def sh37 (x0 : Value) (R : Kt) (w : World) : Prop :=
  M.bin .lss x0 (Value.int IntKind.i64 0) (fun t4 w =>
  M.cond t4
  (R (Value.int IntKind.i64 (-1)) w)
  (M.bin .quo x0 (Value.int IntKind.i64 2) (fun t6 w =>
  R t6 w) w)) w
theorem ok37 (x0 : Value) (R : Kt) (w : World) (h : sh37 x0 R w) : Ret Try.prog 37 #[x0] w R :=
  ret_mk <| calls_of_comp mixed (c := Try.f37.body.getD .skip) (args := [x0]) (rs := [(ResultVar.tmp 2)]) (Ann.seq Ann.text (Ann.seq (Ann.seq Ann.text (Ann.cond (Ann.seq Ann.text Ann.leaf) Ann.leaf)) (Ann.seq Ann.text Ann.leaf)))
    Try.func37 (by kernel_rfl) (by kernel_rfl)
    (Eq.mp (by kernel_rfl) h)
/-! breakwater/breakwaterref02.Not: function 54 -/
def sh54 (x0 : Value) (R : Kt) (w : World) : Prop :=
  M.bin .lss x0 (Value.int IntKind.i64 0) (fun t4 w =>
  M.cond t4
  (R x0 w)
  (M.bin .rem x0 (Value.int IntKind.i64 2) (fun t7 w =>
  M.bin .eql t7 (Value.int IntKind.i64 1) (fun t8 w =>
  M.cond t8
  (M.bin .sub x0 (Value.int IntKind.i64 1) (fun t10 w =>
  R t10 w) w)
  (M.bin .add x0 (Value.int IntKind.i64 1) (fun t12 w =>
  R t12 w) w)) w) w)) w
theorem ok54 (x0 : Value) (R : Kt) (w : World) (h : sh54 x0 R w) : Ret Try.prog 54 #[x0] w R :=
  ret_mk <| calls_of_comp mixed (c := Try.f54.body.getD .skip) (args := [x0]) (rs := [(ResultVar.tmp 2)]) (Ann.seq Ann.text (Ann.seq (Ann.seq Ann.text (Ann.cond (Ann.seq Ann.text Ann.leaf) Ann.leaf)) (Ann.seq (Ann.seq Ann.text (Ann.cond (Ann.seq Ann.text Ann.leaf) Ann.leaf)) (Ann.seq Ann.text Ann.leaf))))
    Try.func54 (by kernel_rfl) (by kernel_rfl)
    (Eq.mp (by kernel_rfl) h)


abbrev I64 (l : Int) : Prop := -9223372036854775808 ≤ l ∧ l < 9223372036854775808
theorem and_one_nat (l : Int) : (BitVec.ofInt 64 l &&& BitVec.ofInt 64 1).toNat = (l % 2).toNat := by
  simp only [BitVec.toNat_and, BitVec.toNat_ofInt]
  have h1 : ((1 : Int) % ((2 ^ 64 : Nat) : Int)).toNat = 1 := by decide
  rw [h1, Nat.and_one_is_mod]
  omega
theorem and_one (l : Int) : ibin .and .i64 l 1 = some (vi (l % 2)) := by
  simp only [ibin]
  have e : (BitVec.ofInt IntKind.i64.bits l &&& BitVec.ofInt IntKind.i64.bits 1).toNat = (l % 2).toNat := and_one_nat l
  rw [e]
  have h2 : ((l % 2).toNat : Int) = l % 2 := by omega
  rw [h2, wrap_i64 (by omega) (by omega)]
theorem shr_one (l : Int) : ishift .shr .i64 l 1 = some (vi (l / 2)) := by
  simp only [ishift]
  rw [if_neg (by omega)]
  have : min (1 : Int).toNat IntKind.i64.bits = 1 := by decide
  rw [this]
  simp [Int.fdiv_eq_ediv]

def varOf (l : Int) : Int := if l < 0 then -1 else l / 2
theorem of_ret (l : Int) (w : World) : Ret Try.prog 45 #[vi l] w (fun v w' => v = .agg #[vi (varOf l), .bool (decide (0 ≤ l ∧ l % 2 = 1))] ∧ Keep w w' No) := by
  refine ok45 _ _ _ ?_
  unfold sh45
  refine M.new_i (fun w1 hb hk hs => ?_)
  by_cases h : l < 0
  · (repeat (first|refine ja ?_|refine jb ?_|refine jc ?_|refine jd ?_|refine je ?_|refine jf ?_|refine jg ?_|refine jh ?_|refine ji ?_|refine jj ?_|refine jk ?_|refine jl ?_|refine jm ?_|refine jn ?_|refine jo ?_|refine jp ?_|refine jq ?_|refine jr ?_|refine js ?_|refine jt ?_|refine ju ?_|refine jv ?_|refine jw ?_|refine jx ?_|refine jy ?_|refine jz ?_|refine jA ?_|refine jB ?_|refine jC ?_|refine jD ?_|refine jE ?_|refine jF ?_|refine jG ?_|refine jH ?_|refine jI ?_|refine jJ ?_|refine jK ?_|refine jL ?_|refine jM (by assumption) ?_|refine jN (by assumption) rfl ?_|refine jO (by assumption) ?_|refine jP (by assumption) rfl ?_|refine jQ ?_|refine jR ?_|refine jS ?_|refine jT ?_|refine jU (by assumption) rfl ?_))
    refine M.pure_i (.agg #[vi (-1), .bool false]) (fun _ => by kernel_rfl) ?_
    refine M.storeAll_i hb rfl rfl (by simp; exact ⟨rfl, rfl⟩) (fun w2 hb2 hk2 hs2 => ?_)
    refine M.loadAll_i hb2 rfl ⟨?_, hk.trans hk2 (by intro i hi e; omega)⟩
    have : ¬ (0 ≤ l ∧ l % 2 = 1) := by omega
    simp [varOf, h, this]
  · (repeat (first|refine ja ?_|refine jb ?_|refine jc ?_|refine jd ?_|refine je ?_|refine jf ?_|refine jg ?_|refine jh ?_|refine ji ?_|refine jj ?_|refine jk ?_|refine jl ?_|refine jm ?_|refine jn ?_|refine jo ?_|refine jp ?_|refine jq ?_|refine jr ?_|refine js ?_|refine jt ?_|refine ju ?_|refine jv ?_|refine jw ?_|refine jx ?_|refine jy ?_|refine jz ?_|refine jA ?_|refine jB ?_|refine jC ?_|refine jD ?_|refine jE ?_|refine jF ?_|refine jG ?_|refine jH ?_|refine jI ?_|refine jJ ?_|refine jK ?_|refine jL ?_|refine jM (by assumption) ?_|refine jN (by assumption) rfl ?_|refine jO (by assumption) ?_|refine jP (by assumption) rfl ?_|refine jQ ?_|refine jR ?_|refine jS ?_|refine jT ?_|refine jU (by assumption) rfl ?_))
    refine M.shift_i (shr_one l) ?_
    refine M.bin_i (and_one l) ?_
    refine M.eql_i ?_
    refine M.pure_i (.agg #[vi (l / 2), .bool (decide (l % 2 = 1))]) (fun _ => by kernel_rfl) ?_
    refine M.storeAll_i hb rfl rfl (by simp; exact ⟨rfl, rfl⟩) (fun w2 hb2 hk2 hs2 => ?_)
    refine M.loadAll_i hb2 rfl ⟨?_, hk.trans hk2 (by intro i hi e; omega)⟩
    have : 0 ≤ l := by omega
    simp [varOf, h, this]
theorem var_ret (l : Int) (w : World) : Ret Try.prog 22 #[vi l] w (fun v w' => v = vi (varOf l) ∧ Keep w w' No) := by
  refine ok22 _ _ _ ?_
  unfold sh22
  refine M.call_i (of_ret l w) ?_
  rintro v w1 ⟨rfl, hk⟩
  refine M.pure_i (vi (varOf l)) (fun _ => by kernel_rfl) ?_
  exact ⟨rfl, hk⟩

def flip1 (l : Int) : Int := if l % 2 = 0 then l + 1 else l - 1
theorem xor_one_nat (l : Int) (h0 : 0 ≤ l) (h1 : l < 9223372036854775808) : (BitVec.ofInt 64 l ^^^ BitVec.ofInt 64 1).toNat = (flip1 l).toNat := by
  obtain ⟨n, rfl⟩ : ∃ n : Nat, l = n := ⟨l.toNat, by omega⟩
  simp only [BitVec.toNat_xor, BitVec.toNat_ofInt]
  have h2 : ((1 : Int) % ((2 ^ 64 : Nat) : Int)).toNat = 1 := by decide
  have h3 : ((n : Int) % ((2 ^ 64 : Nat) : Int)).toNat = n := by omega
  rw [h2, h3]
  unfold flip1
  have e1 : (n ^^^ 1) / 2 = n / 2 := by rw [Nat.xor_div_two]; simp
  have e2 := Nat.xor_mod_two_eq_one (a := n) (b := 1)
  have e : n ^^^ 1 = if n % 2 = 0 then n + 1 else n - 1 := by
    split <;> omega
  rw [e]
  split <;> split <;> omega
theorem xor_one {l : Int} (h0 : 0 ≤ l) (h1 : l < 9223372036854775808) : ibin .xor .i64 l 1 = some (vi (flip1 l)) := by
  simp only [ibin]
  have e : (BitVec.ofInt IntKind.i64.bits l ^^^ BitVec.ofInt IntKind.i64.bits 1).toNat = (flip1 l).toNat := xor_one_nat l h0 h1
  rw [e]
  have h2 : ((flip1 l).toNat : Int) = flip1 l := by unfold flip1; split <;> omega
  rw [h2, wrap_i64 (by unfold flip1; split <;> omega) (by unfold flip1; split <;> omega)]

theorem xor_one' {l : Int} (hl : I64 l) (h0 : 0 ≤ l) : ibin .xor .i64 l 1 = some (vi (flip1 l)) := xor_one h0 hl.2
abbrev vb (b : Bool) : Value := .bool b
def negOf (l : Int) : Bool := decide (0 ≤ l ∧ l % 2 = 1)
def notOf (l : Int) : Int := if l < 0 then l else flip1 l
/-- What a list of truths tells of a variable. -/
def truth (m : List Bool) (v : Int) : Bool := if v < 0 then false else (m[v.toNat]?).getD false
def holdsL (m : List Bool) (l : Int) : Bool := if l < 0 then false else xor (truth m (l / 2)) (negOf l)
theorem not_ret {l : Int} (hl : I64 l) (w : World) : Ret Try.prog 28 #[vi l] w (fun v w' => v = vi (notOf l) ∧ Keep w w' No) := by
  refine ok28 _ _ _ ?_
  unfold sh28
  by_cases h : l < 0
  · (repeat (first|refine ja ?_|refine jb ?_|refine jc ?_|refine jd ?_|refine je ?_|refine jf ?_|refine jg ?_|refine jh ?_|refine ji ?_|refine jj ?_|refine jk ?_|refine jl ?_|refine jm ?_|refine jn ?_|refine jo ?_|refine jp ?_|refine jq ?_|refine jr ?_|refine js ?_|refine jt ?_|refine ju ?_|refine jv ?_|refine jw ?_|refine jx ?_|refine jy ?_|refine jz ?_|refine jA ?_|refine jB ?_|refine jC ?_|refine jD ?_|refine jE ?_|refine jF ?_|refine jG ?_|refine jH ?_|refine jI ?_|refine jJ ?_|refine jK ?_|refine jL ?_|refine jM (by assumption) ?_|refine jN (by assumption) rfl ?_|refine jO (by assumption) ?_|refine jP (by assumption) rfl ?_|refine jQ ?_|refine jR ?_|refine jS ?_|refine jT ?_|refine jU (by assumption) rfl ?_))
    exact ⟨by simp [notOf, h], Keep.refl _ _⟩
  · (repeat (first|refine ja ?_|refine jb ?_|refine jc ?_|refine jd ?_|refine je ?_|refine jf ?_|refine jg ?_|refine jh ?_|refine ji ?_|refine jj ?_|refine jk ?_|refine jl ?_|refine jm ?_|refine jn ?_|refine jo ?_|refine jp ?_|refine jq ?_|refine jr ?_|refine js ?_|refine jt ?_|refine ju ?_|refine jv ?_|refine jw ?_|refine jx ?_|refine jy ?_|refine jz ?_|refine jA ?_|refine jB ?_|refine jC ?_|refine jD ?_|refine jE ?_|refine jF ?_|refine jG ?_|refine jH ?_|refine jI ?_|refine jJ ?_|refine jK ?_|refine jL ?_|refine jM (by assumption) ?_|refine jN (by assumption) rfl ?_|refine jO (by assumption) ?_|refine jP (by assumption) rfl ?_|refine jQ ?_|refine jR ?_|refine jS ?_|refine jT ?_|refine jU (by assumption) rfl ?_))
    refine M.bin_i (xor_one' hl (by omega)) ?_
    exact ⟨by simp [notOf, h], Keep.refl _ _⟩
theorem rvar_ret {l : Int} (hl : I64 l) (w : World) : Ret Try.prog 37 #[vi l] w (fun v w' => v = vi (varOf l) ∧ Keep w w' No) := by
  refine ok37 _ _ _ ?_
  unfold sh37
  by_cases h : l < 0
  · (repeat (first|refine ja ?_|refine jb ?_|refine jc ?_|refine jd ?_|refine je ?_|refine jf ?_|refine jg ?_|refine jh ?_|refine ji ?_|refine jj ?_|refine jk ?_|refine jl ?_|refine jm ?_|refine jn ?_|refine jo ?_|refine jp ?_|refine jq ?_|refine jr ?_|refine js ?_|refine jt ?_|refine ju ?_|refine jv ?_|refine jw ?_|refine jx ?_|refine jy ?_|refine jz ?_|refine jA ?_|refine jB ?_|refine jC ?_|refine jD ?_|refine jE ?_|refine jF ?_|refine jG ?_|refine jH ?_|refine jI ?_|refine jJ ?_|refine jK ?_|refine jL ?_|refine jM (by assumption) ?_|refine jN (by assumption) rfl ?_|refine jO (by assumption) ?_|refine jP (by assumption) rfl ?_|refine jQ ?_|refine jR ?_|refine jS ?_|refine jT ?_|refine jU (by assumption) rfl ?_))
    exact ⟨by simp [varOf, h], Keep.refl _ _⟩
  · (repeat (first|refine ja ?_|refine jb ?_|refine jc ?_|refine jd ?_|refine je ?_|refine jf ?_|refine jg ?_|refine jh ?_|refine ji ?_|refine jj ?_|refine jk ?_|refine jl ?_|refine jm ?_|refine jn ?_|refine jo ?_|refine jp ?_|refine jq ?_|refine jr ?_|refine js ?_|refine jt ?_|refine ju ?_|refine jv ?_|refine jw ?_|refine jx ?_|refine jy ?_|refine jz ?_|refine jA ?_|refine jB ?_|refine jC ?_|refine jD ?_|refine jE ?_|refine jF ?_|refine jG ?_|refine jH ?_|refine jI ?_|refine jJ ?_|refine jK ?_|refine jL ?_|refine jM (by assumption) ?_|refine jN (by assumption) rfl ?_|refine jO (by assumption) ?_|refine jP (by assumption) rfl ?_|refine jQ ?_|refine jR ?_|refine jS ?_|refine jT ?_|refine jU (by assumption) rfl ?_))
    refine M.quo2_i (by omega) hl.2 ?_
    exact ⟨by simp [varOf, h], Keep.refl _ _⟩
theorem rem_two {l : Int} (h0 : 0 ≤ l) : ibin .rem .i64 l 2 = some (vi (l % 2)) := by
  simp only [ibin]
  rw [if_neg (by omega), Int.tmod_eq_emod_of_nonneg h0]
theorem rnot_ret {l : Int} (hl : I64 l) (w : World) : Ret Try.prog 54 #[vi l] w (fun v w' => v = vi (notOf l) ∧ Keep w w' No) := by
  refine ok54 _ _ _ ?_
  unfold sh54
  have hl1 := hl.1
  have hl2 := hl.2
  by_cases h : l < 0
  · (repeat (first|refine ja ?_|refine jb ?_|refine jc ?_|refine jd ?_|refine je ?_|refine jf ?_|refine jg ?_|refine jh ?_|refine ji ?_|refine jj ?_|refine jk ?_|refine jl ?_|refine jm ?_|refine jn ?_|refine jo ?_|refine jp ?_|refine jq ?_|refine jr ?_|refine js ?_|refine jt ?_|refine ju ?_|refine jv ?_|refine jw ?_|refine jx ?_|refine jy ?_|refine jz ?_|refine jA ?_|refine jB ?_|refine jC ?_|refine jD ?_|refine jE ?_|refine jF ?_|refine jG ?_|refine jH ?_|refine jI ?_|refine jJ ?_|refine jK ?_|refine jL ?_|refine jM (by assumption) ?_|refine jN (by assumption) rfl ?_|refine jO (by assumption) ?_|refine jP (by assumption) rfl ?_|refine jQ ?_|refine jR ?_|refine jS ?_|refine jT ?_|refine jU (by assumption) rfl ?_))
    exact ⟨by simp [notOf, h], Keep.refl _ _⟩
  · (repeat (first|refine ja ?_|refine jb ?_|refine jc ?_|refine jd ?_|refine je ?_|refine jf ?_|refine jg ?_|refine jh ?_|refine ji ?_|refine jj ?_|refine jk ?_|refine jl ?_|refine jm ?_|refine jn ?_|refine jo ?_|refine jp ?_|refine jq ?_|refine jr ?_|refine js ?_|refine jt ?_|refine ju ?_|refine jv ?_|refine jw ?_|refine jx ?_|refine jy ?_|refine jz ?_|refine jA ?_|refine jB ?_|refine jC ?_|refine jD ?_|refine jE ?_|refine jF ?_|refine jG ?_|refine jH ?_|refine jI ?_|refine jJ ?_|refine jK ?_|refine jL ?_|refine jM (by assumption) ?_|refine jN (by assumption) rfl ?_|refine jO (by assumption) ?_|refine jP (by assumption) rfl ?_|refine jQ ?_|refine jR ?_|refine jS ?_|refine jT ?_|refine jU (by assumption) rfl ?_))
    refine M.bin_i (rem_two (by omega)) ?_
    by_cases h1 : l % 2 = 1
    · (repeat (first|refine ja ?_|refine jb ?_|refine jc ?_|refine jd ?_|refine je ?_|refine jf ?_|refine jg ?_|refine jh ?_|refine ji ?_|refine jj ?_|refine jk ?_|refine jl ?_|refine jm ?_|refine jn ?_|refine jo ?_|refine jp ?_|refine jq ?_|refine jr ?_|refine js ?_|refine jt ?_|refine ju ?_|refine jv ?_|refine jw ?_|refine jx ?_|refine jy ?_|refine jz ?_|refine jA ?_|refine jB ?_|refine jC ?_|refine jD ?_|refine jE ?_|refine jF ?_|refine jG ?_|refine jH ?_|refine jI ?_|refine jJ ?_|refine jK ?_|refine jL ?_|refine jM (by assumption) ?_|refine jN (by assumption) rfl ?_|refine jO (by assumption) ?_|refine jP (by assumption) rfl ?_|refine jQ ?_|refine jR ?_|refine jS ?_|refine jT ?_|refine jU (by assumption) rfl ?_))
      refine ⟨?_, Keep.refl _ _⟩
      have : ¬ l % 2 = 0 := by omega
      simp [notOf, h, flip1, this]
    · (repeat (first|refine ja ?_|refine jb ?_|refine jc ?_|refine jd ?_|refine je ?_|refine jf ?_|refine jg ?_|refine jh ?_|refine ji ?_|refine jj ?_|refine jk ?_|refine jl ?_|refine jm ?_|refine jn ?_|refine jo ?_|refine jp ?_|refine jq ?_|refine jr ?_|refine js ?_|refine jt ?_|refine ju ?_|refine jv ?_|refine jw ?_|refine jx ?_|refine jy ?_|refine jz ?_|refine jA ?_|refine jB ?_|refine jC ?_|refine jD ?_|refine jE ?_|refine jF ?_|refine jG ?_|refine jH ?_|refine jI ?_|refine jJ ?_|refine jK ?_|refine jL ?_|refine jM (by assumption) ?_|refine jN (by assumption) rfl ?_|refine jO (by assumption) ?_|refine jP (by assumption) rfl ?_|refine jQ ?_|refine jR ?_|refine jS ?_|refine jT ?_|refine jU (by assumption) rfl ?_))
      refine ⟨?_, Keep.refl _ _⟩
      have : l % 2 = 0 := by omega
      simp [notOf, h, flip1, this]
end Go.Proofs.Ytnmbgfonlpjicaa
