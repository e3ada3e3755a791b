import Derived.Test.YtanjlgafjgoaaaaProg
import Derived.Test.YtanjlgafjgoaaaaLib2
namespace Go.Proofs.Ytanjlgafjgoaaaa
open Go.Mw
set_option linter.unusedVariables false
set_option linter.unusedSimpArgs false
set_option maxRecDepth 100000
attribute [local irreducible] M.val M.unit M.next M.pick M.new M.nilCheck M.load1 M.loadA M.store M.fieldAddr M.indexSl M.indexArr M.slice M.makeSlice M.buildSlice M.len M.lenS M.cap M.append M.extract M.conv M.not M.neg M.bin M.shift M.eqB M.eqNil M.scat M.call M.callv M.gd M.share M.cond M.loop M.draw pureW readW Ret
theorem mixed : Try.prog.follows .mixedOrders = true := by kernel_rfl


abbrev I64 (l : Int) : Prop := -9223372036854775808 ≤ l ∧ l < 9223372036854775808
theorem and_one_nat (l : Int) : (BitVec.ofInt 64 l &&& BitVec.ofInt 64 1).toNat = (l % 2).toNat := by
  simp only [BitVec.toNat_and, BitVec.toNat_ofInt]
  have h1 : ((1 : Int) % ((2 ^ 64 : Nat) : Int)).toNat = 1 := by decide
  rw [h1, Nat.and_one_is_mod]
  omega
theorem and_one (l : Int) : ibin .and .i64 l 1 = some (vi (l % 2)) := by
  simp only [ibin]
  have e : (BitVec.ofInt IntKind.i64.bits l &&& BitVec.ofInt IntKind.i64.bits 1).toNat = (l % 2).toNat := and_one_nat l
  rw [e]
  have h2 : ((l % 2).toNat : Int) = l % 2 := by omega
  rw [h2, wrap_i64 (by omega) (by omega)]
theorem shr_one (l : Int) : ishift .shr .i64 l 1 = some (vi (l / 2)) := by
  simp only [ishift]
  rw [if_neg (by omega)]
  have : min (1 : Int).toNat IntKind.i64.bits = 1 := by decide
  rw [this]
  simp [Int.fdiv_eq_ediv]

def varOf (l : Int) : Int := if l < 0 then -1 else l / 2
def flip1 (l : Int) : Int := if l % 2 = 0 then l + 1 else l - 1
theorem xor_one_nat (l : Int) (h0 : 0 ≤ l) (h1 : l < 9223372036854775808) : (BitVec.ofInt 64 l ^^^ BitVec.ofInt 64 1).toNat = (flip1 l).toNat := by
  obtain ⟨n, rfl⟩ : ∃ n : Nat, l = n := ⟨l.toNat, by omega⟩
  simp only [BitVec.toNat_xor, BitVec.toNat_ofInt]
  have h2 : ((1 : Int) % ((2 ^ 64 : Nat) : Int)).toNat = 1 := by decide
  have h3 : ((n : Int) % ((2 ^ 64 : Nat) : Int)).toNat = n := by omega
  rw [h2, h3]
  unfold flip1
  have e1 : (n ^^^ 1) / 2 = n / 2 := by rw [Nat.xor_div_two]; simp
  have e2 := Nat.xor_mod_two_eq_one (a := n) (b := 1)
  have e : n ^^^ 1 = if n % 2 = 0 then n + 1 else n - 1 := by
    split <;> omega
  rw [e]
  split <;> split <;> omega
theorem xor_one {l : Int} (h0 : 0 ≤ l) (h1 : l < 9223372036854775808) : ibin .xor .i64 l 1 = some (vi (flip1 l)) := by
  simp only [ibin]
  have e : (BitVec.ofInt IntKind.i64.bits l ^^^ BitVec.ofInt IntKind.i64.bits 1).toNat = (flip1 l).toNat := xor_one_nat l h0 h1
  rw [e]
  have h2 : ((flip1 l).toNat : Int) = flip1 l := by unfold flip1; split <;> omega
  rw [h2, wrap_i64 (by unfold flip1; split <;> omega) (by unfold flip1; split <;> omega)]

theorem xor_one' {l : Int} (hl : I64 l) (h0 : 0 ≤ l) : ibin .xor .i64 l 1 = some (vi (flip1 l)) := xor_one h0 hl.2
abbrev vb (b : Bool) : Value := .bool b
def negOf (l : Int) : Bool := decide (0 ≤ l ∧ l % 2 = 1)
def notOf (l : Int) : Int := if l < 0 then l else flip1 l
/-- What a list of truths tells of a variable. -/
def truth (m : List Bool) (v : Int) : Bool := if v < 0 then false else (m[v.toNat]?).getD false
def holdsL (m : List Bool) (l : Int) : Bool := if l < 0 then false else xor (truth m (l / 2)) (negOf l)
theorem rem_two {l : Int} (h0 : 0 ≤ l) : ibin .rem .i64 l 2 = some (vi (l % 2)) := by
  simp only [ibin]
  rw [if_neg (by omega), Int.tmod_eq_emod_of_nonneg h0]
end Go.Proofs.Ytanjlgafjgoaaaa
