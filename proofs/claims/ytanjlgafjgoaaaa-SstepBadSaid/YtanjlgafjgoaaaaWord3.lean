import Derived.Test.YtanjlgafjgoaaaaWord2
namespace Go.Proofs.Ytanjlgafjgoaaaa
open Go.Mw
set_option linter.unusedVariables false
set_option linter.unusedSimpArgs false
set_option maxRecDepth 100000
attribute [local irreducible] M.val M.unit M.next M.pick M.new M.nilCheck M.load1 M.loadA M.store M.fieldAddr M.indexSl M.indexArr M.slice M.makeSlice M.buildSlice M.len M.lenS M.cap M.append M.extract M.conv M.not M.neg M.bin M.shift M.eqB M.eqNil M.scat M.call M.callv M.gd M.share M.cond M.loop M.draw pureW readW Ret
theorem one_bit (b : Bool) (k : Nat) : (if b then (1 : W64) else 0).getLsbD k = (b && decide (k = 0)) := by
  cases b with
  | false => simp
  | true =>
    simp only [if_true, Bool.true_and]
    show (1#64).getLsbD k = _
    rw [BitVec.getLsbD_one]
    by_cases h : k = 0
    · subst h; rfl
    · have : ¬ 0 = k := fun e => h e.symm
      simp [h, this]
def isB (m : Nat) (a : W64) (s : Int) (fill : Bool) (j : Nat) : Bool := if (m : Int) ≤ (j : Int) - s then fill else if 0 ≤ (j : Int) - s then a.getLsbD ((j : Int) - s).toNat else false
theorem word_nat (i : Nat) (h : i < 18446744073709551616) : vw (BitVec.ofInt 64 (i : Int)) = .int .u64 (i : Int) := by
  show Value.int .u64 _ = _
  congr 1
  rw [BitVec.toNat_ofInt]; omega
theorem cut_high {m : Nat} (h1 : 1 ≤ m) (h2 : m ≤ 64) {a : W64} (ca : cutW m a = a) {k : Nat} (hk : m ≤ k) : a.getLsbD k = false := by
  rw [← ca, cutW_bit h1 h2, decide_eq_false (by omega)]; simp
theorem sar_bit {m : Nat} (h1 : 1 ≤ m) (h2 : m ≤ 64) (a : W64) (n j : Nat) (hj : j < 64) : ((sgnW m a).sshiftRight n).getLsbD j = a.getLsbD (if n + j < m then n + j else m - 1) := by
  rw [BitVec.getLsbD_sshiftRight, decide_eq_false (by omega)]
  have hmsb : (sgnW m a).msb = a.getLsbD (m - 1) := by
    rw [BitVec.msb_eq_getLsbD_last, sgnW_bit h1 h2 _ _ (by omega)]
    congr 1
    split <;> omega
  by_cases h : n + j < 64
  · rw [if_pos h, sgnW_bit h1 h2 _ _ h]; rfl
  · rw [if_neg h, hmsb, if_neg (by omega)]; rfl
end Go.Proofs.Ytanjlgafjgoaaaa
