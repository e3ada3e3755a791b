import Derived.Test.YtanjlgafjgoaaaaSem16p
import Derived.Test.YtanjlgafjgoaaaaDagE
namespace Go.Proofs.Ytanjlgafjgoaaaa
open Go.Mw Go.Maps Go.MapKept
set_option linter.unusedVariables false
set_option linter.unusedSimpArgs false
set_option maxRecDepth 100000
attribute [local irreducible] M.val M.unit M.next M.pick M.new M.nilCheck M.load1 M.loadA M.store M.fieldAddr M.indexSl M.indexArr M.slice M.makeSlice M.buildSlice M.len M.lenS M.cap M.append M.extract M.conv M.not M.neg M.bin M.shift M.eqB M.eqNil M.scat M.call M.callv M.gd M.share M.cond M.loop M.draw pureW readW Ret

section
variable {N : List Nd} {n : Nd} {f : Int → W64} {env : List W64}
theorem oneV_const (h : n.op = 20) : oneV N n f env = n.val := by
  unfold oneV; rw [if_pos h]
theorem oneV_var (h : n.op = 21) : oneV N n f env = if n.a < (env.length : Int) then cutW n.wd (env.getD n.a.toNat 0) else 0 := by
  unfold oneV
  simp only [if_neg (show ¬ n.op = 20 by omega), if_pos h]
theorem oneV_ite (h : n.op = 22) : oneV N n f env = if f n.a = 1 then f n.b else f n.c := by
  unfold oneV
  simp only [if_neg (show ¬ n.op = 20 by omega), if_neg (show ¬ n.op = 21 by omega), if_pos h]
theorem oneV_ext (h : n.op = 23) : oneV N n f env = cutW n.wd (f n.a >>> n.b.toNat) := by
  unfold oneV
  simp only [if_neg (show ¬ n.op = 20 by omega), if_neg (show ¬ n.op = 21 by omega), if_neg (show ¬ n.op = 22 by omega), if_pos h]
theorem oneV_cat (h : n.op = 24) : oneV N n f env = (f n.a <<< (wdN N n.b).toNat) ||| f n.b := by
  unfold oneV
  simp only [if_neg (show ¬ n.op = 20 by omega), if_neg (show ¬ n.op = 21 by omega), if_neg (show ¬ n.op = 22 by omega), if_neg (show ¬ n.op = 23 by omega), if_pos h]
theorem oneV_zext (h : n.op = 25) : oneV N n f env = f n.a := by
  unfold oneV
  simp only [if_neg (show ¬ n.op = 20 by omega), if_neg (show ¬ n.op = 21 by omega), if_neg (show ¬ n.op = 22 by omega), if_neg (show ¬ n.op = 23 by omega), if_neg (show ¬ n.op = 24 by omega), if_pos h]
theorem oneV_sext (h : n.op = 26) : oneV N n f env = cutW n.wd (sgnW (wdN N n.a) (f n.a)) := by
  unfold oneV
  simp only [if_neg (show ¬ n.op = 20 by omega), if_neg (show ¬ n.op = 21 by omega), if_neg (show ¬ n.op = 22 by omega), if_neg (show ¬ n.op = 23 by omega), if_neg (show ¬ n.op = 24 by omega), if_neg (show ¬ n.op = 25 by omega), if_pos h]
theorem oneV_un (h : n.op = 15 ∨ n.op = 16) : oneV N n f env = unW n.op n.wd (f n.a) := by
  unfold oneV
  simp only [if_neg (show ¬ n.op = 20 by omega), if_neg (show ¬ n.op = 21 by omega), if_neg (show ¬ n.op = 22 by omega), if_neg (show ¬ n.op = 23 by omega), if_neg (show ¬ n.op = 24 by omega), if_neg (show ¬ n.op = 25 by omega), if_neg (show ¬ n.op = 26 by omega), if_pos h]
theorem oneV_bin (h : 1 ≤ n.op) (h2 : n.op ≤ 14) : oneV N n f env = binW n.op (wdN N n.a) (f n.a) (f n.b) := by
  unfold oneV
  simp only [if_neg (show ¬ n.op = 20 by omega), if_neg (show ¬ n.op = 21 by omega), if_neg (show ¬ n.op = 22 by omega), if_neg (show ¬ n.op = 23 by omega), if_neg (show ¬ n.op = 24 by omega), if_neg (show ¬ n.op = 25 by omega), if_neg (show ¬ n.op = 26 by omega), if_neg (show ¬ (n.op = 15 ∨ n.op = 16) by omega)]
end
theorem kids_one {n : Nd} (h : n.op ≠ 20 ∧ n.op ≠ 21 ∧ n.op ≠ 22 ∧ ¬ n.op ≤ 14 ∧ n.op ≠ 24) : kidsN n = [n.a] := by
  unfold kidsN
  rw [if_neg (by omega), if_neg (by omega), if_neg (by omega)]
theorem kids_two {n : Nd} (h : (1 ≤ n.op ∧ n.op ≤ 14) ∨ n.op = 24) : kidsN n = [n.a, n.b] := by
  unfold kidsN
  rw [if_neg (by omega), if_neg (by omega), if_pos (by omega)]
theorem kids_three {n : Nd} (h : n.op = 22) : kidsN n = [n.a, n.b, n.c] := by
  unfold kidsN
  rw [if_neg (by omega), if_pos h]
end Go.Proofs.Ytanjlgafjgoaaaa
