import Derived.Test.YthkkjjbjpbgcpaaSem16p
import Derived.Test.YthkkjjbjpbgcpaaDagE
namespace Go.Proofs.Ythkkjjbjpbgcpaa
open Go.Mw Go.Maps Go.MapKept
set_option linter.unusedVariables false
set_option linter.unusedSimpArgs false
set_option maxRecDepth 100000
attribute [local irreducible] M.val M.unit M.next M.pick M.new M.nilCheck M.load1 M.loadA M.store M.fieldAddr M.indexSl M.indexArr M.slice M.makeSlice M.buildSlice M.len M.lenS M.cap M.append M.extract M.conv M.not M.neg M.bin M.shift M.eqB M.eqNil M.scat M.call M.callv M.gd M.share M.cond M.loop M.draw pureW readW Ret
/-! breakwater/sem.kids: function 74 -/
def sh74 (x0 : Value) (R : Kt) (w : World) : Prop :=
  M.new 55 (Value.cells x0) (fun t1 w =>
  M.share (fun K1 w =>
  M.fieldAddr 0 t1 (fun t4 w =>
  M.load1 t4 (fun t5 w =>
  M.bin .eql t5 (Value.int IntKind.i64 20) (fun t6 w =>
  M.cond t6
  (K1 [t6] w)
  (M.fieldAddr 0 t1 (fun t7 w =>
  M.load1 t7 (fun t8 w =>
  M.bin .eql t8 (Value.int IntKind.i64 21) (fun t9 w =>
  K1 [t9] w) w) w) w)) w) w) w) (fun s1 w => ∀ _ : List Value,
  M.cond (s1.getD 0 undef)
  (R (Value.slice none 0 0) w)
  (M.fieldAddr 0 t1 (fun t11 w =>
  M.load1 t11 (fun t12 w =>
  M.bin .eql t12 (Value.int IntKind.i64 22) (fun t13 w =>
  M.cond t13
  (M.fieldAddr 2 t1 (fun t14 w =>
  M.load1 t14 (fun t15 w =>
  M.fieldAddr 3 t1 (fun t16 w =>
  M.load1 t16 (fun t17 w =>
  M.fieldAddr 4 t1 (fun t18 w =>
  M.load1 t18 (fun t19 w =>
  M.buildSlice 3 1 #[.int .i64 0] 3 [(0, t15), (1, t17), (2, t19)] (fun t20 w =>
  R t20 w) w) w) w) w) w) w) w)
  (M.share (fun K2 w =>
  M.fieldAddr 0 t1 (fun t22 w =>
  M.load1 t22 (fun t23 w =>
  M.bin .leq t23 (Value.int IntKind.i64 14) (fun t24 w =>
  M.cond t24
  (K2 [t24] w)
  (M.fieldAddr 0 t1 (fun t25 w =>
  M.load1 t25 (fun t26 w =>
  M.bin .eql t26 (Value.int IntKind.i64 24) (fun t27 w =>
  K2 [t27] w) w) w) w)) w) w) w) (fun s2 w => ∀ _ : List Value,
  M.cond (s2.getD 0 undef)
  (M.fieldAddr 2 t1 (fun t28 w =>
  M.load1 t28 (fun t29 w =>
  M.fieldAddr 3 t1 (fun t30 w =>
  M.load1 t30 (fun t31 w =>
  M.buildSlice 3 1 #[.int .i64 0] 2 [(0, t29), (1, t31)] (fun t32 w =>
  R t32 w) w) w) w) w) w)
  (M.fieldAddr 2 t1 (fun t33 w =>
  M.load1 t33 (fun t34 w =>
  M.buildSlice 3 1 #[.int .i64 0] 1 [(0, t34)] (fun t35 w =>
  R t35 w) w) w) w)) w)) w) w) w)) w) w
theorem ok74 (x0 : Value) (R : Kt) (w : World) (h : sh74 x0 R w) : Ret Try.prog 74 #[x0] w R :=
  ret_mk <| calls_of_comp mixed (c := Try.f74.body.getD .skip) (args := [x0]) (rs := [(ResultVar.tmp 2)]) (Ann.seq Ann.text (Ann.seq (Ann.block (Ann.join [3] [4, 5, 6, 7, 8, 9] (Ann.seq Ann.text (Ann.cond Ann.leaf Ann.text)) (Ann.cond (Ann.seq Ann.text Ann.leaf) (Ann.seq Ann.text (Ann.cond (Ann.seq Ann.text Ann.leaf) (Ann.join [21] [22, 23, 24, 25, 26, 27] (Ann.seq Ann.text (Ann.cond Ann.leaf Ann.text)) (Ann.cond (Ann.seq Ann.text Ann.leaf) Ann.leaf))))))) (Ann.seq Ann.text Ann.leaf)))
    Try.func74 (by kernel_rfl) (by kernel_rfl)
    (Eq.mp (by kernel_rfl) h)

section
variable {N : List Nd} {n : Nd} {f : Int → W64} {env : List W64}
theorem oneV_const (h : n.op = 20) : oneV N n f env = n.val := by
  unfold oneV; rw [if_pos h]
theorem oneV_var (h : n.op = 21) : oneV N n f env = if n.a < (env.length : Int) then cutW n.wd (env.getD n.a.toNat 0) else 0 := by
  unfold oneV
  simp only [if_neg (show ¬ n.op = 20 by omega), if_pos h]
theorem oneV_ite (h : n.op = 22) : oneV N n f env = if f n.a = 1 then f n.b else f n.c := by
  unfold oneV
  simp only [if_neg (show ¬ n.op = 20 by omega), if_neg (show ¬ n.op = 21 by omega), if_pos h]
theorem oneV_ext (h : n.op = 23) : oneV N n f env = cutW n.wd (f n.a >>> n.b.toNat) := by
  unfold oneV
  simp only [if_neg (show ¬ n.op = 20 by omega), if_neg (show ¬ n.op = 21 by omega), if_neg (show ¬ n.op = 22 by omega), if_pos h]
theorem oneV_cat (h : n.op = 24) : oneV N n f env = (f n.a <<< (wdN N n.b).toNat) ||| f n.b := by
  unfold oneV
  simp only [if_neg (show ¬ n.op = 20 by omega), if_neg (show ¬ n.op = 21 by omega), if_neg (show ¬ n.op = 22 by omega), if_neg (show ¬ n.op = 23 by omega), if_pos h]
theorem oneV_zext (h : n.op = 25) : oneV N n f env = f n.a := by
  unfold oneV
  simp only [if_neg (show ¬ n.op = 20 by omega), if_neg (show ¬ n.op = 21 by omega), if_neg (show ¬ n.op = 22 by omega), if_neg (show ¬ n.op = 23 by omega), if_neg (show ¬ n.op = 24 by omega), if_pos h]
theorem oneV_sext (h : n.op = 26) : oneV N n f env = cutW n.wd (sgnW (wdN N n.a) (f n.a)) := by
  unfold oneV
  simp only [if_neg (show ¬ n.op = 20 by omega), if_neg (show ¬ n.op = 21 by omega), if_neg (show ¬ n.op = 22 by omega), if_neg (show ¬ n.op = 23 by omega), if_neg (show ¬ n.op = 24 by omega), if_neg (show ¬ n.op = 25 by omega), if_pos h]
theorem oneV_un (h : n.op = 15 ∨ n.op = 16) : oneV N n f env = unW n.op n.wd (f n.a) := by
  unfold oneV
  simp only [if_neg (show ¬ n.op = 20 by omega), if_neg (show ¬ n.op = 21 by omega), if_neg (show ¬ n.op = 22 by omega), if_neg (show ¬ n.op = 23 by omega), if_neg (show ¬ n.op = 24 by omega), if_neg (show ¬ n.op = 25 by omega), if_neg (show ¬ n.op = 26 by omega), if_pos h]
theorem oneV_bin (h : 1 ≤ n.op) (h2 : n.op ≤ 14) : oneV N n f env = binW n.op (wdN N n.a) (f n.a) (f n.b) := by
  unfold oneV
  simp only [if_neg (show ¬ n.op = 20 by omega), if_neg (show ¬ n.op = 21 by omega), if_neg (show ¬ n.op = 22 by omega), if_neg (show ¬ n.op = 23 by omega), if_neg (show ¬ n.op = 24 by omega), if_neg (show ¬ n.op = 25 by omega), if_neg (show ¬ n.op = 26 by omega), if_neg (show ¬ (n.op = 15 ∨ n.op = 16) by omega)]
end
theorem kids_one {n : Nd} (h : n.op ≠ 20 ∧ n.op ≠ 21 ∧ n.op ≠ 22 ∧ ¬ n.op ≤ 14 ∧ n.op ≠ 24) : kidsN n = [n.a] := by
  unfold kidsN
  rw [if_neg (by omega), if_neg (by omega), if_neg (by omega)]
theorem kids_two {n : Nd} (h : (1 ≤ n.op ∧ n.op ≤ 14) ∨ n.op = 24) : kidsN n = [n.a, n.b] := by
  unfold kidsN
  rw [if_neg (by omega), if_neg (by omega), if_pos (by omega)]
theorem kids_three {n : Nd} (h : n.op = 22) : kidsN n = [n.a, n.b, n.c] := by
  unfold kidsN
  rw [if_neg (by omega), if_pos h]
end Go.Proofs.Ythkkjjbjpbgcpaa
