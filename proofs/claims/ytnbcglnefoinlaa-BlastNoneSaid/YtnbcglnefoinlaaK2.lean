import Derived.Test.YtnbcglnefoinlaaK1
import Derived.Laws.StructEq
import Derived.Tactics
namespace Go.Proofs.Ytnbcglnefoinlaa
open Go.Mw
set_option linter.unusedVariables false
set_option linter.unusedSimpArgs false
set_option maxRecDepth 100000
attribute [local irreducible] M.val M.unit M.next M.pick M.new M.nilCheck M.load1 M.loadA M.store M.fieldAddr M.indexSl M.indexArr M.slice M.makeSlice M.buildSlice M.len M.lenS M.cap M.append M.extract M.conv M.not M.neg M.bin M.shift M.eqB M.eqNil M.scat M.call M.callv M.gd M.share M.cond M.loop M.draw pureW readW Ret
def byN (m : Nat) (b : W64) : Nat := if m < b.toNat then m else b.toNat
def binC (op : Int) (m : Nat) (a b : W64) : W64 :=
  if op = 1 then a + b else if op = 2 then a - b else if op = 3 then a * b
  else if op = 4 then (if b = 0 then maskW m else a / b) else if op = 5 then (if b = 0 then a else a % b)
  else if op = 6 then a &&& b else if op = 7 then a ||| b else if op = 8 then a ^^^ b
  else if op = 9 then a <<< byN m b else if op = 10 then a >>> byN m b else if op = 11 then (sgnW m a).sshiftRight (byN m b)
  else if op = 12 then (if decide (a = b) then 1 else 0) else if op = 13 then (if decide (a < b) then 1 else 0)
  else if decide ((sgnW m a).toInt < (sgnW m b).toInt) then 1 else 0
def binW (op : Int) (n : Int) (a b : W64) : W64 := if op < 1 ∨ 14 < op then 0 else if fitsB n then cutW n (binC op n.toNat (cutW n a) (cutW n b)) else 0
def unW (op : Int) (n : Int) (a : W64) : W64 := if op ≠ 15 ∧ op ≠ 16 then 0 else if fitsB n then cutW n (if op = 15 then ~~~a else -a) else 0
theorem cut_lt {m : Nat} (h1 : 1 ≤ m) (h2 : m ≤ 64) (x : W64) : (cutW m x).toNat < 2 ^ m := by
  unfold cutW
  rw [BitVec.toNat_and, ← maskR_eq h1 h2, BitVec.toNat_ofNat]
  have h3 : 2 ^ m ≤ 2 ^ 64 := Nat.pow_le_pow_right (by omega) h2
  have h4 := Nat.one_le_two_pow (n := m)
  rw [Nat.mod_eq_of_lt (by omega)]
  have := Nat.and_le_right (n := x.toNat) (m := 2 ^ m - 1)
  omega
theorem sgn_toInt {m : Nat} (h1 : 1 ≤ m) (h2 : m ≤ 64) (x : W64) (hx : x.toNat < 2 ^ m) : (sgnW m x).toInt = if x.toNat < 2 ^ (m - 1) then (x.toNat : Int) else (x.toNat : Int) - ((2 ^ m : Nat) : Int) := by
  rw [sgnW_nat h1 h2, BitVec.toInt_sshiftRight, Int.shiftRight_eq_div_pow]
  have hs : 2 ^ m * 2 ^ (64 - m) = 2 ^ 64 := by rw [← Nat.pow_add]; congr 1; omega
  have hm : 2 ^ m = 2 ^ (m - 1) * 2 := by
    have := Nat.pow_succ 2 (m - 1)
    rw [show (m - 1).succ = m by omega] at this
    exact this
  have hq : 0 < 2 ^ (64 - m) := Nat.two_pow_pos _
  have hlt : x.toNat * 2 ^ (64 - m) < 2 ^ 64 := by
    rw [← hs]
    exact Nat.mul_lt_mul_of_pos_right hx hq
  have e : (x <<< (64 - m)).toNat = x.toNat * 2 ^ (64 - m) := by
    rw [BitVec.toNat_shiftLeft, Nat.shiftLeft_eq, Nat.mod_eq_of_lt hlt]
  rw [BitVec.toInt_eq_toNat_cond, e]
  generalize 2 ^ (64 - m) = q at *
  generalize 2 ^ m = p2 at *
  generalize 2 ^ (m - 1) = p at *
  subst hm
  by_cases hxp : x.toNat < p
  · have : 2 * (x.toNat * q) < 2 ^ 64 := by
      rw [← hs]
      have : x.toNat * q < p * q := Nat.mul_lt_mul_of_pos_right hxp hq
      rw [Nat.mul_right_comm]; omega
    rw [if_pos this, if_pos hxp]
    have : ((x.toNat * q : Nat) : Int) = (x.toNat : Int) * (q : Int) := by push_cast; rfl
    rw [this]
    exact Int.mul_ediv_cancel _ (by omega)
  · have : ¬ 2 * (x.toNat * q) < 2 ^ 64 := by
      rw [← hs]
      have : p * q ≤ x.toNat * q := Nat.mul_le_mul_right _ (by omega)
      rw [Nat.mul_right_comm]; omega
    rw [if_neg this, if_neg hxp, ← hs]
    have : ((x.toNat * q : Nat) : Int) - ((p * 2 * q : Nat) : Int) = ((x.toNat : Int) - ((p * 2 : Nat) : Int)) * (q : Int) := by
      push_cast; rw [Int.sub_mul]
    rw [this]
    exact Int.mul_ediv_cancel _ (by omega)
end Go.Proofs.Ytnbcglnefoinlaa
namespace Go.Proofs.Ytnbcglnefoinlaa
open Go.Mw
set_option linter.unusedVariables false
set_option linter.unusedSimpArgs false
set_option maxRecDepth 100000
attribute [local irreducible] M.val M.unit M.next M.pick M.new M.nilCheck M.load1 M.loadA M.store M.fieldAddr M.indexSl M.indexArr M.slice M.makeSlice M.buildSlice M.len M.lenS M.cap M.append M.extract M.conv M.not M.neg M.bin M.shift M.eqB M.eqNil M.scat M.call M.callv M.gd M.share M.cond M.loop M.draw pureW readW Ret
end Go.Proofs.Ytnbcglnefoinlaa
namespace Go.Proofs.Ytnbcglnefoinlaa
open Go.Mw
set_option linter.unusedVariables false
set_option linter.unusedSimpArgs false
set_option maxRecDepth 100000
attribute [local irreducible] M.val M.unit M.next M.pick M.new M.nilCheck M.load1 M.loadA M.store M.fieldAddr M.indexSl M.indexArr M.slice M.makeSlice M.buildSlice M.len M.lenS M.cap M.append M.extract M.conv M.not M.neg M.bin M.shift M.eqB M.eqNil M.scat M.call M.callv M.gd M.share M.cond M.loop M.draw pureW readW Ret
structure Nd where
  op : Int
  wd : Int
  a : Int
  b : Int
  c : Int
  val : W64
deriving DecidableEq
def Nd.cells (n : Nd) : List Value := [vi n.op, vi n.wd, vi n.a, vi n.b, vi n.c, vw n.val]
abbrev encN (n : Nd) : Value := .agg ⟨n.cells⟩
abbrev NL (N : List Nd) : List Value := N.flatMap Nd.cells
def Nd.Ok (n : Nd) : Prop := I64 n.op ∧ I64 n.wd ∧ I64 n.a ∧ I64 n.b ∧ I64 n.c
def isN (N : List Nd) (i : Int) : Bool := decide (0 ≤ i ∧ i < N.length)
def wdN (N : List Nd) (i : Int) : Int := if isN N i then ((N[i.toNat]?).map Nd.wd).getD 0 else 0
def madeN (most : Int) (N : List Nd) (n : Nd) : List Nd × Int × Int :=
  if n ∈ N then (N, (N.idxOf n : Int), 0) else if most ≤ N.length then (N, 0, 8) else (N ++ [n], N.length, 0)
def constN (most : Int) (N : List Nd) (w : Int) (x : W64) : List Nd × Int × Int := if fitsB w then madeN most N ⟨20, w, 0, 0, 0, cutW w x⟩ else (N, 0, 2)
def otherW (N : List Nd) (w i : Int) : Bool := N.any (fun n => decide (n.op = 21) && decide (n.a = i) && decide (n.wd ≠ w))
def varN (most : Int) (N : List Nd) (w i : Int) : List Nd × Int × Int :=
  if fitsB w = false then (N, 0, 2) else if i < 0 ∨ 255 < i then (N, 0, 10) else if otherW N w i then (N, 0, 2) else madeN most N ⟨21, w, i, 0, 0, 0⟩
def binaryN (most : Int) (N : List Nd) (op a b : Int) : List Nd × Int × Int :=
  if op < 1 ∨ 14 < op then (N, 0, 3) else if isN N a = false ∨ isN N b = false then (N, 0, 11) else if wdN N a ≠ wdN N b then (N, 0, 2)
  else madeN most N ⟨op, if 12 ≤ op then 1 else wdN N a, a, b, 0, 0⟩
def kidsN (n : Nd) : List Int := if n.op = 20 ∨ n.op = 21 then [] else if n.op = 22 then [n.a, n.b, n.c] else if n.op ≤ 14 ∨ n.op = 24 then [n.a, n.b] else [n.a]
def goodN (N : List Nd) (n : Nd) : Prop := (1 ≤ n.wd ∧ n.wd ≤ 64) ∧ (∀ k ∈ kidsN n, isN N k = true) ∧
  ((n.op = 20 ∧ n.a = 0 ∧ n.b = 0 ∧ n.c = 0 ∧ cutW n.wd n.val = n.val) ∨ (n.op = 21 ∧ 0 ≤ n.a ∧ n.a ≤ 255 ∧ n.b = 0 ∧ n.c = 0 ∧ n.val = 0) ∨
   ((n.op = 15 ∨ n.op = 16) ∧ n.wd = wdN N n.a ∧ n.b = 0 ∧ n.c = 0 ∧ n.val = 0) ∨
   (1 ≤ n.op ∧ n.op ≤ 14 ∧ wdN N n.a = wdN N n.b ∧ n.wd = (if 12 ≤ n.op then 1 else wdN N n.a) ∧ n.c = 0 ∧ n.val = 0) ∨
   (n.op = 22 ∧ wdN N n.a = 1 ∧ wdN N n.b = wdN N n.c ∧ n.wd = wdN N n.b ∧ n.val = 0) ∨
   (n.op = 23 ∧ 0 ≤ n.b ∧ n.b ≤ 64 ∧ n.b + n.wd ≤ wdN N n.a ∧ n.c = 0 ∧ n.val = 0) ∨
   (n.op = 24 ∧ n.wd = wdN N n.a + wdN N n.b ∧ n.c = 0 ∧ n.val = 0) ∨
   ((n.op = 25 ∨ n.op = 26) ∧ wdN N n.a < n.wd ∧ n.b = 0 ∧ n.c = 0 ∧ n.val = 0))
def GoodN (N : List Nd) : Prop := ∀ (i : Nat) n, N[i]? = some n → goodN (N.take i) n
theorem isN_iff {N : List Nd} {i : Int} : isN N i = true ↔ 0 ≤ i ∧ i < N.length := by simp [isN]
theorem isN_no {N : List Nd} {i : Int} : isN N i = false ↔ ¬ (0 ≤ i ∧ i < N.length) := by simp [isN]
theorem wdN_at {N : List Nd} {i : Nat} {n : Nd} (h : N[i]? = some n) : wdN N i = n.wd := by
  have := (List.getElem?_eq_some_iff.1 h).1
  unfold wdN
  rw [if_pos (isN_iff.2 ⟨by omega, by omega⟩), Int.toNat_natCast, h]; rfl
theorem wdN_none {N : List Nd} {i : Int} (h : isN N i = false) : wdN N i = 0 := by
  unfold wdN
  rw [h]; rfl
theorem isN_get {N : List Nd} {i : Int} (h : isN N i = true) : ∃ (j : Nat) (n : Nd), i = j ∧ N[j]? = some n := by
  obtain ⟨h0, h1⟩ := isN_iff.1 h
  exact ⟨i.toNat, N[i.toNat]'(by omega), by omega, List.getElem?_eq_getElem (by omega)⟩
theorem GoodN.wd {N : List Nd} (h : GoodN N) {i : Int} (hi : isN N i = true) : 1 ≤ wdN N i ∧ wdN N i ≤ 64 := by
  obtain ⟨j, n, rfl, hj⟩ := isN_get hi
  rw [wdN_at hj]
  exact (h j n hj).1
theorem isN_take {N : List Nd} {i : Int} {j : Nat} (h : isN (N.take j) i = true) : isN N i = true := by
  rw [isN_iff] at h ⊢
  rw [List.length_take] at h; omega
theorem wdN_take {N : List Nd} {i : Int} {j : Nat} (h : isN (N.take j) i = true) : wdN (N.take j) i = wdN N i := by
  have h' := isN_take h
  rw [isN_iff, List.length_take] at h
  obtain ⟨k, n, rfl, hk⟩ := isN_get h'
  have : (N.take j)[k]? = some n := by rw [List.getElem?_take, if_pos (by omega)]; exact hk
  rw [wdN_at hk, wdN_at this]
theorem GoodN.snoc {N : List Nd} {n : Nd} (h : GoodN N) (hn : goodN N n) : GoodN (N ++ [n]) := fun i m hm => by
  by_cases hi : i < N.length
  · rw [List.getElem?_append_left hi] at hm
    rw [List.take_append_of_le_length (by omega)]
    exact h i m hm
  · rw [List.getElem?_append_right (by omega)] at hm
    have hl := (List.getElem?_eq_some_iff.1 hm).1
    simp only [List.length_singleton] at hl
    have e : i = N.length := by omega
    subst e
    simp at hm; subst hm
    simpa using hn
structure AskR (most : Int) (N : List Nd) (r : List Nd × Int × Int) : Prop where
  good : GoodN r.1
  len : (r.1.length : Int) ≤ most ∨ r.1 = N
  pre : ∃ l, r.1 = N ++ l
  id : 0 ≤ r.2.1 ∧ (r.2.2 = 0 → isN r.1 r.2.1 = true)
theorem ask_no {most : Int} {N : List Nd} {e : Int} (h : GoodN N) (he : e ≠ 0) : AskR most N (N, 0, e) := ⟨h, .inr rfl, ⟨[], by simp⟩, by show (0 : Int) ≤ 0; omega, fun h => absurd h he⟩
theorem ask_made {most : Int} {N : List Nd} {n : Nd} (h : GoodN N) (hn : goodN N n) : AskR most N (madeN most N n) := by
  unfold madeN
  split
  · rename_i hm
    refine ⟨h, .inr rfl, ⟨[], by simp⟩, Int.natCast_nonneg _, fun _ => ?_⟩
    rw [isN_iff]
    have := List.idxOf_lt_length_of_mem hm
    show (0 : Int) ≤ (N.idxOf n : Int) ∧ (N.idxOf n : Int) < (N.length : Int)
    omega
  · split
    · exact ask_no h (by decide)
    · refine ⟨h.snoc hn, .inl ?_, ⟨[n], rfl⟩, Int.natCast_nonneg _, fun _ => ?_⟩
      · show ((N ++ [n]).length : Int) ≤ most
        rw [List.length_append, List.length_singleton]; omega
      · rw [isN_iff]
        show (0 : Int) ≤ (N.length : Int) ∧ (N.length : Int) < ((N ++ [n]).length : Int)
        rw [List.length_append, List.length_singleton]; omega
theorem goodN.ok {N : List Nd} {n : Nd} (h : goodN N n) (hN : N.length ≤ 1000000) : n.Ok := by
  obtain ⟨h1, h2, h3⟩ := h
  have hk : ∀ k ∈ kidsN n, I64 k := fun k hk => by
    have := isN_iff.1 (h2 k hk)
    exact ⟨by omega, by omega⟩
  have small : ∀ x : Int, -1000 ≤ x → x ≤ 1000 → I64 x := fun x h1 h2 => ⟨by omega, by omega⟩
  have hw := small n.wd (by omega) (by omega)
  rcases h3 with ⟨ho, ha, hb, hc, _⟩ | ⟨ho, ha, ha2, hb, hc, _⟩ | ⟨ho, _, hb, hc, _⟩ | ⟨ho, ho2, _, _, hc, _⟩ | ⟨ho, _⟩ | ⟨ho, hb, hb2, _, hc, _⟩ | ⟨ho, _, hc, _⟩ | ⟨ho, _, hb, hc, _⟩
  · exact ⟨small _ (by omega) (by omega), hw, small _ (by omega) (by omega), small _ (by omega) (by omega), small _ (by omega) (by omega)⟩
  · exact ⟨small _ (by omega) (by omega), hw, small _ (by omega) (by omega), small _ (by omega) (by omega), small _ (by omega) (by omega)⟩
  · have ha : I64 n.a := hk _ (by
      unfold kidsN
      rw [if_neg (by omega), if_neg (by omega), if_neg (by omega)]; simp)
    exact ⟨small _ (by omega) (by omega), hw, ha, small _ (by omega) (by omega), small _ (by omega) (by omega)⟩
  · have hab : kidsN n = [n.a, n.b] := by
      unfold kidsN
      rw [if_neg (by omega), if_neg (by omega), if_pos (by omega)]
    rw [hab] at hk
    exact ⟨small _ (by omega) (by omega), hw, hk _ (by simp), hk _ (by simp), small _ (by omega) (by omega)⟩
  · have hab : kidsN n = [n.a, n.b, n.c] := by
      unfold kidsN
      rw [if_neg (by omega), if_pos ho]
    rw [hab] at hk
    exact ⟨small _ (by omega) (by omega), hw, hk _ (by simp), hk _ (by simp), hk _ (by simp)⟩
  · have hab : kidsN n = [n.a] := by
      unfold kidsN
      rw [if_neg (by omega), if_neg (by omega), if_neg (by omega)]
    rw [hab] at hk
    exact ⟨small _ (by omega) (by omega), hw, hk _ (by simp), small _ (by omega) (by omega), small _ (by omega) (by omega)⟩
  · have hab : kidsN n = [n.a, n.b] := by
      unfold kidsN
      rw [if_neg (by omega), if_neg (by omega), if_pos (by omega)]
    rw [hab] at hk
    exact ⟨small _ (by omega) (by omega), hw, hk _ (by simp), hk _ (by simp), small _ (by omega) (by omega)⟩
  · have hab : kidsN n = [n.a] := by
      unfold kidsN
      rw [if_neg (by omega), if_neg (by omega), if_neg (by omega)]
    rw [hab] at hk
    exact ⟨small _ (by omega) (by omega), hw, hk _ (by simp), small _ (by omega) (by omega), small _ (by omega) (by omega)⟩
end Go.Proofs.Ytnbcglnefoinlaa
namespace Go.Proofs.Ytnbcglnefoinlaa
open Go.Mw Go.Maps Go.MapKept
set_option linter.unusedVariables false
set_option linter.unusedSimpArgs false
set_option maxRecDepth 100000
attribute [local irreducible] M.val M.unit M.next M.pick M.new M.nilCheck M.load1 M.loadA M.store M.fieldAddr M.indexSl M.indexArr M.slice M.makeSlice M.buildSlice M.len M.lenS M.cap M.append M.extract M.conv M.not M.neg M.bin M.shift M.eqB M.eqNil M.scat M.call M.callv M.gd M.share M.cond M.loop M.draw pureW readW Ret
def sh9 (x0 : Value) (R : Kt) (w : World) : Prop :=
  M.share (fun K1 w =>
  M.bin .lss x0 (Value.int IntKind.i64 0) (fun t4 w =>
  M.gd t4 false (fun k w => k x0 w) (fun t6 w =>
  M.gd t4 false (fun k w => M.bin .gtr t6 (Value.int IntKind.i64 65536) k w) (fun t7 w =>
  M.pick t4 (Value.bool true) t7 (fun t8 w =>
  M.cond t8
  (K1 [(Value.int IntKind.i64 0)] w)
  (K1 [x0] w)) w) w) w) w) (fun s1 w => ∀ _ : List Value,
  M.val Try.prog (Instr.makeMap 52 none) (fun t9 w =>
  M.val Try.prog (Instr.makeMap 53 none) (fun t10 w =>
  pureW Try.prog (Instr.build 56 #[(1, t9), (2, t10), (3, (s1.getD 0 undef))]) (fun t12 w =>
  M.new 56 (Value.cells t12) (fun t13 w =>
  R t13 w) w) w) w) w) w
theorem ok9 (x0 : Value) (R : Kt) (w : World) (h : sh9 x0 R w) : Ret Try.prog 9 #[x0] w R :=
  ret_mk <| calls_of_comp mixed (c := Try.f9.body.getD .skip) (args := [x0]) (rs := [(ResultVar.tmp 2)]) (Ann.seq Ann.text (Ann.join [0] [3, 4, 5, 6, 7, 8] (Ann.seq Ann.text (Ann.cond Ann.text Ann.leaf)) (Ann.seq Ann.text Ann.leaf)))
    Try.func9 (by kernel_rfl) (by kernel_rfl)
    (Eq.mp (by kernel_rfl) h)
def sh37 (x0 x1 : Value) (R : Kt) (w : World) : Prop :=
  M.new 38 (Value.cells x1) (fun t3 w =>
  M.draw (fun w =>
  M.nilCheck x0 (fun t10 w =>
  M.fieldAddr 1 t10 (fun t11 w =>
  M.load1 t11 (fun t12 w =>
  M.loadA 6 t3 (fun t13 w =>
  readW Try.prog (Instr.lookup 52 t12 t13 true) (fun t14 w =>
  M.extract 0 t14 (fun t15 w =>
  M.extract 1 t14 (fun t16 w =>
  M.cond t16
  (R (.tuple #[t15, (Value.int IntKind.i64 0)]) w)
  (M.draw (fun w =>
  M.nilCheck x0 (fun t20 w =>
  M.fieldAddr 0 t20 (fun t21 w =>
  M.load1 t21 (fun t22 w =>
  M.len t22 (fun t23 w =>
  M.nilCheck x0 (fun t25 w =>
  M.fieldAddr 3 t25 (fun t26 w =>
  M.load1 t26 (fun t27 w =>
  M.bin .geq t23 t27 (fun t28 w =>
  M.cond t28
  (R (.tuple #[(Value.int IntKind.i64 0), (Value.int IntKind.i64 8)]) w)
  (M.draw (fun w =>
  M.nilCheck x0 (fun t30 w =>
  M.fieldAddr 1 t30 (fun t31 w =>
  M.load1 t31 (fun t32 w =>
  M.loadA 6 t3 (fun t33 w =>
  M.nilCheck x0 (fun t35 w =>
  M.fieldAddr 0 t35 (fun t36 w =>
  M.load1 t36 (fun t37 w =>
  M.len t37 (fun t38 w =>
  M.unit Try.prog (Instr.mapUpdate 52 t32 t33 t38) (fun _ w =>
  M.draw (fun w =>
  M.nilCheck x0 (fun t41 w =>
  M.fieldAddr 0 t41 (fun t42 w =>
  M.load1 t42 (fun t43 w =>
  M.loadA 6 t3 (fun t44 w =>
  M.buildSlice 38 6 #[.int .i64 0, .int .i64 0, .int .i64 0, .int .i64 0, .int .i64 0, .int .u64 0] 1 [(0, t44)] (fun t45 w =>
  ((M.load1 t42 (fun v' _ => v' = t43) w) ∧ M.append 38 6 48 #[.int .i64 0, .int .i64 0, .int .i64 0, .int .i64 0, .int .i64 0, .int .u64 0] t43 t45 (fun t46 w =>
  M.nilCheck x0 (fun t47 w =>
  M.fieldAddr 0 t47 (fun t48 w =>
  M.store 1 t48 t46 (fun _ w =>
  M.draw (fun w =>
  M.nilCheck x0 (fun t50 w =>
  M.fieldAddr 1 t50 (fun t51 w =>
  M.load1 t51 (fun t52 w =>
  M.loadA 6 t3 (fun t53 w =>
  readW Try.prog (Instr.lookup 52 t52 t53 false) (fun t54 w =>
  R (.tuple #[t54, (Value.int IntKind.i64 0)]) w) w) w) w) w) w) w) w) w) w) w)) w) w) w) w) w) w) w) w) w) w) w) w) w) w) w) w)) w) w) w) w) w) w) w) w) w)) w) w) w) w) w) w) w) w) w
theorem ok37 (x0 x1 : Value) (R : Kt) (w : World) (h : sh37 x0 x1 R w) : Ret Try.prog 37 #[x0, x1] w R :=
  ret_mk <| calls_of_comp mixed (c := Try.f37.body.getD .skip) (args := [x0, x1]) (rs := [(ResultVar.tmp 4), (ResultVar.tmp 5)]) (Ann.seq Ann.text (Ann.seq (Ann.seq (Ann.draw (Sch.take 0 (Sch.take 1 (Sch.take 2 (Sch.take 3 (Sch.take 4 (Sch.take 5 (Sch.take 6 (Sch.take 7 (Sch.take 8 (Sch.take 9 (Sch.take 10 Sch.done)))))))))))) (Ann.seq Ann.text (Ann.cond (Ann.seq Ann.text Ann.leaf) Ann.leaf))) (Ann.seq (Ann.seq (Ann.draw (Sch.take 0 (Sch.take 1 (Sch.take 2 (Sch.take 3 (Sch.take 4 (Sch.take 5 (Sch.take 6 (Sch.take 7 (Sch.take 8 (Sch.take 9 Sch.done))))))))))) (Ann.cond (Ann.seq Ann.text Ann.leaf) Ann.leaf)) (Ann.seq (Ann.draw (Sch.take 0 (Sch.take 1 (Sch.take 2 (Sch.take 3 (Sch.take 4 (Sch.take 5 (Sch.take 6 (Sch.take 7 (Sch.take 8 (Sch.take 9 (Sch.one 10 Sch.done)))))))))))) (Ann.seq (Ann.draw (Sch.take 0 (Sch.take 1 (Sch.take 2 (Sch.take 3 (Sch.take 4 (Sch.take 5 (Sch.one 6 (Sch.one 7 (Sch.take 8 (Sch.take 9 (Sch.one 10 Sch.done)))))))))))) (Ann.seq (Ann.draw (Sch.take 0 (Sch.take 1 (Sch.take 2 (Sch.take 3 (Sch.take 4 (Sch.take 5 (Sch.take 6 (Sch.take 7 Sch.done))))))))) Ann.leaf))))))
    Try.func37 (by kernel_rfl) (by kernel_rfl)
    (Eq.mp (by kernel_rfl) h)
def sh23 (x0 x1 : Value) (R : Kt) (w : World) : Prop :=
  M.len x1 (fun t8 w =>
  M.loop [(Value.int IntKind.i64 0)] (fun s1 K1 w => ∀ _ : List Value,
  M.bin .lss (s1.getD 0 undef) t8 (fun t10 w =>
  M.cond t10
  (M.indexSl 1 x1 (s1.getD 0 undef) (fun t11 w =>
  M.load1 t11 (fun t12 w =>
  M.bin .lss t12 (Value.int IntKind.i64 0) (fun t14 w =>
  M.gd t14 false (fun k w => k t12 w) (fun t16 w =>
  M.gd t14 false (fun k w => k x0 w) (fun t17 w =>
  M.gd t14 false (fun k w => M.nilCheck t17 k w) (fun t18 w =>
  M.gd t14 false (fun k w => M.fieldAddr 0 t18 k w) (fun t19 w =>
  M.gd t14 false (fun k w => M.load1 t19 k w) (fun t20 w =>
  M.gd t14 false (fun k w => M.len t20 k w) (fun t21 w =>
  M.gd t14 false (fun k w => M.bin .geq t16 t21 k w) (fun t22 w =>
  M.pick t14 (Value.bool true) t22 (fun t23 w =>
  M.cond t23
  (R (Value.bool true) w)
  (M.bin .add (s1.getD 0 undef) (Value.int IntKind.i64 1) (fun t24 w =>
  K1 [t24] w) w)) w) w) w) w) w) w) w) w) w) w) w)
  (R (Value.bool false) w)) w) w) w
theorem ok23 (x0 x1 : Value) (R : Kt) (w : World) (h : sh23 x0 x1 R w) : Ret Try.prog 23 #[x0, x1] w R :=
  ret_mk <| calls_of_comp mixed (c := Try.f23.body.getD .skip) (args := [x0, x1]) (rs := [(ResultVar.tmp 4)]) (Ann.seq Ann.text (Ann.seq (Ann.seq Ann.text (Ann.block (Ann.loop [9] [4, 6, 10, 11, 12, 13, 14, 15, 16, 17, 18, 19, 20, 21, 22, 23, 24] (Ann.seq Ann.text (Ann.seq (Ann.cond Ann.leaf Ann.leaf) (Ann.seq (Ann.block (Ann.seq Ann.text (Ann.seq Ann.text (Ann.cond (Ann.seq Ann.text Ann.leaf) Ann.leaf)))) Ann.text)))))) (Ann.seq Ann.text Ann.leaf)))
    Try.func23 (by kernel_rfl) (by kernel_rfl)
    (Eq.mp (by kernel_rfl) h)
def sh11 (x0 x1 : Value) (R : Kt) (w : World) : Prop :=
  M.new 38 #[.int .i64 0, .int .i64 0, .int .i64 0, .int .i64 0, .int .i64 0, .int .u64 0] (fun t4 w =>
  M.eqNil 0 false x0 (fun t7 w =>
  M.gd t7 false (fun k w => k x0 w) (fun t9 w =>
  M.gd t7 false (fun k w => k x1 w) (fun t10 w =>
  M.gd t7 false (fun k w => M.buildSlice 3 1 #[.int .i64 0] 1 [(0, t10)] k w) (fun t11 w =>
  M.gd t7 false (fun k w => M.call Try.prog 23 #[t9, t11] k w) (fun t12 w =>
  M.pick t7 (Value.bool true) t12 (fun t13 w =>
  M.cond t13
  (pureW Try.prog (Instr.build 38 #[]) (fun t14 w =>
  M.store 6 t4 t14 (fun _ w =>
  M.loadA 6 t4 (fun r0 w => R (.tuple #[r0, (Value.bool false)]) w) w) w) w)
  (M.nilCheck x0 (fun t16 w =>
  M.fieldAddr 0 t16 (fun t17 w =>
  M.load1 t17 (fun t18 w =>
  M.indexSl 6 t18 x1 (fun t20 w =>
  M.loadA 6 t20 (fun t21 w =>
  M.store 6 t4 t21 (fun _ w =>
  M.loadA 6 t4 (fun r0 w => R (.tuple #[r0, (Value.bool true)]) w) w) w) w) w) w) w) w)) w) w) w) w) w) w) w
theorem ok11 (x0 x1 : Value) (R : Kt) (w : World) (h : sh11 x0 x1 R w) : Ret Try.prog 11 #[x0, x1] w R :=
  ret_mk <| calls_of_comp mixed (c := Try.f11.body.getD .skip) (args := [x0, x1]) (rs := [(ResultVar.cell 4 38), (ResultVar.tmp 5)]) (Ann.seq Ann.text (Ann.seq (Ann.seq Ann.text (Ann.cond (Ann.seq Ann.text Ann.leaf) Ann.leaf)) (Ann.seq Ann.text Ann.leaf)))
    Try.func11 (by kernel_rfl) (by kernel_rfl)
    (Eq.mp (by kernel_rfl) h)
def sh38 (x0 x1 : Value) (R : Kt) (w : World) : Prop :=
  M.call Try.prog 11 #[x0, x1] (fun t10 w =>
  M.extract 0 t10 (fun t11 w =>
  M.extract 1 t10 (fun t12 w =>
  M.new 38 #[.int .i64 0, .int .i64 0, .int .i64 0, .int .i64 0, .int .i64 0, .int .u64 0] (fun t5 w =>
  M.store 6 t5 t11 (fun _ w =>
  M.fieldAddr 1 t5 (fun t13 w =>
  M.load1 t13 (fun t14 w =>
  R t14 w) w) w) w) w) w) w) w
theorem ok38 (x0 x1 : Value) (R : Kt) (w : World) (h : sh38 x0 x1 R w) : Ret Try.prog 38 #[x0, x1] w R :=
  ret_mk <| calls_of_comp mixed (c := Try.f38.body.getD .skip) (args := [x0, x1]) (rs := [(ResultVar.tmp 4)]) (Ann.seq Ann.text (Ann.seq Ann.text (Ann.seq Ann.text Ann.leaf)))
    Try.func38 (by kernel_rfl) (by kernel_rfl)
    (Eq.mp (by kernel_rfl) h)
abbrev ptr (p : Nat) : Value := .pointer (some ⟨p, 0, none⟩)
def blkOf (v : Value) (b : Nat) : Prop := ∃ n c, v = .slice (some ⟨b, 0, none⟩) n c
theorem GC.own {w : World} {L : Nat → Prop} {sz n : Nat} {v : Value} {l : List Value} (h : GC w L sz v n l) : GC w (blkOf v) sz v n l := by
  obtain ⟨h0, h | ⟨b, c, rest, h1, h2, h3, h4⟩⟩ := h
  · exact ⟨h0, .inl h⟩
  · exact ⟨h0, .inr ⟨b, c, rest, h1, ⟨n, c, h1⟩, h3, h4⟩⟩
theorem GC.blkOf {w : World} {L : Nat → Prop} {sz n : Nat} {v : Value} {l : List Value} (h : GC w L sz v n l) {b : Nat} (hb : blkOf v b) : L b ∧ ∃ l', Blk w b l' := by
  obtain ⟨n', c', rfl⟩ := hb
  obtain ⟨h0, ⟨h, _⟩ | ⟨b', c, rest, h1, h2, h3, h4⟩⟩ := h
  · simp at h
  · simp only [Value.slice.injEq, Option.some.injEq, Addr.mk.injEq] at h1
    obtain ⟨⟨rfl, _⟩, _⟩ := h1
    exact ⟨h2, _, h3⟩
theorem NL_len : ∀ N : List Nd, (NL N).length = N.length * 6
  | [] => rfl
  | n :: N => by
    have := NL_len N
    simp only [NL, List.flatMap_cons, List.length_append, List.length_cons] at this ⊢
    rw [this]; simp [Nd.cells]; omega
theorem NL_snoc (N : List Nd) (n : Nd) : NL (N ++ [n]) = NL N ++ n.cells := by simp [NL]
theorem NL_get : ∀ {N : List Nd} {i : Nat} {n : Nd} (j : Nat), N[i]? = some n → j < 6 → (NL N)[i * 6 + j]? = n.cells[j]?
  | [], i, n, j, h, _ => by simp at h
  | m :: N, 0, n, j, h, hj => by
    simp at h; subst h
    simp only [NL, List.flatMap_cons]
    rw [List.getElem?_append_left (by simp [Nd.cells]; omega)]
    congr 1; omega
  | m :: N, i + 1, n, j, h, hj => by
    simp only [List.getElem?_cons_succ] at h
    simp only [NL, List.flatMap_cons]
    rw [List.getElem?_append_right (by simp [Nd.cells]; omega), ← NL_get j h hj]
    congr 1
    simp [Nd.cells]; omega
theorem cells_one (n : Nd) : ∀ y ∈ n.cells, y.oneCell' = true := by
  intro y hy
  simp only [Nd.cells, List.mem_cons, List.not_mem_nil, or_false] at hy
  rcases hy with rfl | rfl | rfl | rfl | rfl | rfl <;> rfl
theorem M.idxN_i {k : Kt} {w : World} {D : Nat → Prop} {A : Option Addr} {N : List Nd} {m c : Nat} {d : IntKind} {i : Int} {n : Nd} (hr : Row w D A (NL N)) (hm : N.length = m) (h0 : 0 ≤ i) (hn : N[i.toNat]? = some n)
    (h : ∀ b o, (∀ (j : Nat) v, n.cells[j]? = some v → w.cell? ⟨b, o + j, none⟩ = some v) → k (.pointer (some ⟨b, o, none⟩)) w) : M.indexSl 6 (.slice A m c) (.int d i) k w := by
  have hlt := (List.getElem?_eq_some_iff.1 hn).1
  refine M.idxRowN_i hr (by rw [NL_len, hm]) (by omega) h0 (by omega) (fun b o _ hc => h b _ (fun j v hv => ?_))
  have hj : j < 6 := by
    have := (List.getElem?_eq_some_iff.1 hv).1
    simpa [Nd.cells] using this
  rw [hc j hj, NL_get j hn hj, hv]
theorem M.loadN_i {k : Kt} {w : World} {b o : Nat} {n : Nd} (hc : ∀ (j : Nat) v, n.cells[j]? = some v → w.cell? ⟨b, o + j, none⟩ = some v) (h : k (encN n) w) : M.loadA 6 (.pointer (some ⟨b, o, none⟩)) k w := by
  have := rdL_cells (w := w) (b := b) (o := o) (cs := n.cells) 6 0 (fun j hj => hc j _ (List.getElem?_eq_getElem hj)) rfl
  unfold M.loadA
  simp only [this]
  exact h
theorem find_map_upd {α : Type} [DecidableEq α] (kv : List (α × Value)) (x y : α) (v : Value) :
    (kv.map (fun p => if p.1 = x then (x, v) else p)).find? (fun p => decide (p.1 = y)) = (kv.find? (fun p => decide (p.1 = y))).map (fun p => if p.1 = x then (x, v) else p) := by
  induction kv with
  | nil => rfl
  | cons p kv ih =>
    simp only [List.map_cons, List.find?_cons]
    by_cases hpx : p.1 = x
    · rw [if_pos hpx]
      by_cases hxy : x = y
      · simp [hxy, hpx]
      · have : ¬ p.1 = y := fun e => hxy (hpx.symm.trans e)
        simp only [hxy, this, decide_false]
        exact ih
    · rw [if_neg hpx]
      by_cases hpy : p.1 = y
      · simp [hpy, hpx]
        intro h; exact absurd (hpy.trans h) (fun e => hpx e)
      · simp only [hpy, decide_false]
        exact ih
theorem lkpA_upd {α : Type} [DecidableEq α] (kv : List (α × Value)) (x y : α) (v : Value) : lkpA (updA kv x v) y = if y = x then some v else lkpA kv y := by
  unfold updA
  split
  · rename_i ha
    unfold lkpA
    rw [find_map_upd]
    by_cases hyx : y = x
    · subst hyx
      obtain ⟨p, hp, h1⟩ := List.any_eq_true.1 ha
      cases hf : kv.find? (fun p => decide (p.1 = y)) with
      | none =>
        rw [List.find?_eq_none] at hf
        exact absurd h1 (hf p hp)
      | some q =>
        have := List.find?_some hf
        simp at this
        simp [this]
    · rw [if_neg hyx]
      cases hf : kv.find? (fun p => decide (p.1 = y)) with
      | none => rfl
      | some q =>
        have := List.find?_some hf
        simp at this
        have : ¬ q.1 = x := fun e => hyx (this.symm.trans e)
        simp [this]
  · rename_i ha
    unfold lkpA
    rw [List.find?_append]
    by_cases hyx : y = x
    · subst hyx
      have : kv.find? (fun p => decide (p.1 = y)) = none := by
        rw [List.find?_eq_none]
        intro p hp h
        exact ha (List.any_eq_true.2 ⟨p, hp, h⟩)
      rw [this]
      simp
    · rw [if_neg hyx]
      cases hf : kv.find? (fun p => decide (p.1 = y)) with
      | none =>
        have : ¬ x = y := fun e => hyx e.symm
        simp [this]
      | some q => rfl
theorem lkp_upd (kv : List (Int × Value)) (x y : Int) (v : Value) : lkp (upd kv x v) y = if y = x then some v else lkp kv y := lkpA_upd kv x y v
theorem intLit {d : Nat} {x : Int} (h : I64 x) : Try.prog.keyLits (d + 1) 3 [vi x] = some [.int .i64 x] := by
  unfold Program.keyLits
  have hu : Try.prog.underlying 3 = some (.int .i64) := by kernel_rfl
  simp only [hu]
  have : (Lit.int .i64 x).wf = true := by
    obtain ⟨h1, h2⟩ := h
    simp [Lit.wf, IntKind.min, IntKind.max, IntKind.signed, IntKind.bits]
    omega
  simp [this]
theorem wordLit {d : Nat} {x : W64} : Try.prog.keyLits (d + 1) 36 [vw x] = some [.int .u64 (x.toNat : Int)] := by
  unfold Program.keyLits
  have hu : Try.prog.underlying 36 = some (.int .u64) := by kernel_rfl
  simp only [hu]
  have : (Lit.int .u64 (x.toNat : Int)).wf = true := by
    have := x.isLt
    simp [Lit.wf, IntKind.min, IntKind.max, IntKind.signed, IntKind.bits]
    omega
  simp [this]
theorem keyE : KeyE Try.prog 38 encN Nd.Ok where
  K := Keyed.of_law (deep_law_laid (by kernel_rfl) (m := 5) (by omega) (Nat.le_of_ble_eq_true (by kernel_rfl)) (by kernel_rfl) (by kernel_rfl))
  inj := fun a b h => by
    obtain ⟨a1, a2, a3, a4, a5, a6⟩ := a
    obtain ⟨b1, b2, b3, b4, b5, b6⟩ := b
    simp only [encN, Nd.cells, Value.agg.injEq, Array.mk.injEq, List.cons.injEq, Value.int.injEq, true_and, and_true] at h
    obtain ⟨rfl, rfl, rfl, rfl, rfl, h6⟩ := h
    have := vw_inj.1 h6
    subst this; rfl
  ok := fun a h => by
    unfold keyOf
    rw [Try.underlying38]
    simp only
    rw [if_pos (by kernel_rfl)]
    obtain ⟨d, hd⟩ : ∃ d, Try.prog.types.size = d + 1 := by
      have h1 : 1 ≤ Try.prog.types.size := Nat.le_of_ble_eq_true (by kernel_rfl)
      exact ⟨Try.prog.types.size - 1, by omega⟩
    have hc : Try.prog.cellsOf 3 = 1 := by kernel_rfl
    have hcu : Try.prog.cellsOf 36 = 1 := by kernel_rfl
    obtain ⟨h1, h2, h3, h4, h5⟩ := h
    have key : ∃ ls, Try.prog.keyLits (Try.prog.types.size + 1) 38 a.cells = some ls := by
      unfold Program.keyLits
      simp only [Try.underlying38]
      rw [if_pos ⟨by kernel_rfl, by kernel_rfl⟩]
      simp [hd, hc, hcu, Nd.cells, intLit h1, intLit h2, intLit h3, intLit h4, intLit h5, wordLit]
    obtain ⟨ls, hls⟩ := key
    show ∃ l, Option.map _ (Try.prog.keyLits (Try.prog.types.size + 1) 38 a.cells) = some l
    rw [hls]
    exact ⟨_, rfl⟩
end Go.Proofs.Ytnbcglnefoinlaa
namespace Go.Proofs.Ytnbcglnefoinlaa
open Go.Mw Go.Maps Go.MapKept
set_option linter.unusedVariables false
set_option linter.unusedSimpArgs false
set_option maxRecDepth 100000
attribute [local irreducible] M.val M.unit M.next M.pick M.new M.nilCheck M.load1 M.loadA M.store M.fieldAddr M.indexSl M.indexArr M.slice M.makeSlice M.buildSlice M.len M.lenS M.cap M.append M.extract M.conv M.not M.neg M.bin M.shift M.eqB M.eqNil M.scat M.call M.callv M.gd M.share M.cond M.loop M.draw pureW readW Ret
def AtR (N : List Nd) (kv : List (Nd × Value)) : Prop := ∀ n, lkpA kv n = if n ∈ N then some (vi (N.idxOf n)) else none
def DagC (w : World) (F : Nat → Prop) (p : Nat) (N : List Nd) (most : Int) (kw : List (Int × Value)) : Prop :=
  ∃ v r1 r2 kv, Blk w p [v, .map (some r1), .map (some r2), vi most] ∧ GC w F 6 v N.length (NL N) ∧ MapA encN Nd.Ok w r1 kv ∧ MapO w r2 kw ∧ AtR N kv ∧ (∀ b, F b ↔ b = p ∨ b = r1 ∨ b = r2 ∨ blkOf v b) ∧ r1 ≠ r2 ∧ p ≠ r1 ∧ p ≠ r2 ∧ (∀ b, blkOf v b → b ≠ p ∧ b ≠ r1 ∧ b ≠ r2)
theorem DagC.keep {w w' : World} {F S : Nat → Prop} {p : Nat} {N : List Nd} {most : Int} {kw : List (Int × Value)} (h : DagC w F p N most kw) (k : Keep w w' S) (hs : ∀ b, F b → ¬ S b) : DagC w' F p N most kw := by
  obtain ⟨v, r1, r2, kv, h1, h2, h3, h4, h5, h6, h7⟩ := h
  exact ⟨v, r1, r2, kv, h1.keep k (hs _ ((h6 _).2 (.inl rfl))), h2.keep k (fun b _ hb => hs b hb), h3.keep k (hs _ ((h6 _).2 (.inr (.inl rfl)))), h4.keep k (hs _ ((h6 _).2 (.inr (.inr (.inl rfl))))), h5, h6, h7⟩
theorem DagC.keepN {w w' : World} {F : Nat → Prop} {p : Nat} {N : List Nd} {most : Int} {kw : List (Int × Value)} (h : DagC w F p N most kw) (k : Keep w w' No) : DagC w' F p N most kw := h.keep k (fun _ _ h => h)
theorem DagC.lt {w : World} {F : Nat → Prop} {p : Nat} {N : List Nd} {most : Int} {kw : List (Int × Value)} (h : DagC w F p N most kw) {b : Nat} (hb : F b) : b < w.heap.size := by
  obtain ⟨v, r1, r2, kv, h1, h2, h3, h4, h5, h6, h7⟩ := h
  rcases (h6 b).1 hb with rfl | rfl | rfl | hb
  · exact h1.lt
  · exact h3.lt
  · exact h4.lt
  · obtain ⟨l, hl⟩ := (GC.blkOf h2 hb).2
    exact hl.lt
def zeroNd : Nd := ⟨0, 0, 0, 0, 0, 0⟩
def nodeAt (N : List Nd) (i : Int) : Nd := if isN N i then (N[i.toNat]?).getD zeroNd else zeroNd
section
variable {w : World} {F : Nat → Prop} {p : Nat} {N : List Nd} {most : Int} {kw : List (Int × Value)}
theorem none_ret {D : Nat → Prop} {v : Value} {ids : List Int} (h : DagC w F p N most kw) (hl : LV vi w D v ids) (hf : ids.length ≤ 1000000) :
    Ret Try.prog 23 #[ptr p, v] w (fun r w' => r = .bool (ids.any (fun i => !isN N i)) ∧ w' = w) := by
  obtain ⟨A, c, rfl, hr, hc⟩ := hl
  obtain ⟨vn, r1, r2, kv, h1, h2, h3, h4, h5, h6, h7⟩ := h
  obtain ⟨B, cb, rfl, hrn, hcb⟩ := GC.row2 h2 (by omega)
  refine ok23 _ _ _ _ ?_
  unfold sh23
  (repeat (refine ja ?_))
  refine M.loop_i (σ := Nat) (fun i vals w' => vals = [vi i] ∧ i ≤ ids.length ∧ (∀ x ∈ ids.take i, isN N x = true) ∧ w' = w) (fun i => ids.length - i) 0 ⟨rfl, by omega, by simp, rfl⟩ ?_
  rintro i vals w1 K ⟨rfl, hi, hno, rfl⟩ hK _
  simp only [List.getD_cons_zero, List.getD_cons_succ]
  by_cases hlt : i < ids.length
  · obtain ⟨x, hx⟩ : ∃ x, ids[i]? = some x := ⟨_, List.getElem?_eq_getElem hlt⟩
    have yes : isN N x = false → ids.any (fun i => !isN N i) = true := fun h => List.any_eq_true.2 ⟨x, List.mem_of_getElem? hx, by rw [h]; rfl⟩
    (repeat (first|refine jo ?_|refine jy ?_))
    refine M.idxLV_i hr rfl (by omega) (by omega) (x := x) (by simpa using hx) (fun bb oo hA hcc => ?_)
    (repeat (refine jM (by assumption) ?_))
    by_cases hx0 : x < 0
    · (repeat (first|refine ji ?_|refine jk ?_|refine jo ?_|refine jy ?_))
      exact ⟨by rw [yes (isN_no.2 (by omega))], rfl⟩
    · (repeat (first|refine ja ?_|refine jb ?_|refine jc ?_|refine jg ?_|refine jz ?_|refine jN (by assumption) rfl ?_))
      refine M.geq_i ?_
      (repeat (refine jl ?_))
      refine M.cond_i (fun hge => ?_) (fun hge => ?_)
      · exact ⟨by rw [yes (isN_no.2 (by omega))], rfl⟩
      · (repeat (refine jK ?_))
        refine hK (i + 1) _ _ (by omega) ⟨by simp, by omega, fun y hy => ?_, rfl⟩
        rcases (mem_take_succ hx).1 hy with h | rfl
        · exact hno y h
        · exact isN_iff.2 (by omega)
  · (repeat (first|refine jp ?_|refine jz ?_))
    have : i = ids.length := by omega
    subst this
    rw [List.take_length] at hno
    refine ⟨?_, rfl⟩
    have : ids.any (fun i => !isN N i) = false := by
      rw [List.any_eq_false]
      intro x hx
      rw [hno x hx]; simp
    rw [this]
theorem node_ret (h : DagC w F p N most kw) (i : Int) :
    Ret Try.prog 11 #[ptr p, vi i] w (fun r w' => r = .tuple #[encN (nodeAt N i), .bool (isN N i)] ∧ Keep w w' No) := by
  refine ok11 _ _ _ _ ?_
  unfold sh11
  refine M.new_i (l := zeroNd.cells) (fun w1 b1 k1 s1 => ?_)
  (repeat (first|refine jg ?_|refine jt ?_))
  refine M.buildSlice_i [vi i] (by kernel_rfl) (fun w2 b2 k2 s2 => ?_)
  (repeat (refine jg ?_))
  have k12 := k1.trans k2 (fun _ _ h => h)
  have hd := h.keepN k12
  refine M.call_i (none_ret hd (D := fun _ => True) (ids := [i]) ⟨_, _, rfl, Row.of_blk' b2 trivial, Nat.le_refl _⟩ (by show 1 ≤ 1000000; omega)) ?_; rintro _ w3 ⟨rfl, rfl⟩
  have e : ([i] : List Int).any (fun i => !isN N i) = !isN N i := by simp
  rw [e]
  have b1 := b1.keep k2 (fun h => h)
  cases hi : isN N i with
  | false =>
    (repeat (first|refine jl ?_|refine jo ?_))
    refine M.pure_i (encN zeroNd) (fun _ => by kernel_rfl) ?_
    refine M.storeAll_i b1 rfl rfl (cells_one _) (fun w4 b4 k4 s4 => ?_)
    refine M.loadAll_i b4 rfl ⟨?_, k12.trans k4 (fun b hb h => by omega)⟩
    unfold nodeAt
    rw [hi]; rfl
  | true =>
    obtain ⟨j, n, rfl, hj⟩ := isN_get hi
    obtain ⟨vn, r1, r2, kv, g1, g2, g3, g4, g5, g6, g7⟩ := hd
    obtain ⟨B, cb, rfl, hrn, hcb⟩ := GC.row2 g2 (by omega)
    (repeat (first|refine jb ?_|refine jc ?_|refine jl ?_|refine jp ?_|refine jN (by assumption) rfl ?_))
    refine M.idxN_i hrn rfl (by omega) (n := n) (by simpa using hj) (fun bb oo hc => ?_)
    refine M.loadN_i hc ?_
    refine M.storeAll_i b1 rfl rfl (cells_one _) (fun w4 b4 k4 s4 => ?_)
    refine M.loadAll_i b4 rfl ⟨?_, k12.trans k4 (fun b hb h => by omega)⟩
    unfold nodeAt
    rw [hi, Int.toNat_natCast, hj]; rfl
theorem nodeAt_wd (N : List Nd) (i : Int) : (nodeAt N i).wd = wdN N i := by
  unfold nodeAt
  cases hi : isN N i with
  | false => rw [wdN_none hi]; rfl
  | true =>
    obtain ⟨j, n, rfl, hj⟩ := isN_get hi
    rw [wdN_at hj, Int.toNat_natCast, hj]; rfl
theorem width_ret (h : DagC w F p N most kw) (i : Int) :
    Ret Try.prog 38 #[ptr p, vi i] w (fun r w' => r = vi (wdN N i) ∧ Keep w w' No) := by
  refine ok38 _ _ _ _ ?_
  unfold sh38
  refine M.call_i (node_ret h i) ?_; rintro _ w1 ⟨rfl, k1⟩
  refine M.extract_i rfl ?_
  refine M.extract_i rfl ?_
  refine M.new_i (l := zeroNd.cells) (fun w2 b2 k2 s2 => ?_)
  refine M.storeAll_i b2 rfl rfl (cells_one _) (fun w3 b3 k3 s3 => ?_)
  have b3 : Blk w3 w1.heap.size [vi (nodeAt N i).op, vi (nodeAt N i).wd, vi (nodeAt N i).a, vi (nodeAt N i).b, vi (nodeAt N i).c, vw (nodeAt N i).val] := b3
  (repeat (first|refine jc ?_|refine jN (by assumption) rfl ?_))
  refine ⟨by rw [nodeAt_wd], (k1.trans k2 (fun _ _ h => h)).trans k3 (fun b hb h => by have := k1.size; omega)⟩
set_option maxHeartbeats 2000000 in
theorem make_ret (h : DagC w F p N most kw) (hN : N.length ≤ 1000000) {n : Nd} (hn : n.Ok) :
    Ret Try.prog 37 #[ptr p, encN n] w (fun r w' => ∃ F', r = .tuple #[vi (madeN most N n).2.1, vi (madeN most N n).2.2] ∧ DagC w' F' p (madeN most N n).1 most kw ∧ (∀ b, b < w.heap.size → F' b → F b) ∧ Keep w w' F) := by
  refine ok37 _ _ _ _ ?_
  unfold sh37
  refine M.new_i (l := n.cells) (fun w1 b1 k1 s1 => ?_)
  have kd := Keep.drew w1 No
  have h2 := (h.keepN k1).keepN kd
  have b2 := b1.keep kd (fun h => h)
  have k1d := k1.trans kd (fun _ _ h => h)
  obtain ⟨vn, r1, r2, kv, g1, g2, g3, g4, g5, g6, g7, g8, g9, g10⟩ := id h2
  have hF : ∀ {b : Nat}, F b → b < w.heap.size := fun hb => h.lt hb
  have hp := h2.lt ((g6 p).2 (.inl rfl))
  obtain ⟨B, cb, rfl, hrn, hcb⟩ := GC.row2 g2 (by omega)
  refine M.draw_i ?_
  (repeat (first|refine jb ?_|refine jc ?_|refine jN (by assumption) rfl ?_))
  refine M.loadAll_i b2 rfl ?_
  refine M.lookupOkA_i (enc := encN) (x := n) (et := 3) (z := vi 0) keyE (by kernel_rfl) (fun w => Try.zeroValue3 w) g3 hn ?_
  rw [g5 n]
  by_cases hm : n ∈ N
  · rw [if_pos hm]
    refine M.extract_i rfl ?_
    refine M.extract_i rfl ?_
    (repeat (refine jo ?_))
    refine ⟨F, ?_, ?_, fun b _ h => h, k1d.mono (fun _ _ h => h.elim)⟩
    · unfold madeN
      rw [if_pos hm]; rfl
    · unfold madeN
      rw [if_pos hm]; exact h2
  · rw [if_neg hm]
    refine M.extract_i rfl ?_
    refine M.extract_i rfl ?_
    have kd2 := Keep.drew w1.drew No
    have g1b := g1.keep kd2 (fun h => h)
    have b3 := b2.keep kd2 (fun h => h)
    have h3 := h2.keepN kd2
    (repeat (first|refine ja ?_|refine jb ?_|refine jc ?_|refine jd ?_|refine jp ?_|refine jN (by assumption) rfl ?_))
    refine M.geq_i ?_
    by_cases hmost : most ≤ (N.length : Int)
    · rw [decide_eq_true hmost]
      (repeat (refine jo ?_))
      refine ⟨F, ?_, ?_, fun b _ h => h, (k1d.trans kd2 (fun _ _ h => h)).mono (fun _ _ h => h.elim)⟩
      · unfold madeN
        rw [if_neg hm, if_pos hmost]
      · unfold madeN
        rw [if_neg hm, if_pos hmost]; exact h3
    · rw [decide_eq_false hmost]
      have em : madeN most N n = (N ++ [n], (N.length : Int), 0) := by
        unfold madeN
        rw [if_neg hm, if_neg hmost]
      rw [em]
      have kd3 := Keep.drew w1.drew.drew No
      have g1c := g1b.keep kd3 (fun h => h)
      have b4 := b3.keep kd3 (fun h => h)
      have kk := (k1d.trans kd2 (fun _ _ h => h)).trans kd3 (fun _ _ h => h)
      have h4 := h3.keepN kd3
      have g2c := (g2.keep kd2 (fun _ _ _ h => h)).keep kd3 (fun _ _ _ h => h)
      have g3c := (g3.keep kd2 (fun h => h)).keep kd3 (fun h => h)
      have g4c := (g4.keep kd2 (fun h => h)).keep kd3 (fun h => h)
      (repeat (first|refine jb ?_|refine jc ?_|refine jd ?_|refine jp ?_|refine jN (by assumption) rfl ?_))
      refine M.loadAll_i b4 rfl ?_
      (repeat (first|refine ja ?_|refine jb ?_|refine jc ?_|refine jN (by assumption) rfl ?_))
      refine M.mapUpdateA_i (enc := encN) (x := n) (et := 3) keyE (by kernel_rfl) g3c hn (fun w5 m5 k5 s5 => ?_)
      have hr1 : F r1 := (g6 r1).2 (.inr (.inl rfl))
      have hpF : F p := (g6 p).2 (.inl rfl)
      have g1d := g1c.keep k5 g8
      have b5 := b4.keep k5 (fun h => by have := hF hr1; omega)
      have g2d := (GC.own g2c).keep k5 (fun b _ hb h => (g10 b hb).2.1 h)
      have g4d := g4c.keep k5 (fun h => g7 h.symm)
      have kd5 := Keep.drew w5 No
      have g1e := g1d.keep kd5 (fun h => h)
      have b6 := b5.keep kd5 (fun h => h)
      (repeat (first|refine jb ?_|refine jc ?_|refine jd ?_|refine jN (by assumption) rfl ?_))
      refine M.loadAll_i b6 rfl ?_
      refine M.buildSlice_i n.cells (by kernel_rfl) (fun w6 b7 k6 s6 => ?_)
      have g1f := g1e.keep k6 (fun h => h)
      have b8 := b6.keep k6 (fun h => h)
      have g2f := (g2d.keep kd5 (fun _ _ _ h => h)).keep k6 (fun _ _ _ h => h)
      have g4f := (g4d.keep kd5 (fun h => h)).keep k6 (fun h => h)
      have g3f := (m5.keep kd5 (fun h => h)).keep k6 (fun h => h)
      have q6 : w5.heap.size ≤ w6.heap.size := k6.size
      (repeat (refine jP (by assumption) rfl ?_))
      refine M.append_i g2f (Row.of_blk' (D := fun _ => True) b7 trivial) rfl (cells_one n) rfl (by omega) (by omega) (fun v' w7 g2g k7 => ?_)
      have g1g := g1f.keep k7 (fun h => (g10 _ h).1 rfl)
      have b9 := b8.keep k7 (fun h => by have := hF ((g6 _).2 (.inr (.inr (.inr h)))); omega)
      have g4g := g4f.keep k7 (fun h => (g10 _ h).2.2 rfl)
      have g3g := g3f.keep k7 (fun h => (g10 _ h).2.1 rfl)
      (repeat (first|refine jb ?_|refine jc ?_))
      refine M.store_i g1g (by simp) (by obtain ⟨A', c', rfl, _⟩ := GC.row g2g; rfl) (fun w8 g1h k8 s8 => ?_)
      have hv' : ∀ b, blkOf v' b → blkOf (.slice B N.length cb) b ∨ w6.heap.size ≤ b := fun b hb => (GC.blkOf g2g hb).1
      have hw6 : ∀ b, F b → b < w6.heap.size := fun b hb => by
        have := h2.lt hb
        have e1 : w1.drew.heap.size = w1.heap.size := rfl
        have e2 : w5.drew.heap.size = w5.heap.size := rfl
        have e4 : w1.drew.drew.drew.heap.size = w1.heap.size := rfl
        have := k5.size
        omega
      have hdis : ∀ b, blkOf v' b → b ≠ p ∧ b ≠ r1 ∧ b ≠ r2 := fun b hb => by
        rcases hv' b hb with h | h
        · exact g10 b h
        · have h1 := hw6 p hpF
          have h2 := hw6 r1 hr1
          have h3 := hw6 r2 ((g6 r2).2 (.inr (.inr (.inl rfl))))
          exact ⟨by omega, by omega, by omega⟩
      have g2h := (GC.own g2g).keep k8 (fun b _ hb h => (hdis b hb).1 h)
      have g3h := g3g.keep k8 (fun h => g8 h.symm)
      have g4h := g4g.keep k8 (fun h => g9 h.symm)
      have b10 := b9.keep k8 (fun h => by have := hF hpF; omega)
      have g1h : Blk w8 p [v', .map (some r1), .map (some r2), vi most] := g1h
      have kd8 := Keep.drew w8 No
      have g1i := g1h.keep kd8 (fun h => h)
      (repeat (first|refine jb ?_|refine jc ?_|refine jd ?_|refine jN (by assumption) rfl ?_))
      refine M.loadAll_i (b10.keep kd8 (fun h => h)) rfl ?_
      refine M.lookupA_i (enc := encN) (x := n) (et := 3) (z := vi 0) keyE (by kernel_rfl) (fun w => Try.zeroValue3 w) (g3h.keep kd8 (fun h => h)) hn ?_
      rw [lkpA_upd, if_pos rfl]
      have kF : Keep w w1.drew.drew.drew F := kk.mono (fun _ _ h => h.elim)
      have kall : Keep w w8.drew F := (((((kF.trans k5 (fun b _ h => h ▸ hr1)).trans kd5 (fun _ _ h => h.elim)).trans k6 (fun _ _ h => h.elim)).trans k7 (fun b _ h => (g6 b).2 (.inr (.inr (.inr h))))).trans k8 (fun b _ h => h ▸ hpF)).trans kd8 (fun _ _ h => h.elim)
      refine ⟨fun b => b = p ∨ b = r1 ∨ b = r2 ∨ blkOf v' b, rfl, ⟨v', r1, r2, updA kv n (vi N.length), g1i, ?_, g3h.keep kd8 (fun h => h), g4h.keep kd8 (fun h => h), ?_, fun b => Iff.rfl, g7, g8, g9, hdis⟩, fun b hb h => ?_, kall⟩
      · rw [NL_snoc, List.length_append, List.length_singleton]
        exact (g2h.keep kd8 (fun _ _ _ h => h)).mono (fun b _ h => .inr (.inr (.inr h)))
      · intro m
        rw [lkpA_upd]
        by_cases hmn : m = n
        · subst hmn
          rw [if_pos rfl, if_pos (by simp), List.idxOf_append, if_neg hm]
          simp
        · rw [if_neg hmn, g5 m]
          by_cases hmN : m ∈ N
          · rw [if_pos hmN, if_pos (by simp [hmN]), List.idxOf_append, if_pos hmN]
          · rw [if_neg hmN, if_neg (by simp [hmN, hmn])]
      · rcases h with h | h | h | h
        · exact (g6 b).2 (.inl h)
        · exact (g6 b).2 (.inr (.inl h))
        · exact (g6 b).2 (.inr (.inr (.inl h)))
        · rcases hv' b h with h | h
          · exact (g6 b).2 (.inr (.inr (.inr h)))
          · exfalso
            have : w1.drew.drew.drew.heap.size = w1.heap.size := rfl
            have := k5.size
            have := k1.size
            omega
end
end Go.Proofs.Ytnbcglnefoinlaa
namespace Go.Proofs.Ytnbcglnefoinlaa
open Go.Mw Go.Maps Go.MapKept
set_option linter.unusedVariables false
set_option linter.unusedSimpArgs false
set_option maxRecDepth 100000
attribute [local irreducible] M.val M.unit M.next M.pick M.new M.nilCheck M.load1 M.loadA M.store M.fieldAddr M.indexSl M.indexArr M.slice M.makeSlice M.buildSlice M.len M.lenS M.cap M.append M.extract M.conv M.not M.neg M.bin M.shift M.eqB M.eqNil M.scat M.call M.callv M.gd M.share M.cond M.loop M.draw pureW readW Ret
def sh19 (x0 x1 x2 : Value) (R : Kt) (w : World) : Prop :=
  M.eqNil 0 false x0 (fun t10 w =>
  M.cond t10
  (R (.tuple #[(Value.int IntKind.i64 0), (Value.int IntKind.i64 8)]) w)
  (M.call Try.prog 36 #[x1] (fun t13 w =>
  M.bin .eql t13 (Value.int IntKind.u64 0) (fun t14 w =>
  M.cond t14
  (R (.tuple #[(Value.int IntKind.i64 0), (Value.int IntKind.i64 2)]) w)
  (M.call Try.prog 39 #[x1, x2] (fun t19 w =>
  pureW Try.prog (Instr.build 38 #[(0, (Value.int IntKind.i64 20)), (1, x1), (5, t19)]) (fun t20 w =>
  M.call Try.prog 37 #[x0, t20] (fun t21 w =>
  M.extract 0 t21 (fun t22 w =>
  M.extract 1 t21 (fun t23 w =>
  R (.tuple #[t22, t23]) w) w) w) w) w) w)) w) w)) w
theorem ok19 (x0 x1 x2 : Value) (R : Kt) (w : World) (h : sh19 x0 x1 x2 R w) : Ret Try.prog 19 #[x0, x1, x2] w R :=
  ret_mk <| calls_of_comp mixed (c := Try.f19.body.getD .skip) (args := [x0, x1, x2]) (rs := [(ResultVar.tmp 6), (ResultVar.tmp 7)]) (Ann.seq Ann.text (Ann.seq (Ann.block (Ann.seq Ann.text (Ann.cond (Ann.seq Ann.text Ann.leaf) (Ann.seq Ann.text (Ann.cond (Ann.seq Ann.text Ann.leaf) Ann.leaf))))) (Ann.seq Ann.text Ann.leaf)))
    Try.func19 (by kernel_rfl) (by kernel_rfl)
    (Eq.mp (by kernel_rfl) h)
def sh17 (x0 x1 x2 : Value) (R : Kt) (w : World) : Prop :=
  M.eqNil 0 false x0 (fun t14 w =>
  M.cond t14
  (R (.tuple #[(Value.int IntKind.i64 0), (Value.int IntKind.i64 8)]) w)
  (M.call Try.prog 36 #[x1] (fun t17 w =>
  M.bin .eql t17 (Value.int IntKind.u64 0) (fun t18 w =>
  M.cond t18
  (R (.tuple #[(Value.int IntKind.i64 0), (Value.int IntKind.i64 2)]) w)
  (M.bin .lss x2 (Value.int IntKind.i64 0) (fun t21 w =>
  M.gd t21 false (fun k w => k x2 w) (fun t23 w =>
  M.gd t21 false (fun k w => M.bin .geq t23 (Value.int IntKind.i64 256) k w) (fun t24 w =>
  M.pick t21 (Value.bool true) t24 (fun t25 w =>
  M.cond t25
  (R (.tuple #[(Value.int IntKind.i64 0), (Value.int IntKind.i64 10)]) w)
  (M.nilCheck x0 (fun t28 w =>
  M.fieldAddr 2 t28 (fun t29 w =>
  M.load1 t29 (fun t30 w =>
  readW Try.prog (Instr.lookup 53 t30 x2 true) (fun t32 w =>
  M.extract 0 t32 (fun t33 w =>
  M.extract 1 t32 (fun t34 w =>
  M.gd t34 true (fun k w => k t33 w) (fun t37 w =>
  M.gd t34 true (fun k w => k x1 w) (fun t38 w =>
  M.gd t34 true (fun k w => M.bin .neq t37 t38 k w) (fun t39 w =>
  M.pick t34 t39 (Value.bool false) (fun t40 w =>
  M.cond t40
  (R (.tuple #[(Value.int IntKind.i64 0), (Value.int IntKind.i64 2)]) w)
  (pureW Try.prog (Instr.build 38 #[(0, (Value.int IntKind.i64 21)), (1, x1), (2, x2)]) (fun t45 w =>
  M.call Try.prog 37 #[x0, t45] (fun t46 w =>
  M.extract 0 t46 (fun t47 w =>
  M.extract 1 t46 (fun t48 w =>
  M.share (fun K1 w =>
  M.bin .eql t48 (Value.int IntKind.i64 0) (fun t50 w =>
  M.cond t50
  (M.nilCheck x0 (fun t52 w =>
  M.fieldAddr 2 t52 (fun t53 w =>
  M.load1 t53 (fun t54 w =>
  M.unit Try.prog (Instr.mapUpdate 53 t54 x2 x1) (fun _ w =>
  K1 [] w) w) w) w) w)
  (K1 [] w)) w) (fun s1 w => ∀ _ : List Value,
  R (.tuple #[t47, t48]) w) w) w) w) w) w)) w) w) w) w) w) w) w) w) w) w)) w) w) w) w)) w) w)) w
theorem ok17 (x0 x1 x2 : Value) (R : Kt) (w : World) (h : sh17 x0 x1 x2 R w) : Ret Try.prog 17 #[x0, x1, x2] w R :=
  ret_mk <| calls_of_comp mixed (c := Try.f17.body.getD .skip) (args := [x0, x1, x2]) (rs := [(ResultVar.tmp 6), (ResultVar.tmp 7)]) (Ann.seq Ann.text (Ann.seq (Ann.block (Ann.seq Ann.text (Ann.cond (Ann.seq Ann.text Ann.leaf) (Ann.seq Ann.text (Ann.cond (Ann.seq Ann.text Ann.leaf) (Ann.seq Ann.text (Ann.cond (Ann.seq Ann.text Ann.leaf) Ann.leaf))))))) (Ann.seq (Ann.seq Ann.text (Ann.seq Ann.text (Ann.cond (Ann.seq Ann.text Ann.leaf) Ann.leaf))) (Ann.seq Ann.text (Ann.join [] [49, 50, 51, 52, 53, 54, 55, 56] (Ann.seq Ann.text (Ann.cond Ann.text Ann.leaf)) (Ann.seq Ann.text Ann.leaf))))))
    Try.func17 (by kernel_rfl) (by kernel_rfl)
    (Eq.mp (by kernel_rfl) h)
def sh18 (x0 x1 x2 x3 : Value) (R : Kt) (w : World) : Prop :=
  M.eqNil 0 false x0 (fun t13 w =>
  M.cond t13
  (R (.tuple #[(Value.int IntKind.i64 0), (Value.int IntKind.i64 8)]) w)
  (M.bin .lss x1 (Value.int IntKind.i64 1) (fun t16 w =>
  M.gd t16 false (fun k w => k x1 w) (fun t18 w =>
  M.gd t16 false (fun k w => M.bin .gtr t18 (Value.int IntKind.i64 14) k w) (fun t19 w =>
  M.pick t16 (Value.bool true) t19 (fun t20 w =>
  M.cond t20
  (R (.tuple #[(Value.int IntKind.i64 0), (Value.int IntKind.i64 3)]) w)
  (M.buildSlice 3 1 #[.int .i64 0] 2 [(0, x2), (1, x3)] (fun t25 w =>
  M.call Try.prog 23 #[x0, t25] (fun t26 w =>
  M.cond t26
  (R (.tuple #[(Value.int IntKind.i64 0), (Value.int IntKind.i64 11)]) w)
  (M.call Try.prog 38 #[x0, x2] (fun t30 w =>
  M.call Try.prog 38 #[x0, x3] (fun t33 w =>
  M.bin .neq t30 t33 (fun t34 w =>
  M.cond t34
  (R (.tuple #[(Value.int IntKind.i64 0), (Value.int IntKind.i64 2)]) w)
  (M.call Try.prog 38 #[x0, x2] (fun t37 w =>
  M.share (fun K1 w =>
  M.bin .eql x1 (Value.int IntKind.i64 12) (fun t39 w =>
  M.gd t39 false (fun k w => k x1 w) (fun t41 w =>
  M.gd t39 false (fun k w => M.bin .eql t41 (Value.int IntKind.i64 13) k w) (fun t42 w =>
  M.pick t39 (Value.bool true) t42 (fun t43 w =>
  M.gd t43 false (fun k w => k x1 w) (fun t45 w =>
  M.gd t43 false (fun k w => M.bin .eql t45 (Value.int IntKind.i64 14) k w) (fun t46 w =>
  M.pick t43 (Value.bool true) t46 (fun t47 w =>
  M.cond t47
  (K1 [(Value.int IntKind.i64 1)] w)
  (K1 [t37] w)) w) w) w) w) w) w) w) (fun s1 w => ∀ _ : List Value,
  pureW Try.prog (Instr.build 38 #[(0, x1), (1, (s1.getD 0 undef)), (2, x2), (3, x3)]) (fun t53 w =>
  M.call Try.prog 37 #[x0, t53] (fun t54 w =>
  M.extract 0 t54 (fun t55 w =>
  M.extract 1 t54 (fun t56 w =>
  R (.tuple #[t55, t56]) w) w) w) w) w) w) w)) w) w) w)) w) w)) w) w) w) w)) w
theorem ok18 (x0 x1 x2 x3 : Value) (R : Kt) (w : World) (h : sh18 x0 x1 x2 x3 R w) : Ret Try.prog 18 #[x0, x1, x2, x3] w R :=
  ret_mk <| calls_of_comp mixed (c := Try.f18.body.getD .skip) (args := [x0, x1, x2, x3]) (rs := [(ResultVar.tmp 8), (ResultVar.tmp 9)]) (Ann.seq Ann.text (Ann.seq (Ann.block (Ann.seq Ann.text (Ann.cond (Ann.seq Ann.text Ann.leaf) (Ann.seq Ann.text (Ann.cond (Ann.seq Ann.text Ann.leaf) (Ann.seq Ann.text (Ann.cond (Ann.seq Ann.text Ann.leaf) (Ann.seq Ann.text (Ann.cond (Ann.seq Ann.text Ann.leaf) Ann.leaf))))))))) (Ann.seq Ann.text (Ann.join [10] [38, 39, 40, 41, 42, 43, 44, 45, 46, 47] (Ann.seq Ann.text (Ann.cond Ann.text Ann.leaf)) (Ann.seq Ann.text Ann.leaf)))))
    Try.func18 (by kernel_rfl) (by kernel_rfl)
    (Eq.mp (by kernel_rfl) h)
def WdR (N : List Nd) (kw : List (Int × Value)) : Prop := (∀ n ∈ N, n.op = 21 → lkp kw n.a = some (vi n.wd)) ∧ ∀ i v, lkp kw i = some v → ∃ n ∈ N, n.op = 21 ∧ n.a = i ∧ v = vi n.wd
def DagO (w : World) (F : Nat → Prop) (p : Nat) (N : List Nd) (most : Int) : Prop := ∃ kw, DagC w F p N most kw ∧ WdR N kw ∧ GoodN N ∧ N.length ≤ 65536 ∧ most ≤ 65536
theorem DagO.keep {w w' : World} {F S : Nat → Prop} {p : Nat} {N : List Nd} {most : Int} (h : DagO w F p N most) (k : Keep w w' S) (hs : ∀ b, F b → ¬ S b) : DagO w' F p N most := by
  obtain ⟨kw, h1, h2⟩ := h
  exact ⟨kw, h1.keep k hs, h2⟩
theorem DagO.keepN {w w' : World} {F : Nat → Prop} {p : Nat} {N : List Nd} {most : Int} (h : DagO w F p N most) (k : Keep w w' No) : DagO w' F p N most := h.keep k (fun _ _ h => h)
theorem DagO.lt {w : World} {F : Nat → Prop} {p : Nat} {N : List Nd} {most : Int} (h : DagO w F p N most) {b : Nat} (hb : F b) : b < w.heap.size := by
  obtain ⟨kw, h1, _⟩ := h
  exact h1.lt hb
theorem DagO.good {w : World} {F : Nat → Prop} {p : Nat} {N : List Nd} {most : Int} (h : DagO w F p N most) : GoodN N := by
  obtain ⟨kw, _, _, h, _⟩ := h; exact h
theorem DagO.len {w : World} {F : Nat → Prop} {p : Nat} {N : List Nd} {most : Int} (h : DagO w F p N most) : N.length ≤ 65536 ∧ most ≤ 65536 := by
  obtain ⟨kw, _, _, _, h⟩ := h; exact h
def AskO (w : World) (F : Nat → Prop) (p : Nat) (most : Int) (res : List Nd × Int × Int) (r : Value) (w' : World) : Prop :=
  ∃ F', r = .tuple #[vi res.2.1, vi res.2.2] ∧ DagO w' F' p res.1 most ∧ (∀ b, b < w.heap.size → F' b → F b) ∧ Keep w w' F
theorem AskO.from {w w1 : World} {F : Nat → Prop} {p : Nat} {most : Int} {res : List Nd × Int × Int} {r : Value} {w' : World} (k : Keep w w1 No) (h : AskO w1 F p most res r w') : AskO w F p most res r w' := by
  obtain ⟨F', h1, h2, h3, h4⟩ := h
  exact ⟨F', h1, h2, fun b hb => h3 b (Nat.lt_of_lt_of_le hb k.size), (k.mono (fun _ _ h => h.elim)).trans h4 (fun _ _ h => h)⟩
theorem AskO.same {w w1 : World} {F : Nat → Prop} {p : Nat} {N : List Nd} {most : Int} (k : Keep w w1 No) (h : DagO w1 F p N most) (i e : Int) : AskO w F p most (N, i, e) (.tuple #[vi i, vi e]) w1 :=
  ⟨F, rfl, h, fun _ _ h => h, k.mono (fun _ _ h => h.elim)⟩
section
variable {w : World} {F : Nat → Prop} {p : Nat} {N : List Nd} {most : Int}
theorem makeO (h : DagO w F p N most) {n : Nd} (hg : goodN N n) (ho : n.op ≠ 21) :
    Ret Try.prog 37 #[ptr p, encN n] w (AskO w F p most (madeN most N n)) := by
  obtain ⟨kw, hd, hw, hG, hN, hm⟩ := h
  refine (make_ret hd (by omega) (hg.ok (by omega))).mono ?_
  rintro r w' ⟨F', rfl, h1, h2, h3⟩
  have ha := ask_made (most := most) hG hg
  refine ⟨F', rfl, ⟨kw, h1, ?_, ha.good, ?_, hm⟩, h2, h3⟩
  · unfold madeN
    split
    · exact hw
    · split
      · exact hw
      · refine ⟨fun m hmem h21 => ?_, fun i v hv => ?_⟩
        · rcases List.mem_append.1 hmem with h | h
          · exact hw.1 m h h21
          · simp at h; subst h; exact absurd h21 ho
        · obtain ⟨m, h, h'⟩ := hw.2 i v hv
          exact ⟨m, List.mem_append_left _ h, h'⟩
  · rcases ha.len with h | h
    · omega
    · rw [h]; exact hN
theorem const_ret (h : DagO w F p N most) (n : Int) (x : W64) :
    Ret Try.prog 19 #[ptr p, vi n, vw x] w (AskO w F p most (constN most N n x)) := by
  refine ok19 _ _ _ _ _ ?_
  unfold sh19
  (repeat (first|refine jp ?_|refine jt ?_))
  refine M.call_i (mask_ret n w) ?_; rintro _ w1 ⟨rfl, rfl⟩
  change M.bin .eql (vw (maskW n)) (vw 0) _ _
  refine M.eqlW_i ?_
  have hz : decide (maskW n = 0) = !fitsB n := by
    cases hf : fitsB n with
    | false =>
      have : maskW n = 0 := by unfold maskW; rw [hf]; rfl
      rw [this]; rfl
    | true =>
      obtain ⟨m, rfl, h1, h2⟩ := fits_nat hf
      rw [decide_eq_false]
      · rfl
      · intro e
        have := maskW_bit h1 h2 0
        rw [e, decide_eq_true (by omega)] at this
        simp at this
  rw [hz]
  unfold constN
  cases hf : fitsB n with
  | false =>
    (repeat (refine jo ?_))
    exact AskO.same (Keep.refl _ _) h 0 2
  | true =>
    have hm : ∃ m : Nat, n = m ∧ 1 ≤ m ∧ m ≤ 64 := fits_nat hf
    (repeat (refine jp ?_))
    refine M.call_i (cut_ret n x w1) ?_; rintro _ w2 ⟨rfl, rfl⟩
    refine M.pure_i (encN ⟨20, n, 0, 0, 0, cutW n x⟩) (fun _ => by kernel_rfl) ?_
    obtain ⟨m, rfl, h1, h2⟩ := hm
    have hg : goodN N ⟨20, m, 0, 0, 0, cutW m x⟩ := ⟨by show 1 ≤ (m : Int) ∧ (m : Int) ≤ 64; omega, by intro k hk; simp [kidsN] at hk, .inl ⟨rfl, rfl, rfl, rfl, by
      show cutW m (cutW m x) = cutW m x
      unfold cutW
      rw [BitVec.and_assoc, BitVec.and_self]⟩⟩
    refine M.call_i (makeO h hg (by show (20 : Int) ≠ 21; omega)) ?_
    rintro _ w3 ⟨F', rfl, h3⟩
    refine M.extract_i rfl ?_
    refine M.extract_i rfl ?_
    exact ⟨F', rfl, h3⟩
theorem mask_zero (n : Int) : decide (maskW n = 0) = !fitsB n := by
  cases hf : fitsB n with
  | false =>
    have : maskW n = 0 := by unfold maskW; rw [hf]; rfl
    rw [this]; rfl
  | true =>
    obtain ⟨m, rfl, h1, h2⟩ := fits_nat hf
    rw [decide_eq_false]
    · rfl
    · intro e
      have := maskW_bit h1 h2 0
      rw [e, decide_eq_true (by omega)] at this
      simp at this
theorem otherW_of {kw : List (Int × Value)} (h : WdR N kw) (w i : Int) : otherW N w i = match lkp kw i with
    | some (.int _ x) => decide (x ≠ w)
    | _ => false := by
  cases hl : lkp kw i with
  | none =>
    simp only
    unfold otherW
    rw [List.any_eq_false]
    intro n hn hh
    simp only [Bool.and_eq_true, decide_eq_true_eq] at hh
    have := h.1 n hn hh.1.1
    rw [hh.1.2, hl] at this
    simp at this
  | some v =>
    obtain ⟨n, hn, h1, h2, rfl⟩ := h.2 i v hl
    simp only
    unfold otherW
    by_cases hw : n.wd = w
    · rw [decide_eq_false (by simpa using hw), List.any_eq_false]
      intro m hm hh
      simp only [Bool.and_eq_true, decide_eq_true_eq] at hh
      have := h.1 m hm hh.1.1
      rw [hh.1.2, hl] at this
      simp only [Option.some.injEq, Value.int.injEq, true_and] at this
      exact hh.2 (by rw [← this]; exact hw)
    · rw [decide_eq_true (by simpa using hw)]
      exact List.any_eq_true.2 ⟨n, hn, by simp [h1, h2, hw]⟩
set_option maxHeartbeats 1000000 in
theorem dvar_ret (h : DagO w F p N most) (n i : Int) :
    Ret Try.prog 17 #[ptr p, vi n, vi i] w (AskO w F p most (varN most N n i)) := by
  refine ok17 _ _ _ _ _ ?_
  unfold sh17
  (repeat (first|refine jp ?_|refine jt ?_))
  refine M.call_i (mask_ret n w) ?_; rintro _ w1 ⟨rfl, rfl⟩
  change M.bin .eql (vw (maskW n)) (vw 0) _ _
  refine M.eqlW_i ?_
  rw [mask_zero]
  unfold varN
  cases hf : fitsB n with
  | false =>
    rw [if_pos rfl]
    (repeat (refine jo ?_))
    exact AskO.same (Keep.refl _ _) h 0 2
  | true =>
    rw [if_neg (by simp)]
    by_cases hi0 : i < 0
    · rw [if_pos (.inl hi0)]
      (repeat (first|refine ji ?_|refine jk ?_|refine jo ?_|refine jp ?_|refine jy ?_))
      exact AskO.same (Keep.refl _ _) h 0 10
    by_cases hi1 : 255 < i
    · rw [if_pos (.inr hi1)]
      (repeat (first|refine jg ?_|refine jl ?_|refine jo ?_|refine jp ?_|refine jz ?_|refine jE ?_))
      exact AskO.same (Keep.refl _ _) h 0 10
    rw [if_neg (by omega)]
    obtain ⟨kw, hd, hw, hG, hN, hm⟩ := id h
    obtain ⟨v, r1, r2, kv, g1, g2, g3, g4, g5, g6, g7, g8, g9, g10⟩ := id hd
    have ho := otherW_of hw n i
    (repeat (first|refine jb ?_|refine jc ?_|refine jg ?_|refine jl ?_|refine jp ?_|refine jz ?_|refine jF ?_|refine jN (by assumption) rfl ?_))
    refine M.lookupOk_i (kt := 3) (et := 3) (z := vi 0) (by kernel_rfl) (by kernel_rfl) (fun w => Try.zeroValue3 w) g4 ?_
    have go : otherW N n i = false → AskO w1 F p most (madeN most N ⟨21, n, i, 0, 0, 0⟩) = AskO w1 F p most (madeN most N ⟨21, n, i, 0, 0, 0⟩) := fun _ => rfl
    have hgood : goodN N ⟨21, n, i, 0, 0, 0⟩ := by
      obtain ⟨m, rfl, h1, h2⟩ := fits_nat hf
      exact ⟨by show 1 ≤ (m : Int) ∧ (m : Int) ≤ 64; omega, by intro k hk; simp [kidsN] at hk, .inr (.inl ⟨rfl, by show 0 ≤ i; omega, by show i ≤ 255; omega, rfl, rfl, rfl⟩)⟩
    have rest : ∀ {R : Kt}, otherW N n i = false → R = AskO w1 F p most (madeN most N ⟨21, n, i, 0, 0, 0⟩) → M.call Try.prog 37 #[ptr p, encN ⟨21, n, i, 0, 0, 0⟩] (fun t46 w => M.extract 0 t46 (fun t47 w => M.extract 1 t46 (fun t48 w =>
        M.share (fun K1 w => M.bin .eql t48 (vi 0) (fun t50 w => M.cond t50 (M.nilCheck (ptr p) (fun t52 w => M.fieldAddr 2 t52 (fun t53 w => M.load1 t53 (fun t54 w => M.unit Try.prog (Instr.mapUpdate 53 t54 (vi i) (vi n)) (fun _ w => K1 [] w) w) w) w) w) (K1 [] w)) w)
          (fun s1 w => ∀ _ : List Value, R (.tuple #[t47, t48]) w) w) w) w) w1 := by
      rintro R hno rfl
      refine M.call_i (make_ret hd (by omega) (hgood.ok (by omega))) ?_
      rintro _ w2 ⟨F', rfl, h1, h2, h3⟩
      have ha := ask_made (most := most) hG hgood
      have hlen : (madeN most N ⟨21, n, i, 0, 0, 0⟩).1.length ≤ 65536 := by
        rcases ha.len with h | h
        · omega
        · rw [h]; exact hN
      refine M.extract_i rfl ?_
      refine M.extract_i rfl ?_
      refine M.share_i ?_
      refine M.eql_i ?_
      have hcase : (madeN most N ⟨21, n, i, 0, 0, 0⟩ = (N, ((N.idxOf (⟨21, n, i, 0, 0, 0⟩ : Nd) : Nat) : Int), 0) ∧ (⟨21, n, i, 0, 0, 0⟩ : Nd) ∈ N) ∨ madeN most N ⟨21, n, i, 0, 0, 0⟩ = (N, 0, 8) ∨ madeN most N ⟨21, n, i, 0, 0, 0⟩ = (N ++ [⟨21, n, i, 0, 0, 0⟩], (N.length : Int), 0) := by
        unfold madeN
        split
        · rename_i hh; exact .inl ⟨rfl, hh⟩
        · split
          · exact .inr (.inl rfl)
          · exact .inr (.inr rfl)
      have same : ∀ m ∈ N, m.op = 21 → m.a = i → m.wd = n := fun m hm h21 hmi => by
        unfold otherW at hno
        rw [List.any_eq_false] at hno
        have := hno m hm
        simp only [h21, hmi, decide_true, Bool.true_and, decide_eq_true_eq, ne_eq, Classical.not_not] at this
        exact this
      have upd : ∀ (N' : List Nd), (N' = N ∧ (⟨21, n, i, 0, 0, 0⟩ : Nd) ∈ N) ∨ N' = N ++ [⟨21, n, i, 0, 0, 0⟩] → WdR N' (upd kw i (vi n)) := fun N' hN' => by
        have hin : (⟨21, n, i, 0, 0, 0⟩ : Nd) ∈ N' := by
          rcases hN' with ⟨rfl, h⟩ | rfl
          · exact h
          · simp
        have hsub : ∀ m ∈ N', m ∈ N ∨ m = ⟨21, n, i, 0, 0, 0⟩ := fun m hm => by
          rcases hN' with ⟨rfl, h⟩ | rfl
          · exact .inl hm
          · rcases List.mem_append.1 hm with h | h
            · exact .inl h
            · simp at h; exact .inr h
        have hsup : ∀ m ∈ N, m ∈ N' := fun m hm => by
          rcases hN' with ⟨rfl, h⟩ | rfl
          · exact hm
          · exact List.mem_append_left _ hm
        refine ⟨fun m hmem h21 => ?_, fun j v hv => ?_⟩
        · rw [lkp_upd]
          rcases hsub m hmem with h | rfl
          · by_cases hmi : m.a = i
            · rw [if_pos hmi, same m h h21 hmi]
            · rw [if_neg hmi]; exact hw.1 m h h21
          · rw [if_pos rfl]
        · rw [lkp_upd] at hv
          by_cases hji : j = i
          · rw [if_pos hji] at hv
            cases hv
            exact ⟨_, hin, rfl, hji.symm, rfl⟩
          · rw [if_neg hji] at hv
            obtain ⟨m, h, h'⟩ := hw.2 j v hv
            exact ⟨m, hsup m h, h'⟩
      obtain ⟨v', s1, s2, kv', e1, e2, e3, e4, e5, e6, e7, e8, e9, e10⟩ := id h1
      by_cases he : (madeN most N ⟨21, n, i, 0, 0, 0⟩).2.2 = 0
      · rw [decide_eq_true he]
        (repeat (first|refine jb ?_|refine jc ?_|refine jo ?_|refine jN (by assumption) rfl ?_))
        refine M.mapUpdate_i (kt := 3) (et := 3) (by kernel_rfl) (by kernel_rfl) e4 (fun w3 m3 k3 s3 => ?_)
        intro _
        have hs2 : F' s2 := (e6 s2).2 (.inr (.inr (.inl rfl)))
        refine ⟨F', rfl, ⟨_, ⟨v', s1, s2, kv', e1.keep k3 e9, (GC.own e2).keep k3 (fun b _ hb h => (e10 b hb).2.2 h) |>.mono (fun b _ hb => (e6 b).2 (.inr (.inr (.inr hb)))), e3.keep k3 e7, m3, e5, e6, e7, e8, e9, e10⟩, ?_, ha.good, hlen, hm⟩, h2, ?_⟩
        · rcases hcase with ⟨hc, hmem⟩ | hc | hc
          · exact upd _ (.inl ⟨by rw [hc], hmem⟩)
          · rw [hc] at he; exact absurd he (by show ¬ (8 : Int) = 0; omega)
          · exact upd _ (.inr (by rw [hc]))
        · refine h3.trans k3 (fun b hb h => ?_)
          exact h2 b hb (h ▸ hs2)
      · rw [decide_eq_false he]
        (repeat (refine jp ?_))
        intro _
        refine ⟨F', rfl, ⟨kw, h1, ?_, ha.good, hlen, hm⟩, h2, h3⟩
        rcases hcase with ⟨hc, hmem⟩ | hc | hc
        · rw [hc] at he; exact absurd rfl he
        · rw [hc]; exact hw
        · rw [hc] at he; exact absurd rfl he
    refine M.extract_i rfl ?_
    refine M.extract_i rfl ?_
    cases hl : lkp kw i with
    | none =>
      rw [hl] at ho
      simp only at ho
      rw [if_neg (by simp [ho])]
      (repeat (first|refine jh ?_|refine jl ?_|refine jp ?_))
      refine M.pure_i (encN ⟨21, n, i, 0, 0, 0⟩) (fun _ => by kernel_rfl) ?_
      exact rest ho rfl
    | some v0 =>
      obtain ⟨m0, hm0, h21, hmi, rfl⟩ := hw.2 i v0 hl
      rw [hl] at ho
      simp only at ho
      by_cases hne : m0.wd = n
      · rw [decide_eq_false (by simpa using hne)] at ho
        rw [if_neg (by simp [ho])]
        (repeat (first|refine jf ?_|refine jk ?_|refine jp ?_|refine jJ ?_))
        refine M.pure_i (encN ⟨21, n, i, 0, 0, 0⟩) (fun _ => by kernel_rfl) ?_
        exact rest ho rfl
      · rw [decide_eq_true (by simpa using hne)] at ho
        rw [if_pos ho]
        (repeat (first|refine jf ?_|refine jk ?_|refine jo ?_|refine jI ?_))
        exact AskO.same (Keep.refl _ _) h 0 2
end
end Go.Proofs.Ytnbcglnefoinlaa
namespace Go.Proofs.Ytnbcglnefoinlaa
open Go.Mw Go.Maps Go.MapKept
set_option linter.unusedVariables false
set_option linter.unusedSimpArgs false
set_option maxRecDepth 100000
attribute [local irreducible] M.val M.unit M.next M.pick M.new M.nilCheck M.load1 M.loadA M.store M.fieldAddr M.indexSl M.indexArr M.slice M.makeSlice M.buildSlice M.len M.lenS M.cap M.append M.extract M.conv M.not M.neg M.bin M.shift M.eqB M.eqNil M.scat M.call M.callv M.gd M.share M.cond M.loop M.draw pureW readW Ret
section
variable {w : World} {F : Nat → Prop} {p : Nat} {N : List Nd} {most : Int}
theorem DagO.none (h : DagO w F p N most) {D : Nat → Prop} {v : Value} {ids : List Int} (hl : LV vi w D v ids) (hf : ids.length ≤ 1000000) :
    Ret Try.prog 23 #[ptr p, v] w (fun r w' => r = .bool (ids.any (fun i => !isN N i)) ∧ w' = w) := by
  obtain ⟨kw, hd, _⟩ := h
  exact none_ret hd hl hf
theorem DagO.width (h : DagO w F p N most) (i : Int) :
    Ret Try.prog 38 #[ptr p, vi i] w (fun r w' => r = vi (wdN N i) ∧ Keep w w' No) := by
  obtain ⟨kw, hd, _⟩ := h
  exact width_ret hd i
theorem DagO.node (h : DagO w F p N most) (i : Int) :
    Ret Try.prog 11 #[ptr p, vi i] w (fun r w' => r = .tuple #[encN (nodeAt N i), .bool (isN N i)] ∧ Keep w w' No) := by
  obtain ⟨kw, hd, _⟩ := h
  exact node_ret hd i
theorem blk1 {w : World} {b : Nat} {x : Int} (h : Blk w b [vi x]) : LV vi w (fun _ => True) (.slice (some ⟨b, 0, none⟩) 1 1) [x] := ⟨_, _, rfl, Row.of_blk' h trivial, Nat.le_refl _⟩
theorem blk2 {w : World} {b : Nat} {x y : Int} (h : Blk w b [vi x, vi y]) : LV vi w (fun _ => True) (.slice (some ⟨b, 0, none⟩) 2 2) [x, y] := ⟨_, _, rfl, Row.of_blk' h trivial, Nat.le_refl _⟩
set_option maxHeartbeats 1000000 in
theorem binary_ret (h : DagO w F p N most) (op a b : Int) :
    Ret Try.prog 18 #[ptr p, vi op, vi a, vi b] w (AskO w F p most (binaryN most N op a b)) := by
  refine ok18 _ _ _ _ _ _ ?_
  unfold sh18
  unfold binaryN
  by_cases ho1 : op < 1
  · rw [if_pos (.inl ho1)]
    (repeat (first|refine ji ?_|refine jk ?_|refine jo ?_|refine jp ?_|refine jt ?_|refine jy ?_))
    exact AskO.same (Keep.refl _ _) h 0 3
  by_cases ho2 : 14 < op
  · rw [if_pos (.inr ho2)]
    (repeat (first|refine jg ?_|refine jl ?_|refine jo ?_|refine jp ?_|refine jt ?_|refine jz ?_|refine jC ?_))
    exact AskO.same (Keep.refl _ _) h 0 3
  rw [if_neg (by omega)]
  (repeat (first|refine jg ?_|refine jl ?_|refine jp ?_|refine jt ?_|refine jz ?_|refine jD ?_))
  refine M.buildSlice_i [vi a, vi b] (by kernel_rfl) (fun w1 b1 k1 s1 => ?_)
  have h1 := h.keepN k1
  refine M.call_i (h1.none (blk2 b1) (by show 2 ≤ 1000000; omega)) ?_; rintro _ w2 ⟨rfl, rfl⟩
  by_cases hab : isN N a = false ∨ isN N b = false
  · rw [if_pos hab, show ([a, b] : List Int).any (fun i => !isN N i) = true by rcases hab with h | h <;> simp [h]]
    (repeat (refine jo ?_))
    exact AskO.same k1 h1 0 11
  · have ha : isN N a = true := by
      cases hh : isN N a
      · exact absurd (.inl hh) hab
      · rfl
    have hb : isN N b = true := by
      cases hh : isN N b
      · exact absurd (.inr hh) hab
      · rfl
    rw [if_neg hab, show ([a, b] : List Int).any (fun i => !isN N i) = false by simp [ha, hb]]
    have hwa := h.good.wd ha
    (repeat (refine jp ?_))
    refine M.call_i (h1.width a) ?_; rintro _ w3 ⟨rfl, k3⟩
    refine M.call_i ((h1.keepN k3).width b) ?_; rintro _ w4 ⟨rfl, k4⟩
    have k14 := (k1.trans k3 (fun _ _ h => h)).trans k4 (fun _ _ h => h)
    have h4 := h.keepN k14
    by_cases hw : wdN N a = wdN N b
    rotate_left
    · rw [if_pos hw]
      (repeat (first|refine jo ?_|refine jI ?_))
      exact AskO.same k14 h4 0 2
    · rw [if_neg (by simpa using hw)]
      (repeat (first|refine jp ?_|refine jJ ?_))
      refine M.call_i (h4.width a) ?_; rintro _ w5 ⟨rfl, k5⟩
      have k15 := k14.trans k5 (fun _ _ h => h)
      have h5 := h.keepN k15
      refine M.share_j (fun vals w' => vals = [vi (if 12 ≤ op then 1 else wdN N a)] ∧ w' = w5) ?_ ?_
      · rintro vals w6 ⟨rfl, rfl⟩ _
        simp only [List.getD_cons_zero, List.getD_cons_succ]
        refine M.pure_i (encN ⟨op, if 12 ≤ op then 1 else wdN N a, a, b, 0, 0⟩) (fun _ => by kernel_rfl) ?_
        have hg : goodN N ⟨op, if 12 ≤ op then 1 else wdN N a, a, b, 0, 0⟩ := by
          refine ⟨?_, fun k hk => ?_, .inr (.inr (.inr (.inl ⟨by show 1 ≤ op; omega, by show op ≤ 14; omega, hw, rfl, rfl, rfl⟩)))⟩
          · show 1 ≤ (if 12 ≤ op then (1 : Int) else wdN N a) ∧ (if 12 ≤ op then (1 : Int) else wdN N a) ≤ 64
            split <;> omega
          · unfold kidsN at hk
            rw [if_neg (by show ¬ (op = 20 ∨ op = 21); omega), if_neg (by show ¬ op = 22; omega), if_pos (by show op ≤ 14 ∨ op = 24; omega)] at hk
            simp at hk
            rcases hk with rfl | rfl
            · exact ha
            · exact hb
        refine M.call_i (makeO h5 hg (by show op ≠ 21; omega)) ?_
        rintro _ w7 ⟨F', rfl, h7⟩
        refine M.extract_i rfl ?_
        refine M.extract_i rfl ?_
        exact AskO.from k15 ⟨F', rfl, h7⟩
      · intro K hK
        by_cases h12 : 12 ≤ op
        · rw [if_pos h12] at hK
          rcases (by omega : op = 12 ∨ op = 13 ∨ op = 14) with rfl | rfl | rfl
          · (repeat (first|refine ji ?_|refine jk ?_|refine jo ?_|refine jG ?_))
            exact hK _ _ ⟨rfl, rfl⟩
          · (repeat (first|refine jg ?_|refine ji ?_|refine jk ?_|refine jl ?_|refine jo ?_|refine jG ?_|refine jH ?_))
            exact hK _ _ ⟨rfl, rfl⟩
          · (repeat (first|refine jg ?_|refine jl ?_|refine jo ?_|refine jG ?_|refine jH ?_))
            exact hK _ _ ⟨rfl, rfl⟩
        · rw [if_neg h12] at hK
          (repeat (first|refine jg ?_|refine jl ?_|refine jp ?_|refine jH ?_))
          exact hK _ _ ⟨rfl, rfl⟩
end
theorem new_ret (most : Int) (w : World) : Ret Try.prog 9 #[vi most] w (fun r w' => ∃ F p, r = ptr p ∧ DagO w' F p [] (if most < 0 ∨ 65536 < most then 0 else most) ∧ (∀ b, F b → w.heap.size ≤ b) ∧ Keep w w' No) := by
  refine ok9 _ _ _ ?_
  unfold sh9
  refine M.share_j (fun vals w' => vals = [vi (if most < 0 ∨ 65536 < most then 0 else most)] ∧ w' = w) ?_ ?_
  · rintro vals w1 ⟨rfl, rfl⟩ _
    simp only [List.getD_cons_zero, List.getD_cons_succ]
    refine M.makeMapA_i (enc := encN) (Okk := Nd.Ok) (fun w2 m2 k2 s2 => ?_)
    refine M.makeMap_i (fun w3 m3 k3 s3 => ?_)
    refine M.pure_i (.agg #[.slice none 0 0, .map (some w1.heap.size), .map (some w2.heap.size), vi (if most < 0 ∨ 65536 < most then 0 else most)]) (fun _ => by kernel_rfl) ?_
    refine M.new_i (l := [.slice none 0 0, .map (some w1.heap.size), .map (some w2.heap.size), vi (if most < 0 ∨ 65536 < most then 0 else most)]) (fun w4 b4 k4 s4 => ?_)
    have nb : ∀ b, ¬ blkOf (.slice none 0 0) b := fun b ⟨n, c, h⟩ => by simp at h
    refine ⟨fun b => b = w3.heap.size ∨ b = w1.heap.size ∨ b = w2.heap.size ∨ blkOf (.slice none 0 0) b, w3.heap.size, rfl, ⟨[], ⟨_, w1.heap.size, w2.heap.size, [], b4, GC.nil _ _ _, (m2.keep k3 (fun h => h)).keep k4 (fun h => h), m3.keep k4 (fun h => h), fun n => by simp [lkpA], fun b => Iff.rfl, by omega, by omega, by omega, fun b hb => absurd hb (nb b)⟩, ⟨by simp, fun i v h => by simp [lkp] at h⟩, fun i n h => by simp at h, by simp, by split <;> omega⟩, ?_, (k2.trans k3 (fun _ _ h => h)).trans k4 (fun _ _ h => h)⟩
    rintro b (rfl | rfl | rfl | hb)
    · omega
    · omega
    · omega
    · exact absurd hb (nb b)
  · intro K hK
    by_cases h1 : most < 0
    · rw [if_pos (.inl h1)] at hK
      (repeat (first|refine ji ?_|refine jk ?_|refine jo ?_|refine jy ?_))
      exact hK _ _ ⟨rfl, rfl⟩
    · by_cases h2 : 65536 < most
      · rw [if_pos (.inr h2)] at hK
        (repeat (first|refine jg ?_|refine jl ?_|refine jo ?_|refine jz ?_|refine jC ?_))
        exact hK _ _ ⟨rfl, rfl⟩
      · rw [if_neg (by omega)] at hK
        (repeat (first|refine jg ?_|refine jl ?_|refine jp ?_|refine jz ?_|refine jD ?_))
        exact hK _ _ ⟨rfl, rfl⟩
end Go.Proofs.Ytnbcglnefoinlaa
namespace Go.Proofs.Ytnbcglnefoinlaa
open Go.Mw Go.Maps Go.MapKept
set_option linter.unusedVariables false
set_option linter.unusedSimpArgs false
set_option maxRecDepth 100000
attribute [local irreducible] M.val M.unit M.next M.pick M.new M.nilCheck M.load1 M.loadA M.store M.fieldAddr M.indexSl M.indexArr M.slice M.makeSlice M.buildSlice M.len M.lenS M.cap M.append M.extract M.conv M.not M.neg M.bin M.shift M.eqB M.eqNil M.scat M.call M.callv M.gd M.share M.cond M.loop M.draw pureW readW Ret
def RD (w : World) (D : Nat → Prop) (v : Value) (N : List Nd) (most : Int) : Prop := ∃ A c, v = .agg ⟨[.slice A N.length c, vi most]⟩ ∧ Row w D A (NL N)
theorem RD.keep {w w' : World} {D S : Nat → Prop} {v : Value} {N : List Nd} {most : Int} (h : RD w D v N most) (k : Keep w w' S) (hs : ∀ b, b < w.heap.size → D b → ¬ S b) : RD w' D v N most := by
  obtain ⟨A, c, h1, h2⟩ := h
  exact ⟨A, c, h1, h2.keep k hs⟩
theorem RD.mono {w : World} {D D' : Nat → Prop} {v : Value} {N : List Nd} {most : Int} (h : RD w D v N most) (hd : ∀ b, b < w.heap.size → D b → D' b) : RD w D' v N most := by
  obtain ⟨A, c, h1, h2⟩ := h
  exact ⟨A, c, h1, h2.mono hd⟩
def RAsk (w : World) (D : Nat → Prop) (most : Int) (res : List Nd × Int × Int) (r : Value) (w' : World) : Prop :=
  ∃ d, r = .tuple #[d, vi res.2.1, vi res.2.2] ∧ RD w' (fun b => D b ∨ w.heap.size ≤ b) d res.1 most ∧ Keep w w' No
theorem RAsk.from {w w1 : World} {D : Nat → Prop} {most : Int} {res : List Nd × Int × Int} {r : Value} {w' : World} (k : Keep w w1 No) (h : RAsk w1 D most res r w') : RAsk w D most res r w' := by
  obtain ⟨d, h1, h2, h3⟩ := h
  have := k.size
  exact ⟨d, h1, h2.mono (fun b _ h => h.imp id (fun h => by omega)), k.trans h3 (fun _ _ h => h)⟩
section
variable {w : World} {D : Nat → Prop} {v : Value} {N : List Nd} {most : Int}
theorem rback {R : Kt} {p3 p6 : Nat} {l : List Value} {x y : Value} (b3 : Blk w p3 l) (b6 : Blk w p6 [x, y]) (hl : l.length = 2) (ho : ∀ v ∈ l, v.oneCell' = true) (hR : ∀ w', Keep w w' (· = p6) → R (.agg ⟨l⟩) w') :
    M.loadA 2 (ptr p3) (fun t w => M.store 2 (ptr p6) t (fun _ w => M.loadA 2 (ptr p6) (fun r0 w => R r0 w) w) w) w := by
  refine M.loadAll_i b3 hl ?_
  refine M.storeAll_i b6 hl rfl ho (fun w1 b1 k1 s1 => ?_)
  exact M.loadAll_i b1 hl (hR w1 k1)
end
end Go.Proofs.Ytnbcglnefoinlaa
namespace Go.Proofs.Ytnbcglnefoinlaa
open Go.Mw Go.Maps Go.MapKept
set_option linter.unusedVariables false
set_option linter.unusedSimpArgs false
set_option maxRecDepth 100000
attribute [local irreducible] M.val M.unit M.next M.pick M.new M.nilCheck M.load1 M.loadA M.store M.fieldAddr M.indexSl M.indexArr M.slice M.makeSlice M.buildSlice M.len M.lenS M.cap M.append M.extract M.conv M.not M.neg M.bin M.shift M.eqB M.eqNil M.scat M.call M.callv M.gd M.share M.cond M.loop M.draw pureW readW Ret
section
variable {w : World} {D : Nat → Prop} {v : Value} {N : List Nd} {most : Int}
structure RB (w w' : World) (v : Value) (p3 p6 : Nat) (l : List Value) : Prop where
  k : Keep w w' No
  b3 : Blk w' p3 l
  b6 : ∃ x y, Blk w' p6 [x, y]
  e : v = .agg ⟨l⟩
  len : l.length = 2
  one : ∀ x ∈ l, x.oneCell' = true
  n3 : w.heap.size ≤ p3
  n6 : w.heap.size ≤ p6
  ne : p3 ≠ p6
theorem RB.step {w w' w2 : World} {v : Value} {p3 p6 : Nat} {l : List Value} (h : RB w w' v p3 p6 l) (k : Keep w' w2 No) : RB w w2 v p3 p6 l :=
  ⟨h.k.trans k (fun _ _ h => h), h.b3.keep k (fun h => h), by obtain ⟨x, y, b⟩ := h.b6; exact ⟨x, y, b.keep k (fun h => h)⟩, h.e, h.len, h.one, h.n3, h.n6, h.ne⟩
theorem RB.no {w w' : World} {p3 p6 : Nat} {l : List Value} {k : Kt} {i e : Int} (h : RB w w' v p3 p6 l) (hd : RD w D v N most) (hk : ∀ r w', RAsk w D most (N, i, e) r w' → k r w') :
    M.loadA 2 (ptr p3) (fun t w => M.store 2 (ptr p6) t (fun _ w => M.loadA 2 (ptr p6) (fun r0 w => k (.tuple #[r0, vi i, vi e]) w) w) w) w' := by
  obtain ⟨x, y, b6⟩ := h.b6
  have n6 := h.n6
  refine rback (R := fun r0 w => k (.tuple #[r0, vi i, vi e]) w) h.b3 b6 h.len h.one (fun w2 k2 => hk _ _ ?_)
  have k2' : Keep w w2 No := h.k.trans k2 (fun b hb h => by omega)
  rw [← h.e]
  exact ⟨v, rfl, (hd.keep k2' (fun _ _ _ h => h)).mono (fun _ _ h => .inl h), k2'⟩
end
end Go.Proofs.Ytnbcglnefoinlaa
namespace Go.Proofs.Ytnbcglnefoinlaa
open Go.Mw Go.Maps Go.MapKept
set_option linter.unusedVariables false
set_option linter.unusedSimpArgs false
set_option maxRecDepth 100000
attribute [local irreducible] M.val M.unit M.next M.pick M.new M.nilCheck M.load1 M.loadA M.store M.fieldAddr M.indexSl M.indexArr M.slice M.makeSlice M.buildSlice M.len M.lenS M.cap M.append M.extract M.conv M.not M.neg M.bin M.shift M.eqB M.eqNil M.scat M.call M.callv M.gd M.share M.cond M.loop M.draw pureW readW Ret
section
variable {w : World} {D : Nat → Prop} {v : Value} {N : List Nd} {most : Int}
end
end Go.Proofs.Ytnbcglnefoinlaa
namespace Go.Proofs.Ytnbcglnefoinlaa
open Go.Mw Go.Maps Go.MapKept
set_option linter.unusedVariables false
set_option linter.unusedSimpArgs false
set_option maxRecDepth 100000
attribute [local irreducible] M.val M.unit M.next M.pick M.new M.nilCheck M.load1 M.loadA M.store M.fieldAddr M.indexSl M.indexArr M.slice M.makeSlice M.buildSlice M.len M.lenS M.cap M.append M.extract M.conv M.not M.neg M.bin M.shift M.eqB M.eqNil M.scat M.call M.callv M.gd M.share M.cond M.loop M.draw pureW readW Ret
section
variable {w : World} {D : Nat → Prop} {v : Value} {N : List Nd} {most : Int}
end
end Go.Proofs.Ytnbcglnefoinlaa
namespace Go.Proofs.Ytnbcglnefoinlaa
open Go.Mw
set_option linter.unusedVariables false
set_option linter.unusedSimpArgs false
set_option maxRecDepth 100000
attribute [local irreducible] M.val M.unit M.next M.pick M.new M.nilCheck M.load1 M.loadA M.store M.fieldAddr M.indexSl M.indexArr M.slice M.makeSlice M.buildSlice M.len M.lenS M.cap M.append M.extract M.conv M.not M.neg M.bin M.shift M.eqB M.eqNil M.scat M.call M.callv M.gd M.share M.cond M.loop M.draw pureW readW Ret
def oneV (N : List Nd) (n : Nd) (get : Int → W64) (env : List W64) : W64 :=
  if n.op = 20 then n.val
  else if n.op = 21 then (if n.a < (env.length : Int) then cutW n.wd (env.getD n.a.toNat 0) else 0)
  else if n.op = 22 then (if get n.a = 1 then get n.b else get n.c)
  else if n.op = 23 then cutW n.wd (get n.a >>> n.b.toNat)
  else if n.op = 24 then (get n.a <<< (wdN N n.b).toNat) ||| get n.b
  else if n.op = 25 then get n.a
  else if n.op = 26 then cutW n.wd (sgnW (wdN N n.a) (get n.a))
  else if n.op = 15 ∨ n.op = 16 then unW n.op n.wd (get n.a)
  else binW n.op (wdN N n.a) (get n.a) (get n.b)
def valsU (N : List Nd) (env : List W64) : Nat → List W64
  | 0 => []
  | i + 1 => valsU N env i ++ [match N[i]? with
    | some n => oneV N n (fun k => (valsU N env i).getD k.toNat 0) env
    | none => 0]
def wordAt (N : List Nd) (env : List W64) (k : Int) : W64 := (valsU N env N.length).getD k.toNat 0
theorem valsU_len (N : List Nd) (env : List W64) : ∀ i, (valsU N env i).length = i
  | 0 => rfl
  | i + 1 => by simp [valsU, valsU_len N env i]
theorem valsU_get {N : List Nd} {env : List W64} {k : Nat} : ∀ {i j : Nat}, k < i → i ≤ j → (valsU N env j).getD k 0 = (valsU N env i).getD k 0
  | i, 0, h1, h2 => by omega
  | i, j + 1, h1, h2 => by
    by_cases e : i = j + 1
    · rw [e]
    · rw [← valsU_get (i := i) (j := j) h1 (by omega)]
      simp only [valsU, List.getD_eq_getElem?_getD]
      rw [List.getElem?_append_left (by rw [valsU_len]; omega)]
theorem wordAt_pre {N : List Nd} {env : List W64} {k : Int} {i : Nat} (h0 : 0 ≤ k) (h1 : k < i) (h2 : i ≤ N.length) : wordAt N env k = (valsU N env i).getD k.toNat 0 := valsU_get (by omega) h2
theorem oneV_congr {N M : List Nd} {n : Nd} {g g' : Int → W64} {env : List W64} (hg : goodN M n) (h : ∀ k ∈ kidsN n, g k = g' k) : oneV N n g env = oneV N n g' env := by
  obtain ⟨_, _, h3⟩ := hg
  unfold oneV
  rcases h3 with ⟨ho, _⟩ | ⟨ho, _⟩ | ⟨ho, _⟩ | ⟨ho, ho2, _⟩ | ⟨ho, _⟩ | ⟨ho, _⟩ | ⟨ho, _⟩ | ⟨ho, _⟩
  · rw [if_pos ho, if_pos ho]
  · simp only [if_neg (show ¬ n.op = 20 by omega), if_pos ho]
  · have hk : kidsN n = [n.a] := by
      unfold kidsN
      rw [if_neg (by omega), if_neg (by omega), if_neg (by omega)]
    rw [hk] at h
    have ha := h n.a (by simp)
    simp only [if_neg (show ¬ n.op = 20 by omega), if_neg (show ¬ n.op = 21 by omega), if_neg (show ¬ n.op = 22 by omega), if_neg (show ¬ n.op = 23 by omega), if_neg (show ¬ n.op = 24 by omega), if_neg (show ¬ n.op = 25 by omega), if_neg (show ¬ n.op = 26 by omega), if_pos ho, ha]
  · have hk : kidsN n = [n.a, n.b] := by
      unfold kidsN
      rw [if_neg (by omega), if_neg (by omega), if_pos (by omega)]
    rw [hk] at h
    have ha := h n.a (by simp)
    have hb := h n.b (by simp)
    simp only [if_neg (show ¬ n.op = 20 by omega), if_neg (show ¬ n.op = 21 by omega), if_neg (show ¬ n.op = 22 by omega), if_neg (show ¬ n.op = 23 by omega), if_neg (show ¬ n.op = 24 by omega), if_neg (show ¬ n.op = 25 by omega), if_neg (show ¬ n.op = 26 by omega), if_neg (show ¬ (n.op = 15 ∨ n.op = 16) by omega), ha, hb]
  · have hk : kidsN n = [n.a, n.b, n.c] := by
      unfold kidsN
      rw [if_neg (by omega), if_pos ho]
    rw [hk] at h
    have ha := h n.a (by simp)
    have hb := h n.b (by simp)
    have hc := h n.c (by simp)
    simp only [if_neg (show ¬ n.op = 20 by omega), if_neg (show ¬ n.op = 21 by omega), if_pos ho, ha, hb, hc]
  · have hk : kidsN n = [n.a] := by
      unfold kidsN
      rw [if_neg (by omega), if_neg (by omega), if_neg (by omega)]
    rw [hk] at h
    have ha := h n.a (by simp)
    simp only [if_neg (show ¬ n.op = 20 by omega), if_neg (show ¬ n.op = 21 by omega), if_neg (show ¬ n.op = 22 by omega), if_pos ho, ha]
  · have hk : kidsN n = [n.a, n.b] := by
      unfold kidsN
      rw [if_neg (by omega), if_neg (by omega), if_pos (by omega)]
    rw [hk] at h
    have ha := h n.a (by simp)
    have hb := h n.b (by simp)
    simp only [if_neg (show ¬ n.op = 20 by omega), if_neg (show ¬ n.op = 21 by omega), if_neg (show ¬ n.op = 22 by omega), if_neg (show ¬ n.op = 23 by omega), if_pos ho, ha, hb]
  · have hk : kidsN n = [n.a] := by
      unfold kidsN
      rw [if_neg (by omega), if_neg (by omega), if_neg (by omega)]
    rw [hk] at h
    have ha := h n.a (by simp)
    rcases ho with ho | ho
    · simp only [if_neg (show ¬ n.op = 20 by omega), if_neg (show ¬ n.op = 21 by omega), if_neg (show ¬ n.op = 22 by omega), if_neg (show ¬ n.op = 23 by omega), if_neg (show ¬ n.op = 24 by omega), if_pos ho, ha]
    · simp only [if_neg (show ¬ n.op = 20 by omega), if_neg (show ¬ n.op = 21 by omega), if_neg (show ¬ n.op = 22 by omega), if_neg (show ¬ n.op = 23 by omega), if_neg (show ¬ n.op = 24 by omega), if_neg (show ¬ n.op = 25 by omega), if_pos ho, ha]
theorem valsU_at {N : List Nd} {env : List W64} {i : Nat} {n : Nd} (hi : N[i]? = some n) : (valsU N env (i + 1)).getD i 0 = oneV N n (fun k => (valsU N env i).getD k.toNat 0) env := by
  simp only [valsU, List.getD_eq_getElem?_getD, hi]
  rw [List.getElem?_append_right (by rw [valsU_len]; omega), valsU_len]
  simp
theorem wordAt_one {N : List Nd} {env : List W64} (hG : GoodN N) {i : Nat} {n : Nd} (hi : N[i]? = some n) : wordAt N env i = oneV N n (wordAt N env) env := by
  have hl := (List.getElem?_eq_some_iff.1 hi).1
  have hg := hG i n hi
  rw [wordAt_pre (i := i + 1) (by omega) (by omega) (by omega), Int.toNat_natCast, valsU_at hi]
  refine oneV_congr hg (fun k hk => ?_)
  have := isN_iff.1 (hg.2.1 k hk)
  rw [List.length_take] at this
  rw [wordAt_pre (i := i) (by omega) (by omega) (by omega)]
theorem kids_lt {N : List Nd} (hG : GoodN N) {i : Nat} {n : Nd} (hi : N[i]? = some n) {k : Int} (hk : k ∈ kidsN n) : 0 ≤ k ∧ k < i := by
  have := isN_iff.1 ((hG i n hi).2.1 k hk)
  rw [List.length_take] at this
  omega
structure Once (N : List Nd) (id : Int) (st : List Int) (held : List Int) (E : List Int) : Prop where
  rng : ∀ x ∈ st, isN N x = true
  hrng : ∀ x ∈ held, isN N x = true
  first : st = [] → id ∈ held
  clo : ∀ (i : Nat) n, (i : Int) ∈ held → N[i]? = some n → ∀ k ∈ kidsN n, k ∈ held
  ernge : ∀ x ∈ E, isN N x = true
  nodup : E.Nodup
  pos : ∀ (t : Nat) n, (t : Int) ∈ E → (t : Int) ∉ held → N[t]? = some n → ∃ q : Nat, st[q]? = some (t : Int) ∧ (∀ (r : Nat) x, q < r → st[r]? = some x → x < t) ∧ ∀ k ∈ kidsN n, k ∈ held ∨ ∃ r : Nat, q < r ∧ st[r]? = some k
  base : st ≠ [] → st[0]? = some id
def onceM (N : List Nd) (st E : List Int) : Nat := 4 * (N.length - E.length) + st.length
theorem sub_len {α : Type} : ∀ (a b : List α), a.Nodup → (∀ x ∈ a, x ∈ b) → a.length ≤ b.length
  | [], b, _, _ => by simp
  | x :: a, b, hn, hs => by
    obtain ⟨p, q, rfl⟩ := List.append_of_mem (hs x List.mem_cons_self)
    obtain ⟨h1, h2⟩ := List.nodup_cons.1 hn
    have := sub_len a (p ++ q) h2 (fun y hy => by
      rcases List.mem_append.1 (hs y (List.mem_cons_of_mem _ hy)) with h | h
      · exact List.mem_append_left _ h
      · rcases List.mem_cons.1 h with h | h
        · exact absurd (h ▸ hy) h1
        · exact List.mem_append_right _ h)
    simp at this ⊢; omega
theorem nodup_range {N : List Nd} {E : List Int} (h : E.Nodup) (hr : ∀ x ∈ E, isN N x = true) : E.length ≤ N.length := by
  have hsub : ∀ x ∈ E, x ∈ (List.range N.length).map (fun i : Nat => (i : Int)) := fun x hx => by
    have := isN_iff.1 (hr x hx)
    exact List.mem_map.2 ⟨x.toNat, by rw [List.mem_range]; omega, by omega⟩
  have := sub_len _ _ h hsub
  simpa using this
theorem Once.pop {N : List Nd} {id : Int} {st held E : List Int} {t : Nat} {n : Nd} (h : Once N id (st ++ [(t : Int)]) held E) (hn : N[t]? = some n) (hk : ∀ k ∈ kidsN n, k ∈ held) (hG : GoodN N) :
    ∀ held', (∀ x, x ∈ held' ↔ x = (t : Int) ∨ x ∈ held) → Once N id st held' E := by
  intro held' hh
  have htN : isN N t = true := isN_iff.2 ⟨by omega, by have := (List.getElem?_eq_some_iff.1 hn).1; omega⟩
  refine ⟨fun x hx => h.rng x (List.mem_append_left _ hx), fun x hx => ?_, fun he => ?_, fun i m hi hm k hkk => ?_, h.ernge, h.nodup, fun u m hu hnh hm => ?_, fun hne => ?_⟩
  · rcases (hh x).1 hx with rfl | hx
    · exact htN
    · exact h.hrng x hx
  · subst he
    have := h.base (by simp)
    simp at this
    exact (hh id).2 (.inl this.symm)
  · rcases (hh _).1 hi with e | hi
    · have : i = t := by omega
      subst this
      rw [hn] at hm; cases hm
      exact (hh k).2 (.inr (hk k hkk))
    · exact (hh k).2 (.inr (h.clo i m hi hm k hkk))
  · have hut : ¬ (u : Int) = t := fun e => hnh ((hh _).2 (.inl e))
    obtain ⟨q, h1, h2, h3⟩ := h.pos u m hu (fun hc => hnh ((hh _).2 (.inr hc))) hm
    have hq : q < st.length := by
      have h4 := (List.getElem?_eq_some_iff.1 h1).1
      rw [List.length_append, List.length_singleton] at h4
      rcases Nat.lt_or_ge q st.length with h5 | h5
      · exact h5
      · exfalso
        rw [List.getElem?_append_right h5] at h1
        have : q - st.length = 0 := by omega
        rw [this] at h1
        simp at h1
        exact hut h1.symm
    refine ⟨q, by rw [List.getElem?_append_left hq] at h1; exact h1, fun r x hr hx => h2 r x hr ?_, fun k hkk => ?_⟩
    · rw [List.getElem?_append_left (List.getElem?_eq_some_iff.1 hx).1]; exact hx
    · rcases h3 k hkk with h4 | ⟨r, hr, hx⟩
      · exact .inl ((hh k).2 (.inr h4))
      · by_cases hrl : r < st.length
        · exact .inr ⟨r, hr, by rw [List.getElem?_append_left hrl] at hx; exact hx⟩
        · rw [List.getElem?_append_right (by omega)] at hx
          have h5 := (List.getElem?_eq_some_iff.1 hx).1
          simp only [List.length_singleton] at h5
          have : r - st.length = 0 := by omega
          rw [this] at hx
          simp at hx
          exact .inl ((hh k).2 (.inl hx.symm))
  · have := h.base (by simp)
    cases st with
    | nil => exact absurd rfl hne
    | cons a l => simpa using this
theorem Once.push {N : List Nd} {id : Int} {st held E ks : List Int} {t : Nat} {n : Nd} (h : Once N id (st ++ [(t : Int)]) held E) (hn : N[t]? = some n) (hG : GoodN N) (hks : ks = (kidsN n).filter (fun k => decide (k ∉ held))) (hne : ks ≠ []) :
    Once N id (st ++ [(t : Int)] ++ ks) held ((t : Int) :: E) ∧ onceM N (st ++ [(t : Int)] ++ ks) ((t : Int) :: E) < onceM N (st ++ [(t : Int)]) E := by
  have htN : isN N t = true := isN_iff.2 ⟨by omega, by have := (List.getElem?_eq_some_iff.1 hn).1; omega⟩
  have hmem : ∀ k ∈ ks, k ∈ kidsN n ∧ k ∉ held := fun k hk => by
    rw [hks, List.mem_filter] at hk
    exact ⟨hk.1, by simpa using hk.2⟩
  have hkl : ks.length ≤ 3 := by
    rw [hks]
    refine Nat.le_trans (List.length_filter_le _ _) ?_
    unfold kidsN
    split
    · simp
    · split
      · simp
      · split <;> simp
  obtain ⟨k0, hk0⟩ : ∃ k, k ∈ ks := by
    cases ks with
    | nil => exact absurd rfl hne
    | cons a l => exact ⟨a, List.mem_cons_self⟩
  have htop : (st ++ [(t : Int)])[st.length]? = some (t : Int) := by simp
  have htE : (t : Int) ∉ E := fun hE => by
    have hth : (t : Int) ∉ held := fun hh => (hmem k0 hk0).2 (h.clo t n hh hn k0 (hmem k0 hk0).1)
    obtain ⟨q, h1, h2, h3⟩ := h.pos t n hE hth hn
    have hql : q < (st ++ [(t : Int)]).length := (List.getElem?_eq_some_iff.1 h1).1
    rw [List.length_append, List.length_singleton] at hql
    by_cases hq : q < st.length
    · have := h2 st.length t hq htop
      omega
    · have hq : q = st.length := by omega
      subst hq
      rcases h3 k0 (hmem k0 hk0).1 with h4 | ⟨r, hr, hx⟩
      · exact (hmem k0 hk0).2 h4
      · have := (List.getElem?_eq_some_iff.1 hx).1
        rw [List.length_append, List.length_singleton] at this
        omega
  have hlt : ∀ k ∈ ks, 0 ≤ k ∧ k < t := fun k hk => kids_lt hG hn (hmem k hk).1
  have hEn : ((t : Int) :: E).Nodup := List.nodup_cons.2 ⟨htE, h.nodup⟩
  have hEr : ∀ x ∈ (t : Int) :: E, isN N x = true := fun x hx => by
    rcases List.mem_cons.1 hx with rfl | hx
    · exact htN
    · exact h.ernge x hx
  have hEl := nodup_range hEn hEr
  refine ⟨⟨fun x hx => ?_, h.hrng, fun he => by simp at he, h.clo, hEr, hEn, fun u m hu hnh hm => ?_, fun _ => ?_⟩, ?_⟩
  · rcases List.mem_append.1 hx with hx | hx
    · exact h.rng x hx
    · have := hlt x hx
      have := isN_iff.1 htN
      exact isN_iff.2 ⟨by omega, by omega⟩
  · by_cases hut : (u : Int) = t
    · have : u = t := by omega
      subst this
      rw [hn] at hm; cases hm
      refine ⟨st.length, ?_, fun r x hr hx => ?_, fun k hkk => ?_⟩
      · rw [List.getElem?_append_left (by simp)]; exact htop
      · rw [List.getElem?_append_right (by simp; omega)] at hx
        exact (hlt x (List.mem_of_getElem? hx)).2
      · by_cases hkh : k ∈ held
        · exact .inl hkh
        · right
          have : k ∈ ks := by rw [hks, List.mem_filter]; exact ⟨hkk, by simpa using hkh⟩
          obtain ⟨j, hj⟩ := List.mem_iff_getElem?.1 this
          refine ⟨(st ++ [(u : Int)]).length + j, by simp; omega, ?_⟩
          rw [List.getElem?_append_right (by omega)]
          simpa using hj
    · have huE : (u : Int) ∈ E := by
        rcases List.mem_cons.1 hu with h | h
        · exact absurd h hut
        · exact h
      obtain ⟨q, h1, h2, h3⟩ := h.pos u m huE hnh hm
      have hql := (List.getElem?_eq_some_iff.1 h1).1
      have hq : q < st.length := by
        rw [List.length_append, List.length_singleton] at hql
        rcases Nat.lt_or_ge q st.length with h5 | h5
        · exact h5
        · exfalso
          have : q = st.length := by omega
          subst this
          rw [htop] at h1
          exact hut (Option.some.inj h1).symm
      have htu : (t : Int) < u := h2 st.length t hq htop
      refine ⟨q, by rw [List.getElem?_append_left hql]; exact h1, fun r x hr hx => ?_, fun k hkk => ?_⟩
      · by_cases hrl : r < (st ++ [(t : Int)]).length
        · rw [List.getElem?_append_left hrl] at hx
          exact h2 r x hr hx
        · rw [List.getElem?_append_right (by omega)] at hx
          have := hlt x (List.mem_of_getElem? hx)
          omega
      · rcases h3 k hkk with h4 | ⟨r, hr, hx⟩
        · exact .inl h4
        · exact .inr ⟨r, hr, by rw [List.getElem?_append_left (List.getElem?_eq_some_iff.1 hx).1]; exact hx⟩
  · have := h.base (by simp)
    rw [List.getElem?_append_left (by simp)]; exact this
  · unfold onceM
    have e1 : (st ++ [(t : Int)] ++ ks).length = (st ++ [(t : Int)]).length + ks.length := List.length_append
    rw [e1, List.length_cons]
    rw [List.length_cons] at hEl
    have : 1 ≤ ks.length := by
      cases ks with
      | nil => exact absurd rfl hne
      | cons a l => simp
    omega
end Go.Proofs.Ytnbcglnefoinlaa
namespace Go.Proofs.Ytnbcglnefoinlaa
open Go.Mw Go.Maps Go.MapKept
set_option linter.unusedVariables false
set_option linter.unusedSimpArgs false
set_option maxRecDepth 100000
attribute [local irreducible] M.val M.unit M.next M.pick M.new M.nilCheck M.load1 M.loadA M.store M.fieldAddr M.indexSl M.indexArr M.slice M.makeSlice M.buildSlice M.len M.lenS M.cap M.append M.extract M.conv M.not M.neg M.bin M.shift M.eqB M.eqNil M.scat M.call M.callv M.gd M.share M.cond M.loop M.draw pureW readW Ret
section
variable {N : List Nd} {n : Nd} {f : Int → W64} {env : List W64}
end
theorem kids_one {n : Nd} (h : n.op ≠ 20 ∧ n.op ≠ 21 ∧ n.op ≠ 22 ∧ ¬ n.op ≤ 14 ∧ n.op ≠ 24) : kidsN n = [n.a] := by
  unfold kidsN
  rw [if_neg (by omega), if_neg (by omega), if_neg (by omega)]
theorem kids_two {n : Nd} (h : (1 ≤ n.op ∧ n.op ≤ 14) ∨ n.op = 24) : kidsN n = [n.a, n.b] := by
  unfold kidsN
  rw [if_neg (by omega), if_neg (by omega), if_pos (by omega)]
theorem kids_three {n : Nd} (h : n.op = 22) : kidsN n = [n.a, n.b, n.c] := by
  unfold kidsN
  rw [if_neg (by omega), if_pos h]
end Go.Proofs.Ytnbcglnefoinlaa
namespace Go.Proofs.Ytnbcglnefoinlaa
open Go.Mw Go.Maps Go.MapKept
set_option linter.unusedVariables false
set_option linter.unusedSimpArgs false
set_option maxRecDepth 100000
attribute [local irreducible] M.val M.unit M.next M.pick M.new M.nilCheck M.load1 M.loadA M.store M.fieldAddr M.indexSl M.indexArr M.slice M.makeSlice M.buildSlice M.len M.lenS M.cap M.append M.extract M.conv M.not M.neg M.bin M.shift M.eqB M.eqNil M.scat M.call M.callv M.gd M.share M.cond M.loop M.draw pureW readW Ret
end Go.Proofs.Ytnbcglnefoinlaa
namespace Go.Proofs.Ytnbcglnefoinlaa
open Go.Mw
set_option linter.unusedVariables false
set_option linter.unusedSimpArgs false
set_option maxRecDepth 100000
attribute [local irreducible] M.val M.unit M.next M.pick M.new M.nilCheck M.load1 M.loadA M.store M.fieldAddr M.indexSl M.indexArr M.slice M.makeSlice M.buildSlice M.len M.lenS M.cap M.append M.extract M.conv M.not M.neg M.bin M.shift M.eqB M.eqNil M.scat M.call M.callv M.gd M.share M.cond M.loop M.draw pureW readW Ret
end Go.Proofs.Ytnbcglnefoinlaa
namespace Go.Proofs.Ytnbcglnefoinlaa
open Go.Mw
set_option linter.unusedVariables false
set_option linter.unusedSimpArgs false
inductive Fol (l : List (List Int)) (set : List Int) : Int → Prop where
  | base (x : Int) : x ∈ set → ¬ x < 0 → Fol l set x
  | step (c : List Int) (x : Int) : c ∈ l → x ∈ c → ¬ x < 0 → (∀ y ∈ c, ¬ y < 0 → y ≠ x → Fol l set (notOf y)) → Fol l set x
def Bot (l : List (List Int)) (set : List Int) : Prop := (∃ x, Fol l set x ∧ Fol l set (notOf x)) ∨ ∃ c ∈ l, ∀ y ∈ c, ¬ y < 0 → Fol l set (notOf y)
theorem Fol.nonneg {l : List (List Int)} {set : List Int} {x : Int} (h : Fol l set x) : ¬ x < 0 := by
  cases h with
  | base _ _ h => exact h
  | step _ _ _ _ h _ => exact h
theorem notOf_notOf (x : Int) : notOf (notOf x) = x := by
  unfold notOf flip1
  by_cases h : x < 0
  · simp [h]
  · by_cases h2 : x % 2 = 0
    · have h3 : ¬ x + 1 < 0 := by omega
      have h4 : ¬ (x + 1) % 2 = 0 := by omega
      simp [h, h2, h3, h4]
    · have h3 : ¬ x - 1 < 0 := by omega
      have h4 : (x - 1) % 2 = 0 := by omega
      simp [h, h2, h3, h4]
theorem notOf_ne {x : Int} (h : ¬ x < 0) : notOf x ≠ x := by
  unfold notOf flip1
  rw [if_neg h]
  split <;> omega
def heldC (s c : List Int) : Bool := c.any (fun x => decide (0 ≤ x) && decide (x ∈ s))
def openC (s c : List Int) : List Int := c.filter (fun x => decide (0 ≤ x) && (decide (x ∉ s) && decide (notOf x ∉ s)))
structure Stp (l : List (List Int)) (set s : List Int) : Prop where
  fol : ∀ x ∈ s, Fol l set x
  has : ∀ x ∈ set, ¬ x < 0 → x ∈ s
  cons : ∀ x ∈ s, notOf x ∉ s
theorem heldC_iff {s c : List Int} : heldC s c = true ↔ ∃ x ∈ c, 0 ≤ x ∧ x ∈ s := by
  simp [heldC, List.any_eq_true]
theorem mem_openC {s c : List Int} {x : Int} : x ∈ openC s c ↔ x ∈ c ∧ 0 ≤ x ∧ x ∉ s ∧ notOf x ∉ s := by
  simp [openC, List.mem_filter]
theorem Stp.add {l : List (List Int)} {set s c : List Int} {x : Int} (h : Stp l set s) (hc : c ∈ l) (hh : heldC s c = false) (hx : x ∈ openC s c) (ho : ∀ y ∈ openC s c, y = x) : Fol l set x ∧ notOf x ∉ s ∧ x ∉ s ∧ ¬ x < 0 := by
  obtain ⟨h1, h2, h3, h4⟩ := mem_openC.1 hx
  refine ⟨.step c x hc h1 (by omega) (fun y hy hy0 hne => ?_), h4, h3, by omega⟩
  by_cases hn : notOf y ∈ s
  · exact h.fol _ hn
  · exfalso
    by_cases hs : y ∈ s
    · have : heldC s c = true := heldC_iff.2 ⟨y, hy, by omega, hs⟩
      rw [hh] at this; simp at this
    · exact hne (ho y (mem_openC.2 ⟨hy, by omega, hs, hn⟩))
theorem Stp.push {l : List (List Int)} {set s s' : List Int} {x : Int} (h : Stp l set s) (hs : ∀ y, y ∈ s' ↔ y = x ∨ y ∈ s) (hf : Fol l set x) (hn : notOf x ∉ s) : Stp l set s' := by
  refine ⟨fun y hy => ?_, fun y hy hy0 => (hs y).2 (.inr (h.has y hy hy0)), fun y hy hny => ?_⟩
  · rcases (hs y).1 hy with rfl | hy
    · exact hf
    · exact h.fol y hy
  · rcases (hs _).1 hny with e | hny
    · rcases (hs y).1 hy with rfl | hy
      · exact notOf_ne hf.nonneg e
      · exact hn (by rw [← e, notOf_notOf]; exact hy)
    · rcases (hs y).1 hy with rfl | hy
      · exact hn hny
      · exact h.cons y hy hny
theorem Stp.done {l : List (List Int)} {set s : List Int} (h : Stp l set s) (hd : ∀ c ∈ l, heldC s c = true ∨ ∃ x y, x ∈ openC s c ∧ y ∈ openC s c ∧ x ≠ y) : (∀ x, x ∈ s ↔ Fol l set x) ∧ ¬ Bot l set := by
  have key : ∀ x, Fol l set x → x ∈ s := by
    intro x hx
    induction hx with
    | base x h1 h2 => exact h.has x h1 h2
    | step c x hc hxc hx0 _ ih =>
      rcases hd c hc with hh | ⟨a, b, ha, hb, hab⟩
      · obtain ⟨y, hy, hy0, hys⟩ := heldC_iff.1 hh
        by_cases hyx : y = x
        · exact hyx ▸ hys
        · exact absurd (ih y hy (by omega) hyx) (h.cons y hys)
      · exfalso
        obtain ⟨a1, a2, a3, a4⟩ := mem_openC.1 ha
        obtain ⟨b1, b2, b3, b4⟩ := mem_openC.1 hb
        by_cases hax : a = x
        · exact b4 (ih b b1 (by omega) (fun e => hab (by rw [hax, e])))
        · exact a4 (ih a a1 (by omega) hax)
  refine ⟨fun x => ⟨h.fol x, key x⟩, ?_⟩
  rintro (⟨x, h1, h2⟩ | ⟨c, hc, hall⟩)
  · exact h.cons x (key x h1) (key _ h2)
  · rcases hd c hc with hh | ⟨a, b, ha, _, _⟩
    · obtain ⟨y, hy, hy0, hys⟩ := heldC_iff.1 hh
      exact h.cons y hys (key _ (hall y hy (by omega)))
    · obtain ⟨a1, a2, a3, a4⟩ := mem_openC.1 ha
      exact a4 (key _ (hall a a1 (by omega)))
def CloseR (l : List (List Int)) (set out : List Int) (ok : Bool) : Prop := (ok = false ∧ out = [] ∧ Bot l set) ∨ (ok = true ∧ ¬ Bot l set ∧ out.Pairwise (· < ·) ∧ ∀ y, y ∈ out ↔ Fol l set y)
theorem CloseR.ok {l : List (List Int)} {set s : List Int} (h : Stp l set s) (hd : ∀ c ∈ l, heldC s c = true ∨ ∃ x y, x ∈ openC s c ∧ y ∈ openC s c ∧ x ≠ y) : CloseR l set (srt s) true := by
  obtain ⟨h1, h2⟩ := h.done hd
  exact .inr ⟨rfl, h2, srt_lt _, fun y => by rw [mem_srt, h1]⟩
theorem CloseR.no {l : List (List Int)} {set : List Int} (h : Bot l set) : CloseR l set [] false := .inl ⟨rfl, rfl, h⟩
end Go.Proofs.Ytnbcglnefoinlaa
namespace Go.Proofs.Ytnbcglnefoinlaa
open Go.Mw
set_option linter.unusedVariables false
set_option linter.unusedSimpArgs false
set_option maxRecDepth 100000
attribute [local irreducible] M.val M.unit M.next M.pick M.new M.nilCheck M.load1 M.loadA M.store M.fieldAddr M.indexSl M.indexArr M.slice M.makeSlice M.buildSlice M.len M.lenS M.cap M.append M.extract M.conv M.not M.neg M.bin M.shift M.eqB M.eqNil M.scat M.call M.callv M.gd M.share M.cond M.loop M.draw pureW readW Ret
structure LLr (w : World) (D : Nat → Prop) (A : Option Addr) (vs : List Value) (l : List (List Int)) : Prop where
  row : Row w D A vs
  len : vs.length = l.length
  all : ∀ (i : Nat) c, l[i]? = some c → ∃ u, vs[i]? = some u ∧ LV vi w D u c
def LL (w : World) (D : Nat → Prop) (v : Value) (l : List (List Int)) : Prop := ∃ A c vs, v = .slice A l.length c ∧ LLr w D A vs l ∧ l.length ≤ c
theorem LLr.keep {w w' : World} {D S : Nat → Prop} {A : Option Addr} {vs : List Value} {l : List (List Int)} (h : LLr w D A vs l) (k : Keep w w' S) (hs : ∀ b, b < w.heap.size → D b → ¬ S b) : LLr w' D A vs l :=
  ⟨h.row.keep k hs, h.len, fun i c hc => by obtain ⟨u, g1, g2⟩ := h.all i c hc; exact ⟨u, g1, g2.keep k hs⟩⟩
theorem LL.keep {w w' : World} {D S : Nat → Prop} {v : Value} {l : List (List Int)} (h : LL w D v l) (k : Keep w w' S) (hs : ∀ b, b < w.heap.size → D b → ¬ S b) : LL w' D v l := by
  obtain ⟨A, c, vs, h1, h2, h3⟩ := h
  exact ⟨A, c, vs, h1, h2.keep k hs, h3⟩
theorem M.idxLL_i {k : Kt} {w : World} {D : Nat → Prop} {A : Option Addr} {vs : List Value} {l : List (List Int)} {n cc : Nat} {d : IntKind} {i : Int} (h : LLr w D A vs l) (hn : l.length = n) (h0 : 0 ≤ i) {c : List Int} (hc : l[i.toNat]? = some c)
    (hk : ∀ b o u, w.cell? ⟨b, o + i.toNat, none⟩ = some u → LV vi w D u c → k (.pointer (some ⟨b, o + i.toNat, none⟩)) w) : M.indexSl 1 (.slice A n cc) (.int d i) k w := by
  obtain ⟨u, g1, g2⟩ := h.all _ _ hc
  have hlt := (List.getElem?_eq_some_iff.1 hc).1
  refine M.idxRow_i h.row (by rw [h.len, hn]) h0 (by omega) (fun b o hA hcc => hk b o u ?_ g2)
  rw [hcc, g1]
end Go.Proofs.Ytnbcglnefoinlaa
