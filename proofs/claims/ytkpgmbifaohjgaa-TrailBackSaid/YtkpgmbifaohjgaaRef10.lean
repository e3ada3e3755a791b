import Derived.Test.YtkpgmbifaohjgaaLaw10
namespace Go.Proofs.Ytkpgmbifaohjgaa
open Go.Mw
set_option linter.unusedVariables false
set_option linter.unusedSimpArgs false
set_option maxRecDepth 100000
attribute [local irreducible] M.val M.unit M.next M.pick M.new M.nilCheck M.load1 M.loadA M.store M.fieldAddr M.indexSl M.indexArr M.slice M.makeSlice M.buildSlice M.len M.lenS M.cap M.append M.extract M.conv M.not M.neg M.bin M.shift M.eqB M.eqNil M.call M.callv M.gd M.share M.cond M.loop M.draw pureW readW Ret
/-! ### the document's trail -/
structure RT where
  vars : Int
  L : List Ent
  level : Int
def en (e : Ent) : List Value := [vi e.lit, vi e.lev, vi e.rea]
theorem en_len (L : List Ent) : (L.flatMap en).length = L.length * 3 := by
  induction L with
  | nil => rfl
  | cons e L ih => simp [en] at ih ⊢; omega
theorem en_get (L : List Ent) (i : Nat) (e : Ent) (h : L[i]? = some e) :
    (L.flatMap en)[i * 3 + 0]? = some (vi e.lit) ∧ (L.flatMap en)[i * 3 + 1]? = some (vi e.lev) ∧ (L.flatMap en)[i * 3 + 2]? = some (vi e.rea) := by
  induction L generalizing i with
  | nil => simp at h
  | cons x L ih =>
    cases i with
    | zero =>
      simp at h
      subst h
      simp [en]
    | succ i =>
      simp at h
      obtain ⟨h1, h2, h3⟩ := ih i h
      have e1 : ∀ j, ((x :: L).flatMap en)[(i + 1) * 3 + j]? = (L.flatMap en)[i * 3 + j]? := by
        intro j
        simp only [List.flatMap_cons, en]
        have : (i + 1) * 3 + j = i * 3 + j + 3 := by omega
        rw [this]
        simp
      exact ⟨by rw [e1]; exact h1, by rw [e1]; exact h2, by rw [e1]; exact h3⟩
theorem en_one (L : List Ent) : ∀ y ∈ L.flatMap en, y.oneCell' = true := by
  intro y hy
  obtain ⟨e, _, h⟩ := List.mem_flatMap.1 hy
  simp [en] at h
  rcases h with rfl | rfl | rfl <;> rfl

/-- A value that is a document's trail. -/
def RV (w : World) (D : Nat → Prop) (v : Value) (t : RT) : Prop := ∃ A c, v = .agg ⟨[vi t.vars, .slice A t.L.length c, vi t.level]⟩ ∧ t.L.length ≤ c ∧ Row w D A (t.L.flatMap en)
theorem RV.keep {w w' : World} {D S : Nat → Prop} {v : Value} {t : RT} (h : RV w D v t) (k : Keep w w' S) (hs : ∀ b, b < w.heap.size → D b → ¬ S b) : RV w' D v t := by
  obtain ⟨A, c, h1, h2, h3⟩ := h
  exact ⟨A, c, h1, h2, h3.keep k hs⟩
theorem RV.mono {w : World} {D D' : Nat → Prop} {v : Value} {t : RT} (h : RV w D v t) (hd : ∀ b, b < w.heap.size → D b → D' b) : RV w D' v t := by
  obtain ⟨A, c, h1, h2, h3⟩ := h
  exact ⟨A, c, h1, h2, h3.mono hd⟩

def RT.idx (t : RT) (v : Int) : Option Nat := t.L.findIdx? fun e => decide (varOf e.lit = v)
def RT.at1 (t : RT) (v : Int) : Int := match t.idx v with
  | some i => i
  | none => -1
def RT.may (t : RT) (l : Int) : Bool := decide (0 ≤ l) && (decide (l / 2 < t.vars) && (t.idx (l / 2)).isNone)
def RT.push (t : RT) (l r : Int) : RT := { t with L := t.L ++ [⟨l, t.level, r⟩] }
def RT.assign (t : RT) (l r : Int) : RT := if t.may l then t.push l r else t
def RT.dec (t : RT) (l : Int) : RT := if t.may l then ({ t with level := t.level + 1 } : RT).push l (-1) else t
def RT.ent (t : RT) (v : Int) : Option Ent := (t.idx v).bind (t.L[·]?)
def RT.val (t : RT) (l : Int) : Int := if l < 0 then 0 else match t.ent (l / 2) with
  | none => 0
  | some e => if e.lit = l then 1 else -1
def RT.lev (t : RT) (v : Int) : Int := if v < 0 then -1 else match t.ent v with
  | none => -1
  | some e => e.lev
def RT.rea (t : RT) (v : Int) : Int := if v < 0 then -1 else match t.ent v with
  | none => -1
  | some e => e.rea
theorem RT.idx_some {t : RT} {v : Int} {i : Nat} (h : t.idx v = some i) : ∃ e, t.L[i]? = some e ∧ varOf e.lit = v := by
  unfold RT.idx at h
  rw [List.findIdx?_eq_some_iff_getElem] at h
  obtain ⟨hlt, h1, _⟩ := h
  exact ⟨t.L[i], List.getElem?_eq_getElem hlt, by simpa using h1⟩
theorem RT.at1_none {t : RT} {v : Int} (h : t.idx v = none) : t.at1 v = -1 := by simp [RT.at1, h]
theorem RT.at1_some {t : RT} {v : Int} {i : Nat} (h : t.idx v = some i) : t.at1 v = i := by simp [RT.at1, h]
theorem RT.ent_of {t : RT} {v : Int} {i : Nat} {e : Ent} (h : t.idx v = some i) (he : t.L[i]? = some e) : t.ent v = some e := by
  simp [RT.ent, h, he]
/-- How long a list may be here. -/
abbrev Few (n : Nat) : Prop := n ≤ 1000000000

/-! breakwater/breakwaterref02.Var: function 90 -/
def sh90 (x0 : Value) (R : Kt) (w : World) : Prop :=
  M.bin .lss x0 (Value.int IntKind.i64 0) (fun t4 w =>
  M.cond t4
  (R (Value.int IntKind.i64 (-1)) w)
  (M.bin .quo x0 (Value.int IntKind.i64 2) (fun t6 w =>
  R t6 w) w)) w
theorem ok90 (x0 : Value) (R : Kt) (w : World) (h : sh90 x0 R w) : Ret Try.prog 90 #[x0] w R :=
  ret_mk <| calls_of_comp mixed (c := Try.f90.body.getD .skip) (args := [x0]) (rs := [(ResultVar.tmp 2)]) (Ann.seq Ann.text (Ann.seq (Ann.seq Ann.text (Ann.cond (Ann.seq Ann.text Ann.leaf) Ann.leaf)) (Ann.seq Ann.text Ann.leaf)))
    Try.func90 (by kernel_rfl) (by kernel_rfl)
    (Eq.mp (by kernel_rfl) h)
/-! breakwater/breakwaterref10.New: function 24 -/
def sh24 (x0 : Value) (R : Kt) (w : World) : Prop :=
  M.new 47 #[.int .i64 0, .slice none 0 0, .int .i64 0] (fun t2 w =>
  M.share (fun K1 w =>
  M.bin .lss x0 (Value.int IntKind.i64 0) (fun t4 w =>
  M.gd t4 false (fun k w => k x0 w) (fun t6 w =>
  M.gd t4 false (fun k w => M.bin .gtr t6 (Value.int IntKind.i64 1048576) k w) (fun t7 w =>
  M.pick t4 (Value.bool true) t7 (fun t8 w =>
  M.cond t8
  (K1 [(Value.int IntKind.i64 0)] w)
  (K1 [x0] w)) w) w) w) w) (fun s1 w => ∀ _ : List Value,
  pureW Try.prog (Instr.build 47 #[(0, (s1.getD 0 undef))]) (fun t10 w =>
  M.store 3 t2 t10 (fun _ w =>
  M.loadA 3 t2 (fun r0 w => R r0 w) w) w) w) w) w
theorem ok24 (x0 : Value) (R : Kt) (w : World) (h : sh24 x0 R w) : Ret Try.prog 24 #[x0] w R :=
  ret_mk <| calls_of_comp mixed (c := Try.f24.body.getD .skip) (args := [x0]) (rs := [(ResultVar.cell 2 47)]) (Ann.seq Ann.text (Ann.join [0] [3, 4, 5, 6, 7, 8] (Ann.seq Ann.text (Ann.cond Ann.text Ann.leaf)) (Ann.seq Ann.text Ann.leaf)))
    Try.func24 (by kernel_rfl) (by kernel_rfl)
    (Eq.mp (by kernel_rfl) h)
/-! breakwater/breakwaterref10.at: function 67 -/
def sh67 (x0 x1 : Value) (R : Kt) (w : World) : Prop :=
  M.new 47 (Value.cells x0) (fun t2 w =>
  M.loop [(Value.int IntKind.i64 0)] (fun s1 K1 w => ∀ _ : List Value,
  M.fieldAddr 1 t2 (fun t7 w =>
  M.load1 t7 (fun t8 w =>
  M.len t8 (fun t9 w =>
  M.bin .lss (s1.getD 0 undef) t9 (fun t10 w =>
  M.cond t10
  (M.fieldAddr 1 t2 (fun t13 w =>
  M.load1 t13 (fun t14 w =>
  M.indexSl 3 t14 (s1.getD 0 undef) (fun t16 w =>
  M.fieldAddr 0 t16 (fun t17 w =>
  M.load1 t17 (fun t18 w =>
  M.call Try.prog 90 #[t18] (fun t19 w =>
  M.bin .eql t19 x1 (fun t21 w =>
  M.cond t21
  (R (s1.getD 0 undef) w)
  (M.bin .add (s1.getD 0 undef) (Value.int IntKind.i64 1) (fun t12 w =>
  K1 [t12] w) w)) w) w) w) w) w) w) w)
  (R (Value.int IntKind.i64 (-1)) w)) w) w) w) w) w) w
theorem ok67 (x0 x1 : Value) (R : Kt) (w : World) (h : sh67 x0 x1 R w) : Ret Try.prog 67 #[x0, x1] w R :=
  ret_mk <| calls_of_comp mixed (c := Try.f67.body.getD .skip) (args := [x0, x1]) (rs := [(ResultVar.tmp 4)]) (Ann.seq Ann.text (Ann.seq (Ann.seq Ann.text (Ann.block (Ann.loop [5] [4, 6, 7, 8, 9, 10, 11, 12, 13, 14, 15, 16, 17, 18, 19, 20, 21, 22] (Ann.seq (Ann.seq Ann.text (Ann.cond Ann.leaf Ann.leaf)) (Ann.seq (Ann.block (Ann.seq Ann.text (Ann.cond (Ann.seq Ann.text Ann.leaf) Ann.leaf))) Ann.text))))) (Ann.seq Ann.text Ann.leaf)))
    Try.func67 (by kernel_rfl) (by kernel_rfl)
    (Eq.mp (by kernel_rfl) h)
/-! breakwater/breakwaterref10.may: function 89 -/
def sh89 (x0 x1 : Value) (R : Kt) (w : World) : Prop :=
  M.new 47 (Value.cells x0) (fun t2 w =>
  M.bin .geq x1 (Value.int IntKind.i64 0) (fun t6 w =>
  M.gd t6 true (fun k w => k x1 w) (fun t8 w =>
  M.gd t6 true (fun k w => M.bin .quo t8 (Value.int IntKind.i64 2) k w) (fun t9 w =>
  M.gd t6 true (fun k w => M.fieldAddr 0 t2 k w) (fun t10 w =>
  M.gd t6 true (fun k w => M.load1 t10 k w) (fun t11 w =>
  M.gd t6 true (fun k w => M.bin .lss t9 t11 k w) (fun t12 w =>
  M.pick t6 t12 (Value.bool false) (fun t13 w =>
  M.gd t13 true (fun k w => M.loadA 3 t2 k w) (fun t15 w =>
  M.gd t13 true (fun k w => k x1 w) (fun t16 w =>
  M.gd t13 true (fun k w => M.bin .quo t16 (Value.int IntKind.i64 2) k w) (fun t17 w =>
  M.gd t13 true (fun k w => M.call Try.prog 67 #[t15, t17] k w) (fun t18 w =>
  M.gd t13 true (fun k w => M.bin .lss t18 (Value.int IntKind.i64 0) k w) (fun t19 w =>
  M.pick t13 t19 (Value.bool false) (fun t20 w =>
  R t20 w) w) w) w) w) w) w) w) w) w) w) w) w) w) w
theorem ok89 (x0 x1 : Value) (R : Kt) (w : World) (h : sh89 x0 x1 R w) : Ret Try.prog 89 #[x0, x1] w R :=
  ret_mk <| calls_of_comp mixed (c := Try.f89.body.getD .skip) (args := [x0, x1]) (rs := [(ResultVar.tmp 4)]) (Ann.seq Ann.text (Ann.seq Ann.text Ann.leaf))
    Try.func89 (by kernel_rfl) (by kernel_rfl)
    (Eq.mp (by kernel_rfl) h)
/-! breakwater/breakwaterref10.Assign: function 62 -/
def sh62 (x0 x1 x2 : Value) (R : Kt) (w : World) : Prop :=
  M.new 47 (Value.cells x0) (fun t3 w =>
  M.new 47 #[.int .i64 0, .slice none 0 0, .int .i64 0] (fun t6 w =>
  M.loadA 3 t3 (fun t9 w =>
  M.call Try.prog 89 #[t9, x1] (fun t11 w =>
  M.not t11 (fun t12 w =>
  M.cond t12
  (M.loadA 3 t3 (fun t13 w =>
  M.store 3 t6 t13 (fun _ w =>
  M.loadA 3 t6 (fun r0 w => R (.tuple #[r0, (Value.bool false)]) w) w) w) w)
  (M.fieldAddr 1 t3 (fun t15 w =>
  M.load1 t15 (fun t16 w =>
  M.append 111 3 24 #[.int .i64 0, .int .i64 0, .int .i64 0] (Value.slice none 0 0) t16 (fun t17 w =>
  M.fieldAddr 2 t3 (fun t20 w =>
  M.load1 t20 (fun t21 w =>
  pureW Try.prog (Instr.build 111 #[(0, x1), (1, t21), (2, x2)]) (fun t23 w =>
  M.buildSlice 111 3 #[.int .i64 0, .int .i64 0, .int .i64 0] 1 [(0, t23)] (fun t24 w =>
  M.append 111 3 24 #[.int .i64 0, .int .i64 0, .int .i64 0] t17 t24 (fun t25 w =>
  M.fieldAddr 1 t3 (fun t27 w =>
  M.store 1 t27 t25 (fun _ w =>
  M.loadA 3 t3 (fun t28 w =>
  M.store 3 t6 t28 (fun _ w =>
  M.loadA 3 t6 (fun r0 w => R (.tuple #[r0, (Value.bool true)]) w) w) w) w) w) w) w) w) w) w) w) w) w) w)) w) w) w) w) w
theorem ok62 (x0 x1 x2 : Value) (R : Kt) (w : World) (h : sh62 x0 x1 x2 R w) : Ret Try.prog 62 #[x0, x1, x2] w R :=
  ret_mk <| calls_of_comp mixed (c := Try.f62.body.getD .skip) (args := [x0, x1, x2]) (rs := [(ResultVar.cell 6 47), (ResultVar.tmp 7)]) (Ann.seq Ann.text (Ann.seq (Ann.seq Ann.text (Ann.cond (Ann.seq Ann.text Ann.leaf) Ann.leaf)) (Ann.seq Ann.text (Ann.seq Ann.text (Ann.seq Ann.text (Ann.seq Ann.text (Ann.seq Ann.text Ann.leaf)))))))
    Try.func62 (by kernel_rfl) (by kernel_rfl)
    (Eq.mp (by kernel_rfl) h)
/-! breakwater/breakwaterref10.Decide: function 63 -/
def sh63 (x0 x1 : Value) (R : Kt) (w : World) : Prop :=
  M.new 47 (Value.cells x0) (fun t2 w =>
  M.new 47 #[.int .i64 0, .slice none 0 0, .int .i64 0] (fun t4 w =>
  M.loadA 3 t2 (fun t6 w =>
  M.call Try.prog 89 #[t6, x1] (fun t8 w =>
  M.not t8 (fun t9 w =>
  M.cond t9
  (M.loadA 3 t2 (fun t10 w =>
  M.store 3 t4 t10 (fun _ w =>
  M.loadA 3 t4 (fun r0 w => R (.tuple #[r0, (Value.bool false)]) w) w) w) w)
  (M.fieldAddr 2 t2 (fun t11 w =>
  M.load1 t11 (fun t12 w =>
  M.bin .add t12 (Value.int IntKind.i64 1) (fun t13 w =>
  M.fieldAddr 2 t2 (fun t14 w =>
  M.store 1 t14 t13 (fun _ w =>
  M.loadA 3 t2 (fun t15 w =>
  M.call Try.prog 62 #[t15, x1, (Value.int IntKind.i64 (-1))] (fun t17 w =>
  M.extract 0 t17 (fun t18 w =>
  M.extract 1 t17 (fun t19 w =>
  M.store 3 t4 t18 (fun _ w =>
  M.loadA 3 t4 (fun r0 w => R (.tuple #[r0, t19]) w) w) w) w) w) w) w) w) w) w) w) w)) w) w) w) w) w
theorem ok63 (x0 x1 : Value) (R : Kt) (w : World) (h : sh63 x0 x1 R w) : Ret Try.prog 63 #[x0, x1] w R :=
  ret_mk <| calls_of_comp mixed (c := Try.f63.body.getD .skip) (args := [x0, x1]) (rs := [(ResultVar.cell 4 47), (ResultVar.tmp 5)]) (Ann.seq Ann.text (Ann.seq (Ann.seq Ann.text (Ann.cond (Ann.seq Ann.text Ann.leaf) Ann.leaf)) (Ann.seq Ann.text (Ann.seq Ann.text Ann.leaf))))
    Try.func63 (by kernel_rfl) (by kernel_rfl)
    (Eq.mp (by kernel_rfl) h)
/-! breakwater/breakwaterref10.Value: function 28 -/
def sh28 (x0 x1 : Value) (R : Kt) (w : World) : Prop :=
  M.new 47 (Value.cells x0) (fun t2 w =>
  M.bin .lss x1 (Value.int IntKind.i64 0) (fun t7 w =>
  M.cond t7
  (R (Value.int IntKind.i64 0) w)
  (M.loadA 3 t2 (fun t8 w =>
  M.bin .quo x1 (Value.int IntKind.i64 2) (fun t10 w =>
  M.call Try.prog 67 #[t8, t10] (fun t11 w =>
  M.bin .lss t11 (Value.int IntKind.i64 0) (fun t13 w =>
  M.cond t13
  (R (Value.int IntKind.i64 0) w)
  (M.fieldAddr 1 t2 (fun t14 w =>
  M.load1 t14 (fun t15 w =>
  M.indexSl 3 t15 t11 (fun t17 w =>
  M.fieldAddr 0 t17 (fun t18 w =>
  M.load1 t18 (fun t19 w =>
  M.bin .eql t19 x1 (fun t21 w =>
  M.cond t21
  (R (Value.int IntKind.i64 1) w)
  (R (Value.int IntKind.i64 (-1)) w)) w) w) w) w) w) w)) w) w) w) w)) w) w
theorem ok28 (x0 x1 : Value) (R : Kt) (w : World) (h : sh28 x0 x1 R w) : Ret Try.prog 28 #[x0, x1] w R :=
  ret_mk <| calls_of_comp mixed (c := Try.f28.body.getD .skip) (args := [x0, x1]) (rs := [(ResultVar.tmp 4)]) (Ann.seq Ann.text (Ann.seq (Ann.seq Ann.text (Ann.cond (Ann.seq Ann.text Ann.leaf) Ann.leaf)) (Ann.seq Ann.text (Ann.seq (Ann.seq Ann.text (Ann.cond (Ann.seq Ann.text Ann.leaf) Ann.leaf)) (Ann.seq (Ann.seq Ann.text (Ann.cond (Ann.seq Ann.text Ann.leaf) Ann.leaf)) (Ann.seq Ann.text Ann.leaf))))))
    Try.func28 (by kernel_rfl) (by kernel_rfl)
    (Eq.mp (by kernel_rfl) h)
/-! breakwater/breakwaterref10.Level: function 30 -/
def sh30 (x0 x1 : Value) (R : Kt) (w : World) : Prop :=
  M.new 47 (Value.cells x0) (fun t2 w =>
  M.loadA 3 t2 (fun t6 w =>
  M.call Try.prog 67 #[t6, x1] (fun t8 w =>
  M.bin .geq x1 (Value.int IntKind.i64 0) (fun t10 w =>
  M.gd t10 true (fun k w => k t8 w) (fun t12 w =>
  M.gd t10 true (fun k w => M.bin .geq t12 (Value.int IntKind.i64 0) k w) (fun t13 w =>
  M.pick t10 t13 (Value.bool false) (fun t14 w =>
  M.cond t14
  (M.fieldAddr 1 t2 (fun t15 w =>
  M.load1 t15 (fun t16 w =>
  M.indexSl 3 t16 t8 (fun t18 w =>
  M.fieldAddr 1 t18 (fun t19 w =>
  M.load1 t19 (fun t20 w =>
  R t20 w) w) w) w) w) w)
  (R (Value.int IntKind.i64 (-1)) w)) w) w) w) w) w) w) w
theorem ok30 (x0 x1 : Value) (R : Kt) (w : World) (h : sh30 x0 x1 R w) : Ret Try.prog 30 #[x0, x1] w R :=
  ret_mk <| calls_of_comp mixed (c := Try.f30.body.getD .skip) (args := [x0, x1]) (rs := [(ResultVar.tmp 4)]) (Ann.seq Ann.text (Ann.seq (Ann.seq Ann.text (Ann.seq Ann.text (Ann.cond (Ann.seq Ann.text Ann.leaf) Ann.leaf))) (Ann.seq Ann.text Ann.leaf)))
    Try.func30 (by kernel_rfl) (by kernel_rfl)
    (Eq.mp (by kernel_rfl) h)
/-! breakwater/breakwaterref10.Reason: function 32 -/
def sh32 (x0 x1 : Value) (R : Kt) (w : World) : Prop :=
  M.new 47 (Value.cells x0) (fun t2 w =>
  M.loadA 3 t2 (fun t6 w =>
  M.call Try.prog 67 #[t6, x1] (fun t8 w =>
  M.bin .geq x1 (Value.int IntKind.i64 0) (fun t10 w =>
  M.gd t10 true (fun k w => k t8 w) (fun t12 w =>
  M.gd t10 true (fun k w => M.bin .geq t12 (Value.int IntKind.i64 0) k w) (fun t13 w =>
  M.pick t10 t13 (Value.bool false) (fun t14 w =>
  M.cond t14
  (M.fieldAddr 1 t2 (fun t15 w =>
  M.load1 t15 (fun t16 w =>
  M.indexSl 3 t16 t8 (fun t18 w =>
  M.fieldAddr 2 t18 (fun t19 w =>
  M.load1 t19 (fun t20 w =>
  R t20 w) w) w) w) w) w)
  (R (Value.int IntKind.i64 (-1)) w)) w) w) w) w) w) w) w
theorem ok32 (x0 x1 : Value) (R : Kt) (w : World) (h : sh32 x0 x1 R w) : Ret Try.prog 32 #[x0, x1] w R :=
  ret_mk <| calls_of_comp mixed (c := Try.f32.body.getD .skip) (args := [x0, x1]) (rs := [(ResultVar.tmp 4)]) (Ann.seq Ann.text (Ann.seq (Ann.seq Ann.text (Ann.seq Ann.text (Ann.cond (Ann.seq Ann.text Ann.leaf) Ann.leaf))) (Ann.seq Ann.text Ann.leaf)))
    Try.func32 (by kernel_rfl) (by kernel_rfl)
    (Eq.mp (by kernel_rfl) h)
/-! breakwater/breakwaterref10.Lits: function 34 -/
def sh34 (x0 : Value) (R : Kt) (w : World) : Prop :=
  M.new 47 (Value.cells x0) (fun t1 w =>
  M.loop [(Value.slice none 0 0), (Value.int IntKind.i64 0)] (fun s1 K1 w => ∀ _ : List Value,
  M.fieldAddr 1 t1 (fun t6 w =>
  M.load1 t6 (fun t7 w =>
  M.len t7 (fun t8 w =>
  M.bin .lss (s1.getD 1 undef) t8 (fun t9 w =>
  M.cond t9
  (M.fieldAddr 1 t1 (fun t13 w =>
  M.load1 t13 (fun t14 w =>
  M.indexSl 3 t14 (s1.getD 1 undef) (fun t16 w =>
  M.fieldAddr 0 t16 (fun t17 w =>
  M.load1 t17 (fun t18 w =>
  M.buildSlice 3 1 #[.int .i64 0] 1 [(0, t18)] (fun t19 w =>
  M.append 3 1 8 #[.int .i64 0] (s1.getD 0 undef) t19 (fun t20 w =>
  M.bin .add (s1.getD 1 undef) (Value.int IntKind.i64 1) (fun t11 w =>
  K1 [t20, t11] w) w) w) w) w) w) w) w) w)
  (R (s1.getD 0 undef) w)) w) w) w) w) w) w
theorem ok34 (x0 : Value) (R : Kt) (w : World) (h : sh34 x0 R w) : Ret Try.prog 34 #[x0] w R :=
  ret_mk <| calls_of_comp mixed (c := Try.f34.body.getD .skip) (args := [x0]) (rs := [(ResultVar.tmp 2)]) (Ann.seq Ann.text (Ann.seq Ann.text (Ann.seq (Ann.seq Ann.text (Ann.block (Ann.loop [3, 4] [5, 6, 7, 8, 9, 10, 11, 12, 13, 14, 15, 16, 17, 18, 19, 20] (Ann.seq (Ann.seq Ann.text (Ann.cond Ann.leaf Ann.leaf)) (Ann.seq (Ann.block Ann.text) Ann.text))))) (Ann.seq Ann.text Ann.leaf))))
    Try.func34 (by kernel_rfl) (by kernel_rfl)
    (Eq.mp (by kernel_rfl) h)


/-- Numbers of Go's int. -/
abbrev I64 (x : Int) : Prop := -9223372036854775808 ≤ x ∧ x < 9223372036854775808

theorem rvar_ret {l : Int} (hl : I64 l) (w : World) : Ret Try.prog 90 #[vi l] w (fun v w' => v = vi (varOf l) ∧ Keep w w' No) := by
  refine ok90 _ _ _ ?_
  unfold sh90
  by_cases h : l < 0
  · (repeat (first | refine M.len_i ?_ | refine M.nilCheck_i ?_ | refine M.field_i ?_ | refine M.draw_i ?_ | refine M.cap_i ?_ | refine M.gd_tt ?_ | refine M.gd_ff ?_ | refine M.gd_ft ?_ | refine M.gd_tf ?_ | refine M.pick_t ?_ | refine M.pick_f ?_ | refine M.not_t ?_ | refine M.not_f ?_ | refine M.cond_t ?_ | refine M.cond_f ?_ | refine M.eqNilP_tn ?_ | refine M.eqNilP_ts ?_ | refine M.eqNilP_fn ?_ | refine M.eqNilP_fs ?_ | refine M.eqNilS_tn ?_ | refine M.eqNilS_ts ?_ | refine M.eqNilS_fn ?_ | refine M.eqNilS_fs ?_ | refine M.lss_t (by omega) ?_ | refine M.lss_f (by omega) ?_ | refine M.leq_t (by omega) ?_ | refine M.leq_f (by omega) ?_ | refine M.gtr_t (by omega) ?_ | refine M.gtr_f (by omega) ?_ | refine M.geq_t (by omega) ?_ | refine M.geq_f (by omega) ?_ | refine M.eql_t (by omega) ?_ | refine M.eql_f (by omega) ?_ | refine M.neq_t (by omega) ?_ | refine M.neq_f (by omega) ?_ | refine M.add_i (by omega) (by omega) ?_ | refine M.sub_i (by omega) (by omega) ?_ | refine M.load_i (by assumption) ?_ | refine M.loadB_i (by assumption) rfl ?_ | refine M.st_i (by assumption) ?_ | refine M.stB_i (by assumption) rfl ?_ | refine M.gs_ff ?_ | refine M.gs_tt ?_ | refine M.gs_ft ?_ | refine M.gs_tf ?_ | refine M.stAll_i (by assumption) rfl ?_))
    exact ⟨by simp [varOf, h], Keep.refl _ _⟩
  · (repeat (first | refine M.len_i ?_ | refine M.nilCheck_i ?_ | refine M.field_i ?_ | refine M.draw_i ?_ | refine M.cap_i ?_ | refine M.gd_tt ?_ | refine M.gd_ff ?_ | refine M.gd_ft ?_ | refine M.gd_tf ?_ | refine M.pick_t ?_ | refine M.pick_f ?_ | refine M.not_t ?_ | refine M.not_f ?_ | refine M.cond_t ?_ | refine M.cond_f ?_ | refine M.eqNilP_tn ?_ | refine M.eqNilP_ts ?_ | refine M.eqNilP_fn ?_ | refine M.eqNilP_fs ?_ | refine M.eqNilS_tn ?_ | refine M.eqNilS_ts ?_ | refine M.eqNilS_fn ?_ | refine M.eqNilS_fs ?_ | refine M.lss_t (by omega) ?_ | refine M.lss_f (by omega) ?_ | refine M.leq_t (by omega) ?_ | refine M.leq_f (by omega) ?_ | refine M.gtr_t (by omega) ?_ | refine M.gtr_f (by omega) ?_ | refine M.geq_t (by omega) ?_ | refine M.geq_f (by omega) ?_ | refine M.eql_t (by omega) ?_ | refine M.eql_f (by omega) ?_ | refine M.neq_t (by omega) ?_ | refine M.neq_f (by omega) ?_ | refine M.add_i (by omega) (by omega) ?_ | refine M.sub_i (by omega) (by omega) ?_ | refine M.load_i (by assumption) ?_ | refine M.loadB_i (by assumption) rfl ?_ | refine M.st_i (by assumption) ?_ | refine M.stB_i (by assumption) rfl ?_ | refine M.gs_ff ?_ | refine M.gs_tt ?_ | refine M.gs_ft ?_ | refine M.gs_tf ?_ | refine M.stAll_i (by assumption) rfl ?_))
    refine M.quo2_i (by omega) hl.2 ?_
    exact ⟨by simp [varOf, h], Keep.refl _ _⟩

def RT.new (vars : Int) : RT := { vars := if vars < 0 ∨ 1048576 < vars then 0 else vars, L := [], level := 0 }
theorem rnew_ret (vars : Int) (w : World) : Ret Try.prog 24 #[vi vars] w (fun v w' => RV w' (w.heap.size ≤ ·) v (RT.new vars) ∧ Keep w w' No) := by
  refine ok24 _ _ _ ?_
  unfold sh24
  refine M.new_i (fun w1 hB k1 s1 => ?_)
  refine M.share_j (fun vals w' => vals = [vi (RT.new vars).vars] ∧ w' = w1) ?_ ?_
  case refine_2 =>
    intro K hK
    by_cases h0 : vars < 0
    · (repeat (first | refine M.len_i ?_ | refine M.nilCheck_i ?_ | refine M.field_i ?_ | refine M.draw_i ?_ | refine M.cap_i ?_ | refine M.gd_tt ?_ | refine M.gd_ff ?_ | refine M.gd_ft ?_ | refine M.gd_tf ?_ | refine M.pick_t ?_ | refine M.pick_f ?_ | refine M.not_t ?_ | refine M.not_f ?_ | refine M.cond_t ?_ | refine M.cond_f ?_ | refine M.eqNilP_tn ?_ | refine M.eqNilP_ts ?_ | refine M.eqNilP_fn ?_ | refine M.eqNilP_fs ?_ | refine M.eqNilS_tn ?_ | refine M.eqNilS_ts ?_ | refine M.eqNilS_fn ?_ | refine M.eqNilS_fs ?_ | refine M.lss_t (by omega) ?_ | refine M.lss_f (by omega) ?_ | refine M.leq_t (by omega) ?_ | refine M.leq_f (by omega) ?_ | refine M.gtr_t (by omega) ?_ | refine M.gtr_f (by omega) ?_ | refine M.geq_t (by omega) ?_ | refine M.geq_f (by omega) ?_ | refine M.eql_t (by omega) ?_ | refine M.eql_f (by omega) ?_ | refine M.neq_t (by omega) ?_ | refine M.neq_f (by omega) ?_ | refine M.add_i (by omega) (by omega) ?_ | refine M.sub_i (by omega) (by omega) ?_ | refine M.load_i (by assumption) ?_ | refine M.loadB_i (by assumption) rfl ?_ | refine M.st_i (by assumption) ?_ | refine M.stB_i (by assumption) rfl ?_ | refine M.gs_ff ?_ | refine M.gs_tt ?_ | refine M.gs_ft ?_ | refine M.gs_tf ?_ | refine M.stAll_i (by assumption) rfl ?_))
      exact hK _ _ ⟨by simp [RT.new, h0], rfl⟩
    by_cases h1 : 1048576 < vars
    · (repeat (first | refine M.len_i ?_ | refine M.nilCheck_i ?_ | refine M.field_i ?_ | refine M.draw_i ?_ | refine M.cap_i ?_ | refine M.gd_tt ?_ | refine M.gd_ff ?_ | refine M.gd_ft ?_ | refine M.gd_tf ?_ | refine M.pick_t ?_ | refine M.pick_f ?_ | refine M.not_t ?_ | refine M.not_f ?_ | refine M.cond_t ?_ | refine M.cond_f ?_ | refine M.eqNilP_tn ?_ | refine M.eqNilP_ts ?_ | refine M.eqNilP_fn ?_ | refine M.eqNilP_fs ?_ | refine M.eqNilS_tn ?_ | refine M.eqNilS_ts ?_ | refine M.eqNilS_fn ?_ | refine M.eqNilS_fs ?_ | refine M.lss_t (by omega) ?_ | refine M.lss_f (by omega) ?_ | refine M.leq_t (by omega) ?_ | refine M.leq_f (by omega) ?_ | refine M.gtr_t (by omega) ?_ | refine M.gtr_f (by omega) ?_ | refine M.geq_t (by omega) ?_ | refine M.geq_f (by omega) ?_ | refine M.eql_t (by omega) ?_ | refine M.eql_f (by omega) ?_ | refine M.neq_t (by omega) ?_ | refine M.neq_f (by omega) ?_ | refine M.add_i (by omega) (by omega) ?_ | refine M.sub_i (by omega) (by omega) ?_ | refine M.load_i (by assumption) ?_ | refine M.loadB_i (by assumption) rfl ?_ | refine M.st_i (by assumption) ?_ | refine M.stB_i (by assumption) rfl ?_ | refine M.gs_ff ?_ | refine M.gs_tt ?_ | refine M.gs_ft ?_ | refine M.gs_tf ?_ | refine M.stAll_i (by assumption) rfl ?_))
      exact hK _ _ ⟨by simp [RT.new, h1], rfl⟩
    · (repeat (first | refine M.len_i ?_ | refine M.nilCheck_i ?_ | refine M.field_i ?_ | refine M.draw_i ?_ | refine M.cap_i ?_ | refine M.gd_tt ?_ | refine M.gd_ff ?_ | refine M.gd_ft ?_ | refine M.gd_tf ?_ | refine M.pick_t ?_ | refine M.pick_f ?_ | refine M.not_t ?_ | refine M.not_f ?_ | refine M.cond_t ?_ | refine M.cond_f ?_ | refine M.eqNilP_tn ?_ | refine M.eqNilP_ts ?_ | refine M.eqNilP_fn ?_ | refine M.eqNilP_fs ?_ | refine M.eqNilS_tn ?_ | refine M.eqNilS_ts ?_ | refine M.eqNilS_fn ?_ | refine M.eqNilS_fs ?_ | refine M.lss_t (by omega) ?_ | refine M.lss_f (by omega) ?_ | refine M.leq_t (by omega) ?_ | refine M.leq_f (by omega) ?_ | refine M.gtr_t (by omega) ?_ | refine M.gtr_f (by omega) ?_ | refine M.geq_t (by omega) ?_ | refine M.geq_f (by omega) ?_ | refine M.eql_t (by omega) ?_ | refine M.eql_f (by omega) ?_ | refine M.neq_t (by omega) ?_ | refine M.neq_f (by omega) ?_ | refine M.add_i (by omega) (by omega) ?_ | refine M.sub_i (by omega) (by omega) ?_ | refine M.load_i (by assumption) ?_ | refine M.loadB_i (by assumption) rfl ?_ | refine M.st_i (by assumption) ?_ | refine M.stB_i (by assumption) rfl ?_ | refine M.gs_ff ?_ | refine M.gs_tt ?_ | refine M.gs_ft ?_ | refine M.gs_tf ?_ | refine M.stAll_i (by assumption) rfl ?_))
      exact hK _ _ ⟨by simp [RT.new, h0, h1], rfl⟩
  rintro vals w' ⟨rfl, rfl⟩ _
  simp only [List.getD_cons_zero, List.getD_cons_succ]
  refine M.pure_i (.agg #[vi (RT.new vars).vars, .slice none 0 0, vi 0]) (fun _ => by kernel_rfl) ?_
  refine M.storeAll_i hB rfl rfl (by intro v hv; simp at hv; rcases hv with rfl | rfl | rfl <;> rfl) (fun w2 hB k2 s2 => ?_)
  refine M.loadAll_i hB rfl ⟨⟨none, 0, rfl, Nat.le_refl _, .inl rfl⟩, k1.trans k2 (by intro i hi e; omega)⟩

theorem rat_ret {w : World} {D : Nat → Prop} {v : Value} {t : RT} (h : RV w D v t) (hf : Few t.L.length) (hI : ∀ e ∈ t.L, I64 e.lit) (x : Int) :
    Ret Try.prog 67 #[v, vi x] w (fun r w' => r = vi (t.at1 x) ∧ Keep w w' No) := by
  obtain ⟨A, c, rfl, hc, hr⟩ := h
  refine ok67 _ _ _ _ ?_
  unfold sh67
  refine M.new_i (l := [vi t.vars, .slice A t.L.length c, vi t.level]) (fun w1 hB k1 s1 => ?_)
  refine M.loop_i (σ := Nat) (fun i vals w' => vals = [vi i] ∧ i ≤ t.L.length ∧ (∀ j, j < i → ∀ e, t.L[j]? = some e → varOf e.lit ≠ x) ∧ Keep w1 w' No) (fun i => t.L.length - i) 0
    ⟨rfl, by omega, fun j hj => by omega, Keep.refl _ _⟩ ?_
  rintro i vals w2 K ⟨rfl, hi, hno, k2⟩ hK _
  simp only [List.getD_cons_zero, List.getD_cons_succ]
  have hB := hB.keep k2 (fun h => h)
  have k12 := k1.trans k2 (fun _ _ h => h)
  have hr := hr.keep k12 (fun _ _ _ h => h)
  by_cases hlt : i < t.L.length
  · (repeat (first | refine M.len_i ?_ | refine M.nilCheck_i ?_ | refine M.field_i ?_ | refine M.draw_i ?_ | refine M.cap_i ?_ | refine M.gd_tt ?_ | refine M.gd_ff ?_ | refine M.gd_ft ?_ | refine M.gd_tf ?_ | refine M.pick_t ?_ | refine M.pick_f ?_ | refine M.not_t ?_ | refine M.not_f ?_ | refine M.cond_t ?_ | refine M.cond_f ?_ | refine M.eqNilP_tn ?_ | refine M.eqNilP_ts ?_ | refine M.eqNilP_fn ?_ | refine M.eqNilP_fs ?_ | refine M.eqNilS_tn ?_ | refine M.eqNilS_ts ?_ | refine M.eqNilS_fn ?_ | refine M.eqNilS_fs ?_ | refine M.lss_t (by omega) ?_ | refine M.lss_f (by omega) ?_ | refine M.leq_t (by omega) ?_ | refine M.leq_f (by omega) ?_ | refine M.gtr_t (by omega) ?_ | refine M.gtr_f (by omega) ?_ | refine M.geq_t (by omega) ?_ | refine M.geq_f (by omega) ?_ | refine M.eql_t (by omega) ?_ | refine M.eql_f (by omega) ?_ | refine M.neq_t (by omega) ?_ | refine M.neq_f (by omega) ?_ | refine M.add_i (by omega) (by omega) ?_ | refine M.sub_i (by omega) (by omega) ?_ | refine M.load_i (by assumption) ?_ | refine M.loadB_i (by assumption) rfl ?_ | refine M.st_i (by assumption) ?_ | refine M.stB_i (by assumption) rfl ?_ | refine M.gs_ff ?_ | refine M.gs_tt ?_ | refine M.gs_ft ?_ | refine M.gs_tf ?_ | refine M.stAll_i (by assumption) rfl ?_))
    refine M.idxRowN_i hr (en_len _) (by omega) (by omega) (by omega) (fun b o hA hc => ?_)
    obtain ⟨e, he⟩ : ∃ e, t.L[i]? = some e := ⟨_, List.getElem?_eq_getElem hlt⟩
    obtain ⟨g0, _, _⟩ := en_get _ _ _ he
    have c0 := hc 0 (by omega)
    simp only [Int.toNat_natCast] at c0
    rw [g0] at c0
    (repeat (first | refine M.len_i ?_ | refine M.nilCheck_i ?_ | refine M.field_i ?_ | refine M.draw_i ?_ | refine M.cap_i ?_ | refine M.gd_tt ?_ | refine M.gd_ff ?_ | refine M.gd_ft ?_ | refine M.gd_tf ?_ | refine M.pick_t ?_ | refine M.pick_f ?_ | refine M.not_t ?_ | refine M.not_f ?_ | refine M.cond_t ?_ | refine M.cond_f ?_ | refine M.eqNilP_tn ?_ | refine M.eqNilP_ts ?_ | refine M.eqNilP_fn ?_ | refine M.eqNilP_fs ?_ | refine M.eqNilS_tn ?_ | refine M.eqNilS_ts ?_ | refine M.eqNilS_fn ?_ | refine M.eqNilS_fs ?_ | refine M.lss_t (by omega) ?_ | refine M.lss_f (by omega) ?_ | refine M.leq_t (by omega) ?_ | refine M.leq_f (by omega) ?_ | refine M.gtr_t (by omega) ?_ | refine M.gtr_f (by omega) ?_ | refine M.geq_t (by omega) ?_ | refine M.geq_f (by omega) ?_ | refine M.eql_t (by omega) ?_ | refine M.eql_f (by omega) ?_ | refine M.neq_t (by omega) ?_ | refine M.neq_f (by omega) ?_ | refine M.add_i (by omega) (by omega) ?_ | refine M.sub_i (by omega) (by omega) ?_ | refine M.load_i (by assumption) ?_ | refine M.loadB_i (by assumption) rfl ?_ | refine M.st_i (by assumption) ?_ | refine M.stB_i (by assumption) rfl ?_ | refine M.gs_ff ?_ | refine M.gs_tt ?_ | refine M.gs_ft ?_ | refine M.gs_tf ?_ | refine M.stAll_i (by assumption) rfl ?_))
    refine M.call_i (rvar_ret (hI e (List.mem_of_getElem? he)) w2) ?_; rintro _ w3 ⟨rfl, k3⟩
    refine M.eql_i ?_
    refine M.cond_i (fun hx => ?_) (fun hx => ?_)
    · refine ⟨?_, k12.trans k3 (fun _ _ h => h)⟩
      have : t.idx x = some i := by
        unfold RT.idx
        rw [List.findIdx?_eq_some_iff_getElem]
        refine ⟨hlt, ?_, fun j hj => ?_⟩
        · rw [List.getElem?_eq_getElem hlt] at he
          obtain rfl := Option.some.inj he
          simpa using hx
        · have := hno j hj _ (List.getElem?_eq_getElem (by omega))
          simpa using this
      simp [RT.at1, this]
    · (repeat (first | refine M.len_i ?_ | refine M.nilCheck_i ?_ | refine M.field_i ?_ | refine M.draw_i ?_ | refine M.cap_i ?_ | refine M.gd_tt ?_ | refine M.gd_ff ?_ | refine M.gd_ft ?_ | refine M.gd_tf ?_ | refine M.pick_t ?_ | refine M.pick_f ?_ | refine M.not_t ?_ | refine M.not_f ?_ | refine M.cond_t ?_ | refine M.cond_f ?_ | refine M.eqNilP_tn ?_ | refine M.eqNilP_ts ?_ | refine M.eqNilP_fn ?_ | refine M.eqNilP_fs ?_ | refine M.eqNilS_tn ?_ | refine M.eqNilS_ts ?_ | refine M.eqNilS_fn ?_ | refine M.eqNilS_fs ?_ | refine M.lss_t (by omega) ?_ | refine M.lss_f (by omega) ?_ | refine M.leq_t (by omega) ?_ | refine M.leq_f (by omega) ?_ | refine M.gtr_t (by omega) ?_ | refine M.gtr_f (by omega) ?_ | refine M.geq_t (by omega) ?_ | refine M.geq_f (by omega) ?_ | refine M.eql_t (by omega) ?_ | refine M.eql_f (by omega) ?_ | refine M.neq_t (by omega) ?_ | refine M.neq_f (by omega) ?_ | refine M.add_i (by omega) (by omega) ?_ | refine M.sub_i (by omega) (by omega) ?_ | refine M.load_i (by assumption) ?_ | refine M.loadB_i (by assumption) rfl ?_ | refine M.st_i (by assumption) ?_ | refine M.stB_i (by assumption) rfl ?_ | refine M.gs_ff ?_ | refine M.gs_tt ?_ | refine M.gs_ft ?_ | refine M.gs_tf ?_ | refine M.stAll_i (by assumption) rfl ?_))
      refine hK (i + 1) _ _ (by omega) ⟨by simp, by omega, fun j hj e' he' => ?_, k2.trans k3 (fun _ _ h => h)⟩
      by_cases hji : j = i
      · subst hji
        rw [he] at he'
        obtain rfl := Option.some.inj he'
        exact hx
      · exact hno j (by omega) e' he'
  · (repeat (first | refine M.len_i ?_ | refine M.nilCheck_i ?_ | refine M.field_i ?_ | refine M.draw_i ?_ | refine M.cap_i ?_ | refine M.gd_tt ?_ | refine M.gd_ff ?_ | refine M.gd_ft ?_ | refine M.gd_tf ?_ | refine M.pick_t ?_ | refine M.pick_f ?_ | refine M.not_t ?_ | refine M.not_f ?_ | refine M.cond_t ?_ | refine M.cond_f ?_ | refine M.eqNilP_tn ?_ | refine M.eqNilP_ts ?_ | refine M.eqNilP_fn ?_ | refine M.eqNilP_fs ?_ | refine M.eqNilS_tn ?_ | refine M.eqNilS_ts ?_ | refine M.eqNilS_fn ?_ | refine M.eqNilS_fs ?_ | refine M.lss_t (by omega) ?_ | refine M.lss_f (by omega) ?_ | refine M.leq_t (by omega) ?_ | refine M.leq_f (by omega) ?_ | refine M.gtr_t (by omega) ?_ | refine M.gtr_f (by omega) ?_ | refine M.geq_t (by omega) ?_ | refine M.geq_f (by omega) ?_ | refine M.eql_t (by omega) ?_ | refine M.eql_f (by omega) ?_ | refine M.neq_t (by omega) ?_ | refine M.neq_f (by omega) ?_ | refine M.add_i (by omega) (by omega) ?_ | refine M.sub_i (by omega) (by omega) ?_ | refine M.load_i (by assumption) ?_ | refine M.loadB_i (by assumption) rfl ?_ | refine M.st_i (by assumption) ?_ | refine M.stB_i (by assumption) rfl ?_ | refine M.gs_ff ?_ | refine M.gs_tt ?_ | refine M.gs_ft ?_ | refine M.gs_tf ?_ | refine M.stAll_i (by assumption) rfl ?_))
    refine ⟨?_, k12⟩
    have : t.idx x = none := by
      unfold RT.idx
      rw [List.findIdx?_eq_none_iff]
      intro e he
      obtain ⟨j, hj⟩ := List.mem_iff_getElem?.1 he
      have := hno j (by have := (List.getElem?_eq_some_iff.1 hj).1; omega) e hj
      simpa using this
    simp [RT.at1, this]

theorem rmay_ret {w : World} {D : Nat → Prop} {v : Value} {t : RT} (h : RV w D v t) (hf : Few t.L.length) (hI : ∀ e ∈ t.L, I64 e.lit) {l : Int} (hl : I64 l) :
    Ret Try.prog 89 #[v, vi l] w (fun r w' => r = .bool (t.may l) ∧ Keep w w' No) := by
  obtain ⟨A, c, rfl, hc, hr⟩ := id h
  refine ok89 _ _ _ _ ?_
  unfold sh89
  refine M.new_i (l := [vi t.vars, .slice A t.L.length c, vi t.level]) (fun w1 hB k1 s1 => ?_)
  by_cases h0 : 0 ≤ l
  · (repeat (first | refine M.len_i ?_ | refine M.nilCheck_i ?_ | refine M.field_i ?_ | refine M.draw_i ?_ | refine M.cap_i ?_ | refine M.gd_tt ?_ | refine M.gd_ff ?_ | refine M.gd_ft ?_ | refine M.gd_tf ?_ | refine M.pick_t ?_ | refine M.pick_f ?_ | refine M.not_t ?_ | refine M.not_f ?_ | refine M.cond_t ?_ | refine M.cond_f ?_ | refine M.eqNilP_tn ?_ | refine M.eqNilP_ts ?_ | refine M.eqNilP_fn ?_ | refine M.eqNilP_fs ?_ | refine M.eqNilS_tn ?_ | refine M.eqNilS_ts ?_ | refine M.eqNilS_fn ?_ | refine M.eqNilS_fs ?_ | refine M.lss_t (by omega) ?_ | refine M.lss_f (by omega) ?_ | refine M.leq_t (by omega) ?_ | refine M.leq_f (by omega) ?_ | refine M.gtr_t (by omega) ?_ | refine M.gtr_f (by omega) ?_ | refine M.geq_t (by omega) ?_ | refine M.geq_f (by omega) ?_ | refine M.eql_t (by omega) ?_ | refine M.eql_f (by omega) ?_ | refine M.neq_t (by omega) ?_ | refine M.neq_f (by omega) ?_ | refine M.add_i (by omega) (by omega) ?_ | refine M.sub_i (by omega) (by omega) ?_ | refine M.load_i (by assumption) ?_ | refine M.loadB_i (by assumption) rfl ?_ | refine M.st_i (by assumption) ?_ | refine M.stB_i (by assumption) rfl ?_ | refine M.gs_ff ?_ | refine M.gs_tt ?_ | refine M.gs_ft ?_ | refine M.gs_tf ?_ | refine M.stAll_i (by assumption) rfl ?_))
    refine M.quo2_i h0 hl.2 ?_
    by_cases h1 : l / 2 < t.vars
    · (repeat (first | refine M.len_i ?_ | refine M.nilCheck_i ?_ | refine M.field_i ?_ | refine M.draw_i ?_ | refine M.cap_i ?_ | refine M.gd_tt ?_ | refine M.gd_ff ?_ | refine M.gd_ft ?_ | refine M.gd_tf ?_ | refine M.pick_t ?_ | refine M.pick_f ?_ | refine M.not_t ?_ | refine M.not_f ?_ | refine M.cond_t ?_ | refine M.cond_f ?_ | refine M.eqNilP_tn ?_ | refine M.eqNilP_ts ?_ | refine M.eqNilP_fn ?_ | refine M.eqNilP_fs ?_ | refine M.eqNilS_tn ?_ | refine M.eqNilS_ts ?_ | refine M.eqNilS_fn ?_ | refine M.eqNilS_fs ?_ | refine M.lss_t (by omega) ?_ | refine M.lss_f (by omega) ?_ | refine M.leq_t (by omega) ?_ | refine M.leq_f (by omega) ?_ | refine M.gtr_t (by omega) ?_ | refine M.gtr_f (by omega) ?_ | refine M.geq_t (by omega) ?_ | refine M.geq_f (by omega) ?_ | refine M.eql_t (by omega) ?_ | refine M.eql_f (by omega) ?_ | refine M.neq_t (by omega) ?_ | refine M.neq_f (by omega) ?_ | refine M.add_i (by omega) (by omega) ?_ | refine M.sub_i (by omega) (by omega) ?_ | refine M.load_i (by assumption) ?_ | refine M.loadB_i (by assumption) rfl ?_ | refine M.st_i (by assumption) ?_ | refine M.stB_i (by assumption) rfl ?_ | refine M.gs_ff ?_ | refine M.gs_tt ?_ | refine M.gs_ft ?_ | refine M.gs_tf ?_ | refine M.stAll_i (by assumption) rfl ?_))
      refine M.loadAll_i hB rfl ?_
      (repeat (first | refine M.len_i ?_ | refine M.nilCheck_i ?_ | refine M.field_i ?_ | refine M.draw_i ?_ | refine M.cap_i ?_ | refine M.gd_tt ?_ | refine M.gd_ff ?_ | refine M.gd_ft ?_ | refine M.gd_tf ?_ | refine M.pick_t ?_ | refine M.pick_f ?_ | refine M.not_t ?_ | refine M.not_f ?_ | refine M.cond_t ?_ | refine M.cond_f ?_ | refine M.eqNilP_tn ?_ | refine M.eqNilP_ts ?_ | refine M.eqNilP_fn ?_ | refine M.eqNilP_fs ?_ | refine M.eqNilS_tn ?_ | refine M.eqNilS_ts ?_ | refine M.eqNilS_fn ?_ | refine M.eqNilS_fs ?_ | refine M.lss_t (by omega) ?_ | refine M.lss_f (by omega) ?_ | refine M.leq_t (by omega) ?_ | refine M.leq_f (by omega) ?_ | refine M.gtr_t (by omega) ?_ | refine M.gtr_f (by omega) ?_ | refine M.geq_t (by omega) ?_ | refine M.geq_f (by omega) ?_ | refine M.eql_t (by omega) ?_ | refine M.eql_f (by omega) ?_ | refine M.neq_t (by omega) ?_ | refine M.neq_f (by omega) ?_ | refine M.add_i (by omega) (by omega) ?_ | refine M.sub_i (by omega) (by omega) ?_ | refine M.load_i (by assumption) ?_ | refine M.loadB_i (by assumption) rfl ?_ | refine M.st_i (by assumption) ?_ | refine M.stB_i (by assumption) rfl ?_ | refine M.gs_ff ?_ | refine M.gs_tt ?_ | refine M.gs_ft ?_ | refine M.gs_tf ?_ | refine M.stAll_i (by assumption) rfl ?_))
      refine M.quo2_i h0 hl.2 ?_
      (repeat (first | refine M.len_i ?_ | refine M.nilCheck_i ?_ | refine M.field_i ?_ | refine M.draw_i ?_ | refine M.cap_i ?_ | refine M.gd_tt ?_ | refine M.gd_ff ?_ | refine M.gd_ft ?_ | refine M.gd_tf ?_ | refine M.pick_t ?_ | refine M.pick_f ?_ | refine M.not_t ?_ | refine M.not_f ?_ | refine M.cond_t ?_ | refine M.cond_f ?_ | refine M.eqNilP_tn ?_ | refine M.eqNilP_ts ?_ | refine M.eqNilP_fn ?_ | refine M.eqNilP_fs ?_ | refine M.eqNilS_tn ?_ | refine M.eqNilS_ts ?_ | refine M.eqNilS_fn ?_ | refine M.eqNilS_fs ?_ | refine M.lss_t (by omega) ?_ | refine M.lss_f (by omega) ?_ | refine M.leq_t (by omega) ?_ | refine M.leq_f (by omega) ?_ | refine M.gtr_t (by omega) ?_ | refine M.gtr_f (by omega) ?_ | refine M.geq_t (by omega) ?_ | refine M.geq_f (by omega) ?_ | refine M.eql_t (by omega) ?_ | refine M.eql_f (by omega) ?_ | refine M.neq_t (by omega) ?_ | refine M.neq_f (by omega) ?_ | refine M.add_i (by omega) (by omega) ?_ | refine M.sub_i (by omega) (by omega) ?_ | refine M.load_i (by assumption) ?_ | refine M.loadB_i (by assumption) rfl ?_ | refine M.st_i (by assumption) ?_ | refine M.stB_i (by assumption) rfl ?_ | refine M.gs_ff ?_ | refine M.gs_tt ?_ | refine M.gs_ft ?_ | refine M.gs_tf ?_ | refine M.stAll_i (by assumption) rfl ?_))
      refine M.call_i (rat_ret (h.keep k1 (fun _ _ _ h => h)) hf hI (l / 2)) ?_; rintro _ w2 ⟨rfl, k2⟩
      (repeat (first | refine M.len_i ?_ | refine M.nilCheck_i ?_ | refine M.field_i ?_ | refine M.draw_i ?_ | refine M.cap_i ?_ | refine M.gd_tt ?_ | refine M.gd_ff ?_ | refine M.gd_ft ?_ | refine M.gd_tf ?_ | refine M.pick_t ?_ | refine M.pick_f ?_ | refine M.not_t ?_ | refine M.not_f ?_ | refine M.cond_t ?_ | refine M.cond_f ?_ | refine M.eqNilP_tn ?_ | refine M.eqNilP_ts ?_ | refine M.eqNilP_fn ?_ | refine M.eqNilP_fs ?_ | refine M.eqNilS_tn ?_ | refine M.eqNilS_ts ?_ | refine M.eqNilS_fn ?_ | refine M.eqNilS_fs ?_ | refine M.lss_t (by omega) ?_ | refine M.lss_f (by omega) ?_ | refine M.leq_t (by omega) ?_ | refine M.leq_f (by omega) ?_ | refine M.gtr_t (by omega) ?_ | refine M.gtr_f (by omega) ?_ | refine M.geq_t (by omega) ?_ | refine M.geq_f (by omega) ?_ | refine M.eql_t (by omega) ?_ | refine M.eql_f (by omega) ?_ | refine M.neq_t (by omega) ?_ | refine M.neq_f (by omega) ?_ | refine M.add_i (by omega) (by omega) ?_ | refine M.sub_i (by omega) (by omega) ?_ | refine M.load_i (by assumption) ?_ | refine M.loadB_i (by assumption) rfl ?_ | refine M.st_i (by assumption) ?_ | refine M.stB_i (by assumption) rfl ?_ | refine M.gs_ff ?_ | refine M.gs_tt ?_ | refine M.gs_ft ?_ | refine M.gs_tf ?_ | refine M.stAll_i (by assumption) rfl ?_))
      refine M.lss_i ?_
      (repeat (first | refine M.len_i ?_ | refine M.nilCheck_i ?_ | refine M.field_i ?_ | refine M.draw_i ?_ | refine M.cap_i ?_ | refine M.gd_tt ?_ | refine M.gd_ff ?_ | refine M.gd_ft ?_ | refine M.gd_tf ?_ | refine M.pick_t ?_ | refine M.pick_f ?_ | refine M.not_t ?_ | refine M.not_f ?_ | refine M.cond_t ?_ | refine M.cond_f ?_ | refine M.eqNilP_tn ?_ | refine M.eqNilP_ts ?_ | refine M.eqNilP_fn ?_ | refine M.eqNilP_fs ?_ | refine M.eqNilS_tn ?_ | refine M.eqNilS_ts ?_ | refine M.eqNilS_fn ?_ | refine M.eqNilS_fs ?_ | refine M.lss_t (by omega) ?_ | refine M.lss_f (by omega) ?_ | refine M.leq_t (by omega) ?_ | refine M.leq_f (by omega) ?_ | refine M.gtr_t (by omega) ?_ | refine M.gtr_f (by omega) ?_ | refine M.geq_t (by omega) ?_ | refine M.geq_f (by omega) ?_ | refine M.eql_t (by omega) ?_ | refine M.eql_f (by omega) ?_ | refine M.neq_t (by omega) ?_ | refine M.neq_f (by omega) ?_ | refine M.add_i (by omega) (by omega) ?_ | refine M.sub_i (by omega) (by omega) ?_ | refine M.load_i (by assumption) ?_ | refine M.loadB_i (by assumption) rfl ?_ | refine M.st_i (by assumption) ?_ | refine M.stB_i (by assumption) rfl ?_ | refine M.gs_ff ?_ | refine M.gs_tt ?_ | refine M.gs_ft ?_ | refine M.gs_tf ?_ | refine M.stAll_i (by assumption) rfl ?_))
      refine ⟨?_, k1.trans k2 (fun _ _ h => h)⟩
      unfold RT.at1 RT.may
      cases t.idx (l / 2) with
      | none => simp [h0, h1]
      | some i => simp [h0, h1]
    · (repeat (first | refine M.len_i ?_ | refine M.nilCheck_i ?_ | refine M.field_i ?_ | refine M.draw_i ?_ | refine M.cap_i ?_ | refine M.gd_tt ?_ | refine M.gd_ff ?_ | refine M.gd_ft ?_ | refine M.gd_tf ?_ | refine M.pick_t ?_ | refine M.pick_f ?_ | refine M.not_t ?_ | refine M.not_f ?_ | refine M.cond_t ?_ | refine M.cond_f ?_ | refine M.eqNilP_tn ?_ | refine M.eqNilP_ts ?_ | refine M.eqNilP_fn ?_ | refine M.eqNilP_fs ?_ | refine M.eqNilS_tn ?_ | refine M.eqNilS_ts ?_ | refine M.eqNilS_fn ?_ | refine M.eqNilS_fs ?_ | refine M.lss_t (by omega) ?_ | refine M.lss_f (by omega) ?_ | refine M.leq_t (by omega) ?_ | refine M.leq_f (by omega) ?_ | refine M.gtr_t (by omega) ?_ | refine M.gtr_f (by omega) ?_ | refine M.geq_t (by omega) ?_ | refine M.geq_f (by omega) ?_ | refine M.eql_t (by omega) ?_ | refine M.eql_f (by omega) ?_ | refine M.neq_t (by omega) ?_ | refine M.neq_f (by omega) ?_ | refine M.add_i (by omega) (by omega) ?_ | refine M.sub_i (by omega) (by omega) ?_ | refine M.load_i (by assumption) ?_ | refine M.loadB_i (by assumption) rfl ?_ | refine M.st_i (by assumption) ?_ | refine M.stB_i (by assumption) rfl ?_ | refine M.gs_ff ?_ | refine M.gs_tt ?_ | refine M.gs_ft ?_ | refine M.gs_tf ?_ | refine M.stAll_i (by assumption) rfl ?_))
      refine ⟨?_, k1⟩
      simp [RT.may, h1]
  · (repeat (first | refine M.len_i ?_ | refine M.nilCheck_i ?_ | refine M.field_i ?_ | refine M.draw_i ?_ | refine M.cap_i ?_ | refine M.gd_tt ?_ | refine M.gd_ff ?_ | refine M.gd_ft ?_ | refine M.gd_tf ?_ | refine M.pick_t ?_ | refine M.pick_f ?_ | refine M.not_t ?_ | refine M.not_f ?_ | refine M.cond_t ?_ | refine M.cond_f ?_ | refine M.eqNilP_tn ?_ | refine M.eqNilP_ts ?_ | refine M.eqNilP_fn ?_ | refine M.eqNilP_fs ?_ | refine M.eqNilS_tn ?_ | refine M.eqNilS_ts ?_ | refine M.eqNilS_fn ?_ | refine M.eqNilS_fs ?_ | refine M.lss_t (by omega) ?_ | refine M.lss_f (by omega) ?_ | refine M.leq_t (by omega) ?_ | refine M.leq_f (by omega) ?_ | refine M.gtr_t (by omega) ?_ | refine M.gtr_f (by omega) ?_ | refine M.geq_t (by omega) ?_ | refine M.geq_f (by omega) ?_ | refine M.eql_t (by omega) ?_ | refine M.eql_f (by omega) ?_ | refine M.neq_t (by omega) ?_ | refine M.neq_f (by omega) ?_ | refine M.add_i (by omega) (by omega) ?_ | refine M.sub_i (by omega) (by omega) ?_ | refine M.load_i (by assumption) ?_ | refine M.loadB_i (by assumption) rfl ?_ | refine M.st_i (by assumption) ?_ | refine M.stB_i (by assumption) rfl ?_ | refine M.gs_ff ?_ | refine M.gs_tt ?_ | refine M.gs_ft ?_ | refine M.gs_tf ?_ | refine M.stAll_i (by assumption) rfl ?_))
    refine ⟨?_, k1⟩
    simp [RT.may, h0]

theorem tri_one (a b c : Value) (ha : a.oneCell' = true) (hb : b.oneCell' = true) (hc : c.oneCell' = true) : ∀ v ∈ [a, b, c], v.oneCell' = true := by
  intro v hv
  simp at hv
  rcases hv with rfl | rfl | rfl <;> assumption

set_option maxHeartbeats 1000000 in
theorem rassign_ret {w : World} {D : Nat → Prop} {v : Value} {t : RT} (h : RV w D v t) (hf : Few t.L.length) (hI : ∀ e ∈ t.L, I64 e.lit) {l : Int} (hl : I64 l) (r : Int) :
    Ret Try.prog 62 #[v, vi l, vi r] w (fun u w' => ∃ v', u = .tuple #[v', .bool (t.may l)] ∧ RV w' (fun b => D b ∨ w.heap.size ≤ b) v' (t.assign l r) ∧ Keep w w' No) := by
  obtain ⟨A, c, rfl, hc, hr⟩ := id h
  refine ok62 _ _ _ _ _ ?_
  unfold sh62
  refine M.new_i (l := [vi t.vars, .slice A t.L.length c, vi t.level]) (fun w1 hB k1 s1 => ?_)
  refine M.new_i (fun w2 hZ k2 s2 => ?_)
  have hB := hB.keep k2 (fun h => h)
  refine M.loadAll_i hB rfl ?_
  have k12 := k1.trans k2 (fun _ _ h => h)
  refine M.call_i (rmay_ret (h.keep k12 (fun _ _ _ h => h)) hf hI hl) ?_; rintro _ w3 ⟨rfl, k3⟩
  have hB := hB.keep k3 (fun h => h)
  have hZ := hZ.keep k3 (fun h => h)
  have k13 := k12.trans k3 (fun _ _ h => h)
  cases hm : t.may l with
  | false =>
    (repeat (first | refine M.len_i ?_ | refine M.nilCheck_i ?_ | refine M.field_i ?_ | refine M.draw_i ?_ | refine M.cap_i ?_ | refine M.gd_tt ?_ | refine M.gd_ff ?_ | refine M.gd_ft ?_ | refine M.gd_tf ?_ | refine M.pick_t ?_ | refine M.pick_f ?_ | refine M.not_t ?_ | refine M.not_f ?_ | refine M.cond_t ?_ | refine M.cond_f ?_ | refine M.eqNilP_tn ?_ | refine M.eqNilP_ts ?_ | refine M.eqNilP_fn ?_ | refine M.eqNilP_fs ?_ | refine M.eqNilS_tn ?_ | refine M.eqNilS_ts ?_ | refine M.eqNilS_fn ?_ | refine M.eqNilS_fs ?_ | refine M.lss_t (by omega) ?_ | refine M.lss_f (by omega) ?_ | refine M.leq_t (by omega) ?_ | refine M.leq_f (by omega) ?_ | refine M.gtr_t (by omega) ?_ | refine M.gtr_f (by omega) ?_ | refine M.geq_t (by omega) ?_ | refine M.geq_f (by omega) ?_ | refine M.eql_t (by omega) ?_ | refine M.eql_f (by omega) ?_ | refine M.neq_t (by omega) ?_ | refine M.neq_f (by omega) ?_ | refine M.add_i (by omega) (by omega) ?_ | refine M.sub_i (by omega) (by omega) ?_ | refine M.load_i (by assumption) ?_ | refine M.loadB_i (by assumption) rfl ?_ | refine M.st_i (by assumption) ?_ | refine M.stB_i (by assumption) rfl ?_ | refine M.gs_ff ?_ | refine M.gs_tt ?_ | refine M.gs_ft ?_ | refine M.gs_tf ?_ | refine M.stAll_i (by assumption) rfl ?_))
    refine M.loadAll_i hB rfl ?_
    refine M.storeAll_i hZ rfl rfl (tri_one _ _ _ rfl rfl rfl) (fun w4 hZ k4 s4 => ?_)
    refine M.loadAll_i hZ rfl ?_
    have k14 := k13.trans k4 (fun b hb h => by omega)
    refine ⟨_, rfl, ?_, k14⟩
    have e : t.assign l r = t := by simp [RT.assign, hm]
    rw [e]
    exact (h.keep k14 (fun _ _ _ h => h)).mono (fun _ _ h => .inl h)
  | true =>
    (repeat (first | refine M.len_i ?_ | refine M.nilCheck_i ?_ | refine M.field_i ?_ | refine M.draw_i ?_ | refine M.cap_i ?_ | refine M.gd_tt ?_ | refine M.gd_ff ?_ | refine M.gd_ft ?_ | refine M.gd_tf ?_ | refine M.pick_t ?_ | refine M.pick_f ?_ | refine M.not_t ?_ | refine M.not_f ?_ | refine M.cond_t ?_ | refine M.cond_f ?_ | refine M.eqNilP_tn ?_ | refine M.eqNilP_ts ?_ | refine M.eqNilP_fn ?_ | refine M.eqNilP_fs ?_ | refine M.eqNilS_tn ?_ | refine M.eqNilS_ts ?_ | refine M.eqNilS_fn ?_ | refine M.eqNilS_fs ?_ | refine M.lss_t (by omega) ?_ | refine M.lss_f (by omega) ?_ | refine M.leq_t (by omega) ?_ | refine M.leq_f (by omega) ?_ | refine M.gtr_t (by omega) ?_ | refine M.gtr_f (by omega) ?_ | refine M.geq_t (by omega) ?_ | refine M.geq_f (by omega) ?_ | refine M.eql_t (by omega) ?_ | refine M.eql_f (by omega) ?_ | refine M.neq_t (by omega) ?_ | refine M.neq_f (by omega) ?_ | refine M.add_i (by omega) (by omega) ?_ | refine M.sub_i (by omega) (by omega) ?_ | refine M.load_i (by assumption) ?_ | refine M.loadB_i (by assumption) rfl ?_ | refine M.st_i (by assumption) ?_ | refine M.stB_i (by assumption) rfl ?_ | refine M.gs_ff ?_ | refine M.gs_tt ?_ | refine M.gs_ft ?_ | refine M.gs_tf ?_ | refine M.stAll_i (by assumption) rfl ?_))
    have hr3 := hr.keep k13 (fun _ _ _ h => h)
    refine M.append_i (GC.nil w3 No 3) hr3 (en_len _) (en_one _) rfl (by omega) (by omega) (fun v1 w4 g1 k4 => ?_)
    simp only [Nat.zero_add, List.nil_append] at g1
    have hB := hB.keep k4 (fun h => h)
    have hZ := hZ.keep k4 (fun h => h)
    (repeat (first | refine M.len_i ?_ | refine M.nilCheck_i ?_ | refine M.field_i ?_ | refine M.draw_i ?_ | refine M.cap_i ?_ | refine M.gd_tt ?_ | refine M.gd_ff ?_ | refine M.gd_ft ?_ | refine M.gd_tf ?_ | refine M.pick_t ?_ | refine M.pick_f ?_ | refine M.not_t ?_ | refine M.not_f ?_ | refine M.cond_t ?_ | refine M.cond_f ?_ | refine M.eqNilP_tn ?_ | refine M.eqNilP_ts ?_ | refine M.eqNilP_fn ?_ | refine M.eqNilP_fs ?_ | refine M.eqNilS_tn ?_ | refine M.eqNilS_ts ?_ | refine M.eqNilS_fn ?_ | refine M.eqNilS_fs ?_ | refine M.lss_t (by omega) ?_ | refine M.lss_f (by omega) ?_ | refine M.leq_t (by omega) ?_ | refine M.leq_f (by omega) ?_ | refine M.gtr_t (by omega) ?_ | refine M.gtr_f (by omega) ?_ | refine M.geq_t (by omega) ?_ | refine M.geq_f (by omega) ?_ | refine M.eql_t (by omega) ?_ | refine M.eql_f (by omega) ?_ | refine M.neq_t (by omega) ?_ | refine M.neq_f (by omega) ?_ | refine M.add_i (by omega) (by omega) ?_ | refine M.sub_i (by omega) (by omega) ?_ | refine M.load_i (by assumption) ?_ | refine M.loadB_i (by assumption) rfl ?_ | refine M.st_i (by assumption) ?_ | refine M.stB_i (by assumption) rfl ?_ | refine M.gs_ff ?_ | refine M.gs_tt ?_ | refine M.gs_ft ?_ | refine M.gs_tf ?_ | refine M.stAll_i (by assumption) rfl ?_))
    refine M.pure_i (.agg #[vi l, vi t.level, vi r]) (fun _ => by kernel_rfl) ?_
    refine M.buildSlice_i [vi l, vi t.level, vi r] (by kernel_rfl) (fun w5 hn k5 s5 => ?_)
    have g1 := g1.keep k5 (fun _ _ _ h => h)
    have hB := hB.keep k5 (fun h => h)
    have hZ := hZ.keep k5 (fun h => h)
    have q2 := k2.size; have q3 := k3.size; have q4 := k4.size; have q5 := k5.size; have q1 := k1.size
    refine M.append_i g1 (Row.of_blk' (D := fun _ => True) hn trivial) rfl (tri_one _ _ _ rfl rfl rfl) rfl (by omega) (by omega) (fun v2 w6 g2 k6 => ?_)
    have hb1 : w.heap.size < w3.heap.size := by omega
    have hb2 : w1.heap.size < w3.heap.size := by omega
    have hB := hB.keep k6 (fun h => by rcases h with h | h; exact h; omega)
    have hZ := hZ.keep k6 (fun h => by rcases h with h | h; exact h; omega)
    (repeat (first | refine M.len_i ?_ | refine M.nilCheck_i ?_ | refine M.field_i ?_ | refine M.draw_i ?_ | refine M.cap_i ?_ | refine M.gd_tt ?_ | refine M.gd_ff ?_ | refine M.gd_ft ?_ | refine M.gd_tf ?_ | refine M.pick_t ?_ | refine M.pick_f ?_ | refine M.not_t ?_ | refine M.not_f ?_ | refine M.cond_t ?_ | refine M.cond_f ?_ | refine M.eqNilP_tn ?_ | refine M.eqNilP_ts ?_ | refine M.eqNilP_fn ?_ | refine M.eqNilP_fs ?_ | refine M.eqNilS_tn ?_ | refine M.eqNilS_ts ?_ | refine M.eqNilS_fn ?_ | refine M.eqNilS_fs ?_ | refine M.lss_t (by omega) ?_ | refine M.lss_f (by omega) ?_ | refine M.leq_t (by omega) ?_ | refine M.leq_f (by omega) ?_ | refine M.gtr_t (by omega) ?_ | refine M.gtr_f (by omega) ?_ | refine M.geq_t (by omega) ?_ | refine M.geq_f (by omega) ?_ | refine M.eql_t (by omega) ?_ | refine M.eql_f (by omega) ?_ | refine M.neq_t (by omega) ?_ | refine M.neq_f (by omega) ?_ | refine M.add_i (by omega) (by omega) ?_ | refine M.sub_i (by omega) (by omega) ?_ | refine M.load_i (by assumption) ?_ | refine M.loadB_i (by assumption) rfl ?_ | refine M.st_i (by assumption) ?_ | refine M.stB_i (by assumption) rfl ?_ | refine M.gs_ff ?_ | refine M.gs_tt ?_ | refine M.gs_ft ?_ | refine M.gs_tf ?_ | refine M.stAll_i (by assumption) rfl ?_))
    refine M.store_i hB (by simp) g2.one (fun w7 hB k7 s7 => ?_)
    have g2 := g2.keep k7 (fun b hb h1 h2 => by rcases h1 with (h1 | h1) | h1 <;> first | exact h1.elim | omega)
    have hZ := hZ.keep k7 (fun h => by omega)
    refine M.loadAll_i hB (by simp) ?_
    obtain ⟨A2, c2, rfl, r2, hc2⟩ := g2.row2 (by omega)
    refine M.storeAll_i hZ rfl rfl (tri_one _ _ _ rfl rfl rfl) (fun w8 hZ k8 s8 => ?_)
    have r2 := r2.keep k8 (fun b hb h1 h2 => by rcases h1 with (h1 | h1) | h1 <;> first | exact h1.elim | omega)
    refine M.loadAll_i hZ rfl ?_
    have e : t.assign l r = t.push l r := by simp [RT.assign, hm]
    rw [e]
    have kk : Keep w w8 No := ((((k13.trans k4 (fun _ _ h => h)).trans k5 (fun _ _ h => h)).trans k6 (fun b hb h => by rcases h with h | h; exact h; omega)).trans k7 (fun b hb h => by omega)).trans k8 (fun b hb h => by omega)
    refine ⟨_, rfl, ⟨A2, c2, by simp [RT.push], by simpa [RT.push] using hc2, ?_⟩, kk⟩
    · have e2 : (t.push l r).L.flatMap en = t.L.flatMap en ++ [vi l, vi t.level, vi r] := by simp [RT.push, en]
      rw [e2]
      exact r2.mono (fun b hb h => by rcases h with (h | h) | h <;> first | exact h.elim | (right; omega))

set_option maxHeartbeats 1000000 in
theorem rdec_ret {w : World} {D : Nat → Prop} {v : Value} {t : RT} (h : RV w D v t) (hf : Few t.L.length) (hv : 0 ≤ t.level ∧ t.level ≤ 1000000000) (hI : ∀ e ∈ t.L, I64 e.lit) {l : Int} (hl : I64 l) :
    Ret Try.prog 63 #[v, vi l] w (fun u w' => ∃ v', u = .tuple #[v', .bool (t.may l)] ∧ RV w' (fun b => D b ∨ w.heap.size ≤ b) v' (t.dec l) ∧ Keep w w' No) := by
  obtain ⟨A, c, rfl, hc, hr⟩ := id h
  refine ok63 _ _ _ _ ?_
  unfold sh63
  refine M.new_i (l := [vi t.vars, .slice A t.L.length c, vi t.level]) (fun w1 hB k1 s1 => ?_)
  refine M.new_i (fun w2 hZ k2 s2 => ?_)
  have hB := hB.keep k2 (fun h => h)
  refine M.loadAll_i hB rfl ?_
  have k12 := k1.trans k2 (fun _ _ h => h)
  refine M.call_i (rmay_ret (h.keep k12 (fun _ _ _ h => h)) hf hI hl) ?_; rintro _ w3 ⟨rfl, k3⟩
  have hB := hB.keep k3 (fun h => h)
  have hZ := hZ.keep k3 (fun h => h)
  have k13 := k12.trans k3 (fun _ _ h => h)
  have q2 := k2.size; have q3 := k3.size; have q1 := k1.size
  cases hm : t.may l with
  | false =>
    (repeat (first | refine M.len_i ?_ | refine M.nilCheck_i ?_ | refine M.field_i ?_ | refine M.draw_i ?_ | refine M.cap_i ?_ | refine M.gd_tt ?_ | refine M.gd_ff ?_ | refine M.gd_ft ?_ | refine M.gd_tf ?_ | refine M.pick_t ?_ | refine M.pick_f ?_ | refine M.not_t ?_ | refine M.not_f ?_ | refine M.cond_t ?_ | refine M.cond_f ?_ | refine M.eqNilP_tn ?_ | refine M.eqNilP_ts ?_ | refine M.eqNilP_fn ?_ | refine M.eqNilP_fs ?_ | refine M.eqNilS_tn ?_ | refine M.eqNilS_ts ?_ | refine M.eqNilS_fn ?_ | refine M.eqNilS_fs ?_ | refine M.lss_t (by omega) ?_ | refine M.lss_f (by omega) ?_ | refine M.leq_t (by omega) ?_ | refine M.leq_f (by omega) ?_ | refine M.gtr_t (by omega) ?_ | refine M.gtr_f (by omega) ?_ | refine M.geq_t (by omega) ?_ | refine M.geq_f (by omega) ?_ | refine M.eql_t (by omega) ?_ | refine M.eql_f (by omega) ?_ | refine M.neq_t (by omega) ?_ | refine M.neq_f (by omega) ?_ | refine M.add_i (by omega) (by omega) ?_ | refine M.sub_i (by omega) (by omega) ?_ | refine M.load_i (by assumption) ?_ | refine M.loadB_i (by assumption) rfl ?_ | refine M.st_i (by assumption) ?_ | refine M.stB_i (by assumption) rfl ?_ | refine M.gs_ff ?_ | refine M.gs_tt ?_ | refine M.gs_ft ?_ | refine M.gs_tf ?_ | refine M.stAll_i (by assumption) rfl ?_))
    refine M.loadAll_i hB rfl ?_
    refine M.storeAll_i hZ rfl rfl (tri_one _ _ _ rfl rfl rfl) (fun w4 hZ k4 s4 => ?_)
    refine M.loadAll_i hZ rfl ?_
    have k14 := k13.trans k4 (fun b hb h => by omega)
    refine ⟨_, rfl, ?_, k14⟩
    have e : t.dec l = t := by simp [RT.dec, hm]
    rw [e]
    exact (h.keep k14 (fun _ _ _ h => h)).mono (fun _ _ h => .inl h)
  | true =>
    (repeat (first | refine M.len_i ?_ | refine M.nilCheck_i ?_ | refine M.field_i ?_ | refine M.draw_i ?_ | refine M.cap_i ?_ | refine M.gd_tt ?_ | refine M.gd_ff ?_ | refine M.gd_ft ?_ | refine M.gd_tf ?_ | refine M.pick_t ?_ | refine M.pick_f ?_ | refine M.not_t ?_ | refine M.not_f ?_ | refine M.cond_t ?_ | refine M.cond_f ?_ | refine M.eqNilP_tn ?_ | refine M.eqNilP_ts ?_ | refine M.eqNilP_fn ?_ | refine M.eqNilP_fs ?_ | refine M.eqNilS_tn ?_ | refine M.eqNilS_ts ?_ | refine M.eqNilS_fn ?_ | refine M.eqNilS_fs ?_ | refine M.lss_t (by omega) ?_ | refine M.lss_f (by omega) ?_ | refine M.leq_t (by omega) ?_ | refine M.leq_f (by omega) ?_ | refine M.gtr_t (by omega) ?_ | refine M.gtr_f (by omega) ?_ | refine M.geq_t (by omega) ?_ | refine M.geq_f (by omega) ?_ | refine M.eql_t (by omega) ?_ | refine M.eql_f (by omega) ?_ | refine M.neq_t (by omega) ?_ | refine M.neq_f (by omega) ?_ | refine M.add_i (by omega) (by omega) ?_ | refine M.sub_i (by omega) (by omega) ?_ | refine M.load_i (by assumption) ?_ | refine M.loadB_i (by assumption) rfl ?_ | refine M.st_i (by assumption) ?_ | refine M.stB_i (by assumption) rfl ?_ | refine M.gs_ff ?_ | refine M.gs_tt ?_ | refine M.gs_ft ?_ | refine M.gs_tf ?_ | refine M.stAll_i (by assumption) rfl ?_))
    refine M.store_i hB (by simp) rfl (fun w4 hB k4 s4 => ?_)
    have hZ := hZ.keep k4 (fun h => by omega)
    refine M.loadAll_i hB (by simp) ?_
    have k14 : Keep w w4 No := k13.trans k4 (fun b hb h => by omega)
    have hr' := hr.mono (D' := fun b => D b ∧ b < w.heap.size) (fun b hb hd => ⟨hd, hb⟩)
    have h4 : RV w4 (fun b => D b ∧ b < w.heap.size) (.agg ⟨[vi t.vars, .slice A t.L.length c, vi (t.level + 1)]⟩) { t with level := t.level + 1 } := ⟨A, c, rfl, hc, hr'.keep k14 (fun _ _ _ h => h)⟩
    refine M.call_i (rassign_ret h4 hf hI hl (-1)) ?_; rintro u w5 ⟨v', rfl, h5, k5⟩
    have hZ := hZ.keep k5 (fun h => h)
    have q4 := k4.size
    have hm2 : ({ t with level := t.level + 1 } : RT).may l = true := hm
    rw [hm2]
    refine M.extract_i rfl ?_
    refine M.extract_i rfl ?_
    obtain ⟨A5, c5, rfl, hc5, hr5⟩ := h5
    refine M.storeAll_i hZ rfl rfl (tri_one _ _ _ rfl rfl rfl) (fun w6 hZ k6 s6 => ?_)
    refine M.loadAll_i hZ rfl ?_
    have e : t.dec l = ({ t with level := t.level + 1 } : RT).assign l (-1) := by simp [RT.dec, RT.assign, hm, hm2]
    rw [e]
    refine ⟨_, rfl, ⟨A5, c5, rfl, hc5, ?_⟩, (k14.trans k5 (fun _ _ h => h)).trans k6 (fun b hb h => by omega)⟩
    exact (hr5.keep k6 (fun b hb h1 h2 => by omega)).mono (fun b hb h => by rcases h with h | h; exact .inl h.1; right; omega)

theorem rvalue_ret {w : World} {D : Nat → Prop} {v : Value} {t : RT} (h : RV w D v t) (hf : Few t.L.length) (hI : ∀ e ∈ t.L, I64 e.lit) {l : Int} (hl : I64 l) :
    Ret Try.prog 28 #[v, vi l] w (fun r w' => r = vi (t.val l) ∧ Keep w w' No) := by
  obtain ⟨A, c, rfl, hc, hr⟩ := id h
  refine ok28 _ _ _ _ ?_
  unfold sh28
  refine M.new_i (l := [vi t.vars, .slice A t.L.length c, vi t.level]) (fun w1 hB k1 s1 => ?_)
  by_cases h0 : l < 0
  · (repeat (first | refine M.len_i ?_ | refine M.nilCheck_i ?_ | refine M.field_i ?_ | refine M.draw_i ?_ | refine M.cap_i ?_ | refine M.gd_tt ?_ | refine M.gd_ff ?_ | refine M.gd_ft ?_ | refine M.gd_tf ?_ | refine M.pick_t ?_ | refine M.pick_f ?_ | refine M.not_t ?_ | refine M.not_f ?_ | refine M.cond_t ?_ | refine M.cond_f ?_ | refine M.eqNilP_tn ?_ | refine M.eqNilP_ts ?_ | refine M.eqNilP_fn ?_ | refine M.eqNilP_fs ?_ | refine M.eqNilS_tn ?_ | refine M.eqNilS_ts ?_ | refine M.eqNilS_fn ?_ | refine M.eqNilS_fs ?_ | refine M.lss_t (by omega) ?_ | refine M.lss_f (by omega) ?_ | refine M.leq_t (by omega) ?_ | refine M.leq_f (by omega) ?_ | refine M.gtr_t (by omega) ?_ | refine M.gtr_f (by omega) ?_ | refine M.geq_t (by omega) ?_ | refine M.geq_f (by omega) ?_ | refine M.eql_t (by omega) ?_ | refine M.eql_f (by omega) ?_ | refine M.neq_t (by omega) ?_ | refine M.neq_f (by omega) ?_ | refine M.add_i (by omega) (by omega) ?_ | refine M.sub_i (by omega) (by omega) ?_ | refine M.load_i (by assumption) ?_ | refine M.loadB_i (by assumption) rfl ?_ | refine M.st_i (by assumption) ?_ | refine M.stB_i (by assumption) rfl ?_ | refine M.gs_ff ?_ | refine M.gs_tt ?_ | refine M.gs_ft ?_ | refine M.gs_tf ?_ | refine M.stAll_i (by assumption) rfl ?_))
    exact ⟨by simp [RT.val, h0], k1⟩
  (repeat (first | refine M.len_i ?_ | refine M.nilCheck_i ?_ | refine M.field_i ?_ | refine M.draw_i ?_ | refine M.cap_i ?_ | refine M.gd_tt ?_ | refine M.gd_ff ?_ | refine M.gd_ft ?_ | refine M.gd_tf ?_ | refine M.pick_t ?_ | refine M.pick_f ?_ | refine M.not_t ?_ | refine M.not_f ?_ | refine M.cond_t ?_ | refine M.cond_f ?_ | refine M.eqNilP_tn ?_ | refine M.eqNilP_ts ?_ | refine M.eqNilP_fn ?_ | refine M.eqNilP_fs ?_ | refine M.eqNilS_tn ?_ | refine M.eqNilS_ts ?_ | refine M.eqNilS_fn ?_ | refine M.eqNilS_fs ?_ | refine M.lss_t (by omega) ?_ | refine M.lss_f (by omega) ?_ | refine M.leq_t (by omega) ?_ | refine M.leq_f (by omega) ?_ | refine M.gtr_t (by omega) ?_ | refine M.gtr_f (by omega) ?_ | refine M.geq_t (by omega) ?_ | refine M.geq_f (by omega) ?_ | refine M.eql_t (by omega) ?_ | refine M.eql_f (by omega) ?_ | refine M.neq_t (by omega) ?_ | refine M.neq_f (by omega) ?_ | refine M.add_i (by omega) (by omega) ?_ | refine M.sub_i (by omega) (by omega) ?_ | refine M.load_i (by assumption) ?_ | refine M.loadB_i (by assumption) rfl ?_ | refine M.st_i (by assumption) ?_ | refine M.stB_i (by assumption) rfl ?_ | refine M.gs_ff ?_ | refine M.gs_tt ?_ | refine M.gs_ft ?_ | refine M.gs_tf ?_ | refine M.stAll_i (by assumption) rfl ?_))
  refine M.loadAll_i hB rfl ?_
  refine M.quo2_i (by omega) hl.2 ?_
  refine M.call_i (rat_ret (h.keep k1 (fun _ _ _ h => h)) hf hI (l / 2)) ?_; rintro _ w2 ⟨rfl, k2⟩
  have hB := hB.keep k2 (fun h => h)
  have k12 := k1.trans k2 (fun _ _ h => h)
  have hr := hr.keep k12 (fun _ _ _ h => h)
  cases hi : t.idx (l / 2) with
  | none =>
    rw [RT.at1_none hi]
    (repeat (first | refine M.len_i ?_ | refine M.nilCheck_i ?_ | refine M.field_i ?_ | refine M.draw_i ?_ | refine M.cap_i ?_ | refine M.gd_tt ?_ | refine M.gd_ff ?_ | refine M.gd_ft ?_ | refine M.gd_tf ?_ | refine M.pick_t ?_ | refine M.pick_f ?_ | refine M.not_t ?_ | refine M.not_f ?_ | refine M.cond_t ?_ | refine M.cond_f ?_ | refine M.eqNilP_tn ?_ | refine M.eqNilP_ts ?_ | refine M.eqNilP_fn ?_ | refine M.eqNilP_fs ?_ | refine M.eqNilS_tn ?_ | refine M.eqNilS_ts ?_ | refine M.eqNilS_fn ?_ | refine M.eqNilS_fs ?_ | refine M.lss_t (by omega) ?_ | refine M.lss_f (by omega) ?_ | refine M.leq_t (by omega) ?_ | refine M.leq_f (by omega) ?_ | refine M.gtr_t (by omega) ?_ | refine M.gtr_f (by omega) ?_ | refine M.geq_t (by omega) ?_ | refine M.geq_f (by omega) ?_ | refine M.eql_t (by omega) ?_ | refine M.eql_f (by omega) ?_ | refine M.neq_t (by omega) ?_ | refine M.neq_f (by omega) ?_ | refine M.add_i (by omega) (by omega) ?_ | refine M.sub_i (by omega) (by omega) ?_ | refine M.load_i (by assumption) ?_ | refine M.loadB_i (by assumption) rfl ?_ | refine M.st_i (by assumption) ?_ | refine M.stB_i (by assumption) rfl ?_ | refine M.gs_ff ?_ | refine M.gs_tt ?_ | refine M.gs_ft ?_ | refine M.gs_tf ?_ | refine M.stAll_i (by assumption) rfl ?_))
    exact ⟨by simp [RT.val, RT.ent, h0, hi], k12⟩
  | some i =>
    obtain ⟨e, he1, he2⟩ := RT.idx_some hi
    have hlt := (List.getElem?_eq_some_iff.1 he1).1
    rw [RT.at1_some hi]
    (repeat (first | refine M.len_i ?_ | refine M.nilCheck_i ?_ | refine M.field_i ?_ | refine M.draw_i ?_ | refine M.cap_i ?_ | refine M.gd_tt ?_ | refine M.gd_ff ?_ | refine M.gd_ft ?_ | refine M.gd_tf ?_ | refine M.pick_t ?_ | refine M.pick_f ?_ | refine M.not_t ?_ | refine M.not_f ?_ | refine M.cond_t ?_ | refine M.cond_f ?_ | refine M.eqNilP_tn ?_ | refine M.eqNilP_ts ?_ | refine M.eqNilP_fn ?_ | refine M.eqNilP_fs ?_ | refine M.eqNilS_tn ?_ | refine M.eqNilS_ts ?_ | refine M.eqNilS_fn ?_ | refine M.eqNilS_fs ?_ | refine M.lss_t (by omega) ?_ | refine M.lss_f (by omega) ?_ | refine M.leq_t (by omega) ?_ | refine M.leq_f (by omega) ?_ | refine M.gtr_t (by omega) ?_ | refine M.gtr_f (by omega) ?_ | refine M.geq_t (by omega) ?_ | refine M.geq_f (by omega) ?_ | refine M.eql_t (by omega) ?_ | refine M.eql_f (by omega) ?_ | refine M.neq_t (by omega) ?_ | refine M.neq_f (by omega) ?_ | refine M.add_i (by omega) (by omega) ?_ | refine M.sub_i (by omega) (by omega) ?_ | refine M.load_i (by assumption) ?_ | refine M.loadB_i (by assumption) rfl ?_ | refine M.st_i (by assumption) ?_ | refine M.stB_i (by assumption) rfl ?_ | refine M.gs_ff ?_ | refine M.gs_tt ?_ | refine M.gs_ft ?_ | refine M.gs_tf ?_ | refine M.stAll_i (by assumption) rfl ?_))
    refine M.idxRowN_i hr (en_len _) (by omega) (by omega) (by omega) (fun b o hA hc => ?_)
    obtain ⟨g0, _, _⟩ := en_get _ _ _ he1
    have c0 := hc 0 (by omega)
    simp only [Int.toNat_natCast] at c0
    rw [g0] at c0
    (repeat (first | refine M.len_i ?_ | refine M.nilCheck_i ?_ | refine M.field_i ?_ | refine M.draw_i ?_ | refine M.cap_i ?_ | refine M.gd_tt ?_ | refine M.gd_ff ?_ | refine M.gd_ft ?_ | refine M.gd_tf ?_ | refine M.pick_t ?_ | refine M.pick_f ?_ | refine M.not_t ?_ | refine M.not_f ?_ | refine M.cond_t ?_ | refine M.cond_f ?_ | refine M.eqNilP_tn ?_ | refine M.eqNilP_ts ?_ | refine M.eqNilP_fn ?_ | refine M.eqNilP_fs ?_ | refine M.eqNilS_tn ?_ | refine M.eqNilS_ts ?_ | refine M.eqNilS_fn ?_ | refine M.eqNilS_fs ?_ | refine M.lss_t (by omega) ?_ | refine M.lss_f (by omega) ?_ | refine M.leq_t (by omega) ?_ | refine M.leq_f (by omega) ?_ | refine M.gtr_t (by omega) ?_ | refine M.gtr_f (by omega) ?_ | refine M.geq_t (by omega) ?_ | refine M.geq_f (by omega) ?_ | refine M.eql_t (by omega) ?_ | refine M.eql_f (by omega) ?_ | refine M.neq_t (by omega) ?_ | refine M.neq_f (by omega) ?_ | refine M.add_i (by omega) (by omega) ?_ | refine M.sub_i (by omega) (by omega) ?_ | refine M.load_i (by assumption) ?_ | refine M.loadB_i (by assumption) rfl ?_ | refine M.st_i (by assumption) ?_ | refine M.stB_i (by assumption) rfl ?_ | refine M.gs_ff ?_ | refine M.gs_tt ?_ | refine M.gs_ft ?_ | refine M.gs_tf ?_ | refine M.stAll_i (by assumption) rfl ?_))
    refine M.eql_i ?_
    refine M.cond_i (fun hx => ?_) (fun hx => ?_)
    · exact ⟨by simp [RT.val, h0, RT.ent_of hi he1, hx], k12⟩
    · exact ⟨by simp [RT.val, h0, RT.ent_of hi he1, hx], k12⟩
theorem rlevel_ret {w : World} {D : Nat → Prop} {v : Value} {t : RT} (h : RV w D v t) (hf : Few t.L.length) (hI : ∀ e ∈ t.L, I64 e.lit) (x : Int) :
    Ret Try.prog 30 #[v, vi x] w (fun r w' => r = vi (t.lev x) ∧ Keep w w' No) := by
  obtain ⟨A, c, rfl, hc, hr⟩ := id h
  refine ok30 _ _ _ _ ?_
  unfold sh30
  refine M.new_i (l := [vi t.vars, .slice A t.L.length c, vi t.level]) (fun w1 hB k1 s1 => ?_)
  refine M.loadAll_i hB rfl ?_
  refine M.call_i (rat_ret (h.keep k1 (fun _ _ _ h => h)) hf hI x) ?_; rintro _ w2 ⟨rfl, k2⟩
  have hB := hB.keep k2 (fun h => h)
  have k12 := k1.trans k2 (fun _ _ h => h)
  have hr := hr.keep k12 (fun _ _ _ h => h)
  by_cases h0 : x < 0
  · (repeat (first | refine M.len_i ?_ | refine M.nilCheck_i ?_ | refine M.field_i ?_ | refine M.draw_i ?_ | refine M.cap_i ?_ | refine M.gd_tt ?_ | refine M.gd_ff ?_ | refine M.gd_ft ?_ | refine M.gd_tf ?_ | refine M.pick_t ?_ | refine M.pick_f ?_ | refine M.not_t ?_ | refine M.not_f ?_ | refine M.cond_t ?_ | refine M.cond_f ?_ | refine M.eqNilP_tn ?_ | refine M.eqNilP_ts ?_ | refine M.eqNilP_fn ?_ | refine M.eqNilP_fs ?_ | refine M.eqNilS_tn ?_ | refine M.eqNilS_ts ?_ | refine M.eqNilS_fn ?_ | refine M.eqNilS_fs ?_ | refine M.lss_t (by omega) ?_ | refine M.lss_f (by omega) ?_ | refine M.leq_t (by omega) ?_ | refine M.leq_f (by omega) ?_ | refine M.gtr_t (by omega) ?_ | refine M.gtr_f (by omega) ?_ | refine M.geq_t (by omega) ?_ | refine M.geq_f (by omega) ?_ | refine M.eql_t (by omega) ?_ | refine M.eql_f (by omega) ?_ | refine M.neq_t (by omega) ?_ | refine M.neq_f (by omega) ?_ | refine M.add_i (by omega) (by omega) ?_ | refine M.sub_i (by omega) (by omega) ?_ | refine M.load_i (by assumption) ?_ | refine M.loadB_i (by assumption) rfl ?_ | refine M.st_i (by assumption) ?_ | refine M.stB_i (by assumption) rfl ?_ | refine M.gs_ff ?_ | refine M.gs_tt ?_ | refine M.gs_ft ?_ | refine M.gs_tf ?_ | refine M.stAll_i (by assumption) rfl ?_))
    exact ⟨by simp [RT.lev, h0], k12⟩
  cases hi : t.idx x with
  | none =>
    rw [RT.at1_none hi]
    (repeat (first | refine M.len_i ?_ | refine M.nilCheck_i ?_ | refine M.field_i ?_ | refine M.draw_i ?_ | refine M.cap_i ?_ | refine M.gd_tt ?_ | refine M.gd_ff ?_ | refine M.gd_ft ?_ | refine M.gd_tf ?_ | refine M.pick_t ?_ | refine M.pick_f ?_ | refine M.not_t ?_ | refine M.not_f ?_ | refine M.cond_t ?_ | refine M.cond_f ?_ | refine M.eqNilP_tn ?_ | refine M.eqNilP_ts ?_ | refine M.eqNilP_fn ?_ | refine M.eqNilP_fs ?_ | refine M.eqNilS_tn ?_ | refine M.eqNilS_ts ?_ | refine M.eqNilS_fn ?_ | refine M.eqNilS_fs ?_ | refine M.lss_t (by omega) ?_ | refine M.lss_f (by omega) ?_ | refine M.leq_t (by omega) ?_ | refine M.leq_f (by omega) ?_ | refine M.gtr_t (by omega) ?_ | refine M.gtr_f (by omega) ?_ | refine M.geq_t (by omega) ?_ | refine M.geq_f (by omega) ?_ | refine M.eql_t (by omega) ?_ | refine M.eql_f (by omega) ?_ | refine M.neq_t (by omega) ?_ | refine M.neq_f (by omega) ?_ | refine M.add_i (by omega) (by omega) ?_ | refine M.sub_i (by omega) (by omega) ?_ | refine M.load_i (by assumption) ?_ | refine M.loadB_i (by assumption) rfl ?_ | refine M.st_i (by assumption) ?_ | refine M.stB_i (by assumption) rfl ?_ | refine M.gs_ff ?_ | refine M.gs_tt ?_ | refine M.gs_ft ?_ | refine M.gs_tf ?_ | refine M.stAll_i (by assumption) rfl ?_))
    exact ⟨by simp [RT.lev, RT.ent, h0, hi], k12⟩
  | some i =>
    obtain ⟨e, he1, he2⟩ := RT.idx_some hi
    have hlt := (List.getElem?_eq_some_iff.1 he1).1
    rw [RT.at1_some hi]
    (repeat (first | refine M.len_i ?_ | refine M.nilCheck_i ?_ | refine M.field_i ?_ | refine M.draw_i ?_ | refine M.cap_i ?_ | refine M.gd_tt ?_ | refine M.gd_ff ?_ | refine M.gd_ft ?_ | refine M.gd_tf ?_ | refine M.pick_t ?_ | refine M.pick_f ?_ | refine M.not_t ?_ | refine M.not_f ?_ | refine M.cond_t ?_ | refine M.cond_f ?_ | refine M.eqNilP_tn ?_ | refine M.eqNilP_ts ?_ | refine M.eqNilP_fn ?_ | refine M.eqNilP_fs ?_ | refine M.eqNilS_tn ?_ | refine M.eqNilS_ts ?_ | refine M.eqNilS_fn ?_ | refine M.eqNilS_fs ?_ | refine M.lss_t (by omega) ?_ | refine M.lss_f (by omega) ?_ | refine M.leq_t (by omega) ?_ | refine M.leq_f (by omega) ?_ | refine M.gtr_t (by omega) ?_ | refine M.gtr_f (by omega) ?_ | refine M.geq_t (by omega) ?_ | refine M.geq_f (by omega) ?_ | refine M.eql_t (by omega) ?_ | refine M.eql_f (by omega) ?_ | refine M.neq_t (by omega) ?_ | refine M.neq_f (by omega) ?_ | refine M.add_i (by omega) (by omega) ?_ | refine M.sub_i (by omega) (by omega) ?_ | refine M.load_i (by assumption) ?_ | refine M.loadB_i (by assumption) rfl ?_ | refine M.st_i (by assumption) ?_ | refine M.stB_i (by assumption) rfl ?_ | refine M.gs_ff ?_ | refine M.gs_tt ?_ | refine M.gs_ft ?_ | refine M.gs_tf ?_ | refine M.stAll_i (by assumption) rfl ?_))
    refine M.idxRowN_i hr (en_len _) (by omega) (by omega) (by omega) (fun b o hA hc => ?_)
    obtain ⟨_, g0, _⟩ := en_get _ _ _ he1
    have c0 := hc 1 (by omega)
    simp only [Int.toNat_natCast] at c0
    rw [g0] at c0
    (repeat (first | refine M.len_i ?_ | refine M.nilCheck_i ?_ | refine M.field_i ?_ | refine M.draw_i ?_ | refine M.cap_i ?_ | refine M.gd_tt ?_ | refine M.gd_ff ?_ | refine M.gd_ft ?_ | refine M.gd_tf ?_ | refine M.pick_t ?_ | refine M.pick_f ?_ | refine M.not_t ?_ | refine M.not_f ?_ | refine M.cond_t ?_ | refine M.cond_f ?_ | refine M.eqNilP_tn ?_ | refine M.eqNilP_ts ?_ | refine M.eqNilP_fn ?_ | refine M.eqNilP_fs ?_ | refine M.eqNilS_tn ?_ | refine M.eqNilS_ts ?_ | refine M.eqNilS_fn ?_ | refine M.eqNilS_fs ?_ | refine M.lss_t (by omega) ?_ | refine M.lss_f (by omega) ?_ | refine M.leq_t (by omega) ?_ | refine M.leq_f (by omega) ?_ | refine M.gtr_t (by omega) ?_ | refine M.gtr_f (by omega) ?_ | refine M.geq_t (by omega) ?_ | refine M.geq_f (by omega) ?_ | refine M.eql_t (by omega) ?_ | refine M.eql_f (by omega) ?_ | refine M.neq_t (by omega) ?_ | refine M.neq_f (by omega) ?_ | refine M.add_i (by omega) (by omega) ?_ | refine M.sub_i (by omega) (by omega) ?_ | refine M.load_i (by assumption) ?_ | refine M.loadB_i (by assumption) rfl ?_ | refine M.st_i (by assumption) ?_ | refine M.stB_i (by assumption) rfl ?_ | refine M.gs_ff ?_ | refine M.gs_tt ?_ | refine M.gs_ft ?_ | refine M.gs_tf ?_ | refine M.stAll_i (by assumption) rfl ?_))
    exact ⟨by simp [RT.lev, h0, RT.ent_of hi he1], k12⟩
theorem rreason_ret {w : World} {D : Nat → Prop} {v : Value} {t : RT} (h : RV w D v t) (hf : Few t.L.length) (hI : ∀ e ∈ t.L, I64 e.lit) (x : Int) :
    Ret Try.prog 32 #[v, vi x] w (fun r w' => r = vi (t.rea x) ∧ Keep w w' No) := by
  obtain ⟨A, c, rfl, hc, hr⟩ := id h
  refine ok32 _ _ _ _ ?_
  unfold sh32
  refine M.new_i (l := [vi t.vars, .slice A t.L.length c, vi t.level]) (fun w1 hB k1 s1 => ?_)
  refine M.loadAll_i hB rfl ?_
  refine M.call_i (rat_ret (h.keep k1 (fun _ _ _ h => h)) hf hI x) ?_; rintro _ w2 ⟨rfl, k2⟩
  have hB := hB.keep k2 (fun h => h)
  have k12 := k1.trans k2 (fun _ _ h => h)
  have hr := hr.keep k12 (fun _ _ _ h => h)
  by_cases h0 : x < 0
  · (repeat (first | refine M.len_i ?_ | refine M.nilCheck_i ?_ | refine M.field_i ?_ | refine M.draw_i ?_ | refine M.cap_i ?_ | refine M.gd_tt ?_ | refine M.gd_ff ?_ | refine M.gd_ft ?_ | refine M.gd_tf ?_ | refine M.pick_t ?_ | refine M.pick_f ?_ | refine M.not_t ?_ | refine M.not_f ?_ | refine M.cond_t ?_ | refine M.cond_f ?_ | refine M.eqNilP_tn ?_ | refine M.eqNilP_ts ?_ | refine M.eqNilP_fn ?_ | refine M.eqNilP_fs ?_ | refine M.eqNilS_tn ?_ | refine M.eqNilS_ts ?_ | refine M.eqNilS_fn ?_ | refine M.eqNilS_fs ?_ | refine M.lss_t (by omega) ?_ | refine M.lss_f (by omega) ?_ | refine M.leq_t (by omega) ?_ | refine M.leq_f (by omega) ?_ | refine M.gtr_t (by omega) ?_ | refine M.gtr_f (by omega) ?_ | refine M.geq_t (by omega) ?_ | refine M.geq_f (by omega) ?_ | refine M.eql_t (by omega) ?_ | refine M.eql_f (by omega) ?_ | refine M.neq_t (by omega) ?_ | refine M.neq_f (by omega) ?_ | refine M.add_i (by omega) (by omega) ?_ | refine M.sub_i (by omega) (by omega) ?_ | refine M.load_i (by assumption) ?_ | refine M.loadB_i (by assumption) rfl ?_ | refine M.st_i (by assumption) ?_ | refine M.stB_i (by assumption) rfl ?_ | refine M.gs_ff ?_ | refine M.gs_tt ?_ | refine M.gs_ft ?_ | refine M.gs_tf ?_ | refine M.stAll_i (by assumption) rfl ?_))
    exact ⟨by simp [RT.rea, h0], k12⟩
  cases hi : t.idx x with
  | none =>
    rw [RT.at1_none hi]
    (repeat (first | refine M.len_i ?_ | refine M.nilCheck_i ?_ | refine M.field_i ?_ | refine M.draw_i ?_ | refine M.cap_i ?_ | refine M.gd_tt ?_ | refine M.gd_ff ?_ | refine M.gd_ft ?_ | refine M.gd_tf ?_ | refine M.pick_t ?_ | refine M.pick_f ?_ | refine M.not_t ?_ | refine M.not_f ?_ | refine M.cond_t ?_ | refine M.cond_f ?_ | refine M.eqNilP_tn ?_ | refine M.eqNilP_ts ?_ | refine M.eqNilP_fn ?_ | refine M.eqNilP_fs ?_ | refine M.eqNilS_tn ?_ | refine M.eqNilS_ts ?_ | refine M.eqNilS_fn ?_ | refine M.eqNilS_fs ?_ | refine M.lss_t (by omega) ?_ | refine M.lss_f (by omega) ?_ | refine M.leq_t (by omega) ?_ | refine M.leq_f (by omega) ?_ | refine M.gtr_t (by omega) ?_ | refine M.gtr_f (by omega) ?_ | refine M.geq_t (by omega) ?_ | refine M.geq_f (by omega) ?_ | refine M.eql_t (by omega) ?_ | refine M.eql_f (by omega) ?_ | refine M.neq_t (by omega) ?_ | refine M.neq_f (by omega) ?_ | refine M.add_i (by omega) (by omega) ?_ | refine M.sub_i (by omega) (by omega) ?_ | refine M.load_i (by assumption) ?_ | refine M.loadB_i (by assumption) rfl ?_ | refine M.st_i (by assumption) ?_ | refine M.stB_i (by assumption) rfl ?_ | refine M.gs_ff ?_ | refine M.gs_tt ?_ | refine M.gs_ft ?_ | refine M.gs_tf ?_ | refine M.stAll_i (by assumption) rfl ?_))
    exact ⟨by simp [RT.rea, RT.ent, h0, hi], k12⟩
  | some i =>
    obtain ⟨e, he1, he2⟩ := RT.idx_some hi
    have hlt := (List.getElem?_eq_some_iff.1 he1).1
    rw [RT.at1_some hi]
    (repeat (first | refine M.len_i ?_ | refine M.nilCheck_i ?_ | refine M.field_i ?_ | refine M.draw_i ?_ | refine M.cap_i ?_ | refine M.gd_tt ?_ | refine M.gd_ff ?_ | refine M.gd_ft ?_ | refine M.gd_tf ?_ | refine M.pick_t ?_ | refine M.pick_f ?_ | refine M.not_t ?_ | refine M.not_f ?_ | refine M.cond_t ?_ | refine M.cond_f ?_ | refine M.eqNilP_tn ?_ | refine M.eqNilP_ts ?_ | refine M.eqNilP_fn ?_ | refine M.eqNilP_fs ?_ | refine M.eqNilS_tn ?_ | refine M.eqNilS_ts ?_ | refine M.eqNilS_fn ?_ | refine M.eqNilS_fs ?_ | refine M.lss_t (by omega) ?_ | refine M.lss_f (by omega) ?_ | refine M.leq_t (by omega) ?_ | refine M.leq_f (by omega) ?_ | refine M.gtr_t (by omega) ?_ | refine M.gtr_f (by omega) ?_ | refine M.geq_t (by omega) ?_ | refine M.geq_f (by omega) ?_ | refine M.eql_t (by omega) ?_ | refine M.eql_f (by omega) ?_ | refine M.neq_t (by omega) ?_ | refine M.neq_f (by omega) ?_ | refine M.add_i (by omega) (by omega) ?_ | refine M.sub_i (by omega) (by omega) ?_ | refine M.load_i (by assumption) ?_ | refine M.loadB_i (by assumption) rfl ?_ | refine M.st_i (by assumption) ?_ | refine M.stB_i (by assumption) rfl ?_ | refine M.gs_ff ?_ | refine M.gs_tt ?_ | refine M.gs_ft ?_ | refine M.gs_tf ?_ | refine M.stAll_i (by assumption) rfl ?_))
    refine M.idxRowN_i hr (en_len _) (by omega) (by omega) (by omega) (fun b o hA hc => ?_)
    obtain ⟨_, _, g0⟩ := en_get _ _ _ he1
    have c0 := hc 2 (by omega)
    simp only [Int.toNat_natCast] at c0
    rw [g0] at c0
    (repeat (first | refine M.len_i ?_ | refine M.nilCheck_i ?_ | refine M.field_i ?_ | refine M.draw_i ?_ | refine M.cap_i ?_ | refine M.gd_tt ?_ | refine M.gd_ff ?_ | refine M.gd_ft ?_ | refine M.gd_tf ?_ | refine M.pick_t ?_ | refine M.pick_f ?_ | refine M.not_t ?_ | refine M.not_f ?_ | refine M.cond_t ?_ | refine M.cond_f ?_ | refine M.eqNilP_tn ?_ | refine M.eqNilP_ts ?_ | refine M.eqNilP_fn ?_ | refine M.eqNilP_fs ?_ | refine M.eqNilS_tn ?_ | refine M.eqNilS_ts ?_ | refine M.eqNilS_fn ?_ | refine M.eqNilS_fs ?_ | refine M.lss_t (by omega) ?_ | refine M.lss_f (by omega) ?_ | refine M.leq_t (by omega) ?_ | refine M.leq_f (by omega) ?_ | refine M.gtr_t (by omega) ?_ | refine M.gtr_f (by omega) ?_ | refine M.geq_t (by omega) ?_ | refine M.geq_f (by omega) ?_ | refine M.eql_t (by omega) ?_ | refine M.eql_f (by omega) ?_ | refine M.neq_t (by omega) ?_ | refine M.neq_f (by omega) ?_ | refine M.add_i (by omega) (by omega) ?_ | refine M.sub_i (by omega) (by omega) ?_ | refine M.load_i (by assumption) ?_ | refine M.loadB_i (by assumption) rfl ?_ | refine M.st_i (by assumption) ?_ | refine M.stB_i (by assumption) rfl ?_ | refine M.gs_ff ?_ | refine M.gs_tt ?_ | refine M.gs_ft ?_ | refine M.gs_tf ?_ | refine M.stAll_i (by assumption) rfl ?_))
    exact ⟨by simp [RT.rea, h0, RT.ent_of hi he1], k12⟩

theorem rlits_ret {w : World} {D : Nat → Prop} {v : Value} {t : RT} (h : RV w D v t) (hf : Few t.L.length) :
    Ret Try.prog 34 #[v] w (fun r w' => GI w' (w.heap.size ≤ ·) r (t.L.map (·.lit)) ∧ Keep w w' No) := by
  obtain ⟨A, c, rfl, hc, hr⟩ := id h
  refine ok34 _ _ _ ?_
  unfold sh34
  refine M.new_i (l := [vi t.vars, .slice A t.L.length c, vi t.level]) (fun w1 hB k1 s1 => ?_)
  refine M.loop_i (σ := Nat) (fun i vals w' => ∃ vo, vals = [vo, vi i] ∧ i ≤ t.L.length ∧ GI w' (w1.heap.size ≤ ·) vo ((t.L.take i).map (·.lit)) ∧ Keep w1 w' No) (fun i => t.L.length - i) 0
    ⟨.slice none 0 0, rfl, by omega, GI.nil _ _, Keep.refl _ _⟩ ?_
  rintro i vals w2 K ⟨vo, rfl, hi, ho, k2⟩ hK _
  simp only [List.getD_cons_zero, List.getD_cons_succ]
  have hB := hB.keep k2 (fun h => h)
  have k12 := k1.trans k2 (fun _ _ h => h)
  have hr := hr.keep k12 (fun _ _ _ h => h)
  have q2 := k2.size
  by_cases hlt : i < t.L.length
  · (repeat (first | refine M.len_i ?_ | refine M.nilCheck_i ?_ | refine M.field_i ?_ | refine M.draw_i ?_ | refine M.cap_i ?_ | refine M.gd_tt ?_ | refine M.gd_ff ?_ | refine M.gd_ft ?_ | refine M.gd_tf ?_ | refine M.pick_t ?_ | refine M.pick_f ?_ | refine M.not_t ?_ | refine M.not_f ?_ | refine M.cond_t ?_ | refine M.cond_f ?_ | refine M.eqNilP_tn ?_ | refine M.eqNilP_ts ?_ | refine M.eqNilP_fn ?_ | refine M.eqNilP_fs ?_ | refine M.eqNilS_tn ?_ | refine M.eqNilS_ts ?_ | refine M.eqNilS_fn ?_ | refine M.eqNilS_fs ?_ | refine M.lss_t (by omega) ?_ | refine M.lss_f (by omega) ?_ | refine M.leq_t (by omega) ?_ | refine M.leq_f (by omega) ?_ | refine M.gtr_t (by omega) ?_ | refine M.gtr_f (by omega) ?_ | refine M.geq_t (by omega) ?_ | refine M.geq_f (by omega) ?_ | refine M.eql_t (by omega) ?_ | refine M.eql_f (by omega) ?_ | refine M.neq_t (by omega) ?_ | refine M.neq_f (by omega) ?_ | refine M.add_i (by omega) (by omega) ?_ | refine M.sub_i (by omega) (by omega) ?_ | refine M.load_i (by assumption) ?_ | refine M.loadB_i (by assumption) rfl ?_ | refine M.st_i (by assumption) ?_ | refine M.stB_i (by assumption) rfl ?_ | refine M.gs_ff ?_ | refine M.gs_tt ?_ | refine M.gs_ft ?_ | refine M.gs_tf ?_ | refine M.stAll_i (by assumption) rfl ?_))
    refine M.idxRowN_i hr (en_len _) (by omega) (by omega) (by omega) (fun b o hA hc => ?_)
    obtain ⟨e, he⟩ : ∃ e, t.L[i]? = some e := ⟨_, List.getElem?_eq_getElem hlt⟩
    obtain ⟨g0, _, _⟩ := en_get _ _ _ he
    have c0 := hc 0 (by omega)
    simp only [Int.toNat_natCast] at c0
    rw [g0] at c0
    (repeat (first | refine M.len_i ?_ | refine M.nilCheck_i ?_ | refine M.field_i ?_ | refine M.draw_i ?_ | refine M.cap_i ?_ | refine M.gd_tt ?_ | refine M.gd_ff ?_ | refine M.gd_ft ?_ | refine M.gd_tf ?_ | refine M.pick_t ?_ | refine M.pick_f ?_ | refine M.not_t ?_ | refine M.not_f ?_ | refine M.cond_t ?_ | refine M.cond_f ?_ | refine M.eqNilP_tn ?_ | refine M.eqNilP_ts ?_ | refine M.eqNilP_fn ?_ | refine M.eqNilP_fs ?_ | refine M.eqNilS_tn ?_ | refine M.eqNilS_ts ?_ | refine M.eqNilS_fn ?_ | refine M.eqNilS_fs ?_ | refine M.lss_t (by omega) ?_ | refine M.lss_f (by omega) ?_ | refine M.leq_t (by omega) ?_ | refine M.leq_f (by omega) ?_ | refine M.gtr_t (by omega) ?_ | refine M.gtr_f (by omega) ?_ | refine M.geq_t (by omega) ?_ | refine M.geq_f (by omega) ?_ | refine M.eql_t (by omega) ?_ | refine M.eql_f (by omega) ?_ | refine M.neq_t (by omega) ?_ | refine M.neq_f (by omega) ?_ | refine M.add_i (by omega) (by omega) ?_ | refine M.sub_i (by omega) (by omega) ?_ | refine M.load_i (by assumption) ?_ | refine M.loadB_i (by assumption) rfl ?_ | refine M.st_i (by assumption) ?_ | refine M.stB_i (by assumption) rfl ?_ | refine M.gs_ff ?_ | refine M.gs_tt ?_ | refine M.gs_ft ?_ | refine M.gs_tf ?_ | refine M.stAll_i (by assumption) rfl ?_))
    refine M.buildSlice_i [vi e.lit] (by kernel_rfl) (fun w3 hn k3 s3 => ?_)
    have ho := ho.keep k3 (fun _ _ _ h => h)
    refine M.append1_i ho (Row.of_blk' (D := fun _ => True) hn trivial) rfl (by simp; omega) (fun vo' w4 ho k4 => ?_)
    have q3 := k3.size
    (repeat (first | refine M.len_i ?_ | refine M.nilCheck_i ?_ | refine M.field_i ?_ | refine M.draw_i ?_ | refine M.cap_i ?_ | refine M.gd_tt ?_ | refine M.gd_ff ?_ | refine M.gd_ft ?_ | refine M.gd_tf ?_ | refine M.pick_t ?_ | refine M.pick_f ?_ | refine M.not_t ?_ | refine M.not_f ?_ | refine M.cond_t ?_ | refine M.cond_f ?_ | refine M.eqNilP_tn ?_ | refine M.eqNilP_ts ?_ | refine M.eqNilP_fn ?_ | refine M.eqNilP_fs ?_ | refine M.eqNilS_tn ?_ | refine M.eqNilS_ts ?_ | refine M.eqNilS_fn ?_ | refine M.eqNilS_fs ?_ | refine M.lss_t (by omega) ?_ | refine M.lss_f (by omega) ?_ | refine M.leq_t (by omega) ?_ | refine M.leq_f (by omega) ?_ | refine M.gtr_t (by omega) ?_ | refine M.gtr_f (by omega) ?_ | refine M.geq_t (by omega) ?_ | refine M.geq_f (by omega) ?_ | refine M.eql_t (by omega) ?_ | refine M.eql_f (by omega) ?_ | refine M.neq_t (by omega) ?_ | refine M.neq_f (by omega) ?_ | refine M.add_i (by omega) (by omega) ?_ | refine M.sub_i (by omega) (by omega) ?_ | refine M.load_i (by assumption) ?_ | refine M.loadB_i (by assumption) rfl ?_ | refine M.st_i (by assumption) ?_ | refine M.stB_i (by assumption) rfl ?_ | refine M.gs_ff ?_ | refine M.gs_tt ?_ | refine M.gs_ft ?_ | refine M.gs_tf ?_ | refine M.stAll_i (by assumption) rfl ?_))
    refine hK (i + 1) _ _ (by omega) ⟨vo', by simp, by omega, ?_, ?_⟩
    · have e1 : t.L.take (i + 1) = t.L.take i ++ [e] := by
        rw [List.take_add_one, he]; rfl
      rw [e1]
      simp only [List.map_append, List.map_cons, List.map_nil]
      exact ho.mono (fun b hb h => by omega)
    · exact (k2.trans k3 (fun _ _ h => h)).trans k4 (fun b hb h => by omega)
  · (repeat (first | refine M.len_i ?_ | refine M.nilCheck_i ?_ | refine M.field_i ?_ | refine M.draw_i ?_ | refine M.cap_i ?_ | refine M.gd_tt ?_ | refine M.gd_ff ?_ | refine M.gd_ft ?_ | refine M.gd_tf ?_ | refine M.pick_t ?_ | refine M.pick_f ?_ | refine M.not_t ?_ | refine M.not_f ?_ | refine M.cond_t ?_ | refine M.cond_f ?_ | refine M.eqNilP_tn ?_ | refine M.eqNilP_ts ?_ | refine M.eqNilP_fn ?_ | refine M.eqNilP_fs ?_ | refine M.eqNilS_tn ?_ | refine M.eqNilS_ts ?_ | refine M.eqNilS_fn ?_ | refine M.eqNilS_fs ?_ | refine M.lss_t (by omega) ?_ | refine M.lss_f (by omega) ?_ | refine M.leq_t (by omega) ?_ | refine M.leq_f (by omega) ?_ | refine M.gtr_t (by omega) ?_ | refine M.gtr_f (by omega) ?_ | refine M.geq_t (by omega) ?_ | refine M.geq_f (by omega) ?_ | refine M.eql_t (by omega) ?_ | refine M.eql_f (by omega) ?_ | refine M.neq_t (by omega) ?_ | refine M.neq_f (by omega) ?_ | refine M.add_i (by omega) (by omega) ?_ | refine M.sub_i (by omega) (by omega) ?_ | refine M.load_i (by assumption) ?_ | refine M.loadB_i (by assumption) rfl ?_ | refine M.st_i (by assumption) ?_ | refine M.stB_i (by assumption) rfl ?_ | refine M.gs_ff ?_ | refine M.gs_tt ?_ | refine M.gs_ft ?_ | refine M.gs_tf ?_ | refine M.stAll_i (by assumption) rfl ?_))
    have : i = t.L.length := by omega
    subst this
    rw [List.take_length] at ho
    exact ⟨ho.mono (fun b hb h => by omega), k12⟩

/-! breakwater/breakwaterref10.Back: function 64 -/
def sh64 (x0 x1 : Value) (R : Kt) (w : World) : Prop :=
  M.new 47 (Value.cells x0) (fun t2 w =>
  M.new 47 #[.int .i64 0, .slice none 0 0, .int .i64 0] (fun t4 w =>
  M.bin .lss x1 (Value.int IntKind.i64 0) (fun t9 w =>
  M.gd t9 false (fun k w => k x1 w) (fun t11 w =>
  M.gd t9 false (fun k w => M.fieldAddr 2 t2 k w) (fun t12 w =>
  M.gd t9 false (fun k w => M.load1 t12 k w) (fun t13 w =>
  M.gd t9 false (fun k w => M.bin .geq t11 t13 k w) (fun t14 w =>
  M.pick t9 (Value.bool true) t14 (fun t15 w =>
  M.cond t15
  (M.loadA 3 t2 (fun t16 w =>
  M.store 3 t4 t16 (fun _ w =>
  M.loadA 3 t4 (fun r0 w => R (.tuple #[r0, (Value.slice none 0 0)]) w) w) w) w)
  (M.fieldAddr 1 t2 (fun t17 w =>
  M.load1 t17 (fun t18 w =>
  M.len t18 (fun t19 w =>
  M.loop [(Value.slice none 0 0), t19] (fun s1 K1 w => ∀ _ : List Value,
  M.bin .gtr (s1.getD 1 undef) (Value.int IntKind.i64 0) (fun t21 w =>
  M.gd t21 true (fun k w => M.fieldAddr 1 t2 k w) (fun t23 w =>
  M.gd t21 true (fun k w => M.load1 t23 k w) (fun t24 w =>
  M.gd t21 true (fun k w => k (s1.getD 1 undef) w) (fun t25 w =>
  M.gd t21 true (fun k w => M.bin .sub t25 (Value.int IntKind.i64 1) k w) (fun t26 w =>
  M.gd t21 true (fun k w => M.indexSl 3 t24 t26 k w) (fun t27 w =>
  M.gd t21 true (fun k w => M.fieldAddr 1 t27 k w) (fun t28 w =>
  M.gd t21 true (fun k w => M.load1 t28 k w) (fun t29 w =>
  M.gd t21 true (fun k w => k x1 w) (fun t30 w =>
  M.gd t21 true (fun k w => M.bin .gtr t29 t30 k w) (fun t31 w =>
  M.pick t21 t31 (Value.bool false) (fun t32 w =>
  M.cond t32
  (M.bin .sub (s1.getD 1 undef) (Value.int IntKind.i64 1) (fun t34 w =>
  M.fieldAddr 1 t2 (fun t36 w =>
  M.load1 t36 (fun t37 w =>
  M.indexSl 3 t37 t34 (fun t39 w =>
  M.fieldAddr 0 t39 (fun t40 w =>
  M.load1 t40 (fun t41 w =>
  M.call Try.prog 90 #[t41] (fun t42 w =>
  M.buildSlice 3 1 #[.int .i64 0] 1 [(0, t42)] (fun t43 w =>
  M.append 3 1 8 #[.int .i64 0] (s1.getD 0 undef) t43 (fun t44 w =>
  K1 [t44, t34] w) w) w) w) w) w) w) w) w) w)
  (M.fieldAddr 1 t2 (fun t45 w =>
  M.load1 t45 (fun t46 w =>
  M.slice 3 t46 none (some (s1.getD 1 undef)) none (fun t48 w =>
  M.append 111 3 24 #[.int .i64 0, .int .i64 0, .int .i64 0] (Value.slice none 0 0) t48 (fun t49 w =>
  M.fieldAddr 1 t2 (fun t50 w =>
  M.store 1 t50 t49 (fun _ w =>
  M.fieldAddr 2 t2 (fun t52 w =>
  M.store 1 t52 x1 (fun _ w =>
  M.loadA 3 t2 (fun t53 w =>
  M.store 3 t4 t53 (fun _ w =>
  M.loadA 3 t4 (fun r0 w => R (.tuple #[r0, (s1.getD 0 undef)]) w) w) w) w) w) w) w) w) w) w) w) w)) w) w) w) w) w) w) w) w) w) w) w) w) w) w) w)) w) w) w) w) w) w) w) w
theorem ok64 (x0 x1 : Value) (R : Kt) (w : World) (h : sh64 x0 x1 R w) : Ret Try.prog 64 #[x0, x1] w R :=
  ret_mk <| calls_of_comp mixed (c := Try.f64.body.getD .skip) (args := [x0, x1]) (rs := [(ResultVar.cell 4 47), (ResultVar.tmp 5)]) (Ann.seq Ann.text (Ann.seq (Ann.seq Ann.text (Ann.cond (Ann.seq Ann.text Ann.leaf) Ann.leaf)) (Ann.seq Ann.text (Ann.seq Ann.text (Ann.seq (Ann.block (Ann.loop [6, 7] [20, 21, 22, 23, 24, 25, 26, 27, 28, 29, 30, 31, 32, 33, 34, 35, 36, 37, 38, 39, 40, 41, 42, 43, 44] (Ann.seq (Ann.seq Ann.text (Ann.cond Ann.leaf Ann.leaf)) (Ann.block (Ann.seq Ann.text Ann.text))))) (Ann.seq Ann.text (Ann.seq Ann.text (Ann.seq Ann.text Ann.leaf))))))))
    Try.func64 (by kernel_rfl) (by kernel_rfl)
    (Eq.mp (by kernel_rfl) h)

def cutAt (L : List Ent) (lv : Int) : Nat := L.length - (L.reverse.takeWhile fun e => decide (lv < e.lev)).length
def RT.back (t : RT) (lv : Int) : RT × List Int :=
  if lv < 0 ∨ t.level ≤ lv then (t, []) else ({ t with L := t.L.take (cutAt t.L lv), level := lv }, ((t.L.drop (cutAt t.L lv)).map fun e => varOf e.lit).reverse)
theorem cutAt_eq {L : List Ent} {lv : Int} {n : Nat} (hn : n ≤ L.length) (h1 : ∀ (j : Nat) e, n ≤ j → L[j]? = some e → lv < e.lev) (h2 : n = 0 ∨ ∃ e, L[n - 1]? = some e ∧ ¬ lv < e.lev) : cutAt L lv = n := by
  unfold cutAt
  have hrev : ∀ j, j < L.length → L.reverse[j]? = L[L.length - 1 - j]? := fun j hj => List.getElem?_reverse hj
  rw [takeWhile_len _ _ (L.length - n)]
  · omega
  · intro j e hj he
    rw [hrev j (by omega)] at he
    have := h1 _ e (by omega) he
    simpa using this
  · intro e he
    rcases h2 with h2 | ⟨e', he', hx⟩
    · subst h2
      rw [List.getElem?_eq_none (by simp)] at he
      cases he
    · by_cases h0 : L.length - n < L.length
      · rw [hrev _ h0] at he
        have : L.length - 1 - (L.length - n) = n - 1 := by omega
        rw [this, he'] at he
        obtain rfl := Option.some.inj he
        simpa using hx
      · rw [List.getElem?_eq_none (by simp; omega)] at he
        cases he
  · simp
set_option maxHeartbeats 1000000 in
theorem rback_ret {w : World} {D : Nat → Prop} {v : Value} {t : RT} (h : RV w D v t) (hf : Few t.L.length) (hI : ∀ e ∈ t.L, I64 e.lit) (lv : Int) :
    Ret Try.prog 64 #[v, vi lv] w (fun u w' => ∃ v' o', u = .tuple #[v', o'] ∧ RV w' (fun b => D b ∨ w.heap.size ≤ b) v' (t.back lv).1 ∧ GI w' (w.heap.size ≤ ·) o' (t.back lv).2 ∧ Keep w w' No) := by
  obtain ⟨A, c, rfl, hc, hr⟩ := id h
  refine ok64 _ _ _ _ ?_
  unfold sh64
  refine M.new_i (l := [vi t.vars, .slice A t.L.length c, vi t.level]) (fun w1 hB k1 s1 => ?_)
  refine M.new_i (fun w2 hZ k2 s2 => ?_)
  have hB := hB.keep k2 (fun h => h)
  have k12 := k1.trans k2 (fun _ _ h => h)
  have q2 := k2.size; have q1 := k1.size
  by_cases h0 : lv < 0 ∨ t.level ≤ lv
  · have e : t.back lv = (t, []) := by simp [RT.back, h0]
    rw [e]
    have hcase : lv < 0 ∨ (¬ lv < 0 ∧ t.level ≤ lv) := by omega
    rcases hcase with hx | ⟨hx, hy⟩
    all_goals
      (repeat (first | refine M.len_i ?_ | refine M.nilCheck_i ?_ | refine M.field_i ?_ | refine M.draw_i ?_ | refine M.cap_i ?_ | refine M.gd_tt ?_ | refine M.gd_ff ?_ | refine M.gd_ft ?_ | refine M.gd_tf ?_ | refine M.pick_t ?_ | refine M.pick_f ?_ | refine M.not_t ?_ | refine M.not_f ?_ | refine M.cond_t ?_ | refine M.cond_f ?_ | refine M.eqNilP_tn ?_ | refine M.eqNilP_ts ?_ | refine M.eqNilP_fn ?_ | refine M.eqNilP_fs ?_ | refine M.eqNilS_tn ?_ | refine M.eqNilS_ts ?_ | refine M.eqNilS_fn ?_ | refine M.eqNilS_fs ?_ | refine M.lss_t (by omega) ?_ | refine M.lss_f (by omega) ?_ | refine M.leq_t (by omega) ?_ | refine M.leq_f (by omega) ?_ | refine M.gtr_t (by omega) ?_ | refine M.gtr_f (by omega) ?_ | refine M.geq_t (by omega) ?_ | refine M.geq_f (by omega) ?_ | refine M.eql_t (by omega) ?_ | refine M.eql_f (by omega) ?_ | refine M.neq_t (by omega) ?_ | refine M.neq_f (by omega) ?_ | refine M.add_i (by omega) (by omega) ?_ | refine M.sub_i (by omega) (by omega) ?_ | refine M.load_i (by assumption) ?_ | refine M.loadB_i (by assumption) rfl ?_ | refine M.st_i (by assumption) ?_ | refine M.stB_i (by assumption) rfl ?_ | refine M.gs_ff ?_ | refine M.gs_tt ?_ | refine M.gs_ft ?_ | refine M.gs_tf ?_ | refine M.stAll_i (by assumption) rfl ?_))
      refine M.loadAll_i hB rfl ?_
      refine M.storeAll_i hZ rfl rfl (tri_one _ _ _ rfl rfl rfl) (fun w4 hZ k4 s4 => ?_)
      refine M.loadAll_i hZ rfl ?_
      have k14 := k12.trans k4 (fun b hb h => by omega)
      exact ⟨_, _, rfl, (h.keep k14 (fun _ _ _ h => h)).mono (fun _ _ h => .inl h), GI.nil _ _, k14⟩
  have hx : ¬ lv < 0 := by omega
  have hy : ¬ t.level ≤ lv := by omega
  (repeat (first | refine M.len_i ?_ | refine M.nilCheck_i ?_ | refine M.field_i ?_ | refine M.draw_i ?_ | refine M.cap_i ?_ | refine M.gd_tt ?_ | refine M.gd_ff ?_ | refine M.gd_ft ?_ | refine M.gd_tf ?_ | refine M.pick_t ?_ | refine M.pick_f ?_ | refine M.not_t ?_ | refine M.not_f ?_ | refine M.cond_t ?_ | refine M.cond_f ?_ | refine M.eqNilP_tn ?_ | refine M.eqNilP_ts ?_ | refine M.eqNilP_fn ?_ | refine M.eqNilP_fs ?_ | refine M.eqNilS_tn ?_ | refine M.eqNilS_ts ?_ | refine M.eqNilS_fn ?_ | refine M.eqNilS_fs ?_ | refine M.lss_t (by omega) ?_ | refine M.lss_f (by omega) ?_ | refine M.leq_t (by omega) ?_ | refine M.leq_f (by omega) ?_ | refine M.gtr_t (by omega) ?_ | refine M.gtr_f (by omega) ?_ | refine M.geq_t (by omega) ?_ | refine M.geq_f (by omega) ?_ | refine M.eql_t (by omega) ?_ | refine M.eql_f (by omega) ?_ | refine M.neq_t (by omega) ?_ | refine M.neq_f (by omega) ?_ | refine M.add_i (by omega) (by omega) ?_ | refine M.sub_i (by omega) (by omega) ?_ | refine M.load_i (by assumption) ?_ | refine M.loadB_i (by assumption) rfl ?_ | refine M.st_i (by assumption) ?_ | refine M.stB_i (by assumption) rfl ?_ | refine M.gs_ff ?_ | refine M.gs_tt ?_ | refine M.gs_ft ?_ | refine M.gs_tf ?_ | refine M.stAll_i (by assumption) rfl ?_))
  refine M.loop_i (σ := Nat) (fun n vals w' => ∃ vo, vals = [vo, vi n] ∧ n ≤ t.L.length ∧ GI w' (w2.heap.size ≤ ·) vo (((t.L.drop n).map fun e => varOf e.lit).reverse) ∧
      (∀ (j : Nat) e, n ≤ j → t.L[j]? = some e → lv < e.lev) ∧ Keep w2 w' No) (fun n => n) t.L.length
    ⟨.slice none 0 0, rfl, Nat.le_refl _, by simp; exact GI.nil _ _, fun j e hj he => by have := (List.getElem?_eq_some_iff.1 he).1; omega, Keep.refl _ _⟩ ?_
  rintro n vals w3 K ⟨vo, rfl, hn, ho, hall, k3⟩ hK _
  simp only [List.getD_cons_zero, List.getD_cons_succ]
  have hB := hB.keep k3 (fun h => h)
  have hZ := hZ.keep k3 (fun h => h)
  have k13 := k12.trans k3 (fun _ _ h => h)
  have hr3 := hr.keep k13 (fun _ _ _ h => h)
  have q3 := k3.size
  have fin : (n = 0 ∨ ∃ e, t.L[n - 1]? = some e ∧ ¬ lv < e.lev) → ∀ w4, Keep w3 w4 No → ∀ R : Kt,
      (∀ u w', (∃ v' o', u = .tuple #[v', o'] ∧ RV w' (fun b => D b ∨ w.heap.size ≤ b) v' (t.back lv).1 ∧ GI w' (w.heap.size ≤ ·) o' (t.back lv).2 ∧ Keep w w' No) → R u w') →
      M.slice 3 (.slice A t.L.length c) none (some (vi n)) none (fun t48 w_1 =>
        M.append 111 3 24 #[.int .i64 0, .int .i64 0, .int .i64 0] (.slice none 0 0) t48 (fun t49 w_1 => M.fieldAddr 1 (.pointer (some ⟨w.heap.size, 0, none⟩)) (fun t50 w_1 => M.store 1 t50 t49 (fun _ w_1 =>
        M.fieldAddr 2 (.pointer (some ⟨w.heap.size, 0, none⟩)) (fun t52 w_1 => M.store 1 t52 (vi lv) (fun _ w_1 => M.loadA 3 (.pointer (some ⟨w.heap.size, 0, none⟩)) (fun t53 w_1 => M.store 3 (.pointer (some ⟨w1.heap.size, 0, none⟩)) t53 (fun _ w_1 =>
        M.loadA 3 (.pointer (some ⟨w1.heap.size, 0, none⟩)) (fun r0 w => R (.tuple #[r0, vo]) w) w_1) w_1) w_1) w_1) w_1) w_1) w_1) w_1) w4 := by
    intro hcut w4 k4 R hR
    have hcn := cutAt_eq hn hall hcut
    have hB := hB.keep k4 (fun h => h)
    have hZ := hZ.keep k4 (fun h => h)
    have ho := ho.keep k4 (fun _ _ _ h => h)
    have k14 := k13.trans k4 (fun _ _ h => h)
    have hr4 := hr.keep k14 (fun _ _ _ h => h)
    have q4 := k4.size
    refine M.slice_i 0 n c (sl3_h (by omega)) ?_
    have hrt : Row w4 D (if c = 0 then A else A.map (·.add (0 * 3))) ((t.L.take n).flatMap en) := by
      have e1 : (t.L.take n).flatMap en = (t.L.flatMap en).take (n * 3) := by
        have := en_len (t.L.take n)
        have e2 : t.L.flatMap en = (t.L.take n).flatMap en ++ (t.L.drop n).flatMap en := by rw [← List.flatMap_append, List.take_append_drop]
        rw [e2]
        exact (List.take_left' (by rw [this, List.length_take]; omega)).symm
      rw [e1]
      simpa using (hr4.take (n * 3)).same
    refine M.append_i (GC.nil w4 No 3) hrt (by rw [en_len]; simp; omega) (en_one _) rfl (by omega) (by omega) (fun v1 w5 g1 k5 => ?_)
    simp only [Nat.zero_add, List.nil_append, Nat.sub_zero] at g1
    have hB := hB.keep k5 (fun h => h)
    have hZ := hZ.keep k5 (fun h => h)
    have ho := ho.keep k5 (fun _ _ _ h => h)
    have q5 := k5.size
    (repeat (first | refine M.len_i ?_ | refine M.nilCheck_i ?_ | refine M.field_i ?_ | refine M.draw_i ?_ | refine M.cap_i ?_ | refine M.gd_tt ?_ | refine M.gd_ff ?_ | refine M.gd_ft ?_ | refine M.gd_tf ?_ | refine M.pick_t ?_ | refine M.pick_f ?_ | refine M.not_t ?_ | refine M.not_f ?_ | refine M.cond_t ?_ | refine M.cond_f ?_ | refine M.eqNilP_tn ?_ | refine M.eqNilP_ts ?_ | refine M.eqNilP_fn ?_ | refine M.eqNilP_fs ?_ | refine M.eqNilS_tn ?_ | refine M.eqNilS_ts ?_ | refine M.eqNilS_fn ?_ | refine M.eqNilS_fs ?_ | refine M.lss_t (by omega) ?_ | refine M.lss_f (by omega) ?_ | refine M.leq_t (by omega) ?_ | refine M.leq_f (by omega) ?_ | refine M.gtr_t (by omega) ?_ | refine M.gtr_f (by omega) ?_ | refine M.geq_t (by omega) ?_ | refine M.geq_f (by omega) ?_ | refine M.eql_t (by omega) ?_ | refine M.eql_f (by omega) ?_ | refine M.neq_t (by omega) ?_ | refine M.neq_f (by omega) ?_ | refine M.add_i (by omega) (by omega) ?_ | refine M.sub_i (by omega) (by omega) ?_ | refine M.load_i (by assumption) ?_ | refine M.loadB_i (by assumption) rfl ?_ | refine M.st_i (by assumption) ?_ | refine M.stB_i (by assumption) rfl ?_ | refine M.gs_ff ?_ | refine M.gs_tt ?_ | refine M.gs_ft ?_ | refine M.gs_tf ?_ | refine M.stAll_i (by assumption) rfl ?_))
    refine M.store_i hB (by simp) g1.one (fun w6 hB k6 s6 => ?_)
    have g1 := g1.keep k6 (fun b hb h1 h2 => by rcases h1 with h1 | h1; exact h1.elim; omega)
    have hZ := hZ.keep k6 (fun h => by omega)
    have ho := ho.keep k6 (fun b hb h1 h2 => by omega)
    (repeat (first | refine M.len_i ?_ | refine M.nilCheck_i ?_ | refine M.field_i ?_ | refine M.draw_i ?_ | refine M.cap_i ?_ | refine M.gd_tt ?_ | refine M.gd_ff ?_ | refine M.gd_ft ?_ | refine M.gd_tf ?_ | refine M.pick_t ?_ | refine M.pick_f ?_ | refine M.not_t ?_ | refine M.not_f ?_ | refine M.cond_t ?_ | refine M.cond_f ?_ | refine M.eqNilP_tn ?_ | refine M.eqNilP_ts ?_ | refine M.eqNilP_fn ?_ | refine M.eqNilP_fs ?_ | refine M.eqNilS_tn ?_ | refine M.eqNilS_ts ?_ | refine M.eqNilS_fn ?_ | refine M.eqNilS_fs ?_ | refine M.lss_t (by omega) ?_ | refine M.lss_f (by omega) ?_ | refine M.leq_t (by omega) ?_ | refine M.leq_f (by omega) ?_ | refine M.gtr_t (by omega) ?_ | refine M.gtr_f (by omega) ?_ | refine M.geq_t (by omega) ?_ | refine M.geq_f (by omega) ?_ | refine M.eql_t (by omega) ?_ | refine M.eql_f (by omega) ?_ | refine M.neq_t (by omega) ?_ | refine M.neq_f (by omega) ?_ | refine M.add_i (by omega) (by omega) ?_ | refine M.sub_i (by omega) (by omega) ?_ | refine M.load_i (by assumption) ?_ | refine M.loadB_i (by assumption) rfl ?_ | refine M.st_i (by assumption) ?_ | refine M.stB_i (by assumption) rfl ?_ | refine M.gs_ff ?_ | refine M.gs_tt ?_ | refine M.gs_ft ?_ | refine M.gs_tf ?_ | refine M.stAll_i (by assumption) rfl ?_))
    refine M.store_i hB (by simp) rfl (fun w7 hB k7 s7 => ?_)
    have g1 := g1.keep k7 (fun b hb h1 h2 => by rcases h1 with h1 | h1; exact h1.elim; omega)
    have hZ := hZ.keep k7 (fun h => by omega)
    have ho := ho.keep k7 (fun b hb h1 h2 => by omega)
    refine M.loadAll_i hB (by simp) ?_
    obtain ⟨A2, c2, rfl, r2, hc2⟩ := g1.row2 (by omega)
    refine M.storeAll_i hZ rfl rfl (tri_one _ _ _ rfl rfl rfl) (fun w8 hZ k8 s8 => ?_)
    have r2 := r2.keep k8 (fun b hb h1 h2 => by rcases h1 with h1 | h1; exact h1.elim; omega)
    have ho := ho.keep k8 (fun b hb h1 h2 => by omega)
    refine M.loadAll_i hZ rfl (hR _ _ ?_)
    have e : t.back lv = ({ t with L := t.L.take n, level := lv }, ((t.L.drop n).map fun e => varOf e.lit).reverse) := by simp [RT.back, h0, hcn]
    rw [e]
    have hl : (t.L.take n).length = n := by simp; omega
    refine ⟨_, _, rfl, ⟨A2, c2, by simp [hl], by rw [hl]; exact hc2, r2.mono (fun b hb h => by rcases h with h | h; exact h.elim; right; omega)⟩, ho.mono (fun b hb h => by omega), ?_⟩
    exact (((k14.trans k5 (fun _ _ h => h)).trans k6 (fun b hb h => by omega)).trans k7 (fun b hb h => by omega)).trans k8 (fun b hb h => by omega)
  by_cases hn0 : n = 0
  · subst hn0
    (repeat (first | refine M.len_i ?_ | refine M.nilCheck_i ?_ | refine M.field_i ?_ | refine M.draw_i ?_ | refine M.cap_i ?_ | refine M.gd_tt ?_ | refine M.gd_ff ?_ | refine M.gd_ft ?_ | refine M.gd_tf ?_ | refine M.pick_t ?_ | refine M.pick_f ?_ | refine M.not_t ?_ | refine M.not_f ?_ | refine M.cond_t ?_ | refine M.cond_f ?_ | refine M.eqNilP_tn ?_ | refine M.eqNilP_ts ?_ | refine M.eqNilP_fn ?_ | refine M.eqNilP_fs ?_ | refine M.eqNilS_tn ?_ | refine M.eqNilS_ts ?_ | refine M.eqNilS_fn ?_ | refine M.eqNilS_fs ?_ | refine M.lss_t (by omega) ?_ | refine M.lss_f (by omega) ?_ | refine M.leq_t (by omega) ?_ | refine M.leq_f (by omega) ?_ | refine M.gtr_t (by omega) ?_ | refine M.gtr_f (by omega) ?_ | refine M.geq_t (by omega) ?_ | refine M.geq_f (by omega) ?_ | refine M.eql_t (by omega) ?_ | refine M.eql_f (by omega) ?_ | refine M.neq_t (by omega) ?_ | refine M.neq_f (by omega) ?_ | refine M.add_i (by omega) (by omega) ?_ | refine M.sub_i (by omega) (by omega) ?_ | refine M.load_i (by assumption) ?_ | refine M.loadB_i (by assumption) rfl ?_ | refine M.st_i (by assumption) ?_ | refine M.stB_i (by assumption) rfl ?_ | refine M.gs_ff ?_ | refine M.gs_tt ?_ | refine M.gs_ft ?_ | refine M.gs_tf ?_ | refine M.stAll_i (by assumption) rfl ?_))
    exact fin (.inl rfl) w3 (Keep.refl _ _) _ (fun u w' h => h)
  obtain ⟨e, he⟩ : ∃ e, t.L[n - 1]? = some e := ⟨_, List.getElem?_eq_getElem (by omega)⟩
  have hn1 : ((n : Int) - 1).toNat = n - 1 := by omega
  (repeat (first | refine M.len_i ?_ | refine M.nilCheck_i ?_ | refine M.field_i ?_ | refine M.draw_i ?_ | refine M.cap_i ?_ | refine M.gd_tt ?_ | refine M.gd_ff ?_ | refine M.gd_ft ?_ | refine M.gd_tf ?_ | refine M.pick_t ?_ | refine M.pick_f ?_ | refine M.not_t ?_ | refine M.not_f ?_ | refine M.cond_t ?_ | refine M.cond_f ?_ | refine M.eqNilP_tn ?_ | refine M.eqNilP_ts ?_ | refine M.eqNilP_fn ?_ | refine M.eqNilP_fs ?_ | refine M.eqNilS_tn ?_ | refine M.eqNilS_ts ?_ | refine M.eqNilS_fn ?_ | refine M.eqNilS_fs ?_ | refine M.lss_t (by omega) ?_ | refine M.lss_f (by omega) ?_ | refine M.leq_t (by omega) ?_ | refine M.leq_f (by omega) ?_ | refine M.gtr_t (by omega) ?_ | refine M.gtr_f (by omega) ?_ | refine M.geq_t (by omega) ?_ | refine M.geq_f (by omega) ?_ | refine M.eql_t (by omega) ?_ | refine M.eql_f (by omega) ?_ | refine M.neq_t (by omega) ?_ | refine M.neq_f (by omega) ?_ | refine M.add_i (by omega) (by omega) ?_ | refine M.sub_i (by omega) (by omega) ?_ | refine M.load_i (by assumption) ?_ | refine M.loadB_i (by assumption) rfl ?_ | refine M.st_i (by assumption) ?_ | refine M.stB_i (by assumption) rfl ?_ | refine M.gs_ff ?_ | refine M.gs_tt ?_ | refine M.gs_ft ?_ | refine M.gs_tf ?_ | refine M.stAll_i (by assumption) rfl ?_))
  refine M.idxRowN_i hr3 (en_len _) (by omega) (by omega) (by omega) (fun b o hA hc => ?_)
  obtain ⟨g0, g1, _⟩ := en_get _ _ _ he
  have c0 := hc 0 (by omega)
  have c1 := hc 1 (by omega)
  rw [hn1] at c0 c1
  rw [g0] at c0
  rw [g1] at c1
  rw [hn1]
  (repeat (first | refine M.len_i ?_ | refine M.nilCheck_i ?_ | refine M.field_i ?_ | refine M.draw_i ?_ | refine M.cap_i ?_ | refine M.gd_tt ?_ | refine M.gd_ff ?_ | refine M.gd_ft ?_ | refine M.gd_tf ?_ | refine M.pick_t ?_ | refine M.pick_f ?_ | refine M.not_t ?_ | refine M.not_f ?_ | refine M.cond_t ?_ | refine M.cond_f ?_ | refine M.eqNilP_tn ?_ | refine M.eqNilP_ts ?_ | refine M.eqNilP_fn ?_ | refine M.eqNilP_fs ?_ | refine M.eqNilS_tn ?_ | refine M.eqNilS_ts ?_ | refine M.eqNilS_fn ?_ | refine M.eqNilS_fs ?_ | refine M.lss_t (by omega) ?_ | refine M.lss_f (by omega) ?_ | refine M.leq_t (by omega) ?_ | refine M.leq_f (by omega) ?_ | refine M.gtr_t (by omega) ?_ | refine M.gtr_f (by omega) ?_ | refine M.geq_t (by omega) ?_ | refine M.geq_f (by omega) ?_ | refine M.eql_t (by omega) ?_ | refine M.eql_f (by omega) ?_ | refine M.neq_t (by omega) ?_ | refine M.neq_f (by omega) ?_ | refine M.add_i (by omega) (by omega) ?_ | refine M.sub_i (by omega) (by omega) ?_ | refine M.load_i (by assumption) ?_ | refine M.loadB_i (by assumption) rfl ?_ | refine M.st_i (by assumption) ?_ | refine M.stB_i (by assumption) rfl ?_ | refine M.gs_ff ?_ | refine M.gs_tt ?_ | refine M.gs_ft ?_ | refine M.gs_tf ?_ | refine M.stAll_i (by assumption) rfl ?_))
  by_cases hlt : lv < e.lev
  · (repeat (first | refine M.len_i ?_ | refine M.nilCheck_i ?_ | refine M.field_i ?_ | refine M.draw_i ?_ | refine M.cap_i ?_ | refine M.gd_tt ?_ | refine M.gd_ff ?_ | refine M.gd_ft ?_ | refine M.gd_tf ?_ | refine M.pick_t ?_ | refine M.pick_f ?_ | refine M.not_t ?_ | refine M.not_f ?_ | refine M.cond_t ?_ | refine M.cond_f ?_ | refine M.eqNilP_tn ?_ | refine M.eqNilP_ts ?_ | refine M.eqNilP_fn ?_ | refine M.eqNilP_fs ?_ | refine M.eqNilS_tn ?_ | refine M.eqNilS_ts ?_ | refine M.eqNilS_fn ?_ | refine M.eqNilS_fs ?_ | refine M.lss_t (by omega) ?_ | refine M.lss_f (by omega) ?_ | refine M.leq_t (by omega) ?_ | refine M.leq_f (by omega) ?_ | refine M.gtr_t (by omega) ?_ | refine M.gtr_f (by omega) ?_ | refine M.geq_t (by omega) ?_ | refine M.geq_f (by omega) ?_ | refine M.eql_t (by omega) ?_ | refine M.eql_f (by omega) ?_ | refine M.neq_t (by omega) ?_ | refine M.neq_f (by omega) ?_ | refine M.add_i (by omega) (by omega) ?_ | refine M.sub_i (by omega) (by omega) ?_ | refine M.load_i (by assumption) ?_ | refine M.loadB_i (by assumption) rfl ?_ | refine M.st_i (by assumption) ?_ | refine M.stB_i (by assumption) rfl ?_ | refine M.gs_ff ?_ | refine M.gs_tt ?_ | refine M.gs_ft ?_ | refine M.gs_tf ?_ | refine M.stAll_i (by assumption) rfl ?_))
    refine M.idxRowN_i hr3 (en_len _) (by omega) (by omega) (by omega) (fun b o hA hc => ?_)
    have c0 := hc 0 (by omega)
    rw [hn1, g0] at c0
    rw [hn1]
    (repeat (first | refine M.len_i ?_ | refine M.nilCheck_i ?_ | refine M.field_i ?_ | refine M.draw_i ?_ | refine M.cap_i ?_ | refine M.gd_tt ?_ | refine M.gd_ff ?_ | refine M.gd_ft ?_ | refine M.gd_tf ?_ | refine M.pick_t ?_ | refine M.pick_f ?_ | refine M.not_t ?_ | refine M.not_f ?_ | refine M.cond_t ?_ | refine M.cond_f ?_ | refine M.eqNilP_tn ?_ | refine M.eqNilP_ts ?_ | refine M.eqNilP_fn ?_ | refine M.eqNilP_fs ?_ | refine M.eqNilS_tn ?_ | refine M.eqNilS_ts ?_ | refine M.eqNilS_fn ?_ | refine M.eqNilS_fs ?_ | refine M.lss_t (by omega) ?_ | refine M.lss_f (by omega) ?_ | refine M.leq_t (by omega) ?_ | refine M.leq_f (by omega) ?_ | refine M.gtr_t (by omega) ?_ | refine M.gtr_f (by omega) ?_ | refine M.geq_t (by omega) ?_ | refine M.geq_f (by omega) ?_ | refine M.eql_t (by omega) ?_ | refine M.eql_f (by omega) ?_ | refine M.neq_t (by omega) ?_ | refine M.neq_f (by omega) ?_ | refine M.add_i (by omega) (by omega) ?_ | refine M.sub_i (by omega) (by omega) ?_ | refine M.load_i (by assumption) ?_ | refine M.loadB_i (by assumption) rfl ?_ | refine M.st_i (by assumption) ?_ | refine M.stB_i (by assumption) rfl ?_ | refine M.gs_ff ?_ | refine M.gs_tt ?_ | refine M.gs_ft ?_ | refine M.gs_tf ?_ | refine M.stAll_i (by assumption) rfl ?_))
    refine M.call_i (rvar_ret (hI e (List.mem_of_getElem? he)) w3) ?_; rintro _ w4 ⟨rfl, k4⟩
    have ho := ho.keep k4 (fun _ _ _ h => h)
    refine M.buildSlice_i [vi (varOf e.lit)] (by kernel_rfl) (fun w5 hn5 k5 s5 => ?_)
    have ho := ho.keep k5 (fun _ _ _ h => h)
    refine M.append1_i ho (Row.of_blk' (D := fun _ => True) hn5 trivial) rfl (by simp; omega) (fun vo' w6 ho k6 => ?_)
    have q4 := k4.size; have q5 := k5.size
    refine hK (n - 1) _ _ (by omega) ⟨vo', by simp; omega, by omega, ?_, ?_, ?_⟩
    · have e1 : t.L.drop (n - 1) = e :: t.L.drop n := by
        obtain ⟨h3, h4⟩ := List.getElem?_eq_some_iff.1 he
        rw [List.drop_eq_getElem_cons h3, h4]
        congr 2
        omega
      rw [e1]
      simp only [List.map_cons, List.reverse_cons]
      exact ho.mono (fun b hb h => by omega)
    · intro j e' hj he'
      by_cases hjn : j = n - 1
      · subst hjn
        rw [he] at he'
        obtain rfl := Option.some.inj he'
        exact hlt
      · exact hall j e' (by omega) he'
    · exact ((k3.trans k4 (fun _ _ h => h)).trans k5 (fun _ _ h => h)).trans k6 (fun b hb h => by omega)
  · (repeat (first | refine M.len_i ?_ | refine M.nilCheck_i ?_ | refine M.field_i ?_ | refine M.draw_i ?_ | refine M.cap_i ?_ | refine M.gd_tt ?_ | refine M.gd_ff ?_ | refine M.gd_ft ?_ | refine M.gd_tf ?_ | refine M.pick_t ?_ | refine M.pick_f ?_ | refine M.not_t ?_ | refine M.not_f ?_ | refine M.cond_t ?_ | refine M.cond_f ?_ | refine M.eqNilP_tn ?_ | refine M.eqNilP_ts ?_ | refine M.eqNilP_fn ?_ | refine M.eqNilP_fs ?_ | refine M.eqNilS_tn ?_ | refine M.eqNilS_ts ?_ | refine M.eqNilS_fn ?_ | refine M.eqNilS_fs ?_ | refine M.lss_t (by omega) ?_ | refine M.lss_f (by omega) ?_ | refine M.leq_t (by omega) ?_ | refine M.leq_f (by omega) ?_ | refine M.gtr_t (by omega) ?_ | refine M.gtr_f (by omega) ?_ | refine M.geq_t (by omega) ?_ | refine M.geq_f (by omega) ?_ | refine M.eql_t (by omega) ?_ | refine M.eql_f (by omega) ?_ | refine M.neq_t (by omega) ?_ | refine M.neq_f (by omega) ?_ | refine M.add_i (by omega) (by omega) ?_ | refine M.sub_i (by omega) (by omega) ?_ | refine M.load_i (by assumption) ?_ | refine M.loadB_i (by assumption) rfl ?_ | refine M.st_i (by assumption) ?_ | refine M.stB_i (by assumption) rfl ?_ | refine M.gs_ff ?_ | refine M.gs_tt ?_ | refine M.gs_ft ?_ | refine M.gs_tf ?_ | refine M.stAll_i (by assumption) rfl ?_))
    exact fin (.inr ⟨e, he, hlt⟩) w3 (Keep.refl _ _) _ (fun u w' h => h)
end Go.Proofs.Ytkpgmbifaohjgaa
