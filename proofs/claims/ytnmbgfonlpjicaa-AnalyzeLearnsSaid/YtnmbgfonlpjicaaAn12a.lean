import Derived.Test.YtnmbgfonlpjicaaAn12p
import Derived.Test.YtnmbgfonlpjicaaSlices
import Derived.Test.YtnmbgfonlpjicaaLLw
namespace Go.Proofs.Ytnmbgfonlpjicaa
open Go.Mw
set_option linter.unusedVariables false
set_option linter.unusedSimpArgs false
set_option maxRecDepth 100000
attribute [local irreducible] M.val M.unit M.next M.pick M.new M.nilCheck M.load1 M.loadA M.store M.fieldAddr M.indexSl M.indexArr M.slice M.makeSlice M.buildSlice M.len M.lenS M.cap M.append M.extract M.conv M.not M.neg M.bin M.shift M.eqB M.eqNil M.call M.callv M.gd M.share M.cond M.loop M.draw pureW readW Ret
/-! (*breakwater/analyze.marks).has: function 40 -/
def sh40 (x0 x1 : Value) (R : Kt) (w : World) : Prop :=
  M.bin .lss x1 (Value.int IntKind.i64 64) (fun t6 w =>
  M.cond t6
  (M.nilCheck x0 (fun t9 w =>
  M.fieldAddr 0 t9 (fun t10 w =>
  M.indexArr 64 1 t10 x1 (fun t11 w =>
  M.load1 t11 (fun t12 w =>
  R t12 w) w) w) w) w)
  (M.nilCheck x0 (fun t14 w =>
  M.fieldAddr 64 t14 (fun t15 w =>
  M.load1 t15 (fun t16 w =>
  readW Try.prog (Instr.lookup 46 t16 x1 false) (fun t18 w =>
  R t18 w) w) w) w) w)) w
theorem ok40 (x0 x1 : Value) (R : Kt) (w : World) (h : sh40 x0 x1 R w) : Ret Try.prog 40 #[x0, x1] w R :=
  ret_mk <| calls_of_comp mixed (c := Try.f40.body.getD .skip) (args := [x0, x1]) (rs := [(ResultVar.tmp 4)]) (Ann.seq Ann.text (Ann.seq (Ann.seq Ann.text (Ann.cond (Ann.seq Ann.text Ann.leaf) Ann.leaf)) (Ann.seq Ann.text Ann.leaf)))
    Try.func40 (by kernel_rfl) (by kernel_rfl)
    (Eq.mp (by kernel_rfl) h)
/-! (*breakwater/analyze.marks).add: function 41 -/
def sh41 (x0 x1 : Value) (R : Kt) (w : World) : Prop :=
  M.bin .lss x1 (Value.int IntKind.i64 64) (fun t5 w =>
  M.cond t5
  (M.nilCheck x0 (fun t8 w =>
  M.fieldAddr 0 t8 (fun t9 w =>
  M.indexArr 64 1 t9 x1 (fun t10 w =>
  M.store 1 t10 (Value.bool true) (fun _ w =>
  R (.tuple #[]) w) w) w) w) w)
  (M.nilCheck x0 (fun t12 w =>
  M.fieldAddr 64 t12 (fun t13 w =>
  M.load1 t13 (fun t14 w =>
  M.unit Try.prog (Instr.mapUpdate 46 t14 x1 (Value.bool true)) (fun _ w =>
  R (.tuple #[]) w) w) w) w) w)) w
theorem ok41 (x0 x1 : Value) (R : Kt) (w : World) (h : sh41 x0 x1 R w) : Ret Try.prog 41 #[x0, x1] w R :=
  ret_mk <| calls_of_comp mixed (c := Try.f41.body.getD .skip) (args := [x0, x1]) (rs := []) (Ann.seq (Ann.seq Ann.text (Ann.cond (Ann.seq Ann.text Ann.leaf) Ann.leaf)) Ann.text)
    Try.func41 (by kernel_rfl) (by kernel_rfl)
    (Eq.mp (by kernel_rfl) h)
/-! (*breakwater/analyze.learner).meet: function 18 -/
def sh18 (x0 x1 x2 : Value) (R : Kt) (w : World) : Prop :=
  M.len x1 (fun t12 w =>
  M.loop [(Value.int IntKind.i64 0)] (fun s1 K1 w => ∀ _ : List Value,
  M.bin .lss (s1.getD 0 undef) t12 (fun t14 w =>
  M.cond t14
  (M.share (fun K2 w =>
  M.indexSl 1 x1 (s1.getD 0 undef) (fun t15 w =>
  M.load1 t15 (fun t16 w =>
  M.bin .eql t16 x2 (fun t19 w =>
  M.gd t19 true (fun k w => k x2 w) (fun t21 w =>
  M.gd t19 true (fun k w => M.bin .geq t21 (Value.int IntKind.i64 0) k w) (fun t22 w =>
  M.pick t19 t22 (Value.bool false) (fun t23 w =>
  M.cond t23
  (K2 [] w)
  (M.nilCheck x0 (fun t25 w =>
  M.fieldAddr 0 t25 (fun t26 w =>
  M.load1 t26 (fun t27 w =>
  M.call Try.prog 38 #[t27, t16] (fun t29 w =>
  M.bin .neq t29 (Value.int IntKind.i64 (-1)) (fun t30 w =>
  M.cond t30
  (R (Value.bool false) w)
  (M.call Try.prog 22 #[t16] (fun t32 w =>
  M.nilCheck x0 (fun t34 w =>
  M.fieldAddr 0 t34 (fun t35 w =>
  M.load1 t35 (fun t36 w =>
  M.call Try.prog 21 #[t36, t32] (fun t38 w =>
  M.bin .eql t38 (Value.int IntKind.i64 0) (fun t40 w =>
  M.gd t40 false (fun k w => k x0 w) (fun t42 w =>
  M.gd t40 false (fun k w => M.nilCheck t42 k w) (fun t43 w =>
  M.gd t40 false (fun k w => M.fieldAddr 2 t43 k w) (fun t44 w =>
  M.gd t40 false (fun k w => k t32 w) (fun t45 w =>
  M.gd t40 false (fun k w => M.call Try.prog 40 #[t44, t45] k w) (fun t46 w =>
  M.pick t40 (Value.bool true) t46 (fun t47 w =>
  M.cond t47
  (K2 [] w)
  (M.nilCheck x0 (fun t49 w =>
  M.fieldAddr 2 t49 (fun t50 w =>
  M.call Try.prog 41 #[t50, t32] (fun t52 w =>
  M.nilCheck x0 (fun t55 w =>
  M.fieldAddr 67 t55 (fun t56 w =>
  M.load1 t56 (fun t57 w =>
  M.buildSlice 3 1 #[.int .i64 0] 1 [(0, t32)] (fun t59 w =>
  M.append 3 1 8 #[.int .i64 0] t57 t59 (fun t60 w =>
  M.nilCheck x0 (fun t61 w =>
  M.fieldAddr 67 t61 (fun t62 w =>
  M.store 1 t62 t60 (fun _ w =>
  M.nilCheck x0 (fun t65 w =>
  M.fieldAddr 0 t65 (fun t66 w =>
  M.load1 t66 (fun t67 w =>
  M.call Try.prog 14 #[t67] (fun t68 w =>
  M.bin .eql t38 t68 (fun t69 w =>
  M.cond t69
  (M.nilCheck x0 (fun t71 w =>
  M.fieldAddr 69 t71 (fun t72 w =>
  M.load1 t72 (fun t73 w =>
  M.bin .add t73 (Value.int IntKind.i64 1) (fun t74 w =>
  M.nilCheck x0 (fun t75 w =>
  M.fieldAddr 69 t75 (fun t76 w =>
  M.store 1 t76 t74 (fun _ w =>
  K2 [] w) w) w) w) w) w) w) w)
  (M.nilCheck x0 (fun t79 w =>
  M.fieldAddr 68 t79 (fun t80 w =>
  M.load1 t80 (fun t81 w =>
  M.buildSlice 3 1 #[.int .i64 0] 1 [(0, t16)] (fun t83 w =>
  M.append 3 1 8 #[.int .i64 0] t81 t83 (fun t84 w =>
  M.nilCheck x0 (fun t85 w =>
  M.fieldAddr 68 t85 (fun t86 w =>
  M.store 1 t86 t84 (fun _ w =>
  K2 [] w) w) w) w) w) w) w) w) w)) w) w) w) w) w) w) w) w) w) w) w) w) w) w) w) w)) w) w) w) w) w) w) w) w) w) w) w) w)) w) w) w) w) w)) w) w) w) w) w) w) (fun s2 w => ∀ _ : List Value,
  M.bin .add (s1.getD 0 undef) (Value.int IntKind.i64 1) (fun t87 w =>
  K1 [t87] w) w) w)
  (R (Value.bool true) w)) w) w) w
theorem ok18 (x0 x1 x2 : Value) (R : Kt) (w : World) (h : sh18 x0 x1 x2 R w) : Ret Try.prog 18 #[x0, x1, x2] w R :=
  ret_mk <| calls_of_comp mixed (c := Try.f18.body.getD .skip) (args := [x0, x1, x2]) (rs := [(ResultVar.tmp 6)]) (Ann.seq Ann.text (Ann.seq (Ann.seq Ann.text (Ann.block (Ann.loop [13] [6, 8, 9, 10, 14, 15, 16, 17, 18, 19, 20, 21, 22, 23, 24, 25, 26, 27, 28, 29, 30, 31, 32, 33, 34, 35, 36, 37, 38, 39, 40, 41, 42, 43, 44, 45, 46, 47, 48, 49, 50, 51, 52, 53, 54, 55, 56, 57, 58, 59, 60, 61, 62, 63, 64, 65, 66, 67, 68, 69, 70, 71, 72, 73, 74, 75, 76, 77, 78, 79, 80, 81, 82, 83, 84, 85, 86, 87] (Ann.seq Ann.text (Ann.seq (Ann.cond Ann.leaf Ann.leaf) (Ann.seq (Ann.jblock [] [6, 8, 9, 10, 15, 16, 17, 18, 19, 20, 21, 22, 23, 24, 25, 26, 27, 28, 29, 30, 31, 32, 33, 34, 35, 36, 37, 38, 39, 40, 41, 42, 43, 44, 45, 46, 47, 48, 49, 50, 51, 52, 53, 54, 55, 56, 57, 58, 59, 60, 61, 62, 63, 64, 65, 66, 67, 68, 69, 70, 71, 72, 73, 74, 75, 76, 77, 78, 79, 80, 81, 82, 83, 84, 85, 86] (Ann.seq Ann.text (Ann.seq (Ann.seq Ann.text (Ann.cond Ann.leaf Ann.leaf)) (Ann.seq (Ann.seq Ann.text (Ann.cond (Ann.seq Ann.text Ann.leaf) Ann.leaf)) (Ann.seq Ann.text (Ann.seq Ann.text (Ann.seq (Ann.seq Ann.text (Ann.cond Ann.leaf Ann.leaf)) (Ann.seq Ann.text (Ann.seq Ann.text (Ann.seq Ann.text (Ann.cond Ann.text Ann.text))))))))))) Ann.text)))))) (Ann.seq Ann.text Ann.leaf)))
    Try.func18 (by kernel_rfl) (by kernel_rfl)
    (Eq.mp (by kernel_rfl) h)
/-! (*breakwater/analyze.learner).reason: function 43 -/
def sh43 (x0 x1 : Value) (R : Kt) (w : World) : Prop :=
  M.draw (fun w =>
  M.nilCheck x0 (fun t7 w =>
  M.fieldAddr 0 t7 (fun t8 w =>
  M.load1 t8 (fun t9 w =>
  M.call Try.prog 22 #[x1] (fun t11 w =>
  ((M.load1 t8 (fun v' _ => v' = t9) w) ∧ M.call Try.prog 57 #[t9, t11] (fun t12 w =>
  M.bin .lss t12 (Value.int IntKind.i64 0) (fun t14 w =>
  M.gd t14 false (fun k w => k t12 w) (fun t16 w =>
  M.gd t14 false (fun k w => k x0 w) (fun t17 w =>
  M.gd t14 false (fun k w => M.nilCheck t17 k w) (fun t18 w =>
  M.gd t14 false (fun k w => M.fieldAddr 1 t18 k w) (fun t19 w =>
  M.gd t14 false (fun k w => M.load1 t19 k w) (fun t20 w =>
  M.gd t14 false (fun k w => M.len t20 k w) (fun t21 w =>
  M.gd t14 false (fun k w => M.bin .geq t16 t21 k w) (fun t22 w =>
  M.pick t14 (Value.bool true) t22 (fun t23 w =>
  M.gd t23 false (fun k w => k x0 w) (fun t25 w =>
  M.gd t23 false (fun k w => M.nilCheck t25 k w) (fun t26 w =>
  M.gd t23 false (fun k w => M.fieldAddr 1 t26 k w) (fun t27 w =>
  M.gd t23 false (fun k w => M.load1 t27 k w) (fun t28 w =>
  M.gd t23 false (fun k w => k t12 w) (fun t29 w =>
  M.gd t23 false (fun k w => M.indexSl 1 t28 t29 k w) (fun t30 w =>
  M.gd t23 false (fun k w => M.load1 t30 k w) (fun t31 w =>
  M.gd t23 false (fun k w => k x1 w) (fun t32 w =>
  M.gd t23 false (fun k w => M.call Try.prog 29 #[t31, t32] k w) (fun t33 w =>
  M.gd t23 false (fun k w => M.not t33 k w) (fun t34 w =>
  M.pick t23 (Value.bool true) t34 (fun t35 w =>
  M.cond t35
  (R (Value.slice none 0 0) w)
  (M.nilCheck x0 (fun t37 w =>
  M.fieldAddr 1 t37 (fun t38 w =>
  M.load1 t38 (fun t39 w =>
  M.indexSl 1 t39 t12 (fun t41 w =>
  M.load1 t41 (fun t42 w =>
  R t42 w) w) w) w) w) w)) w) w) w) w) w) w) w) w) w) w) w) w) w) w) w) w) w) w) w) w) w)) w) w) w) w) w
theorem ok43 (x0 x1 : Value) (R : Kt) (w : World) (h : sh43 x0 x1 R w) : Ret Try.prog 43 #[x0, x1] w R :=
  ret_mk <| calls_of_comp mixed (c := Try.f43.body.getD .skip) (args := [x0, x1]) (rs := [(ResultVar.tmp 4)]) (Ann.seq Ann.text (Ann.seq (Ann.draw (Sch.take 0 (Sch.take 1 (Sch.take 2 (Sch.take 3 (Sch.take 4 (Sch.one 5 (Sch.one 6 (Sch.take 7 Sch.done))))))))) (Ann.seq (Ann.seq Ann.text (Ann.cond (Ann.seq Ann.text Ann.leaf) Ann.leaf)) (Ann.seq Ann.text Ann.leaf))))
    Try.func43 (by kernel_rfl) (by kernel_rfl)
    (Eq.mp (by kernel_rfl) h)

/-- The learner's cells: the trail, the clauses, 64 marks, a map, the variables, the others, how many are left. -/
structure LC (cs : List Value) (p : Nat) (lv mp vs os : Value) (m : LS) : Prop where
  len : cs.length = 70
  c0 : cs[0]? = some (ptr p)
  c1 : cs[1]? = some lv
  c66 : cs[66]? = some mp
  c67 : cs[67]? = some vs
  c68 : cs[68]? = some os
  c69 : cs[69]? = some (vi m.left)
  mks : ∀ v : Nat, v < 64 → cs[2 + v]? = some (vb (decide ((v : Int) ∈ m.met)))
structure LRn (n0 : Nat) (w : World) (b : Nat) (cs : List Value) (p : Nat) (lv mp vs os : Value) (m : LS) : Prop where
  blk : Blk w b cs
  lc : LC cs p lv mp vs os m
  gv : GI w (blkOf vs) vs m.met
  go : GI w (blkOf os) os m.others
  dv : ∀ x, blkOf vs x → n0 ≤ x ∧ x ≠ b ∧ ¬ blkOf os x
  dd : ∀ x, blkOf os x → n0 ≤ x ∧ x ≠ b
  b0 : n0 ≤ b
section
variable {n0 b p : Nat} {w w' : World} {cs : List Value} {lv mp vs os : Value} {m : LS} {t : Tr} {lab : Nat → Nat}
theorem LRn.keep (h : LRn n0 w b cs p lv mp vs os m) (k : Keep w w' No) : LRn n0 w' b cs p lv mp vs os m :=
  ⟨h.blk.keep k (fun h => h), h.lc, h.gv.keep k (fun _ _ _ h => h), h.go.keep k (fun _ _ _ h => h), h.dv, h.dd, h.b0⟩
theorem LC.mark (h : LC cs p lv mp vs os m) {v : Int} (h0 : 0 ≤ v ∧ v < 64) : LC (cs.set (2 + v.toNat) (vb true)) p lv mp vs os ⟨m.met ++ [v], m.others, m.left⟩ := by
  refine ⟨by simp [h.len], ?_, ?_, ?_, ?_, ?_, ?_, fun u hu => ?_⟩
  · rw [List.getElem?_set_ne (by omega)]; exact h.c0
  · rw [List.getElem?_set_ne (by omega)]; exact h.c1
  · rw [List.getElem?_set_ne (by omega)]; exact h.c66
  · rw [List.getElem?_set_ne (by omega)]; exact h.c67
  · rw [List.getElem?_set_ne (by omega)]; exact h.c68
  · rw [List.getElem?_set_ne (by omega)]; exact h.c69
  · by_cases e : u = v.toNat
    · subst e
      rw [List.getElem?_set_self (by rw [h.len]; omega)]
      have : ((v.toNat : Nat) : Int) = v := by omega
      rw [this]; simp
    · rw [List.getElem?_set_ne (by omega), h.mks u hu]
      have : (u : Int) ≠ v := by omega
      simp [this]
theorem LC.s67 (h : LC cs p lv mp vs os m) (vs' : Value) : LC (cs.set 67 vs') p lv mp vs' os m := by
  refine ⟨by simp [h.len], ?_, ?_, ?_, ?_, ?_, ?_, fun u hu => ?_⟩
  · rw [List.getElem?_set_ne (by omega)]; exact h.c0
  · rw [List.getElem?_set_ne (by omega)]; exact h.c1
  · rw [List.getElem?_set_ne (by omega)]; exact h.c66
  · rw [List.getElem?_set_self (by rw [h.len]; omega)]
  · rw [List.getElem?_set_ne (by omega)]; exact h.c68
  · rw [List.getElem?_set_ne (by omega)]; exact h.c69
  · rw [List.getElem?_set_ne (by omega), h.mks u hu]
theorem LC.s68 (h : LC cs p lv mp vs os m) (os' : Value) : LC (cs.set 68 os') p lv mp vs os' m := by
  refine ⟨by simp [h.len], ?_, ?_, ?_, ?_, ?_, ?_, fun u hu => ?_⟩
  · rw [List.getElem?_set_ne (by omega)]; exact h.c0
  · rw [List.getElem?_set_ne (by omega)]; exact h.c1
  · rw [List.getElem?_set_ne (by omega)]; exact h.c66
  · rw [List.getElem?_set_ne (by omega)]; exact h.c67
  · rw [List.getElem?_set_self (by rw [h.len]; omega)]
  · rw [List.getElem?_set_ne (by omega)]; exact h.c69
  · rw [List.getElem?_set_ne (by omega), h.mks u hu]
theorem LC.s69 (h : LC cs p lv mp vs os m) (n : Int) (ot : List Int) : LC (cs.set 69 (vi n)) p lv mp vs os ⟨m.met, ot, n⟩ := by
  refine ⟨by simp [h.len], ?_, ?_, ?_, ?_, ?_, ?_, fun u hu => ?_⟩
  · rw [List.getElem?_set_ne (by omega)]; exact h.c0
  · rw [List.getElem?_set_ne (by omega)]; exact h.c1
  · rw [List.getElem?_set_ne (by omega)]; exact h.c66
  · rw [List.getElem?_set_ne (by omega)]; exact h.c67
  · rw [List.getElem?_set_ne (by omega)]; exact h.c68
  · rw [List.getElem?_set_self (by rw [h.len]; omega)]
  · rw [List.getElem?_set_ne (by omega), h.mks u hu]
theorem M.arr_i {k : Kt} {w : World} {len : Nat} {d : IntKind} {i : Int} {b o : Nat} (h0 : 0 ≤ i) (h1 : i < len) (h : k (.pointer (some ⟨b, o + i.toNat * 1, none⟩)) w) : M.indexArr len 1 (.pointer (some ⟨b, o, none⟩)) (.int d i) k w := by
  unfold M.indexArr; simp only [add_mk]; exact ⟨⟨h0, h1⟩, h⟩
theorem has12_ret (h : LRn n0 w b cs p lv mp vs os m) {v : Int} (h0 : 0 ≤ v ∧ v < 64) : Ret Try.prog 40 #[.pointer (some ⟨b, 2, none⟩), vi v] w (fun r w' => r = .bool (decide (v ∈ m.met)) ∧ Keep w w' No) := by
  refine ok40 _ _ _ _ ?_
  unfold sh40
  (repeat (first|refine ja ?_|refine jb ?_|refine jc ?_|refine jd ?_|refine je ?_|refine jf ?_|refine jg ?_|refine jh ?_|refine ji ?_|refine jj ?_|refine jk ?_|refine jl ?_|refine jm ?_|refine jn ?_|refine jo ?_|refine jp ?_|refine jq ?_|refine jr ?_|refine js ?_|refine jt ?_|refine ju ?_|refine jv ?_|refine jw ?_|refine jx ?_|refine jy ?_|refine jz ?_|refine jA ?_|refine jB ?_|refine jC ?_|refine jD ?_|refine jE ?_|refine jF ?_|refine jG ?_|refine jH ?_|refine jI ?_|refine jJ ?_|refine jK ?_|refine jL ?_|refine jM (by assumption) ?_|refine jN (by assumption) rfl ?_|refine jO (by assumption) ?_|refine jP (by assumption) rfl ?_|refine jQ ?_|refine jR ?_|refine jS ?_|refine jT ?_|refine jU (by assumption) rfl ?_))
  refine M.arr_i h0.1 (by omega) ?_
  have := h.lc.mks v.toNat (by omega)
  have e : ((v.toNat : Nat) : Int) = v := by omega
  rw [e] at this
  refine M.loadB_i h.blk (o := 2 + 0 + v.toNat * 1) (by rw [Nat.add_zero, Nat.mul_one]; exact this) ?_
  exact ⟨rfl, Keep.refl _ _⟩
theorem add12_ret (h : LRn n0 w b cs p lv mp vs os m) {v : Int} (h0 : 0 ≤ v ∧ v < 64) : Ret Try.prog 41 #[.pointer (some ⟨b, 2, none⟩), vi v] w (fun r w' => Blk w' b (cs.set (2 + v.toNat) (vb true)) ∧ Keep w w' (· = b)) := by
  refine ok41 _ _ _ _ ?_
  unfold sh41
  (repeat (first|refine ja ?_|refine jb ?_|refine jc ?_|refine jd ?_|refine je ?_|refine jf ?_|refine jg ?_|refine jh ?_|refine ji ?_|refine jj ?_|refine jk ?_|refine jl ?_|refine jm ?_|refine jn ?_|refine jo ?_|refine jp ?_|refine jq ?_|refine jr ?_|refine js ?_|refine jt ?_|refine ju ?_|refine jv ?_|refine jw ?_|refine jx ?_|refine jy ?_|refine jz ?_|refine jA ?_|refine jB ?_|refine jC ?_|refine jD ?_|refine jE ?_|refine jF ?_|refine jG ?_|refine jH ?_|refine jI ?_|refine jJ ?_|refine jK ?_|refine jL ?_|refine jM (by assumption) ?_|refine jN (by assumption) rfl ?_|refine jO (by assumption) ?_|refine jP (by assumption) rfl ?_|refine jQ ?_|refine jR ?_|refine jS ?_|refine jT ?_|refine jU (by assumption) rfl ?_))
  refine M.arr_i h0.1 (by omega) ?_
  refine M.store_i h.blk (by rw [h.lc.len]; omega) rfl (fun w1 b1 k1 s1 => ?_)
  rw [Nat.add_zero, Nat.mul_one] at b1
  exact ⟨b1, k1⟩
theorem reason12_ret (hT : TRep w p lab t) (hR : LRn n0 w b cs p lv mp vs os m) {l : List (List Int)} (hl : LL w (· < n0) lv l) (hf : ∀ c ∈ l, Few c.length) {x : Int} (h0 : 0 ≤ x) (hx : x < 9223372036854775808) :
    Ret Try.prog 43 #[ptr b, vi x] w (fun r w' => (match reasonL t l x with
      | none => r = .slice none 0 0
      | some c => LV vi w' (· < n0) r c ∧ (∃ A n c', r = .slice (some A) n c')) ∧ Keep w w' No) := by
  obtain ⟨A, c, us, rfl, hll, _⟩ := id hl
  refine ok43 _ _ _ _ ?_
  unfold sh43
  have e0 : ∀ w1, Keep w w1 No → w1.cell? ⟨b, 0, none⟩ = some (ptr p) := fun w1 k => (hR.keep k).blk.cell (hR.keep k).lc.c0
  have e1 : ∀ w1, Keep w w1 No → w1.cell? ⟨b, 1, none⟩ = some (.slice A l.length c) := fun w1 k => (hR.keep k).blk.cell (hR.keep k).lc.c1
  have kd := Keep.drew w No
  have c0 := e0 _ kd
  (repeat (first|refine ja ?_|refine jb ?_|refine jc ?_|refine jd ?_|refine je ?_|refine jf ?_|refine jg ?_|refine jh ?_|refine ji ?_|refine jj ?_|refine jk ?_|refine jl ?_|refine jm ?_|refine jn ?_|refine jo ?_|refine jp ?_|refine jq ?_|refine jr ?_|refine js ?_|refine jt ?_|refine ju ?_|refine jv ?_|refine jw ?_|refine jx ?_|refine jy ?_|refine jz ?_|refine jA ?_|refine jB ?_|refine jC ?_|refine jD ?_|refine jE ?_|refine jF ?_|refine jG ?_|refine jH ?_|refine jI ?_|refine jJ ?_|refine jK ?_|refine jL ?_|refine jM (by assumption) ?_|refine jN (by assumption) rfl ?_|refine jO (by assumption) ?_|refine jP (by assumption) rfl ?_|refine jQ ?_|refine jR ?_|refine jS ?_|refine jT ?_|refine jU (by assumption) rfl ?_))
  refine M.call_i (var_ret x w.drew) ?_; rintro _ w1 ⟨rfl, k1⟩
  have k01 := kd.trans k1 (fun _ _ h => h)
  have c0 := e0 _ k01
  (repeat (first|refine ja ?_|refine jb ?_|refine jc ?_|refine jd ?_|refine je ?_|refine jf ?_|refine jg ?_|refine jh ?_|refine ji ?_|refine jj ?_|refine jk ?_|refine jl ?_|refine jm ?_|refine jn ?_|refine jo ?_|refine jp ?_|refine jq ?_|refine jr ?_|refine js ?_|refine jt ?_|refine ju ?_|refine jv ?_|refine jw ?_|refine jx ?_|refine jy ?_|refine jz ?_|refine jA ?_|refine jB ?_|refine jC ?_|refine jD ?_|refine jE ?_|refine jF ?_|refine jG ?_|refine jH ?_|refine jI ?_|refine jJ ?_|refine jK ?_|refine jL ?_|refine jM (by assumption) ?_|refine jN (by assumption) rfl ?_|refine jO (by assumption) ?_|refine jP (by assumption) rfl ?_|refine jQ ?_|refine jR ?_|refine jS ?_|refine jT ?_|refine jU (by assumption) rfl ?_))
  refine M.call_i (reason_ret (hT.keep k01 (fun _ _ _ h => h)) (varOf x)) ?_; rintro _ w2 ⟨rfl, k2⟩
  have k02 := k01.trans k2 (fun _ _ h => h)
  have c1 := e1 _ k02
  have hll2 := hll.keep k02 (fun _ _ _ h => h)
  have hT2 := hT.keep k02 (fun _ _ _ h => h)
  generalize hr : t.rea (varOf x) = rr
  by_cases hr0 : rr < 0
  · have e : reasonL t l x = none := by unfold reasonL; rw [hr, if_neg (by omega)]
    rw [e]
    (repeat (first|refine ja ?_|refine jb ?_|refine jc ?_|refine jd ?_|refine je ?_|refine jf ?_|refine jg ?_|refine jh ?_|refine ji ?_|refine jj ?_|refine jk ?_|refine jl ?_|refine jm ?_|refine jn ?_|refine jo ?_|refine jp ?_|refine jq ?_|refine jr ?_|refine js ?_|refine jt ?_|refine ju ?_|refine jv ?_|refine jw ?_|refine jx ?_|refine jy ?_|refine jz ?_|refine jA ?_|refine jB ?_|refine jC ?_|refine jD ?_|refine jE ?_|refine jF ?_|refine jG ?_|refine jH ?_|refine jI ?_|refine jJ ?_|refine jK ?_|refine jL ?_|refine jM (by assumption) ?_|refine jN (by assumption) rfl ?_|refine jO (by assumption) ?_|refine jP (by assumption) rfl ?_|refine jQ ?_|refine jR ?_|refine jS ?_|refine jT ?_|refine jU (by assumption) rfl ?_))
    exact ⟨rfl, k02⟩
  by_cases hr1 : (l.length : Int) ≤ rr
  · have e : reasonL t l x = none := by unfold reasonL; rw [hr, if_pos (by omega), List.getElem?_eq_none (by omega)]
    rw [e]
    (repeat (first|refine ja ?_|refine jb ?_|refine jc ?_|refine jd ?_|refine je ?_|refine jf ?_|refine jg ?_|refine jh ?_|refine ji ?_|refine jj ?_|refine jk ?_|refine jl ?_|refine jm ?_|refine jn ?_|refine jo ?_|refine jp ?_|refine jq ?_|refine jr ?_|refine js ?_|refine jt ?_|refine ju ?_|refine jv ?_|refine jw ?_|refine jx ?_|refine jy ?_|refine jz ?_|refine jA ?_|refine jB ?_|refine jC ?_|refine jD ?_|refine jE ?_|refine jF ?_|refine jG ?_|refine jH ?_|refine jI ?_|refine jJ ?_|refine jK ?_|refine jL ?_|refine jM (by assumption) ?_|refine jN (by assumption) rfl ?_|refine jO (by assumption) ?_|refine jP (by assumption) rfl ?_|refine jQ ?_|refine jR ?_|refine jS ?_|refine jT ?_|refine jU (by assumption) rfl ?_))
    exact ⟨rfl, k02⟩
  obtain ⟨cl, hcl⟩ : ∃ cl, l[rr.toNat]? = some cl := ⟨_, List.getElem?_eq_getElem (by omega)⟩
  (repeat (first|refine ja ?_|refine jb ?_|refine jc ?_|refine jd ?_|refine je ?_|refine jf ?_|refine jg ?_|refine jh ?_|refine ji ?_|refine jj ?_|refine jk ?_|refine jl ?_|refine jm ?_|refine jn ?_|refine jo ?_|refine jp ?_|refine jq ?_|refine jr ?_|refine js ?_|refine jt ?_|refine ju ?_|refine jv ?_|refine jw ?_|refine jx ?_|refine jy ?_|refine jz ?_|refine jA ?_|refine jB ?_|refine jC ?_|refine jD ?_|refine jE ?_|refine jF ?_|refine jG ?_|refine jH ?_|refine jI ?_|refine jJ ?_|refine jK ?_|refine jL ?_|refine jM (by assumption) ?_|refine jN (by assumption) rfl ?_|refine jO (by assumption) ?_|refine jP (by assumption) rfl ?_|refine jQ ?_|refine jR ?_|refine jS ?_|refine jT ?_|refine jU (by assumption) rfl ?_))
  refine M.idxLL_i hll2 rfl (by omega) hcl (fun bb oo u hc g => ?_)
  (repeat (first|refine ja ?_|refine jb ?_|refine jc ?_|refine jd ?_|refine je ?_|refine jf ?_|refine jg ?_|refine jh ?_|refine ji ?_|refine jj ?_|refine jk ?_|refine jl ?_|refine jm ?_|refine jn ?_|refine jo ?_|refine jp ?_|refine jq ?_|refine jr ?_|refine js ?_|refine jt ?_|refine ju ?_|refine jv ?_|refine jw ?_|refine jx ?_|refine jy ?_|refine jz ?_|refine jA ?_|refine jB ?_|refine jC ?_|refine jD ?_|refine jE ?_|refine jF ?_|refine jG ?_|refine jH ?_|refine jI ?_|refine jJ ?_|refine jK ?_|refine jL ?_|refine jM (by assumption) ?_|refine jN (by assumption) rfl ?_|refine jO (by assumption) ?_|refine jP (by assumption) rfl ?_|refine jQ ?_|refine jR ?_|refine jS ?_|refine jT ?_|refine jU (by assumption) rfl ?_))
  refine M.call_i (contains_ret g (hf cl (List.mem_of_getElem? hcl)) x) ?_; rintro _ w3 ⟨rfl, k3⟩
  have k03 := k02.trans k3 (fun _ _ h => h)
  have c1 := e1 _ k03
  have hll3 := hll2.keep k3 (fun _ _ _ h => h)
  by_cases hm : x ∈ cl
  · have e : reasonL t l x = some cl := by unfold reasonL; rw [hr, if_pos (by omega), hcl]; simp [hm]
    rw [e]
    simp only [hm, decide_true]
    (repeat (first|refine ja ?_|refine jb ?_|refine jc ?_|refine jd ?_|refine je ?_|refine jf ?_|refine jg ?_|refine jh ?_|refine ji ?_|refine jj ?_|refine jk ?_|refine jl ?_|refine jm ?_|refine jn ?_|refine jo ?_|refine jp ?_|refine jq ?_|refine jr ?_|refine js ?_|refine jt ?_|refine ju ?_|refine jv ?_|refine jw ?_|refine jx ?_|refine jy ?_|refine jz ?_|refine jA ?_|refine jB ?_|refine jC ?_|refine jD ?_|refine jE ?_|refine jF ?_|refine jG ?_|refine jH ?_|refine jI ?_|refine jJ ?_|refine jK ?_|refine jL ?_|refine jM (by assumption) ?_|refine jN (by assumption) rfl ?_|refine jO (by assumption) ?_|refine jP (by assumption) rfl ?_|refine jQ ?_|refine jR ?_|refine jS ?_|refine jT ?_|refine jU (by assumption) rfl ?_))
    refine M.idxLL_i hll3 rfl (by omega) hcl (fun bb oo u hc g => ?_)
    (repeat (first|refine ja ?_|refine jb ?_|refine jc ?_|refine jd ?_|refine je ?_|refine jf ?_|refine jg ?_|refine jh ?_|refine ji ?_|refine jj ?_|refine jk ?_|refine jl ?_|refine jm ?_|refine jn ?_|refine jo ?_|refine jp ?_|refine jq ?_|refine jr ?_|refine js ?_|refine jt ?_|refine ju ?_|refine jv ?_|refine jw ?_|refine jx ?_|refine jy ?_|refine jz ?_|refine jA ?_|refine jB ?_|refine jC ?_|refine jD ?_|refine jE ?_|refine jF ?_|refine jG ?_|refine jH ?_|refine jI ?_|refine jJ ?_|refine jK ?_|refine jL ?_|refine jM (by assumption) ?_|refine jN (by assumption) rfl ?_|refine jO (by assumption) ?_|refine jP (by assumption) rfl ?_|refine jQ ?_|refine jR ?_|refine jS ?_|refine jT ?_|refine jU (by assumption) rfl ?_))
    refine ⟨⟨g, ?_⟩, k03⟩
    obtain ⟨A1, c1', rfl, hrow, _⟩ := g
    rcases hrow with hrow | ⟨b1, o1, _, _, _, rfl, _⟩
    · have : cl = [] := by simpa using hrow
      subst this; simp at hm
    · exact ⟨_, _, _, rfl⟩
  · have e : reasonL t l x = none := by unfold reasonL; rw [hr, if_pos (by omega), hcl]; simp [hm]
    rw [e]
    simp only [hm, decide_false]
    (repeat (first|refine ja ?_|refine jb ?_|refine jc ?_|refine jd ?_|refine je ?_|refine jf ?_|refine jg ?_|refine jh ?_|refine ji ?_|refine jj ?_|refine jk ?_|refine jl ?_|refine jm ?_|refine jn ?_|refine jo ?_|refine jp ?_|refine jq ?_|refine jr ?_|refine js ?_|refine jt ?_|refine ju ?_|refine jv ?_|refine jw ?_|refine jx ?_|refine jy ?_|refine jz ?_|refine jA ?_|refine jB ?_|refine jC ?_|refine jD ?_|refine jE ?_|refine jF ?_|refine jG ?_|refine jH ?_|refine jI ?_|refine jJ ?_|refine jK ?_|refine jL ?_|refine jM (by assumption) ?_|refine jN (by assumption) rfl ?_|refine jO (by assumption) ?_|refine jP (by assumption) rfl ?_|refine jQ ?_|refine jR ?_|refine jS ?_|refine jT ?_|refine jU (by assumption) rfl ?_))
    exact ⟨by trivial, k03⟩
theorem meetL_cons (t : Tr) (but x : Int) (c : List Int) (m : LS) : meetL t but (x :: c) m = if x = but ∧ 0 ≤ but then meetL t but c m else if t.val x ≠ -1 then (m, false) else meetL t but c (meet1 t m x) := rfl
theorem skip_i {x but : Int} {k : Kt} {w : World} (h : k (.bool (decide (x = but ∧ 0 ≤ but))) w) : M.bin .eql (vi x) (vi but) (fun t19 w => M.gd t19 true (fun k w => k (vi but) w) (fun t21 w => M.gd t19 true (fun k w => M.bin .geq t21 (vi 0) k w) (fun t22 w => M.pick t19 t22 (.bool false) (fun t23 w => k t23 w) w) w) w) w := by
  by_cases h1 : x = but
  · by_cases h2 : 0 ≤ but
    · rw [decide_eq_true ⟨h1, h2⟩] at h
      (repeat (first|refine ja ?_|refine jb ?_|refine jc ?_|refine jd ?_|refine je ?_|refine jf ?_|refine jg ?_|refine jh ?_|refine ji ?_|refine jj ?_|refine jk ?_|refine jl ?_|refine jm ?_|refine jn ?_|refine jo ?_|refine jp ?_|refine jq ?_|refine jr ?_|refine js ?_|refine jt ?_|refine ju ?_|refine jv ?_|refine jw ?_|refine jx ?_|refine jy ?_|refine jz ?_|refine jA ?_|refine jB ?_|refine jC ?_|refine jD ?_|refine jE ?_|refine jF ?_|refine jG ?_|refine jH ?_|refine jI ?_|refine jJ ?_|refine jK ?_|refine jL ?_|refine jM (by assumption) ?_|refine jN (by assumption) rfl ?_|refine jO (by assumption) ?_|refine jP (by assumption) rfl ?_|refine jQ ?_|refine jR ?_|refine jS ?_|refine jT ?_|refine jU (by assumption) rfl ?_))
      exact h
    · rw [decide_eq_false (fun e => h2 e.2)] at h
      (repeat (first|refine ja ?_|refine jb ?_|refine jc ?_|refine jd ?_|refine je ?_|refine jf ?_|refine jg ?_|refine jh ?_|refine ji ?_|refine jj ?_|refine jk ?_|refine jl ?_|refine jm ?_|refine jn ?_|refine jo ?_|refine jp ?_|refine jq ?_|refine jr ?_|refine js ?_|refine jt ?_|refine ju ?_|refine jv ?_|refine jw ?_|refine jx ?_|refine jy ?_|refine jz ?_|refine jA ?_|refine jB ?_|refine jC ?_|refine jD ?_|refine jE ?_|refine jF ?_|refine jG ?_|refine jH ?_|refine jI ?_|refine jJ ?_|refine jK ?_|refine jL ?_|refine jM (by assumption) ?_|refine jN (by assumption) rfl ?_|refine jO (by assumption) ?_|refine jP (by assumption) rfl ?_|refine jQ ?_|refine jR ?_|refine jS ?_|refine jT ?_|refine jU (by assumption) rfl ?_))
      exact h
  · rw [decide_eq_false (fun e => h1 e.1)] at h
    (repeat (first|refine ja ?_|refine jb ?_|refine jc ?_|refine jd ?_|refine je ?_|refine jf ?_|refine jg ?_|refine jh ?_|refine ji ?_|refine jj ?_|refine jk ?_|refine jl ?_|refine jm ?_|refine jn ?_|refine jo ?_|refine jp ?_|refine jq ?_|refine jr ?_|refine js ?_|refine jt ?_|refine ju ?_|refine jv ?_|refine jw ?_|refine jx ?_|refine jy ?_|refine jz ?_|refine jA ?_|refine jB ?_|refine jC ?_|refine jD ?_|refine jE ?_|refine jF ?_|refine jG ?_|refine jH ?_|refine jI ?_|refine jJ ?_|refine jK ?_|refine jL ?_|refine jM (by assumption) ?_|refine jN (by assumption) rfl ?_|refine jO (by assumption) ?_|refine jP (by assumption) rfl ?_|refine jQ ?_|refine jR ?_|refine jS ?_|refine jT ?_|refine jU (by assumption) rfl ?_))
    exact h
/-- What may be written: the learner, and its two lists. -/
def LMod (b : Nat) (vs os vs' os' : Value) (w w' : World) : Prop := Keep w w' (fun y => y = b ∨ blkOf vs y ∨ blkOf os y) ∧ (∀ y, blkOf vs' y → blkOf vs y ∨ w.heap.size ≤ y) ∧ (∀ y, blkOf os' y → blkOf os y ∨ w.heap.size ≤ y)
theorem LMod.refl (b : Nat) (vs os : Value) (w : World) : LMod b vs os vs os w w := ⟨Keep.refl _ _, fun _ h => .inl h, fun _ h => .inl h⟩
theorem LMod.of {vs os : Value} {w w' : World} (k : Keep w w' No) : LMod b vs os vs os w w' := ⟨k.mono (fun _ _ e => e.elim), fun _ h => .inl h, fun _ h => .inl h⟩
theorem LMod.trans {v0 o0 v1 o1 v2 o2 : Value} {w0 w1 w2 : World} (h : LMod b v0 o0 v1 o1 w0 w1) (k : LMod b v1 o1 v2 o2 w1 w2) : LMod b v0 o0 v2 o2 w0 w2 := by
  have q := h.1.size
  refine ⟨h.1.trans k.1 (fun y hy e => ?_), fun y hy => ?_, fun y hy => ?_⟩
  · rcases e with e | e | e
    · exact .inl e
    · rcases h.2.1 y e with e | e
      · exact .inr (.inl e)
      · omega
    · rcases h.2.2 y e with e | e
      · exact .inr (.inr e)
      · omega
  · rcases k.2.1 y hy with e | e
    · exact h.2.1 y e
    · exact .inr (by omega)
  · rcases k.2.2 y hy with e | e
    · exact h.2.2 y e
    · exact .inr (by omega)
theorem LMod.keep {vs' os' : Value} (h : LMod b vs os vs' os' w w') (hR : LRn n0 w b cs p lv mp vs os m) : Keep w w' (n0 ≤ ·) := h.1.mono (fun y _ e => by
  rcases e with e | e | e
  · have := hR.b0; show n0 ≤ y; omega
  · exact (hR.dv y e).1
  · exact (hR.dd y e).1)
def MeetR (n0 b p : Nat) (lv mp vs os : Value) (w : World) (res : LS × Bool) (r : Value) (w' : World) : Prop :=
  r = .bool res.2 ∧ ∃ cs' vs' os', LRn n0 w' b cs' p lv mp vs' os' res.1 ∧ LMod b vs os vs' os' w w'
set_option maxHeartbeats 4000000 in
theorem meet12_ret (hT : TRep w p lab t) (hlab : ∀ x, lab x ≠ 0 → x < n0) (hf : t.Fine) (hv : t.vars ≤ 64) (hR : LRn n0 w b cs p lv mp vs os m) (hm : LSok m) {cv : Value} {c : List Int} (hc : LV vi w (· < n0) cv c) (hcl : c.length ≤ 1000) (but : Int) :
    Ret Try.prog 18 #[ptr b, cv, vi but] w (MeetR n0 b p lv mp vs os w (meetL t but c m)) := by
  obtain ⟨A, cc, rfl, hr, _⟩ := id hc
  refine ok18 _ _ _ _ _ ?_
  unfold sh18
  (repeat (first|refine ja ?_|refine jb ?_|refine jc ?_|refine jd ?_|refine je ?_|refine jf ?_|refine jg ?_|refine jh ?_|refine ji ?_|refine jj ?_|refine jk ?_|refine jl ?_|refine jm ?_|refine jn ?_|refine jo ?_|refine jp ?_|refine jq ?_|refine jr ?_|refine js ?_|refine jt ?_|refine ju ?_|refine jv ?_|refine jw ?_|refine jx ?_|refine jy ?_|refine jz ?_|refine jA ?_|refine jB ?_|refine jC ?_|refine jD ?_|refine jE ?_|refine jF ?_|refine jG ?_|refine jH ?_|refine jI ?_|refine jJ ?_|refine jK ?_|refine jL ?_|refine jM (by assumption) ?_|refine jN (by assumption) rfl ?_|refine jO (by assumption) ?_|refine jP (by assumption) rfl ?_|refine jQ ?_|refine jR ?_|refine jS ?_|refine jT ?_|refine jU (by assumption) rfl ?_))
  refine M.loop_i (σ := Nat) (fun i vals w' => vals = [vi i] ∧ i ≤ c.length ∧ ∃ m' cs' vs' os', meetL t but c m = meetL t but (c.drop i) m' ∧ LSok m' ∧ LRn n0 w' b cs' p lv mp vs' os' m' ∧ LMod b vs os vs' os' w w') (fun i => c.length - i) 0 ⟨rfl, by omega, m, cs, vs, os, rfl, hm, hR, LMod.refl _ _ _ _⟩ ?_
  rintro i vals w1 K ⟨rfl, hi, m1, cs1, vs1, os1, heq, hm1, hR1, m01⟩ hK _
  simp only [List.getD_cons_zero, List.getD_cons_succ]
  have k1 := m01.keep hR
  have hT1 := hT.keep k1 (fun x hx hl e => by have := hlab x hl; have e : n0 ≤ x := e; omega)
  by_cases hlt : i < c.length
  · obtain ⟨x, hx⟩ : ∃ x, c[i]? = some x := ⟨_, List.getElem?_eq_getElem hlt⟩
    have hd : c.drop i = x :: c.drop (i + 1) := by
      rw [List.drop_eq_getElem_cons hlt]
      congr 1
      rw [List.getElem?_eq_getElem hlt] at hx; simpa using hx
    rw [hd, meetL_cons] at heq
    have hr1 := hr.keep k1 (fun x hx hl e => by have hl : x < n0 := hl; have e : n0 ≤ x := e; omega)
    (repeat (first|refine ja ?_|refine jb ?_|refine jc ?_|refine jd ?_|refine je ?_|refine jf ?_|refine jg ?_|refine jh ?_|refine ji ?_|refine jj ?_|refine jk ?_|refine jl ?_|refine jm ?_|refine jn ?_|refine jo ?_|refine jp ?_|refine jq ?_|refine jr ?_|refine js ?_|refine jt ?_|refine ju ?_|refine jv ?_|refine jw ?_|refine jx ?_|refine jy ?_|refine jz ?_|refine jA ?_|refine jB ?_|refine jC ?_|refine jD ?_|refine jE ?_|refine jF ?_|refine jG ?_|refine jH ?_|refine jI ?_|refine jJ ?_|refine jK ?_|refine jL ?_|refine jM (by assumption) ?_|refine jN (by assumption) rfl ?_|refine jO (by assumption) ?_|refine jP (by assumption) rfl ?_|refine jQ ?_|refine jR ?_|refine jS ?_|refine jT ?_|refine jU (by assumption) rfl ?_))
    refine M.share_j (fun vals w' => vals = [] ∧ ∃ m' cs' vs' os', meetL t but c m = meetL t but (c.drop (i + 1)) m' ∧ LSok m' ∧ LRn n0 w' b cs' p lv mp vs' os' m' ∧ LMod b vs1 os1 vs' os' w1 w') ?_ ?_
    · rintro vals w2 ⟨rfl, m2, cs2, vs2, os2, g1, g2, g3, g4⟩ _
      (repeat (first|refine ja ?_|refine jb ?_|refine jc ?_|refine jd ?_|refine je ?_|refine jf ?_|refine jg ?_|refine jh ?_|refine ji ?_|refine jj ?_|refine jk ?_|refine jl ?_|refine jm ?_|refine jn ?_|refine jo ?_|refine jp ?_|refine jq ?_|refine jr ?_|refine js ?_|refine jt ?_|refine ju ?_|refine jv ?_|refine jw ?_|refine jx ?_|refine jy ?_|refine jz ?_|refine jA ?_|refine jB ?_|refine jC ?_|refine jD ?_|refine jE ?_|refine jF ?_|refine jG ?_|refine jH ?_|refine jI ?_|refine jJ ?_|refine jK ?_|refine jL ?_|refine jM (by assumption) ?_|refine jN (by assumption) rfl ?_|refine jO (by assumption) ?_|refine jP (by assumption) rfl ?_|refine jQ ?_|refine jR ?_|refine jS ?_|refine jT ?_|refine jU (by assumption) rfl ?_))
      exact hK (i + 1) _ _ (by omega) ⟨by simp, by omega, m2, cs2, vs2, os2, g1, g2, g3, m01.trans g4⟩
    · intro K2 hK2
      refine M.idxLV_i hr1 rfl (by omega) (by omega) (x := x) (by rw [Int.toNat_natCast]; exact hx) (fun bb oo hA hcc => ?_)
      (repeat (first|refine ja ?_|refine jb ?_|refine jc ?_|refine jd ?_|refine je ?_|refine jf ?_|refine jg ?_|refine jh ?_|refine ji ?_|refine jj ?_|refine jk ?_|refine jl ?_|refine jm ?_|refine jn ?_|refine jo ?_|refine jp ?_|refine jq ?_|refine jr ?_|refine js ?_|refine jt ?_|refine ju ?_|refine jv ?_|refine jw ?_|refine jx ?_|refine jy ?_|refine jz ?_|refine jA ?_|refine jB ?_|refine jC ?_|refine jD ?_|refine jE ?_|refine jF ?_|refine jG ?_|refine jH ?_|refine jI ?_|refine jJ ?_|refine jK ?_|refine jL ?_|refine jM (by assumption) ?_|refine jN (by assumption) rfl ?_|refine jO (by assumption) ?_|refine jP (by assumption) rfl ?_|refine jQ ?_|refine jR ?_|refine jS ?_|refine jT ?_|refine jU (by assumption) rfl ?_))
      refine skip_i ?_
      by_cases hsk : x = but ∧ 0 ≤ but
      · rw [if_pos hsk] at heq
        rw [decide_eq_true hsk]
        (repeat (first|refine ja ?_|refine jb ?_|refine jc ?_|refine jd ?_|refine je ?_|refine jf ?_|refine jg ?_|refine jh ?_|refine ji ?_|refine jj ?_|refine jk ?_|refine jl ?_|refine jm ?_|refine jn ?_|refine jo ?_|refine jp ?_|refine jq ?_|refine jr ?_|refine js ?_|refine jt ?_|refine ju ?_|refine jv ?_|refine jw ?_|refine jx ?_|refine jy ?_|refine jz ?_|refine jA ?_|refine jB ?_|refine jC ?_|refine jD ?_|refine jE ?_|refine jF ?_|refine jG ?_|refine jH ?_|refine jI ?_|refine jJ ?_|refine jK ?_|refine jL ?_|refine jM (by assumption) ?_|refine jN (by assumption) rfl ?_|refine jO (by assumption) ?_|refine jP (by assumption) rfl ?_|refine jQ ?_|refine jR ?_|refine jS ?_|refine jT ?_|refine jU (by assumption) rfl ?_))
        exact hK2 _ _ ⟨rfl, m1, cs1, vs1, os1, heq, hm1, hR1, LMod.refl _ _ _ _⟩
      rw [if_neg hsk] at heq
      rw [decide_eq_false hsk]
      have c0 : w1.cell? ⟨b, 0, none⟩ = some (ptr p) := hR1.blk.cell hR1.lc.c0
      (repeat (first|refine ja ?_|refine jb ?_|refine jc ?_|refine jd ?_|refine je ?_|refine jf ?_|refine jg ?_|refine jh ?_|refine ji ?_|refine jj ?_|refine jk ?_|refine jl ?_|refine jm ?_|refine jn ?_|refine jo ?_|refine jp ?_|refine jq ?_|refine jr ?_|refine js ?_|refine jt ?_|refine ju ?_|refine jv ?_|refine jw ?_|refine jx ?_|refine jy ?_|refine jz ?_|refine jA ?_|refine jB ?_|refine jC ?_|refine jD ?_|refine jE ?_|refine jF ?_|refine jG ?_|refine jH ?_|refine jI ?_|refine jJ ?_|refine jK ?_|refine jL ?_|refine jM (by assumption) ?_|refine jN (by assumption) rfl ?_|refine jO (by assumption) ?_|refine jP (by assumption) rfl ?_|refine jQ ?_|refine jR ?_|refine jS ?_|refine jT ?_|refine jU (by assumption) rfl ?_))
      refine M.call_i (value_ret hT1 x) ?_; rintro _ w2 ⟨rfl, k2⟩
      by_cases hval : t.val x = -1
      rotate_left
      · rw [if_pos hval] at heq
        (repeat (first|refine ja ?_|refine jb ?_|refine jc ?_|refine jd ?_|refine je ?_|refine jf ?_|refine jg ?_|refine jh ?_|refine ji ?_|refine jj ?_|refine jk ?_|refine jl ?_|refine jm ?_|refine jn ?_|refine jo ?_|refine jp ?_|refine jq ?_|refine jr ?_|refine js ?_|refine jt ?_|refine ju ?_|refine jv ?_|refine jw ?_|refine jx ?_|refine jy ?_|refine jz ?_|refine jA ?_|refine jB ?_|refine jC ?_|refine jD ?_|refine jE ?_|refine jF ?_|refine jG ?_|refine jH ?_|refine jI ?_|refine jJ ?_|refine jK ?_|refine jL ?_|refine jM (by assumption) ?_|refine jN (by assumption) rfl ?_|refine jO (by assumption) ?_|refine jP (by assumption) rfl ?_|refine jQ ?_|refine jR ?_|refine jS ?_|refine jT ?_|refine jU (by assumption) rfl ?_))
        rw [heq]
        exact ⟨rfl, cs1, vs1, os1, hR1.keep k2, m01.trans (LMod.of k2)⟩
      rw [if_neg (by simpa using hval)] at heq
      obtain ⟨hx0, hv0, hv64, hv2⟩ := val_var hf hv hval
      have hm2 := hm1.meet1 hf hv hval
      have hR2 := hR1.keep k2
      have hT2 := hT1.keep k2 (fun _ _ _ h => h)
      rw [hval]
      (repeat (first|refine ja ?_|refine jb ?_|refine jc ?_|refine jd ?_|refine je ?_|refine jf ?_|refine jg ?_|refine jh ?_|refine ji ?_|refine jj ?_|refine jk ?_|refine jl ?_|refine jm ?_|refine jn ?_|refine jo ?_|refine jp ?_|refine jq ?_|refine jr ?_|refine js ?_|refine jt ?_|refine ju ?_|refine jv ?_|refine jw ?_|refine jx ?_|refine jy ?_|refine jz ?_|refine jA ?_|refine jB ?_|refine jC ?_|refine jD ?_|refine jE ?_|refine jF ?_|refine jG ?_|refine jH ?_|refine jI ?_|refine jJ ?_|refine jK ?_|refine jL ?_|refine jM (by assumption) ?_|refine jN (by assumption) rfl ?_|refine jO (by assumption) ?_|refine jP (by assumption) rfl ?_|refine jQ ?_|refine jR ?_|refine jS ?_|refine jT ?_|refine jU (by assumption) rfl ?_|refine jG ?_ (by decide)|refine jH ?_ (by decide)|refine jI ?_ (by decide)|refine jJ ?_ (by decide)|refine jC ?_ (by decide)|refine jy ?_ (by decide)))
      refine M.call_i (var_ret x w2) ?_; rintro _ w3 ⟨rfl, k3⟩
      have hR3 := hR2.keep k3
      have hT3 := hT2.keep k3 (fun _ _ _ h => h)
      have c0 : w3.cell? ⟨b, 0, none⟩ = some (ptr p) := hR3.blk.cell hR3.lc.c0
      (repeat (first|refine ja ?_|refine jb ?_|refine jc ?_|refine jd ?_|refine je ?_|refine jf ?_|refine jg ?_|refine jh ?_|refine ji ?_|refine jj ?_|refine jk ?_|refine jl ?_|refine jm ?_|refine jn ?_|refine jo ?_|refine jp ?_|refine jq ?_|refine jr ?_|refine js ?_|refine jt ?_|refine ju ?_|refine jv ?_|refine jw ?_|refine jx ?_|refine jy ?_|refine jz ?_|refine jA ?_|refine jB ?_|refine jC ?_|refine jD ?_|refine jE ?_|refine jF ?_|refine jG ?_|refine jH ?_|refine jI ?_|refine jJ ?_|refine jK ?_|refine jL ?_|refine jM (by assumption) ?_|refine jN (by assumption) rfl ?_|refine jO (by assumption) ?_|refine jP (by assumption) rfl ?_|refine jQ ?_|refine jR ?_|refine jS ?_|refine jT ?_|refine jU (by assumption) rfl ?_))
      refine M.call_i (level_ret hT3 (varOf x)) ?_; rintro _ w4 ⟨rfl, k4⟩
      have hR4 := hR3.keep k4
      have hT4 := hT3.keep k4 (fun _ _ _ h => h)
      have k14 : Keep w1 w4 No := (k2.trans k3 (fun _ _ h => h)).trans k4 (fun _ _ h => h)
      generalize hvv : varOf x = v at *
      by_cases hl0 : t.lev v = 0
      · have e1 : meet1 t m1 x = m1 := by unfold meet1; rw [hvv, if_pos (.inl hl0)]
        rw [e1] at heq
        (repeat (first|refine ja ?_|refine jb ?_|refine jc ?_|refine jd ?_|refine je ?_|refine jf ?_|refine jg ?_|refine jh ?_|refine ji ?_|refine jj ?_|refine jk ?_|refine jl ?_|refine jm ?_|refine jn ?_|refine jo ?_|refine jp ?_|refine jq ?_|refine jr ?_|refine js ?_|refine jt ?_|refine ju ?_|refine jv ?_|refine jw ?_|refine jx ?_|refine jy ?_|refine jz ?_|refine jA ?_|refine jB ?_|refine jC ?_|refine jD ?_|refine jE ?_|refine jF ?_|refine jG ?_|refine jH ?_|refine jI ?_|refine jJ ?_|refine jK ?_|refine jL ?_|refine jM (by assumption) ?_|refine jN (by assumption) rfl ?_|refine jO (by assumption) ?_|refine jP (by assumption) rfl ?_|refine jQ ?_|refine jR ?_|refine jS ?_|refine jT ?_|refine jU (by assumption) rfl ?_))
        exact hK2 _ _ ⟨rfl, m1, cs1, vs1, os1, heq, hm1, hR4, LMod.of k14⟩
      (repeat (first|refine ja ?_|refine jb ?_|refine jc ?_|refine jd ?_|refine je ?_|refine jf ?_|refine jg ?_|refine jh ?_|refine ji ?_|refine jj ?_|refine jk ?_|refine jl ?_|refine jm ?_|refine jn ?_|refine jo ?_|refine jp ?_|refine jq ?_|refine jr ?_|refine js ?_|refine jt ?_|refine ju ?_|refine jv ?_|refine jw ?_|refine jx ?_|refine jy ?_|refine jz ?_|refine jA ?_|refine jB ?_|refine jC ?_|refine jD ?_|refine jE ?_|refine jF ?_|refine jG ?_|refine jH ?_|refine jI ?_|refine jJ ?_|refine jK ?_|refine jL ?_|refine jM (by assumption) ?_|refine jN (by assumption) rfl ?_|refine jO (by assumption) ?_|refine jP (by assumption) rfl ?_|refine jQ ?_|refine jR ?_|refine jS ?_|refine jT ?_|refine jU (by assumption) rfl ?_))
      refine M.call_i (has12_ret hR4 ⟨hv0, hv64⟩) ?_; rintro _ w5 ⟨rfl, k5⟩
      have hR5 := hR4.keep k5
      have hT5 := hT4.keep k5 (fun _ _ _ h => h)
      have k15 := k14.trans k5 (fun _ _ h => h)
      by_cases hmv : v ∈ m1.met
      · have e1 : meet1 t m1 x = m1 := by unfold meet1; rw [hvv, if_pos (.inr hmv)]
        rw [e1] at heq
        simp only [hmv, decide_true]
        (repeat (first|refine ja ?_|refine jb ?_|refine jc ?_|refine jd ?_|refine je ?_|refine jf ?_|refine jg ?_|refine jh ?_|refine ji ?_|refine jj ?_|refine jk ?_|refine jl ?_|refine jm ?_|refine jn ?_|refine jo ?_|refine jp ?_|refine jq ?_|refine jr ?_|refine js ?_|refine jt ?_|refine ju ?_|refine jv ?_|refine jw ?_|refine jx ?_|refine jy ?_|refine jz ?_|refine jA ?_|refine jB ?_|refine jC ?_|refine jD ?_|refine jE ?_|refine jF ?_|refine jG ?_|refine jH ?_|refine jI ?_|refine jJ ?_|refine jK ?_|refine jL ?_|refine jM (by assumption) ?_|refine jN (by assumption) rfl ?_|refine jO (by assumption) ?_|refine jP (by assumption) rfl ?_|refine jQ ?_|refine jR ?_|refine jS ?_|refine jT ?_|refine jU (by assumption) rfl ?_))
        exact hK2 _ _ ⟨rfl, m1, cs1, vs1, os1, heq, hm1, hR5, LMod.of k15⟩
      simp only [hmv, decide_false]
      (repeat (first|refine ja ?_|refine jb ?_|refine jc ?_|refine jd ?_|refine je ?_|refine jf ?_|refine jg ?_|refine jh ?_|refine ji ?_|refine jj ?_|refine jk ?_|refine jl ?_|refine jm ?_|refine jn ?_|refine jo ?_|refine jp ?_|refine jq ?_|refine jr ?_|refine js ?_|refine jt ?_|refine ju ?_|refine jv ?_|refine jw ?_|refine jx ?_|refine jy ?_|refine jz ?_|refine jA ?_|refine jB ?_|refine jC ?_|refine jD ?_|refine jE ?_|refine jF ?_|refine jG ?_|refine jH ?_|refine jI ?_|refine jJ ?_|refine jK ?_|refine jL ?_|refine jM (by assumption) ?_|refine jN (by assumption) rfl ?_|refine jO (by assumption) ?_|refine jP (by assumption) rfl ?_|refine jQ ?_|refine jR ?_|refine jS ?_|refine jT ?_|refine jU (by assumption) rfl ?_))
      refine M.call_i (add12_ret hR5 ⟨hv0, hv64⟩) ?_; rintro r6 w6 ⟨b6, k6⟩
      have lc6 := hR5.lc.mark ⟨hv0, hv64⟩
      generalize cs1.set (2 + v.toNat) (vb true) = cs6 at b6 lc6
      have hT6 := hT5.keep k6 (fun x hx hl e => by have e : x = b := e; have := hlab x hl; have := hR.b0; omega)
      have gv6 := hR5.gv.keep k6 (fun x _ e e2 => (hR5.dv x e).2.1 e2)
      have go6 := hR5.go.keep k6 (fun x _ e e2 => (hR5.dd x e).2 e2)
      have k16 : Keep w1 w6 (fun y => y = b ∨ blkOf vs1 y ∨ blkOf os1 y) := (k15.mono (fun _ _ e => e.elim)).trans k6 (fun y _ e => .inl e)
      (repeat (first|refine ja ?_|refine jb ?_|refine jc ?_|refine jd ?_|refine je ?_|refine jf ?_|refine jg ?_|refine jh ?_|refine ji ?_|refine jj ?_|refine jk ?_|refine jl ?_|refine jm ?_|refine jn ?_|refine jo ?_|refine jp ?_|refine jq ?_|refine jr ?_|refine js ?_|refine jt ?_|refine ju ?_|refine jv ?_|refine jw ?_|refine jx ?_|refine jy ?_|refine jz ?_|refine jA ?_|refine jB ?_|refine jC ?_|refine jD ?_|refine jE ?_|refine jF ?_|refine jG ?_|refine jH ?_|refine jI ?_|refine jJ ?_|refine jK ?_|refine jL ?_|refine jM (by assumption) ?_|refine jN (by assumption) rfl ?_|refine jO (by assumption) ?_|refine jP (by assumption) rfl ?_|refine jQ ?_|refine jR ?_|refine jS ?_|refine jT ?_|refine jU (by assumption) rfl ?_))
      refine M.loadB_i b6 lc6.c67 ?_
      refine M.buildSlice_i [vi v] (by kernel_rfl) (fun w7 b7 k7 s7 => ?_)
      have hml := hm1.len
      have hn6 : n0 ≤ w6.heap.size := by have := b6.lt; have := hR.b0; omega
      have ob : b < w6.heap.size := b6.lt
      have q7 := k7.size
      refine M.append1_i (gv6.keep k7 (fun _ _ _ h => h)) (Row.of_blk' (D := fun _ => True) b7 trivial) rfl (by omega) (fun vs8 w8 g8 k8 => ?_)
      have q8 := k8.size
      have b6 := (b6.keep k7 (fun h => h)).keep k8 (fun e => (hR5.dv b e).2.1 rfl)
      have go8 := (go6.keep k7 (fun _ _ _ h => h)).keep k8 (fun x _ e e2 => (hR5.dv x e2).2.2 e)
      have hT8 := (hT6.keep k7 (fun _ _ _ h => h)).keep k8 (fun x hx hl e => by have := (hR5.dv x e).1; have := hlab x hl; omega)
      have k18 := (k16.trans k7 (fun _ _ h => h.elim)).trans k8 (fun y _ e => .inr (.inl e))
      have own8 : ∀ y, blkOf vs8 y → blkOf vs1 y ∨ w7.heap.size ≤ y := fun y hy => (GC.blkOf g8 hy).1
      have go8lt : ∀ y, blkOf os1 y → y < w7.heap.size := fun y hy => (GC.blkOf (go6.keep k7 (fun _ _ _ h => h)) hy).2
      (repeat (first|refine ja ?_|refine jb ?_|refine jc ?_|refine jd ?_|refine je ?_|refine jf ?_|refine jg ?_|refine jh ?_|refine ji ?_|refine jj ?_|refine jk ?_|refine jl ?_|refine jm ?_|refine jn ?_|refine jo ?_|refine jp ?_|refine jq ?_|refine jr ?_|refine js ?_|refine jt ?_|refine ju ?_|refine jv ?_|refine jw ?_|refine jx ?_|refine jy ?_|refine jz ?_|refine jA ?_|refine jB ?_|refine jC ?_|refine jD ?_|refine jE ?_|refine jF ?_|refine jG ?_|refine jH ?_|refine jI ?_|refine jJ ?_|refine jK ?_|refine jL ?_|refine jM (by assumption) ?_|refine jN (by assumption) rfl ?_|refine jO (by assumption) ?_|refine jP (by assumption) rfl ?_|refine jQ ?_|refine jR ?_|refine jS ?_|refine jT ?_|refine jU (by assumption) rfl ?_))
      refine M.store_i b6 (by rw [lc6.len]; omega) g8.one (fun w9 b9 k9 s9 => ?_)
      have lc9 := lc6.s67 vs8
      have b9 : Blk w9 b (cs6.set 67 vs8) := b9
      generalize cs6.set 67 vs8 = cs9 at b9 lc9
      have g9 := g8.keep k9 (fun y hy e e2 => by
        have e2 : y = b := e2
        rcases e with e | e
        · exact (hR5.dv y e).2.1 e2
        · omega)
      have go9 := go8.keep k9 (fun y hy e e2 => (hR5.dd y e).2 e2)
      have hT9 := hT8.keep k9 (fun y hy hl e => by have e : y = b := e; have := hlab y hl; have := hR.b0; omega)
      have k19 := k18.trans k9 (fun y _ e => .inl e)
      have q16 := k16.size
      have own8' : ∀ y, blkOf vs8 y → blkOf vs1 y ∨ w1.heap.size ≤ y := fun y hy => (own8 y hy).imp (fun h => h) (fun h => by omega)
      have c0 : w9.cell? ⟨b, 0, none⟩ = some (ptr p) := b9.cell lc9.c0
      (repeat (first|refine ja ?_|refine jb ?_|refine jc ?_|refine jd ?_|refine je ?_|refine jf ?_|refine jg ?_|refine jh ?_|refine ji ?_|refine jj ?_|refine jk ?_|refine jl ?_|refine jm ?_|refine jn ?_|refine jo ?_|refine jp ?_|refine jq ?_|refine jr ?_|refine js ?_|refine jt ?_|refine ju ?_|refine jv ?_|refine jw ?_|refine jx ?_|refine jy ?_|refine jz ?_|refine jA ?_|refine jB ?_|refine jC ?_|refine jD ?_|refine jE ?_|refine jF ?_|refine jG ?_|refine jH ?_|refine jI ?_|refine jJ ?_|refine jK ?_|refine jL ?_|refine jM (by assumption) ?_|refine jN (by assumption) rfl ?_|refine jO (by assumption) ?_|refine jP (by assumption) rfl ?_|refine jQ ?_|refine jR ?_|refine jS ?_|refine jT ?_|refine jU (by assumption) rfl ?_))
      refine M.call_i (levels_ret hT9) ?_; rintro _ w10 ⟨rfl, k10⟩
      have b10 := b9.keep k10 (fun h => h)
      have g10 := g9.keep k10 (fun _ _ _ h => h)
      have go10 := go9.keep k10 (fun _ _ _ h => h)
      have k110 := k19.trans k10 (fun _ _ h => h.elim)
      have hb7 : b < w7.heap.size := by omega
      have e1 : meet1 t m1 x = if t.lev v = t.begins.length then ⟨m1.met ++ [v], m1.others, m1.left + 1⟩ else ⟨m1.met ++ [v], m1.others ++ [x], m1.left⟩ := by
        unfold meet1
        rw [hvv, if_neg (by rintro (e | e)
                            · exact hl0 e
                            · exact hmv e)]
      have hmlf := hm1.left
      have hmo := hm1.oth
      by_cases hlv : t.lev v = t.begins.length
      · rw [if_pos hlv] at e1
        rw [e1] at heq hm2
        (repeat (first|refine ja ?_|refine jb ?_|refine jc ?_|refine jd ?_|refine je ?_|refine jf ?_|refine jg ?_|refine jh ?_|refine ji ?_|refine jj ?_|refine jk ?_|refine jl ?_|refine jm ?_|refine jn ?_|refine jo ?_|refine jp ?_|refine jq ?_|refine jr ?_|refine js ?_|refine jt ?_|refine ju ?_|refine jv ?_|refine jw ?_|refine jx ?_|refine jy ?_|refine jz ?_|refine jA ?_|refine jB ?_|refine jC ?_|refine jD ?_|refine jE ?_|refine jF ?_|refine jG ?_|refine jH ?_|refine jI ?_|refine jJ ?_|refine jK ?_|refine jL ?_|refine jM (by assumption) ?_|refine jN (by assumption) rfl ?_|refine jO (by assumption) ?_|refine jP (by assumption) rfl ?_|refine jQ ?_|refine jR ?_|refine jS ?_|refine jT ?_|refine jU (by assumption) rfl ?_))
        have c69 : cs9[69]? = some (vi m1.left) := lc9.c69
        refine M.loadB_i b10 c69 ?_
        (repeat (first|refine ja ?_|refine jb ?_|refine jc ?_|refine jd ?_|refine je ?_|refine jf ?_|refine jg ?_|refine jh ?_|refine ji ?_|refine jj ?_|refine jk ?_|refine jl ?_|refine jm ?_|refine jn ?_|refine jo ?_|refine jp ?_|refine jq ?_|refine jr ?_|refine js ?_|refine jt ?_|refine ju ?_|refine jv ?_|refine jw ?_|refine jx ?_|refine jy ?_|refine jz ?_|refine jA ?_|refine jB ?_|refine jC ?_|refine jD ?_|refine jE ?_|refine jF ?_|refine jG ?_|refine jH ?_|refine jI ?_|refine jJ ?_|refine jK ?_|refine jL ?_|refine jM (by assumption) ?_|refine jN (by assumption) rfl ?_|refine jO (by assumption) ?_|refine jP (by assumption) rfl ?_|refine jQ ?_|refine jR ?_|refine jS ?_|refine jT ?_|refine jU (by assumption) rfl ?_))
        refine M.store_i b10 (by rw [lc9.len]; omega) rfl (fun w11 b11 k11 s11 => ?_)
        have b11 : Blk w11 b (cs9.set 69 (vi (m1.left + 1))) := b11
        have g11 := g10.keep k11 (fun y hy e e2 => by
          have e2 : y = b := e2
          rcases e with e | e
          · exact (hR5.dv y e).2.1 e2
          · omega)
        have go11 := go10.keep k11 (fun y hy e e2 => (hR5.dd y e).2 e2)
        refine hK2 _ _ ⟨rfl, _, _, vs8, os1, heq, hm2, ⟨b11, lc9.s69 (m1.left + 1) m1.others, GC.own g11, go11, fun y hy => ?_, hR5.dd, hR.b0⟩, ⟨k110.trans k11 (fun y _ e => .inl e), own8', fun _ h => .inl h⟩⟩
        rcases own8 y hy with e | e
        · exact hR5.dv y e
        · exact ⟨by omega, by omega, fun e2 => by have := go8lt y e2; omega⟩
      · rw [if_neg hlv] at e1
        rw [e1] at heq hm2
        (repeat (first|refine ja ?_|refine jb ?_|refine jc ?_|refine jd ?_|refine je ?_|refine jf ?_|refine jg ?_|refine jh ?_|refine ji ?_|refine jj ?_|refine jk ?_|refine jl ?_|refine jm ?_|refine jn ?_|refine jo ?_|refine jp ?_|refine jq ?_|refine jr ?_|refine js ?_|refine jt ?_|refine ju ?_|refine jv ?_|refine jw ?_|refine jx ?_|refine jy ?_|refine jz ?_|refine jA ?_|refine jB ?_|refine jC ?_|refine jD ?_|refine jE ?_|refine jF ?_|refine jG ?_|refine jH ?_|refine jI ?_|refine jJ ?_|refine jK ?_|refine jL ?_|refine jM (by assumption) ?_|refine jN (by assumption) rfl ?_|refine jO (by assumption) ?_|refine jP (by assumption) rfl ?_|refine jQ ?_|refine jR ?_|refine jS ?_|refine jT ?_|refine jU (by assumption) rfl ?_))
        refine M.loadB_i b10 lc9.c68 ?_
        refine M.buildSlice_i [vi x] (by kernel_rfl) (fun w11 b11 k11 s11 => ?_)
        have q9 := k9.size
        have q10 := k10.size
        refine M.append1_i (go10.keep k11 (fun _ _ _ h => h)) (Row.of_blk' (D := fun _ => True) b11 trivial) rfl (by omega) (fun os12 w12 g12 k12 => ?_)
        have q12 := k12.size
        have b10 := (b10.keep k11 (fun h => h)).keep k12 (fun e => (hR5.dd b e).2 rfl)
        have own12 : ∀ y, blkOf os12 y → blkOf os1 y ∨ w11.heap.size ≤ y := fun y hy => (GC.blkOf g12 hy).1
        have vs8lt : ∀ y, blkOf vs8 y → y < w8.heap.size := fun y hy => (GC.blkOf g8 hy).2
        have gv12 := ((GC.own g10).keep k11 (fun _ _ _ h => h)).keep k12 (fun y hy e e2 => by
          rcases own8 y e with e3 | e3
          · exact (hR5.dv y e3).2.2 e2
          · have := go8lt y e2; omega)
        (repeat (first|refine ja ?_|refine jb ?_|refine jc ?_|refine jd ?_|refine je ?_|refine jf ?_|refine jg ?_|refine jh ?_|refine ji ?_|refine jj ?_|refine jk ?_|refine jl ?_|refine jm ?_|refine jn ?_|refine jo ?_|refine jp ?_|refine jq ?_|refine jr ?_|refine js ?_|refine jt ?_|refine ju ?_|refine jv ?_|refine jw ?_|refine jx ?_|refine jy ?_|refine jz ?_|refine jA ?_|refine jB ?_|refine jC ?_|refine jD ?_|refine jE ?_|refine jF ?_|refine jG ?_|refine jH ?_|refine jI ?_|refine jJ ?_|refine jK ?_|refine jL ?_|refine jM (by assumption) ?_|refine jN (by assumption) rfl ?_|refine jO (by assumption) ?_|refine jP (by assumption) rfl ?_|refine jQ ?_|refine jR ?_|refine jS ?_|refine jT ?_|refine jU (by assumption) rfl ?_))
        refine M.store_i b10 (by rw [lc9.len]; omega) g12.one (fun w13 b13 k13 s13 => ?_)
        have b13 : Blk w13 b (cs9.set 68 os12) := b13
        have lc13 : LC (cs9.set 68 os12) p lv mp vs8 os12 ⟨m1.met ++ [v], m1.others ++ [x], m1.left⟩ := by
          have := lc9.s68 os12
          exact ⟨this.len, this.c0, this.c1, this.c66, this.c67, this.c68, this.c69, this.mks⟩
        have gv13 := gv12.keep k13 (fun y hy e e2 => by
          have e2 : y = b := e2
          rcases own8 y e with e | e
          · exact (hR5.dv y e).2.1 e2
          · omega)
        have g13 := g12.keep k13 (fun y hy e e2 => by
          have e2 : y = b := e2
          rcases e with e | e
          · exact (hR5.dd y e).2 e2
          · have q11 := k11.size; omega)
        refine hK2 _ _ ⟨rfl, _, _, vs8, os12, heq, hm2, ⟨b13, lc13, gv13, GC.own g13, fun y hy => ?_, fun y hy => ?_, hR.b0⟩, ⟨((k110.trans k11 (fun _ _ h => h.elim)).trans k12 (fun y _ e => .inr (.inr e))).trans k13 (fun y _ e => .inl e), own8', fun y hy => (own12 y hy).imp (fun h => h) (fun h => by have q11 := k11.size; omega)⟩⟩
        · have hy8 := vs8lt y hy
          have no12 : ¬ blkOf os12 y := fun e2 => by
            rcases own12 y e2 with e2 | e2
            · rcases own8 y hy with e | e
              · exact (hR5.dv y e).2.2 e2
              · have := go8lt y e2; omega
            · have q11 := k11.size; omega
          rcases own8 y hy with e | e
          · exact ⟨(hR5.dv y e).1, (hR5.dv y e).2.1, no12⟩
          · exact ⟨by omega, by omega, no12⟩
        · rcases own12 y hy with e | e
          · exact hR5.dd y e
          · have q11 := k11.size; exact ⟨by omega, by omega⟩
  · have e : i = c.length := by omega
    subst e
    rw [List.drop_length] at heq
    (repeat (first|refine ja ?_|refine jb ?_|refine jc ?_|refine jd ?_|refine je ?_|refine jf ?_|refine jg ?_|refine jh ?_|refine ji ?_|refine jj ?_|refine jk ?_|refine jl ?_|refine jm ?_|refine jn ?_|refine jo ?_|refine jp ?_|refine jq ?_|refine jr ?_|refine js ?_|refine jt ?_|refine ju ?_|refine jv ?_|refine jw ?_|refine jx ?_|refine jy ?_|refine jz ?_|refine jA ?_|refine jB ?_|refine jC ?_|refine jD ?_|refine jE ?_|refine jF ?_|refine jG ?_|refine jH ?_|refine jI ?_|refine jJ ?_|refine jK ?_|refine jL ?_|refine jM (by assumption) ?_|refine jN (by assumption) rfl ?_|refine jO (by assumption) ?_|refine jP (by assumption) rfl ?_|refine jQ ?_|refine jR ?_|refine jS ?_|refine jT ?_|refine jU (by assumption) rfl ?_))
    rw [heq]
    exact ⟨rfl, cs1, vs1, os1, hR1, m01⟩
end
end Go.Proofs.Ytnmbgfonlpjicaa
