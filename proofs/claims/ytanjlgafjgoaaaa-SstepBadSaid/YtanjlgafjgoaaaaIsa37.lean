import Derived.Test.YtanjlgafjgoaaaaSt37p
import Derived.Laws.IdiomStrings
import Derived.Laws.Externs
namespace Go.Proofs.Ytanjlgafjgoaaaa
open Go.Mw
set_option linter.unusedVariables false
set_option linter.unusedSimpArgs false
set_option maxRecDepth 100000
attribute [local irreducible] M.val M.unit M.next M.pick M.new M.nilCheck M.load1 M.loadA M.store M.fieldAddr M.indexSl M.indexArr M.slice M.makeSlice M.buildSlice M.len M.lenS M.cap M.append M.extract M.conv M.not M.neg M.bin M.shift M.eqB M.eqNil M.scat M.call M.callv M.gd M.share M.cond M.loop M.draw pureW readW Ret
/-! strings.Contains: function 45 -/
def sh45 (x0 x1 : Value) (R : Kt) (w : World) : Prop :=
  M.call Try.prog 67 #[x0, x1] (fun t7 w =>
  M.bin .geq t7 (Value.int IntKind.i64 0) (fun t8 w =>
  R t8 w) w) w
theorem ok45 (x0 x1 : Value) (R : Kt) (w : World) (h : sh45 x0 x1 R w) : Ret Try.prog 45 #[x0, x1] w R :=
  ret_mk <| calls_of_comp mixed (c := Try.f45.body.getD .skip) (args := [x0, x1]) (rs := [(ResultVar.tmp 4)]) (Ann.seq Ann.text (Ann.seq Ann.text Ann.leaf))
    Try.func45 (by kernel_rfl) (by kernel_rfl)
    (Eq.mp (by kernel_rfl) h)
/-! strings.Index: function 67 -/
def sh67 (x0 x1 : Value) (R : Kt) (w : World) : Prop :=
  M.call Try.prog 77 #[x0, x1] (fun t7 w =>
  R t7 w) w
theorem ok67 (x0 x1 : Value) (R : Kt) (w : World) (h : sh67 x0 x1 R w) : Ret Try.prog 67 #[x0, x1] w R :=
  ret_mk <| calls_of_comp mixed (c := Try.f67.body.getD .skip) (args := [x0, x1]) (rs := [(ResultVar.tmp 4)]) (Ann.seq Ann.text (Ann.seq Ann.text Ann.leaf))
    Try.func67 (by kernel_rfl) (by kernel_rfl)
    (Eq.mp (by kernel_rfl) h)
/-! internal/stringslite.Index: function 77 -/
def sh77 (x0 x1 : Value) (R : Kt) (w : World) : Prop :=
  M.lenS x1 (fun t15 w =>
  M.bin .eql t15 (Value.int IntKind.i64 0) (fun t18 w =>
  M.gd t18 false (fun k w => k x1 w) (fun t20 w =>
  M.gd t18 false (fun k w => k x0 w) (fun t21 w =>
  M.gd t18 false (fun k w => M.val Try.prog (do eqGuard .eql 9 (Operand.tmp 20) (Operand.tmp 21) t20 t21; binOp .eql 9 t20 t21) k w) (fun t22 w =>
  M.pick t18 (Value.bool true) t22 (fun t23 w =>
  M.cond t23
  (R (Value.int IntKind.i64 0) w)
  (M.bin .eql t15 (Value.int IntKind.i64 1) (fun t26 w =>
  M.cond t26
  (pureW Try.prog (Instr.index 9 x1 (Value.int IntKind.i64 0)) (fun t29 w =>
  M.call Try.prog 82 #[x0, t29] (fun t30 w =>
  R t30 w) w) w)
  (M.lenS x0 (fun t34 w =>
  M.bin .geq t15 t34 (fun t35 w =>
  M.cond t35
  (R (Value.int IntKind.i64 (-1)) w)
  (M.load1 (.pointer (some ⟨0, 0, none⟩)) (fun t38 w =>
  M.bin .leq t15 t38 (fun t39 w =>
  M.gd t39 true (fun k w => k x0 w) (fun t41 w =>
  M.gd t39 true (fun k w => M.lenS t41 k w) (fun t42 w =>
  M.gd t39 true (fun k w => M.bin .leq t42 (Value.int IntKind.i64 64) k w) (fun t43 w =>
  M.pick t39 t43 (Value.bool false) (fun t44 w =>
  M.cond t44
  (M.next Try.prog (callFunc 83 #[x0, x1]) (fun t47 w =>
  R t47 w) w)
  (pureW Try.prog (Instr.index 9 x1 (Value.int IntKind.i64 0)) (fun t49 w =>
  pureW Try.prog (Instr.index 9 x1 (Value.int IntKind.i64 1)) (fun t51 w =>
  M.lenS x0 (fun t53 w =>
  M.bin .sub t53 t15 (fun t55 w =>
  M.bin .add t55 (Value.int IntKind.i64 1) (fun t56 w =>
  M.loop [(Value.int IntKind.i64 0), (Value.int IntKind.i64 0)] (fun s1 K1 w => ∀ _ : List Value,
  M.bin .lss (s1.getD 0 undef) t56 (fun t59 w =>
  M.cond t59
  (M.share (fun K2 w =>
  pureW Try.prog (Instr.index 9 x0 (s1.getD 0 undef)) (fun t62 w =>
  M.bin .neq t62 t49 (fun t64 w =>
  M.cond t64
  (M.bin .add (s1.getD 0 undef) (Value.int IntKind.i64 1) (fun t67 w =>
  M.val Try.prog (Instr.sliceAt 9 x0 (some t67) (some t56) none) (fun t69 w =>
  M.call Try.prog 82 #[t69, t49] (fun t71 w =>
  M.bin .lss t71 (Value.int IntKind.i64 0) (fun t73 w =>
  M.cond t73
  (R (Value.int IntKind.i64 (-1)) w)
  (M.bin .add t71 (Value.int IntKind.i64 1) (fun t76 w =>
  M.bin .add (s1.getD 0 undef) t76 (fun t77 w =>
  K2 [t77] w) w) w)) w) w) w) w)
  (K2 [(s1.getD 0 undef)] w)) w) w) (fun s2 w => ∀ _ : List Value,
  M.bin .add (s2.getD 0 undef) (Value.int IntKind.i64 1) (fun t80 w =>
  pureW Try.prog (Instr.index 9 x0 t80) (fun t81 w =>
  M.bin .eql t81 t51 (fun t83 w =>
  M.gd t83 true (fun k w => k x0 w) (fun t85 w =>
  M.gd t83 true (fun k w => k (s2.getD 0 undef) w) (fun t86 w =>
  M.gd t83 true (fun k w => k (s2.getD 0 undef) w) (fun t87 w =>
  M.gd t83 true (fun k w => k t15 w) (fun t88 w =>
  M.gd t83 true (fun k w => M.bin .add t87 t88 k w) (fun t89 w =>
  M.gd t83 true (fun k w => M.val Try.prog (Instr.sliceAt 9 t85 (some t86) (some t89) none) k w) (fun t90 w =>
  M.gd t83 true (fun k w => k x1 w) (fun t91 w =>
  M.gd t83 true (fun k w => M.val Try.prog (do eqGuard .eql 9 (Operand.tmp 90) (Operand.tmp 91) t90 t91; binOp .eql 9 t90 t91) k w) (fun t92 w =>
  M.pick t83 t92 (Value.bool false) (fun t93 w =>
  M.cond t93
  (R (s2.getD 0 undef) w)
  (M.bin .add (s2.getD 0 undef) (Value.int IntKind.i64 1) (fun t96 w =>
  M.bin .add (s1.getD 1 undef) (Value.int IntKind.i64 1) (fun t98 w =>
  M.load1 (.pointer (some ⟨0, 0, none⟩)) (fun t100 w =>
  M.bin .leq t15 t100 (fun t101 w =>
  M.gd t101 true (fun k w => k t98 w) (fun t103 w =>
  M.gd t101 true (fun k w => k t96 w) (fun t104 w =>
  M.gd t101 true (fun k w => M.call Try.prog 84 #[t104] k w) (fun t105 w =>
  M.gd t101 true (fun k w => M.bin .gtr t103 t105 k w) (fun t106 w =>
  M.pick t101 t106 (Value.bool false) (fun t107 w =>
  M.cond t107
  (M.val Try.prog (Instr.sliceAt 9 x0 (some t96) none none) (fun t110 w =>
  M.next Try.prog (callFunc 83 #[t110, x1]) (fun t112 w =>
  M.bin .geq t112 (Value.int IntKind.i64 0) (fun t114 w =>
  M.cond t114
  (M.bin .add t112 t96 (fun t117 w =>
  R t117 w) w)
  (R (Value.int IntKind.i64 (-1)) w)) w) w) w)
  (M.load1 (.pointer (some ⟨0, 0, none⟩)) (fun t119 w =>
  M.bin .gtr t15 t119 (fun t120 w =>
  M.gd t120 true (fun k w => k t98 w) (fun t122 w =>
  M.gd t120 true (fun k w => k t96 w) (fun t123 w =>
  M.gd t120 true (fun k w => M.shift .shr t123 (Value.int IntKind.u64 4) k w) (fun t124 w =>
  M.gd t120 true (fun k w => M.bin .add (Value.int IntKind.i64 4) t124 k w) (fun t125 w =>
  M.gd t120 true (fun k w => M.bin .geq t122 t125 k w) (fun t126 w =>
  M.pick t120 t126 (Value.bool false) (fun t127 w =>
  M.gd t127 true (fun k w => k t96 w) (fun t129 w =>
  M.gd t127 true (fun k w => k t56 w) (fun t130 w =>
  M.gd t127 true (fun k w => M.bin .lss t129 t130 k w) (fun t131 w =>
  M.pick t127 t131 (Value.bool false) (fun t132 w =>
  M.cond t132
  (M.val Try.prog (Instr.sliceAt 9 x0 (some t96) none none) (fun t135 w =>
  M.call Try.prog 85 #[t135, x1] (fun t137 w =>
  M.bin .lss t137 (Value.int IntKind.i64 0) (fun t139 w =>
  M.cond t139
  (R (Value.int IntKind.i64 (-1)) w)
  (M.bin .add t96 t137 (fun t142 w =>
  R t142 w) w)) w) w) w)
  (K1 [t96, t98] w)) w) w) w) w) w) w) w) w) w) w) w) w)) w) w) w) w) w) w) w) w) w)) w) w) w) w) w) w) w) w) w) w) w) w) w)
  (R (Value.int IntKind.i64 (-1)) w)) w) w) w) w) w) w) w)) w) w) w) w) w) w)) w) w)) w)) w) w) w) w) w) w
theorem ok77 (x0 x1 : Value) (R : Kt) (w : World) (h : sh77 x0 x1 R w) : Ret Try.prog 77 #[x0, x1] w R :=
  ret_mk <| calls_of_comp mixed (c := Try.f77.body.getD .skip) (args := [x0, x1]) (rs := [(ResultVar.tmp 4)]) (Ann.seq Ann.text (Ann.seq Ann.text (Ann.seq (Ann.block (Ann.seq Ann.text (Ann.cond (Ann.seq Ann.text Ann.leaf) (Ann.seq Ann.text (Ann.cond (Ann.seq Ann.text Ann.leaf) (Ann.seq Ann.text (Ann.cond (Ann.seq Ann.text Ann.leaf) (Ann.seq Ann.text (Ann.cond (Ann.seq Ann.text Ann.leaf) Ann.leaf))))))))) (Ann.seq Ann.text (Ann.seq Ann.text (Ann.seq Ann.text (Ann.seq Ann.text (Ann.seq Ann.text (Ann.seq (Ann.block (Ann.loop [8, 10] [4, 11, 12, 13, 57, 58, 59, 60, 61, 62, 63, 64, 65, 66, 67, 68, 69, 70, 71, 72, 73, 74, 75, 76, 77, 78, 79, 80, 81, 82, 83, 84, 85, 86, 87, 88, 89, 90, 91, 92, 93, 94, 95, 96, 97, 98, 99, 100, 101, 102, 103, 104, 105, 106, 107, 108, 109, 110, 111, 112, 113, 114, 115, 116, 117, 118, 119, 120, 121, 122, 123, 124, 125, 126, 127, 128, 129, 130, 131, 132, 133, 134, 135, 136, 137, 138, 139, 140, 141, 142] (Ann.seq (Ann.seq Ann.text (Ann.cond Ann.leaf Ann.leaf)) (Ann.block (Ann.join [8] [4, 11, 60, 61, 62, 63, 64, 65, 66, 67, 68, 69, 70, 71, 72, 73, 74, 75, 76, 77] (Ann.seq Ann.text (Ann.cond (Ann.seq Ann.text (Ann.seq (Ann.seq Ann.text (Ann.cond (Ann.seq Ann.text Ann.leaf) Ann.leaf)) Ann.text)) Ann.leaf)) (Ann.seq (Ann.seq Ann.text (Ann.cond (Ann.seq Ann.text Ann.leaf) Ann.leaf)) (Ann.seq Ann.text (Ann.seq Ann.text (Ann.seq Ann.text (Ann.cond (Ann.seq Ann.text (Ann.seq (Ann.seq Ann.text (Ann.cond (Ann.seq Ann.text Ann.leaf) Ann.leaf)) (Ann.seq Ann.text Ann.leaf))) (Ann.seq Ann.text (Ann.cond (Ann.seq Ann.text (Ann.seq (Ann.seq Ann.text (Ann.cond (Ann.seq Ann.text Ann.leaf) Ann.leaf)) (Ann.seq Ann.text Ann.leaf))) Ann.leaf)))))))))))) (Ann.seq Ann.text Ann.leaf))))))))))
    Try.func77 (by kernel_rfl) (by kernel_rfl)
    (Eq.mp (by kernel_rfl) h)
/-! internal/stringslite.IndexByte: function 82 -/
def sh82 (x0 x1 : Value) (R : Kt) (w : World) : Prop :=
  M.next Try.prog (callFunc 87 #[x0, x1]) (fun t7 w =>
  R t7 w) w
theorem ok82 (x0 x1 : Value) (R : Kt) (w : World) (h : sh82 x0 x1 R w) : Ret Try.prog 82 #[x0, x1] w R :=
  ret_mk <| calls_of_comp mixed (c := Try.f82.body.getD .skip) (args := [x0, x1]) (rs := [(ResultVar.tmp 4)]) (Ann.seq Ann.text (Ann.seq Ann.text Ann.leaf))
    Try.func82 (by kernel_rfl) (by kernel_rfl)
    (Eq.mp (by kernel_rfl) h)

abbrev Tx := List UInt8
abbrev xs8 (l : Tx) : Value := .string ⟨l.toArray⟩
theorem M.seq8_i {k : Kt} {w : World} {x y : Operand} {a b : Tx} (h : k (.bool (decide (a = b))) w) :
    M.val Try.prog (do eqGuard .eql 9 x y (xs8 a) (xs8 b); binOp .eql 9 (xs8 a) (xs8 b)) k w := by
  refine M.val_i ?_ h
  have e1 : (do eqGuard .eql 9 x y (xs8 a) (xs8 b); binOp .eql 9 (xs8 a) (xs8 b) : Sem Value).run Try.prog w = (binOp .eql 9 (xs8 a) (xs8 b)).run Try.prog w := rfl
  rw [e1, binOp_string_eql, ByteArray.toList_mk, ByteArray.toList_mk]
  have : (a == b) = decide (a = b) := by
    by_cases e : a = b
    · subst e; simp
    · rw [decide_eq_false e]; simpa using e
  rw [this]; rfl
theorem M.lenS8_i {k : Kt} {w : World} {a : Tx} (h : k (vi a.length) w) : M.lenS (xs8 a) k w := by
  unfold M.lenS
  simpa [ByteArray.size] using h
theorem M.idxG_i {k : Kt} {w : World} {t e : TypeId} {n sz : Nat} {d : IntKind} {i : Int} {l : List Value} (hu : Try.prog.underlying t = some (.array n e)) (hs : ∀ w, (sizeOf e).run Try.prog w = .ok sz w) (ha : ∀ w, (isAgg e).run Try.prog w = .ok true w) (h0 : 0 ≤ i) (h1 : i < n) (hk : k (.agg ⟨(l.drop (i.toNat * sz)).take sz⟩) w) :
    pureW Try.prog (Instr.index t (.agg ⟨l⟩) (.int d i)) k w := by
  have h2 : 0 ≤ i ∧ i < (n : Int) := ⟨h0, h1⟩
  refine M.pure_i _ (fun w' => ?_) hk
  simp [Instr.index, run_underlying hu, asIntOf, h2, hs, ha, go_sem]
theorem strHas_ret (s : Tx) (c : UInt8) (w : World) : Ret Try.prog 45 #[xs8 s, xs8 [c]] w (fun r w' => (r = .bool (decide (0 ≤ firstIdx ⟨s.toArray⟩ c)) ∨ (s = [c] ∧ r = .bool true)) ∧ w' = w) := by
  refine ok45 _ _ _ _ ?_
  unfold sh45
  refine M.call_i (Q := fun r w' => (r = vi (firstIdx ⟨s.toArray⟩ c) ∨ (s = [c] ∧ r = vi 0)) ∧ w' = w) ?_ ?_
  · refine ok67 _ _ _ _ ?_
    unfold sh67
    refine M.call_i (Q := fun r w' => (r = vi (firstIdx ⟨s.toArray⟩ c) ∨ (s = [c] ∧ r = vi 0)) ∧ w' = w) ?_ (fun v w' h => h)
    refine ok77 _ _ _ _ ?_
    unfold sh77
    refine M.lenS8_i ?_
    have e1 : (([c] : Tx).length : Int) = 1 := rfl
    rw [e1]
    (repeat (first|refine ja ?_|refine jb ?_|refine jc ?_|refine jd ?_|refine je ?_|refine jf ?_|refine jg ?_|refine jh ?_|refine ji ?_|refine jj ?_|refine jk ?_|refine jl ?_|refine jm ?_|refine jn ?_|refine jo ?_|refine jp ?_|refine jq ?_|refine jr ?_|refine js ?_|refine jt ?_|refine ju ?_|refine jv ?_|refine jw ?_|refine jx ?_|refine jy ?_|refine jz ?_|refine jA ?_|refine jB ?_|refine jC ?_|refine jD ?_|refine jE ?_|refine jF ?_|refine jG ?_|refine jH ?_|refine jI ?_|refine jJ ?_|refine jK ?_|refine jL ?_|refine jM (by assumption) ?_|refine jN (by assumption) rfl ?_|refine jO (by assumption) ?_|refine jP (by assumption) rfl ?_|refine jQ ?_|refine jR ?_|refine jS ?_|refine jT ?_|refine jU (by assumption) rfl ?_))
    refine M.seq8_i ?_
    by_cases hsc : [c] = s
    · rw [decide_eq_true hsc]
      (repeat (first|refine ja ?_|refine jb ?_|refine jc ?_|refine jd ?_|refine je ?_|refine jf ?_|refine jg ?_|refine jh ?_|refine ji ?_|refine jj ?_|refine jk ?_|refine jl ?_|refine jm ?_|refine jn ?_|refine jo ?_|refine jp ?_|refine jq ?_|refine jr ?_|refine js ?_|refine jt ?_|refine ju ?_|refine jv ?_|refine jw ?_|refine jx ?_|refine jy ?_|refine jz ?_|refine jA ?_|refine jB ?_|refine jC ?_|refine jD ?_|refine jE ?_|refine jF ?_|refine jG ?_|refine jH ?_|refine jI ?_|refine jJ ?_|refine jK ?_|refine jL ?_|refine jM (by assumption) ?_|refine jN (by assumption) rfl ?_|refine jO (by assumption) ?_|refine jP (by assumption) rfl ?_|refine jQ ?_|refine jR ?_|refine jS ?_|refine jT ?_|refine jU (by assumption) rfl ?_))
      exact ⟨.inr ⟨hsc.symm, rfl⟩, rfl⟩
    · rw [decide_eq_false hsc]
      (repeat (first|refine ja ?_|refine jb ?_|refine jc ?_|refine jd ?_|refine je ?_|refine jf ?_|refine jg ?_|refine jh ?_|refine ji ?_|refine jj ?_|refine jk ?_|refine jl ?_|refine jm ?_|refine jn ?_|refine jo ?_|refine jp ?_|refine jq ?_|refine jr ?_|refine js ?_|refine jt ?_|refine ju ?_|refine jv ?_|refine jw ?_|refine jx ?_|refine jy ?_|refine jz ?_|refine jA ?_|refine jB ?_|refine jC ?_|refine jD ?_|refine jE ?_|refine jF ?_|refine jG ?_|refine jH ?_|refine jI ?_|refine jJ ?_|refine jK ?_|refine jL ?_|refine jM (by assumption) ?_|refine jN (by assumption) rfl ?_|refine jO (by assumption) ?_|refine jP (by assumption) rfl ?_|refine jQ ?_|refine jR ?_|refine jS ?_|refine jT ?_|refine jU (by assumption) rfl ?_))
      refine M.pure_i (.int .u8 c.toNat) (fun w' => ?_) ?_
      · rw [run_index_string _ _ _ _ _ (by kernel_rfl), dif_pos ⟨by decide, by show (0 : Int) < ((1 : Nat) : Int); decide⟩]; rfl
      refine M.call_i (Q := fun r w' => r = vi (firstIdx ⟨s.toArray⟩ c) ∧ w' = w) ?_ (fun v w' h => ⟨.inl h.1, h.2⟩)
      refine ok82 _ _ _ _ ?_
      unfold sh82
      have hx : (callFunc 87 #[xs8 s, .int .u8 c.toNat]).run Try.prog w = .ok (.value (vi (firstIdx ⟨s.toArray⟩ c))) w := by
        rw [run_callFunc_extern (e := Extern.BytealgIndexByte.indexByte) Try.func87 (by kernel_rfl) (by kernel_rfl) (by kernel_rfl) (by kernel_rfl), run_indexByte_string]
        simp [Result.andThen]
      unfold M.next execW
      rw [hx]
      exact ⟨rfl, rfl⟩
  · rintro v w' ⟨h | ⟨h1, rfl⟩, rfl⟩
    · subst h
      refine M.bin_i (v := .bool (decide (0 ≤ firstIdx ⟨s.toArray⟩ c))) ?_ ⟨.inl rfl, rfl⟩
      simp only [ibin]
      try rfl
    · (repeat (first|refine ja ?_|refine jb ?_|refine jc ?_|refine jd ?_|refine je ?_|refine jf ?_|refine jg ?_|refine jh ?_|refine ji ?_|refine jj ?_|refine jk ?_|refine jl ?_|refine jm ?_|refine jn ?_|refine jo ?_|refine jp ?_|refine jq ?_|refine jr ?_|refine js ?_|refine jt ?_|refine ju ?_|refine jv ?_|refine jw ?_|refine jx ?_|refine jy ?_|refine jz ?_|refine jA ?_|refine jB ?_|refine jC ?_|refine jD ?_|refine jE ?_|refine jF ?_|refine jG ?_|refine jH ?_|refine jI ?_|refine jJ ?_|refine jK ?_|refine jL ?_|refine jM (by assumption) ?_|refine jN (by assumption) rfl ?_|refine jO (by assumption) ?_|refine jP (by assumption) rfl ?_|refine jQ ?_|refine jR ?_|refine jS ?_|refine jT ?_|refine jU (by assumption) rfl ?_))
      exact ⟨.inr ⟨h1, rfl⟩, rfl⟩
end Go.Proofs.Ytanjlgafjgoaaaa
