import Derived.Test.YthcfmfkigioaeaaStab13
import Derived.Test.YthcfmfkigioaeaaWordM
namespace Go.Proofs.Ythcfmfkigioaeaa
open Go.Mw
set_option linter.unusedVariables false
set_option linter.unusedSimpArgs false
set_option maxRecDepth 100000
attribute [local irreducible] M.val M.unit M.next M.pick M.new M.nilCheck M.load1 M.loadA M.store M.fieldAddr M.indexSl M.indexArr M.slice M.makeSlice M.buildSlice M.len M.lenS M.cap M.append M.extract M.conv M.not M.neg M.bin M.shift M.eqB M.eqNil M.call M.callv M.gd M.share M.cond M.loop M.draw pureW readW Ret
/-! slices.symMergeCmpFunc[int]: function 20 -/
def sh20 (x0 x1 x2 x3 x4 : Value) (R : Kt) (w : World) : Prop :=
  M.bin .sub x2 x1 (fun t27 w =>
  M.bin .eql t27 (Value.int IntKind.i64 1) (fun t28 w =>
  M.cond t28
  (M.loop [x2, x3] (fun s1 K1 w => ∀ _ : List Value,
  M.bin .lss (s1.getD 0 undef) (s1.getD 1 undef) (fun t33 w =>
  M.cond t33
  (M.share (fun K2 w =>
  M.bin .add (s1.getD 0 undef) (s1.getD 1 undef) (fun t36 w =>
  M.conv .u64 t36 (fun t37 w =>
  M.shift .shr t37 (Value.int IntKind.u64 1) (fun t38 w =>
  M.conv .i64 t38 (fun t39 w =>
  M.draw (fun w =>
  M.indexSl 1 x0 t39 (fun t43 w =>
  M.load1 t43 (fun t44 w =>
  M.indexSl 1 x0 x1 (fun t47 w =>
  M.load1 t47 (fun t48 w =>
  M.callv Try.prog x4 #[t44, t48] (fun t49 w =>
  M.bin .lss t49 (Value.int IntKind.i64 0) (fun t50 w =>
  M.cond t50
  (M.bin .add t39 (Value.int IntKind.i64 1) (fun t52 w =>
  K2 [t52, (s1.getD 1 undef)] w) w)
  (K2 [(s1.getD 0 undef), t39] w)) w) w) w) w) w) w) w) w) w) w) w) (fun s2 w => ∀ _ : List Value,
  K1 [(s2.getD 0 undef), (s2.getD 1 undef)] w) w)
  (M.loop [x1] (fun s3 K3 w => ∀ _ : List Value,
  M.bin .sub (s1.getD 0 undef) (Value.int IntKind.i64 1) (fun t57 w =>
  M.bin .lss (s3.getD 0 undef) t57 (fun t58 w =>
  M.cond t58
  (M.draw (fun w =>
  M.bin .add (s3.getD 0 undef) (Value.int IntKind.i64 1) (fun t65 w =>
  M.bin .add (s3.getD 0 undef) (Value.int IntKind.i64 1) (fun t68 w =>
  M.indexSl 1 x0 t68 (fun t69 w =>
  M.load1 t69 (fun t70 w =>
  M.indexSl 1 x0 (s3.getD 0 undef) (fun t73 w =>
  M.load1 t73 (fun t74 w =>
  M.indexSl 1 x0 (s3.getD 0 undef) (fun t75 w =>
  M.store 1 t75 t70 (fun _ w =>
  M.indexSl 1 x0 t65 (fun t76 w =>
  M.store 1 t76 t74 (fun _ w =>
  M.bin .add (s3.getD 0 undef) (Value.int IntKind.i64 1) (fun t60 w =>
  K3 [t60] w) w) w) w) w) w) w) w) w) w) w) w) w)
  (R (.tuple #[]) w)) w) w) w)) w) w)
  (M.bin .sub x3 x2 (fun t79 w =>
  M.bin .eql t79 (Value.int IntKind.i64 1) (fun t80 w =>
  M.cond t80
  (M.loop [x1, x2] (fun s4 K4 w => ∀ _ : List Value,
  M.bin .lss (s4.getD 0 undef) (s4.getD 1 undef) (fun t85 w =>
  M.cond t85
  (M.share (fun K5 w =>
  M.bin .add (s4.getD 0 undef) (s4.getD 1 undef) (fun t88 w =>
  M.conv .u64 t88 (fun t89 w =>
  M.shift .shr t89 (Value.int IntKind.u64 1) (fun t90 w =>
  M.conv .i64 t90 (fun t91 w =>
  M.draw (fun w =>
  M.indexSl 1 x0 x2 (fun t95 w =>
  M.load1 t95 (fun t96 w =>
  M.indexSl 1 x0 t91 (fun t99 w =>
  M.load1 t99 (fun t100 w =>
  M.callv Try.prog x4 #[t96, t100] (fun t101 w =>
  M.bin .lss t101 (Value.int IntKind.i64 0) (fun t102 w =>
  M.not t102 (fun t103 w =>
  M.cond t103
  (M.bin .add t91 (Value.int IntKind.i64 1) (fun t105 w =>
  K5 [t105, (s4.getD 1 undef)] w) w)
  (K5 [(s4.getD 0 undef), t91] w)) w) w) w) w) w) w) w) w) w) w) w) w) (fun s5 w => ∀ _ : List Value,
  K4 [(s5.getD 0 undef), (s5.getD 1 undef)] w) w)
  (M.loop [x2] (fun s6 K6 w => ∀ _ : List Value,
  M.bin .gtr (s6.getD 0 undef) (s4.getD 0 undef) (fun t110 w =>
  M.cond t110
  (M.draw (fun w =>
  M.bin .sub (s6.getD 0 undef) (Value.int IntKind.i64 1) (fun t117 w =>
  M.bin .sub (s6.getD 0 undef) (Value.int IntKind.i64 1) (fun t120 w =>
  M.indexSl 1 x0 t120 (fun t121 w =>
  M.load1 t121 (fun t122 w =>
  M.indexSl 1 x0 (s6.getD 0 undef) (fun t125 w =>
  M.load1 t125 (fun t126 w =>
  M.indexSl 1 x0 (s6.getD 0 undef) (fun t127 w =>
  M.store 1 t127 t122 (fun _ w =>
  M.indexSl 1 x0 t117 (fun t128 w =>
  M.store 1 t128 t126 (fun _ w =>
  M.bin .sub (s6.getD 0 undef) (Value.int IntKind.i64 1) (fun t112 w =>
  K6 [t112] w) w) w) w) w) w) w) w) w) w) w) w) w)
  (R (.tuple #[]) w)) w) w)) w) w)
  (M.bin .add x1 x3 (fun t131 w =>
  M.conv .u64 t131 (fun t132 w =>
  M.shift .shr t132 (Value.int IntKind.u64 1) (fun t133 w =>
  M.conv .i64 t133 (fun t134 w =>
  M.bin .add t134 x2 (fun t137 w =>
  M.share (fun K7 w =>
  M.bin .gtr x2 t134 (fun t140 w =>
  M.cond t140
  (M.bin .sub t137 x3 (fun t143 w =>
  K7 [t143, t134] w) w)
  (K7 [x1, x2] w)) w) (fun s7 w => ∀ _ : List Value,
  M.bin .sub t137 (Value.int IntKind.i64 1) (fun t148 w =>
  M.loop [(s7.getD 0 undef), (s7.getD 1 undef)] (fun s8 K8 w => ∀ _ : List Value,
  M.bin .lss (s8.getD 0 undef) (s8.getD 1 undef) (fun t151 w =>
  M.cond t151
  (M.share (fun K9 w =>
  M.bin .add (s8.getD 0 undef) (s8.getD 1 undef) (fun t154 w =>
  M.conv .u64 t154 (fun t155 w =>
  M.shift .shr t155 (Value.int IntKind.u64 1) (fun t156 w =>
  M.conv .i64 t156 (fun t157 w =>
  M.draw (fun w =>
  M.bin .sub t148 t157 (fun t162 w =>
  M.indexSl 1 x0 t162 (fun t163 w =>
  M.load1 t163 (fun t164 w =>
  M.indexSl 1 x0 t157 (fun t167 w =>
  M.load1 t167 (fun t168 w =>
  M.callv Try.prog x4 #[t164, t168] (fun t169 w =>
  M.bin .lss t169 (Value.int IntKind.i64 0) (fun t170 w =>
  M.not t170 (fun t171 w =>
  M.cond t171
  (M.bin .add t157 (Value.int IntKind.i64 1) (fun t173 w =>
  K9 [t173, (s8.getD 1 undef)] w) w)
  (K9 [(s8.getD 0 undef), t157] w)) w) w) w) w) w) w) w) w) w) w) w) w) w) (fun s9 w => ∀ _ : List Value,
  K8 [(s9.getD 0 undef), (s9.getD 1 undef)] w) w)
  (M.bin .sub t137 (s8.getD 0 undef) (fun t177 w =>
  M.share (fun K10 w =>
  M.bin .lss (s8.getD 0 undef) x2 (fun t180 w =>
  M.gd t180 true (fun k w => k x2 w) (fun t182 w =>
  M.gd t180 true (fun k w => k t177 w) (fun t183 w =>
  M.gd t180 true (fun k w => M.bin .lss t182 t183 k w) (fun t184 w =>
  M.pick t180 t184 (Value.bool false) (fun t185 w =>
  M.cond t185
  (M.call Try.prog 21 #[x0, (s8.getD 0 undef), x2, t177, x4] (fun t191 w =>
  K10 [] w) w)
  (K10 [] w)) w) w) w) w) w) (fun s10 w => ∀ _ : List Value,
  M.share (fun K11 w =>
  M.bin .lss x1 (s8.getD 0 undef) (fun t194 w =>
  M.gd t194 true (fun k w => k (s8.getD 0 undef) w) (fun t196 w =>
  M.gd t194 true (fun k w => k t134 w) (fun t197 w =>
  M.gd t194 true (fun k w => M.bin .lss t196 t197 k w) (fun t198 w =>
  M.pick t194 t198 (Value.bool false) (fun t199 w =>
  M.cond t199
  (M.call Try.prog 20 #[x0, x1, (s8.getD 0 undef), t134, x4] (fun t205 w =>
  K11 [] w) w)
  (K11 [] w)) w) w) w) w) w) (fun s11 w => ∀ _ : List Value,
  M.bin .lss t134 t177 (fun t208 w =>
  M.gd t208 true (fun k w => k t177 w) (fun t210 w =>
  M.gd t208 true (fun k w => k x3 w) (fun t211 w =>
  M.gd t208 true (fun k w => M.bin .lss t210 t211 k w) (fun t212 w =>
  M.pick t208 t212 (Value.bool false) (fun t213 w =>
  M.cond t213
  (M.call Try.prog 20 #[x0, t134, t177, x3, x4] (fun t219 w =>
  R (.tuple #[]) w) w)
  (R (.tuple #[]) w)) w) w) w) w) w) w) w) w)) w) w) w) w) w) w) w) w) w)) w) w)) w) w
theorem ok20 (x0 x1 x2 x3 x4 : Value) (R : Kt) (w : World) (h : sh20 x0 x1 x2 x3 x4 R w) : Ret Try.prog 20 #[x0, x1, x2, x3, x4] w R :=
  ret_mk <| calls_of_comp mixed (c := Try.f20.body.getD .skip) (args := [x0, x1, x2, x3, x4]) (rs := []) (Ann.seq (Ann.seq Ann.text (Ann.cond (Ann.seq Ann.text (Ann.seq Ann.text (Ann.seq (Ann.block (Ann.loop [10, 11] [12, 31, 32, 33, 34, 35, 36, 37, 38, 39, 40, 41, 42, 43, 44, 45, 46, 47, 48, 49, 50, 51, 52, 53] (Ann.seq (Ann.seq Ann.text (Ann.cond Ann.leaf Ann.leaf)) (Ann.jblock [10, 11] [12, 34, 35, 36, 37, 38, 39, 40, 41, 42, 43, 44, 45, 46, 47, 48, 49, 50, 51, 52, 53] (Ann.seq Ann.text (Ann.seq (Ann.draw (Sch.take 0 (Sch.take 1 (Sch.take 2 (Sch.take 3 (Sch.take 4 (Sch.take 5 (Sch.take 6 (Sch.take 7 (Sch.take 8 (Sch.one 9 (Sch.take 10 Sch.done)))))))))))) (Ann.cond Ann.text Ann.text))))))) (Ann.seq (Ann.seq Ann.text (Ann.block (Ann.loop [13] [55, 56, 57, 58, 59, 60, 61, 62, 63, 64, 65, 66, 67, 68, 69, 70, 71, 72, 73, 74, 75, 76] (Ann.seq (Ann.seq Ann.text (Ann.cond Ann.leaf Ann.leaf)) (Ann.seq (Ann.block (Ann.draw (Sch.take 0 (Sch.take 1 (Sch.take 2 (Sch.take 3 (Sch.take 4 (Sch.take 5 (Sch.take 6 (Sch.take 7 (Sch.take 8 (Sch.take 9 (Sch.take 10 (Sch.take 11 (Sch.take 12 (Sch.take 13 (Sch.take 14 (Sch.one 15 (Sch.take 16 (Sch.one 17 Sch.done)))))))))))))))))))) Ann.text))))) Ann.leaf)))) Ann.leaf)) (Ann.seq (Ann.seq Ann.text (Ann.cond (Ann.seq Ann.text (Ann.seq Ann.text (Ann.seq (Ann.block (Ann.loop [14, 15] [16, 83, 84, 85, 86, 87, 88, 89, 90, 91, 92, 93, 94, 95, 96, 97, 98, 99, 100, 101, 102, 103, 104, 105, 106] (Ann.seq (Ann.seq Ann.text (Ann.cond Ann.leaf Ann.leaf)) (Ann.jblock [14, 15] [16, 86, 87, 88, 89, 90, 91, 92, 93, 94, 95, 96, 97, 98, 99, 100, 101, 102, 103, 104, 105, 106] (Ann.seq Ann.text (Ann.seq (Ann.draw (Sch.take 0 (Sch.take 1 (Sch.take 2 (Sch.take 3 (Sch.take 4 (Sch.take 5 (Sch.take 6 (Sch.take 7 (Sch.take 8 (Sch.one 9 (Sch.take 10 (Sch.take 11 Sch.done))))))))))))) (Ann.cond Ann.text Ann.text))))))) (Ann.seq (Ann.seq Ann.text (Ann.block (Ann.loop [17] [108, 109, 110, 111, 112, 113, 114, 115, 116, 117, 118, 119, 120, 121, 122, 123, 124, 125, 126, 127, 128] (Ann.seq (Ann.seq Ann.text (Ann.cond Ann.leaf Ann.leaf)) (Ann.seq (Ann.block (Ann.draw (Sch.take 0 (Sch.take 1 (Sch.take 2 (Sch.take 3 (Sch.take 4 (Sch.take 5 (Sch.take 6 (Sch.take 7 (Sch.take 8 (Sch.take 9 (Sch.take 10 (Sch.take 11 (Sch.take 12 (Sch.take 13 (Sch.take 14 (Sch.one 15 (Sch.take 16 (Sch.one 17 Sch.done)))))))))))))))))))) Ann.text))))) Ann.leaf)))) Ann.leaf)) (Ann.seq Ann.text (Ann.seq Ann.text (Ann.seq Ann.text (Ann.join [20, 21] [138, 139, 140, 141, 142, 143, 144, 145, 146] (Ann.seq Ann.text (Ann.cond (Ann.seq Ann.text Ann.text) (Ann.seq Ann.text Ann.text))) (Ann.seq Ann.text (Ann.seq (Ann.block (Ann.loop [20, 21] [23, 149, 150, 151, 152, 153, 154, 155, 156, 157, 158, 159, 160, 161, 162, 163, 164, 165, 166, 167, 168, 169, 170, 171, 172, 173, 174] (Ann.seq (Ann.seq Ann.text (Ann.cond Ann.leaf Ann.leaf)) (Ann.jblock [20, 21] [23, 152, 153, 154, 155, 156, 157, 158, 159, 160, 161, 162, 163, 164, 165, 166, 167, 168, 169, 170, 171, 172, 173, 174] (Ann.seq Ann.text (Ann.seq (Ann.draw (Sch.take 0 (Sch.take 1 (Sch.take 2 (Sch.take 3 (Sch.take 4 (Sch.take 5 (Sch.take 6 (Sch.take 7 (Sch.take 8 (Sch.take 9 (Sch.take 10 (Sch.one 11 (Sch.take 12 (Sch.take 13 Sch.done))))))))))))))) (Ann.cond Ann.text Ann.text))))))) (Ann.seq Ann.text (Ann.join [] [178, 179, 180, 181, 182, 183, 184, 185, 186, 187, 188, 189, 190, 191] (Ann.seq Ann.text (Ann.cond Ann.text Ann.leaf)) (Ann.join [] [192, 193, 194, 195, 196, 197, 198, 199, 200, 201, 202, 203, 204, 205] (Ann.seq Ann.text (Ann.cond Ann.text Ann.leaf)) (Ann.seq Ann.text (Ann.cond Ann.text Ann.leaf)))))))))))))
    Try.func20 (by kernel_rfl) (by kernel_rfl)
    (Eq.mp (by kernel_rfl) h)

theorem ofI_toNat {a : Int} (h0 : 0 ≤ a) (h1 : a < 9223372036854775808) : (BitVec.ofInt 64 a).toNat = a.toNat := by
  rw [BitVec.toNat_ofInt]
  omega
/-- 'int(uint(a) >> 1)'. -/
theorem M.half_i {k : Kt} {w : World} {a : Int} (h0 : 0 ≤ a) (h1 : a < 9223372036854775808) (h : k (vi (a / 2)) w) :
    M.conv .u64 (vi a) (fun t1 w => M.shift .shr t1 (.int .u64 1) (fun t2 w => M.conv .i64 t2 k w) w) w := by
  refine M.toWord_i ?_
  refine M.shrW_i (b := 1) ?_
  refine M.toIntW_i ?_
  have e : ((BitVec.ofInt 64 a) >>> 1).toInt = a / 2 := by
    rw [BitVec.toInt_eq_toNat_of_lt]
    · rw [BitVec.toNat_ushiftRight, ofI_toNat h0 h1, Nat.shiftRight_eq_div_pow]; omega
    · rw [BitVec.toNat_ushiftRight, ofI_toNat h0 h1, Nat.shiftRight_eq_div_pow]; omega
  rw [e]; exact h
section
variable {L : Nat → Prop} {v g : Value} {I : World → Prop} {lt : Int → Int → Bool} {Okk : Int → Prop}
set_option maxHeartbeats 2000000 in
theorem symMerge_ret (hw : Wk lt) (hc : CmpF g I lt Okk) (hIk : ∀ w w', I w → Keep w w' L → I w') : ∀ (N : Nat) {w : World} {xs : List Int} {a m b : Nat}, b - a ≤ N → GI w L v xs → Few xs.length → I w → a < m → m < b → b ≤ xs.length → (∀ j, a ≤ j → j < b → Okk (fn xs j)) →
    Sg lt (fn xs) a m → Sg lt (fn xs) m b → Cr (fn xs) a m b →
    Ret Try.prog 20 #[v, vi a, vi m, vi b, g] w (fun r w' => r = .tuple #[] ∧ ∃ ys, GI w' L v ys ∧ ys.length = xs.length ∧ Sg lt (fn ys) a b ∧ Ch (fn xs) (fn ys) a b ∧ Keep w w' L) := by
  intro N
  induction N with
  | zero => intro w xs a m b hN; intros; omega
  | succ N ih =>
  intro w xs a m b hN h hf hI ham hmb hb hok hs1 hs2 hcr
  have hfx : xs.length ≤ 100000000000 := hf
  refine ok20 _ _ _ _ _ _ _ ?_
  unfold sh20
  by_cases hone : m = a + 1
  · -- one ahead
    subst hone
    (repeat (first|refine ja ?_|refine jb ?_|refine jc ?_|refine jd ?_|refine je ?_|refine jf ?_|refine jg ?_|refine jh ?_|refine ji ?_|refine jj ?_|refine jk ?_|refine jl ?_|refine jm ?_|refine jn ?_|refine jo ?_|refine jp ?_|refine jq ?_|refine jr ?_|refine js ?_|refine jt ?_|refine ju ?_|refine jv ?_|refine jw ?_|refine jx ?_|refine jy ?_|refine jz ?_|refine jA ?_|refine jB ?_|refine jC ?_|refine jD ?_|refine jE ?_|refine jF ?_|refine jG ?_|refine jH ?_|refine jI ?_|refine jJ ?_|refine jK ?_|refine jL ?_|refine jM (by assumption) ?_|refine jN (by assumption) rfl ?_|refine jO (by assumption) ?_|refine jP (by assumption) rfl ?_|refine jQ ?_|refine jR ?_|refine jS ?_|refine jT ?_|refine jU (by assumption) rfl ?_))
    refine M.loop_i (σ := Nat × Nat) (fun t vals w' => vals = [vi t.1, vi t.2] ∧ a + 1 ≤ t.1 ∧ t.1 ≤ t.2 ∧ t.2 ≤ b ∧ (∀ c, a + 1 ≤ c → c < t.1 → lt (fn xs c) (fn xs a) = true) ∧ (∀ c, t.2 ≤ c → c < b → lt (fn xs c) (fn xs a) = false) ∧ Keep w w' No) (fun t => t.2 - t.1) (a + 1, b)
      ⟨rfl, Nat.le_refl _, by show a + 1 ≤ b; omega, Nat.le_refl _, fun c h1 h2 => absurd h2 (by show ¬ c < a + 1; omega), fun c h1 h2 => absurd h1 (by show ¬ b ≤ c; omega), Keep.refl _ _⟩ ?_
    rintro ⟨i, j⟩ vals w1 K ⟨rfl, hi1, hij, hjb, hlo, hhi, k1⟩ hK _
    simp only at hi1 hij hjb hlo hhi
    simp only [List.getD_cons_zero, List.getD_cons_succ]
    by_cases hlt : i < j
    · (repeat (first|refine ja ?_|refine jb ?_|refine jc ?_|refine jd ?_|refine je ?_|refine jf ?_|refine jg ?_|refine jh ?_|refine ji ?_|refine jj ?_|refine jk ?_|refine jl ?_|refine jm ?_|refine jn ?_|refine jo ?_|refine jp ?_|refine jq ?_|refine jr ?_|refine js ?_|refine jt ?_|refine ju ?_|refine jv ?_|refine jw ?_|refine jx ?_|refine jy ?_|refine jz ?_|refine jA ?_|refine jB ?_|refine jC ?_|refine jD ?_|refine jE ?_|refine jF ?_|refine jG ?_|refine jH ?_|refine jI ?_|refine jJ ?_|refine jK ?_|refine jL ?_|refine jM (by assumption) ?_|refine jN (by assumption) rfl ?_|refine jO (by assumption) ?_|refine jP (by assumption) rfl ?_|refine jQ ?_|refine jR ?_|refine jS ?_|refine jT ?_|refine jU (by assumption) rfl ?_))
      refine M.share_j (fun vals w' => ∃ i' j' : Nat, vals = [vi i', vi j'] ∧ j' - i' < j - i ∧ a + 1 ≤ i' ∧ i' ≤ j' ∧ j' ≤ b ∧ (∀ c, a + 1 ≤ c → c < i' → lt (fn xs c) (fn xs a) = true) ∧ (∀ c, j' ≤ c → c < b → lt (fn xs c) (fn xs a) = false) ∧ Keep w w' No) ?_ ?_
      · rintro vals w2 ⟨i', j', rfl, hs, a1, a2, a3, a4, a5, a6⟩ _
        simp only [List.getD_cons_zero, List.getD_cons_succ]
        exact hK (i', j') _ _ hs ⟨rfl, a1, a2, a3, a4, a5, a6⟩
      · intro K2 hK2
        refine M.add_i (by omega) (by omega) ?_
        refine M.half_i (by omega) (by omega) ?_
        obtain ⟨c, hcc⟩ : ∃ c : Nat, ((i : Int) + j) / 2 = c := ⟨(i + j) / 2, by omega⟩
        rw [hcc]
        refine M.draw_i ?_
        have kd := k1.trans (Keep.drew w1 No) (fun _ _ h => h)
        have gd := h.keep kd (fun _ _ _ h => h)
        refine M.getI_i gd (by omega) (by omega) (fun ad h1 => ?_)
        (repeat (first|refine ja ?_|refine jb ?_|refine jc ?_|refine jd ?_|refine je ?_|refine jf ?_|refine jg ?_|refine jh ?_|refine ji ?_|refine jj ?_|refine jk ?_|refine jl ?_|refine jm ?_|refine jn ?_|refine jo ?_|refine jp ?_|refine jq ?_|refine jr ?_|refine js ?_|refine jt ?_|refine ju ?_|refine jv ?_|refine jw ?_|refine jx ?_|refine jy ?_|refine jz ?_|refine jA ?_|refine jB ?_|refine jC ?_|refine jD ?_|refine jE ?_|refine jF ?_|refine jG ?_|refine jH ?_|refine jI ?_|refine jJ ?_|refine jK ?_|refine jL ?_|refine jM (by assumption) ?_|refine jN (by assumption) rfl ?_|refine jO (by assumption) ?_|refine jP (by assumption) rfl ?_|refine jQ ?_|refine jR ?_|refine jS ?_|refine jT ?_|refine jU (by assumption) rfl ?_))
        refine M.getI_i gd (by omega) (by omega) (fun ad h2 => ?_)
        (repeat (first|refine ja ?_|refine jb ?_|refine jc ?_|refine jd ?_|refine je ?_|refine jf ?_|refine jg ?_|refine jh ?_|refine ji ?_|refine jj ?_|refine jk ?_|refine jl ?_|refine jm ?_|refine jn ?_|refine jo ?_|refine jp ?_|refine jq ?_|refine jr ?_|refine js ?_|refine jt ?_|refine ju ?_|refine jv ?_|refine jw ?_|refine jx ?_|refine jy ?_|refine jz ?_|refine jA ?_|refine jB ?_|refine jC ?_|refine jD ?_|refine jE ?_|refine jF ?_|refine jG ?_|refine jH ?_|refine jI ?_|refine jJ ?_|refine jK ?_|refine jL ?_|refine jM (by assumption) ?_|refine jN (by assumption) rfl ?_|refine jO (by assumption) ?_|refine jP (by assumption) rfl ?_|refine jQ ?_|refine jR ?_|refine jS ?_|refine jT ?_|refine jU (by assumption) rfl ?_))
        have e1 : ((c : Int)).toNat = c := by omega
        have e2 : ((a : Int)).toNat = a := by omega
        rw [e1, e2]
        refine hc _ _ _ _ (hok c (by omega) (by omega)) (hok a (by omega) (by omega)) (hIk _ _ hI (kd.mono (fun _ _ h => h.elim))) (fun z w3 hz k3 => ?_)
        refine M.lss_i ?_
        rw [hz]
        have k03 := kd.trans k3 (fun _ _ h => h)
        have key : ∀ c d, a + 1 ≤ c → c < d → d < b → lt (fn xs d) (fn xs a) = true → lt (fn xs c) (fn xs a) = true := fun c d h1 h2 h3 h4 => by
          rcases Bf.trans hw (hs2 c d h1 h2 h3) (.inl h4) with h5 | ⟨_, h5⟩
          · exact h5
          · have := hcr a c (by omega) (by omega) h1 (by omega); omega
        cases hq : lt (fn xs c) (fn xs a) with
        | true =>
          (repeat (first|refine ja ?_|refine jb ?_|refine jc ?_|refine jd ?_|refine je ?_|refine jf ?_|refine jg ?_|refine jh ?_|refine ji ?_|refine jj ?_|refine jk ?_|refine jl ?_|refine jm ?_|refine jn ?_|refine jo ?_|refine jp ?_|refine jq ?_|refine jr ?_|refine js ?_|refine jt ?_|refine ju ?_|refine jv ?_|refine jw ?_|refine jx ?_|refine jy ?_|refine jz ?_|refine jA ?_|refine jB ?_|refine jC ?_|refine jD ?_|refine jE ?_|refine jF ?_|refine jG ?_|refine jH ?_|refine jI ?_|refine jJ ?_|refine jK ?_|refine jL ?_|refine jM (by assumption) ?_|refine jN (by assumption) rfl ?_|refine jO (by assumption) ?_|refine jP (by assumption) rfl ?_|refine jQ ?_|refine jR ?_|refine jS ?_|refine jT ?_|refine jU (by assumption) rfl ?_))
          refine hK2 _ _ ⟨c + 1, j, by simp, by omega, by omega, by omega, hjb, fun d h1 h2 => ?_, hhi, k03⟩
          by_cases e : d = c
          · rw [e]; exact hq
          · exact key d c h1 (by omega) (by omega) hq
        | false =>
          (repeat (first|refine ja ?_|refine jb ?_|refine jc ?_|refine jd ?_|refine je ?_|refine jf ?_|refine jg ?_|refine jh ?_|refine ji ?_|refine jj ?_|refine jk ?_|refine jl ?_|refine jm ?_|refine jn ?_|refine jo ?_|refine jp ?_|refine jq ?_|refine jr ?_|refine js ?_|refine jt ?_|refine ju ?_|refine jv ?_|refine jw ?_|refine jx ?_|refine jy ?_|refine jz ?_|refine jA ?_|refine jB ?_|refine jC ?_|refine jD ?_|refine jE ?_|refine jF ?_|refine jG ?_|refine jH ?_|refine jI ?_|refine jJ ?_|refine jK ?_|refine jL ?_|refine jM (by assumption) ?_|refine jN (by assumption) rfl ?_|refine jO (by assumption) ?_|refine jP (by assumption) rfl ?_|refine jQ ?_|refine jR ?_|refine jS ?_|refine jT ?_|refine jU (by assumption) rfl ?_))
          refine hK2 _ _ ⟨i, c, rfl, by omega, hi1, by omega, by omega, hlo, fun d h1 h2 => ?_, k03⟩
          by_cases e : d = c
          · rw [e]; exact hq
          · cases hq2 : lt (fn xs d) (fn xs a) with
            | false => rfl
            | true =>
              have := key c d (by omega) (by omega) h2 hq2
              rw [hq] at this; simp at this
    · have eij : i = j := by omega
      subst eij
      (repeat (first|refine ja ?_|refine jb ?_|refine jc ?_|refine jd ?_|refine je ?_|refine jf ?_|refine jg ?_|refine jh ?_|refine ji ?_|refine jj ?_|refine jk ?_|refine jl ?_|refine jm ?_|refine jn ?_|refine jo ?_|refine jp ?_|refine jq ?_|refine jr ?_|refine js ?_|refine jt ?_|refine ju ?_|refine jv ?_|refine jw ?_|refine jx ?_|refine jy ?_|refine jz ?_|refine jA ?_|refine jB ?_|refine jC ?_|refine jD ?_|refine jE ?_|refine jF ?_|refine jG ?_|refine jH ?_|refine jI ?_|refine jJ ?_|refine jK ?_|refine jL ?_|refine jM (by assumption) ?_|refine jN (by assumption) rfl ?_|refine jO (by assumption) ?_|refine jP (by assumption) rfl ?_|refine jQ ?_|refine jR ?_|refine jS ?_|refine jT ?_|refine jU (by assumption) rfl ?_))
      refine M.loop_i (σ := Nat) (fun t vals w' => ∃ ys, vals = [vi t] ∧ a ≤ t ∧ t ≤ i - 1 ∧ GI w' L v ys ∧ ys.length = xs.length ∧ fn ys = insR (fn xs) a t ∧ Keep w w' L) (fun t => i - t) a
        ⟨xs, rfl, Nat.le_refl _, by omega, h.keep k1 (fun _ _ _ h => h), rfl, by
          funext t; unfold insR
          repeat' split
          all_goals first | omega | rfl | (congr 1 <;> omega), k1.mono (fun _ _ h => h.elim)⟩ ?_
      rintro t vals w2 K2 ⟨ys, rfl, hat, hti, g2, hl, he, k2⟩ hK2 _
      simp only [List.getD_cons_zero, List.getD_cons_succ]
      by_cases ht : t < i - 1
      · have gd := g2.keep (Keep.drew w2 No) (fun _ _ _ h => h)
        have kd := k2.trans (Keep.drew w2 No) (fun _ _ h => h.elim)
        (repeat (first|refine ja ?_|refine jb ?_|refine jc ?_|refine jd ?_|refine je ?_|refine jf ?_|refine jg ?_|refine jh ?_|refine ji ?_|refine jj ?_|refine jk ?_|refine jl ?_|refine jm ?_|refine jn ?_|refine jo ?_|refine jp ?_|refine jq ?_|refine jr ?_|refine js ?_|refine jt ?_|refine ju ?_|refine jv ?_|refine jw ?_|refine jx ?_|refine jy ?_|refine jz ?_|refine jA ?_|refine jB ?_|refine jC ?_|refine jD ?_|refine jE ?_|refine jF ?_|refine jG ?_|refine jH ?_|refine jI ?_|refine jJ ?_|refine jK ?_|refine jL ?_|refine jM (by assumption) ?_|refine jN (by assumption) rfl ?_|refine jO (by assumption) ?_|refine jP (by assumption) rfl ?_|refine jQ ?_|refine jR ?_|refine jS ?_|refine jT ?_|refine jU (by assumption) rfl ?_))
        refine M.getI_i gd (by omega) (by omega) (fun ad h1 => ?_)
        (repeat (first|refine ja ?_|refine jb ?_|refine jc ?_|refine jd ?_|refine je ?_|refine jf ?_|refine jg ?_|refine jh ?_|refine ji ?_|refine jj ?_|refine jk ?_|refine jl ?_|refine jm ?_|refine jn ?_|refine jo ?_|refine jp ?_|refine jq ?_|refine jr ?_|refine js ?_|refine jt ?_|refine ju ?_|refine jv ?_|refine jw ?_|refine jx ?_|refine jy ?_|refine jz ?_|refine jA ?_|refine jB ?_|refine jC ?_|refine jD ?_|refine jE ?_|refine jF ?_|refine jG ?_|refine jH ?_|refine jI ?_|refine jJ ?_|refine jK ?_|refine jL ?_|refine jM (by assumption) ?_|refine jN (by assumption) rfl ?_|refine jO (by assumption) ?_|refine jP (by assumption) rfl ?_|refine jQ ?_|refine jR ?_|refine jS ?_|refine jT ?_|refine jU (by assumption) rfl ?_))
        refine M.getI_i gd (by omega) (by omega) (fun ad h2 => ?_)
        (repeat (first|refine ja ?_|refine jb ?_|refine jc ?_|refine jd ?_|refine je ?_|refine jf ?_|refine jg ?_|refine jh ?_|refine ji ?_|refine jj ?_|refine jk ?_|refine jl ?_|refine jm ?_|refine jn ?_|refine jo ?_|refine jp ?_|refine jq ?_|refine jr ?_|refine js ?_|refine jt ?_|refine ju ?_|refine jv ?_|refine jw ?_|refine jx ?_|refine jy ?_|refine jz ?_|refine jA ?_|refine jB ?_|refine jC ?_|refine jD ?_|refine jE ?_|refine jF ?_|refine jG ?_|refine jH ?_|refine jI ?_|refine jJ ?_|refine jK ?_|refine jL ?_|refine jM (by assumption) ?_|refine jN (by assumption) rfl ?_|refine jO (by assumption) ?_|refine jP (by assumption) rfl ?_|refine jQ ?_|refine jR ?_|refine jS ?_|refine jT ?_|refine jU (by assumption) rfl ?_))
        refine M.idxStore_i gd (by omega) (by omega) (fun w4 g4 k4 s4 => ?_)
        refine M.idxStore_i g4 (by omega) (by rw [List.length_set]; omega) (fun w5 g5 k5 s5 => ?_)
        have e1 : ((t : Int)).toNat = t := by omega
        have e2 : ((t : Int) + 1).toNat = t + 1 := by omega
        (repeat (first|refine ja ?_|refine jb ?_|refine jc ?_|refine jd ?_|refine je ?_|refine jf ?_|refine jg ?_|refine jh ?_|refine ji ?_|refine jj ?_|refine jk ?_|refine jl ?_|refine jm ?_|refine jn ?_|refine jo ?_|refine jp ?_|refine jq ?_|refine jr ?_|refine js ?_|refine jt ?_|refine ju ?_|refine jv ?_|refine jw ?_|refine jx ?_|refine jy ?_|refine jz ?_|refine jA ?_|refine jB ?_|refine jC ?_|refine jD ?_|refine jE ?_|refine jF ?_|refine jG ?_|refine jH ?_|refine jI ?_|refine jJ ?_|refine jK ?_|refine jL ?_|refine jM (by assumption) ?_|refine jN (by assumption) rfl ?_|refine jO (by assumption) ?_|refine jP (by assumption) rfl ?_|refine jQ ?_|refine jR ?_|refine jS ?_|refine jT ?_|refine jU (by assumption) rfl ?_))
        refine hK2 (t + 1) _ _ (by omega) ⟨_, by simp, by omega, by omega, g5, by simpa using hl, ?_, (kd.trans k4 (fun _ _ h => h)).trans k5 (fun _ _ h => h)⟩
        funext q
        rw [e1, e2, fn_at _ _ (by rw [List.length_set]; omega), fn_at _ _ (by omega), he]
        unfold insR
        by_cases c1 : q = t + 1
        · subst c1
          rw [if_pos rfl]
          repeat' split
          all_goals first | omega | rfl | (congr 1 <;> omega)
        · rw [if_neg c1]
          by_cases c2 : q = t
          · subst c2
            rw [if_pos rfl]
            repeat' split
            all_goals first | omega | rfl | (congr 1 <;> omega)
          · rw [if_neg c2]
            repeat' split
            all_goals first | omega | rfl | (congr 1 <;> omega)
      · have e : t = i - 1 := by omega
        subst e
        (repeat (first|refine ja ?_|refine jb ?_|refine jc ?_|refine jd ?_|refine je ?_|refine jf ?_|refine jg ?_|refine jh ?_|refine ji ?_|refine jj ?_|refine jk ?_|refine jl ?_|refine jm ?_|refine jn ?_|refine jo ?_|refine jp ?_|refine jq ?_|refine jr ?_|refine js ?_|refine jt ?_|refine ju ?_|refine jv ?_|refine jw ?_|refine jx ?_|refine jy ?_|refine jz ?_|refine jA ?_|refine jB ?_|refine jC ?_|refine jD ?_|refine jE ?_|refine jF ?_|refine jG ?_|refine jH ?_|refine jI ?_|refine jJ ?_|refine jK ?_|refine jL ?_|refine jM (by assumption) ?_|refine jN (by assumption) rfl ?_|refine jO (by assumption) ?_|refine jP (by assumption) rfl ?_|refine jQ ?_|refine jR ?_|refine jS ?_|refine jT ?_|refine jU (by assumption) rfl ?_))
        refine ⟨by trivial, ys, g2, hl, ?_, ?_, k2⟩
        · rw [he]
          exact sg_front hw hs2 hi1 hjb hlo hhi (fun t h1 h2 => hcr a t (Nat.le_refl _) (by omega) h1 h2)
        · rw [he]; exact insR_in _ (Nat.le_refl _) (by omega) (by omega)
  by_cases htwo : b = m + 1
  · -- one behind
    subst htwo
    (repeat (first|refine ja ?_|refine jb ?_|refine jc ?_|refine jd ?_|refine je ?_|refine jf ?_|refine jg ?_|refine jh ?_|refine ji ?_|refine jj ?_|refine jk ?_|refine jl ?_|refine jm ?_|refine jn ?_|refine jo ?_|refine jp ?_|refine jq ?_|refine jr ?_|refine js ?_|refine jt ?_|refine ju ?_|refine jv ?_|refine jw ?_|refine jx ?_|refine jy ?_|refine jz ?_|refine jA ?_|refine jB ?_|refine jC ?_|refine jD ?_|refine jE ?_|refine jF ?_|refine jG ?_|refine jH ?_|refine jI ?_|refine jJ ?_|refine jK ?_|refine jL ?_|refine jM (by assumption) ?_|refine jN (by assumption) rfl ?_|refine jO (by assumption) ?_|refine jP (by assumption) rfl ?_|refine jQ ?_|refine jR ?_|refine jS ?_|refine jT ?_|refine jU (by assumption) rfl ?_))
    refine M.loop_i (σ := Nat × Nat) (fun t vals w' => vals = [vi t.1, vi t.2] ∧ a ≤ t.1 ∧ t.1 ≤ t.2 ∧ t.2 ≤ m ∧ (∀ c, a ≤ c → c < t.1 → lt (fn xs m) (fn xs c) = false) ∧ (∀ c, t.2 ≤ c → c < m → lt (fn xs m) (fn xs c) = true) ∧ Keep w w' No) (fun t => t.2 - t.1) (a, m)
      ⟨rfl, Nat.le_refl _, by show a ≤ m; omega, Nat.le_refl _, fun c h1 h2 => absurd h2 (by show ¬ c < a; omega), fun c h1 h2 => absurd h1 (by show ¬ m ≤ c; omega), Keep.refl _ _⟩ ?_
    rintro ⟨i, j⟩ vals w1 K ⟨rfl, hi1, hij, hjb, hlo, hhi, k1⟩ hK _
    simp only at hi1 hij hjb hlo hhi
    simp only [List.getD_cons_zero, List.getD_cons_succ]
    by_cases hlt : i < j
    · (repeat (first|refine ja ?_|refine jb ?_|refine jc ?_|refine jd ?_|refine je ?_|refine jf ?_|refine jg ?_|refine jh ?_|refine ji ?_|refine jj ?_|refine jk ?_|refine jl ?_|refine jm ?_|refine jn ?_|refine jo ?_|refine jp ?_|refine jq ?_|refine jr ?_|refine js ?_|refine jt ?_|refine ju ?_|refine jv ?_|refine jw ?_|refine jx ?_|refine jy ?_|refine jz ?_|refine jA ?_|refine jB ?_|refine jC ?_|refine jD ?_|refine jE ?_|refine jF ?_|refine jG ?_|refine jH ?_|refine jI ?_|refine jJ ?_|refine jK ?_|refine jL ?_|refine jM (by assumption) ?_|refine jN (by assumption) rfl ?_|refine jO (by assumption) ?_|refine jP (by assumption) rfl ?_|refine jQ ?_|refine jR ?_|refine jS ?_|refine jT ?_|refine jU (by assumption) rfl ?_))
      refine M.share_j (fun vals w' => ∃ i' j' : Nat, vals = [vi i', vi j'] ∧ j' - i' < j - i ∧ a ≤ i' ∧ i' ≤ j' ∧ j' ≤ m ∧ (∀ c, a ≤ c → c < i' → lt (fn xs m) (fn xs c) = false) ∧ (∀ c, j' ≤ c → c < m → lt (fn xs m) (fn xs c) = true) ∧ Keep w w' No) ?_ ?_
      · rintro vals w2 ⟨i', j', rfl, hs, a1, a2, a3, a4, a5, a6⟩ _
        simp only [List.getD_cons_zero, List.getD_cons_succ]
        exact hK (i', j') _ _ hs ⟨rfl, a1, a2, a3, a4, a5, a6⟩
      · intro K2 hK2
        refine M.add_i (by omega) (by omega) ?_
        refine M.half_i (by omega) (by omega) ?_
        obtain ⟨c, hcc⟩ : ∃ c : Nat, ((i : Int) + j) / 2 = c := ⟨(i + j) / 2, by omega⟩
        rw [hcc]
        refine M.draw_i ?_
        have kd := k1.trans (Keep.drew w1 No) (fun _ _ h => h)
        have gd := h.keep kd (fun _ _ _ h => h)
        refine M.getI_i gd (by omega) (by omega) (fun ad h1 => ?_)
        (repeat (first|refine ja ?_|refine jb ?_|refine jc ?_|refine jd ?_|refine je ?_|refine jf ?_|refine jg ?_|refine jh ?_|refine ji ?_|refine jj ?_|refine jk ?_|refine jl ?_|refine jm ?_|refine jn ?_|refine jo ?_|refine jp ?_|refine jq ?_|refine jr ?_|refine js ?_|refine jt ?_|refine ju ?_|refine jv ?_|refine jw ?_|refine jx ?_|refine jy ?_|refine jz ?_|refine jA ?_|refine jB ?_|refine jC ?_|refine jD ?_|refine jE ?_|refine jF ?_|refine jG ?_|refine jH ?_|refine jI ?_|refine jJ ?_|refine jK ?_|refine jL ?_|refine jM (by assumption) ?_|refine jN (by assumption) rfl ?_|refine jO (by assumption) ?_|refine jP (by assumption) rfl ?_|refine jQ ?_|refine jR ?_|refine jS ?_|refine jT ?_|refine jU (by assumption) rfl ?_))
        refine M.getI_i gd (by omega) (by omega) (fun ad h2 => ?_)
        (repeat (first|refine ja ?_|refine jb ?_|refine jc ?_|refine jd ?_|refine je ?_|refine jf ?_|refine jg ?_|refine jh ?_|refine ji ?_|refine jj ?_|refine jk ?_|refine jl ?_|refine jm ?_|refine jn ?_|refine jo ?_|refine jp ?_|refine jq ?_|refine jr ?_|refine js ?_|refine jt ?_|refine ju ?_|refine jv ?_|refine jw ?_|refine jx ?_|refine jy ?_|refine jz ?_|refine jA ?_|refine jB ?_|refine jC ?_|refine jD ?_|refine jE ?_|refine jF ?_|refine jG ?_|refine jH ?_|refine jI ?_|refine jJ ?_|refine jK ?_|refine jL ?_|refine jM (by assumption) ?_|refine jN (by assumption) rfl ?_|refine jO (by assumption) ?_|refine jP (by assumption) rfl ?_|refine jQ ?_|refine jR ?_|refine jS ?_|refine jT ?_|refine jU (by assumption) rfl ?_))
        have e1 : ((c : Int)).toNat = c := by omega
        have e2 : ((m : Int)).toNat = m := by omega
        rw [e1, e2]
        refine hc _ _ _ _ (hok m (by omega) (by omega)) (hok c (by omega) (by omega)) (hIk _ _ hI (kd.mono (fun _ _ h => h.elim))) (fun z w3 hz k3 => ?_)
        refine M.lss_i ?_
        rw [hz]
        have k03 := kd.trans k3 (fun _ _ h => h)
        have key : ∀ c d, a ≤ c → c < d → d < m → lt (fn xs m) (fn xs c) = true → lt (fn xs m) (fn xs d) = true := fun c d h1 h2 h3 h4 => by
          rcases Bf.trans hw (.inl h4) (hs1 c d h1 h2 h3) with h5 | ⟨_, h5⟩
          · exact h5
          · have := hcr d m (by omega) h3 (Nat.le_refl _) (by omega); omega
        cases hq : lt (fn xs m) (fn xs c) with
        | false =>
          (repeat (first|refine ja ?_|refine jb ?_|refine jc ?_|refine jd ?_|refine je ?_|refine jf ?_|refine jg ?_|refine jh ?_|refine ji ?_|refine jj ?_|refine jk ?_|refine jl ?_|refine jm ?_|refine jn ?_|refine jo ?_|refine jp ?_|refine jq ?_|refine jr ?_|refine js ?_|refine jt ?_|refine ju ?_|refine jv ?_|refine jw ?_|refine jx ?_|refine jy ?_|refine jz ?_|refine jA ?_|refine jB ?_|refine jC ?_|refine jD ?_|refine jE ?_|refine jF ?_|refine jG ?_|refine jH ?_|refine jI ?_|refine jJ ?_|refine jK ?_|refine jL ?_|refine jM (by assumption) ?_|refine jN (by assumption) rfl ?_|refine jO (by assumption) ?_|refine jP (by assumption) rfl ?_|refine jQ ?_|refine jR ?_|refine jS ?_|refine jT ?_|refine jU (by assumption) rfl ?_))
          refine hK2 _ _ ⟨c + 1, j, by simp, by omega, by omega, by omega, hjb, fun d h1 h2 => ?_, hhi, k03⟩
          by_cases e : d = c
          · rw [e]; exact hq
          · cases hq2 : lt (fn xs m) (fn xs d) with
            | false => rfl
            | true =>
              have := key d c h1 (by omega) (by omega) hq2
              rw [hq] at this; simp at this
        | true =>
          (repeat (first|refine ja ?_|refine jb ?_|refine jc ?_|refine jd ?_|refine je ?_|refine jf ?_|refine jg ?_|refine jh ?_|refine ji ?_|refine jj ?_|refine jk ?_|refine jl ?_|refine jm ?_|refine jn ?_|refine jo ?_|refine jp ?_|refine jq ?_|refine jr ?_|refine js ?_|refine jt ?_|refine ju ?_|refine jv ?_|refine jw ?_|refine jx ?_|refine jy ?_|refine jz ?_|refine jA ?_|refine jB ?_|refine jC ?_|refine jD ?_|refine jE ?_|refine jF ?_|refine jG ?_|refine jH ?_|refine jI ?_|refine jJ ?_|refine jK ?_|refine jL ?_|refine jM (by assumption) ?_|refine jN (by assumption) rfl ?_|refine jO (by assumption) ?_|refine jP (by assumption) rfl ?_|refine jQ ?_|refine jR ?_|refine jS ?_|refine jT ?_|refine jU (by assumption) rfl ?_))
          refine hK2 _ _ ⟨i, c, rfl, by omega, hi1, by omega, by omega, hlo, fun d h1 h2 => ?_, k03⟩
          by_cases e : d = c
          · rw [e]; exact hq
          · exact key c d (by omega) (by omega) h2 hq
    · have eij : i = j := by omega
      subst eij
      (repeat (first|refine ja ?_|refine jb ?_|refine jc ?_|refine jd ?_|refine je ?_|refine jf ?_|refine jg ?_|refine jh ?_|refine ji ?_|refine jj ?_|refine jk ?_|refine jl ?_|refine jm ?_|refine jn ?_|refine jo ?_|refine jp ?_|refine jq ?_|refine jr ?_|refine js ?_|refine jt ?_|refine ju ?_|refine jv ?_|refine jw ?_|refine jx ?_|refine jy ?_|refine jz ?_|refine jA ?_|refine jB ?_|refine jC ?_|refine jD ?_|refine jE ?_|refine jF ?_|refine jG ?_|refine jH ?_|refine jI ?_|refine jJ ?_|refine jK ?_|refine jL ?_|refine jM (by assumption) ?_|refine jN (by assumption) rfl ?_|refine jO (by assumption) ?_|refine jP (by assumption) rfl ?_|refine jQ ?_|refine jR ?_|refine jS ?_|refine jT ?_|refine jU (by assumption) rfl ?_))
      refine M.loop_i (σ := Nat) (fun t vals w' => ∃ ys, vals = [vi t] ∧ i ≤ t ∧ t ≤ m ∧ GI w' L v ys ∧ ys.length = xs.length ∧ fn ys = insL (fn xs) t m ∧ Keep w w' L) (fun t => t) m
        ⟨xs, rfl, hjb, Nat.le_refl _, h.keep k1 (fun _ _ _ h => h), rfl, by
          funext t; unfold insL
          repeat' split
          all_goals first | omega | rfl | (congr 1 <;> omega), k1.mono (fun _ _ h => h.elim)⟩ ?_
      rintro t vals w2 K2 ⟨ys, rfl, hat, hti, g2, hl, he, k2⟩ hK2 _
      simp only [List.getD_cons_zero, List.getD_cons_succ]
      by_cases ht : i < t
      · have gd := g2.keep (Keep.drew w2 No) (fun _ _ _ h => h)
        have kd := k2.trans (Keep.drew w2 No) (fun _ _ h => h.elim)
        (repeat (first|refine ja ?_|refine jb ?_|refine jc ?_|refine jd ?_|refine je ?_|refine jf ?_|refine jg ?_|refine jh ?_|refine ji ?_|refine jj ?_|refine jk ?_|refine jl ?_|refine jm ?_|refine jn ?_|refine jo ?_|refine jp ?_|refine jq ?_|refine jr ?_|refine js ?_|refine jt ?_|refine ju ?_|refine jv ?_|refine jw ?_|refine jx ?_|refine jy ?_|refine jz ?_|refine jA ?_|refine jB ?_|refine jC ?_|refine jD ?_|refine jE ?_|refine jF ?_|refine jG ?_|refine jH ?_|refine jI ?_|refine jJ ?_|refine jK ?_|refine jL ?_|refine jM (by assumption) ?_|refine jN (by assumption) rfl ?_|refine jO (by assumption) ?_|refine jP (by assumption) rfl ?_|refine jQ ?_|refine jR ?_|refine jS ?_|refine jT ?_|refine jU (by assumption) rfl ?_))
        refine M.getI_i gd (by omega) (by omega) (fun ad h1 => ?_)
        (repeat (first|refine ja ?_|refine jb ?_|refine jc ?_|refine jd ?_|refine je ?_|refine jf ?_|refine jg ?_|refine jh ?_|refine ji ?_|refine jj ?_|refine jk ?_|refine jl ?_|refine jm ?_|refine jn ?_|refine jo ?_|refine jp ?_|refine jq ?_|refine jr ?_|refine js ?_|refine jt ?_|refine ju ?_|refine jv ?_|refine jw ?_|refine jx ?_|refine jy ?_|refine jz ?_|refine jA ?_|refine jB ?_|refine jC ?_|refine jD ?_|refine jE ?_|refine jF ?_|refine jG ?_|refine jH ?_|refine jI ?_|refine jJ ?_|refine jK ?_|refine jL ?_|refine jM (by assumption) ?_|refine jN (by assumption) rfl ?_|refine jO (by assumption) ?_|refine jP (by assumption) rfl ?_|refine jQ ?_|refine jR ?_|refine jS ?_|refine jT ?_|refine jU (by assumption) rfl ?_))
        refine M.getI_i gd (by omega) (by omega) (fun ad h2 => ?_)
        (repeat (first|refine ja ?_|refine jb ?_|refine jc ?_|refine jd ?_|refine je ?_|refine jf ?_|refine jg ?_|refine jh ?_|refine ji ?_|refine jj ?_|refine jk ?_|refine jl ?_|refine jm ?_|refine jn ?_|refine jo ?_|refine jp ?_|refine jq ?_|refine jr ?_|refine js ?_|refine jt ?_|refine ju ?_|refine jv ?_|refine jw ?_|refine jx ?_|refine jy ?_|refine jz ?_|refine jA ?_|refine jB ?_|refine jC ?_|refine jD ?_|refine jE ?_|refine jF ?_|refine jG ?_|refine jH ?_|refine jI ?_|refine jJ ?_|refine jK ?_|refine jL ?_|refine jM (by assumption) ?_|refine jN (by assumption) rfl ?_|refine jO (by assumption) ?_|refine jP (by assumption) rfl ?_|refine jQ ?_|refine jR ?_|refine jS ?_|refine jT ?_|refine jU (by assumption) rfl ?_))
        refine M.idxStore_i gd (by omega) (by omega) (fun w4 g4 k4 s4 => ?_)
        refine M.idxStore_i g4 (by omega) (by rw [List.length_set]; omega) (fun w5 g5 k5 s5 => ?_)
        have e1 : ((t : Int)).toNat = t := by omega
        have e2 : ((t : Int) - 1).toNat = t - 1 := by omega
        have e3 : ((t : Int) - 1) = ((t - 1 : Nat) : Int) := by omega
        (repeat (first|refine ja ?_|refine jb ?_|refine jc ?_|refine jd ?_|refine je ?_|refine jf ?_|refine jg ?_|refine jh ?_|refine ji ?_|refine jj ?_|refine jk ?_|refine jl ?_|refine jm ?_|refine jn ?_|refine jo ?_|refine jp ?_|refine jq ?_|refine jr ?_|refine js ?_|refine jt ?_|refine ju ?_|refine jv ?_|refine jw ?_|refine jx ?_|refine jy ?_|refine jz ?_|refine jA ?_|refine jB ?_|refine jC ?_|refine jD ?_|refine jE ?_|refine jF ?_|refine jG ?_|refine jH ?_|refine jI ?_|refine jJ ?_|refine jK ?_|refine jL ?_|refine jM (by assumption) ?_|refine jN (by assumption) rfl ?_|refine jO (by assumption) ?_|refine jP (by assumption) rfl ?_|refine jQ ?_|refine jR ?_|refine jS ?_|refine jT ?_|refine jU (by assumption) rfl ?_))
        rw [e3]
        refine hK2 (t - 1) _ _ (by omega) ⟨_, rfl, by omega, by omega, g5, by simpa using hl, ?_, (kd.trans k4 (fun _ _ h => h)).trans k5 (fun _ _ h => h)⟩
        funext q
        simp only [e1, e2, Int.toNat_natCast]
        rw [fn_at _ _ (by rw [List.length_set]; omega), fn_at _ _ (by omega), he]
        unfold insL
        by_cases c1 : q = t - 1
        · subst c1
          rw [if_pos rfl]
          repeat' split
          all_goals first | omega | rfl | (congr 1 <;> omega)
        · rw [if_neg c1]
          by_cases c2 : q = t
          · subst c2
            rw [if_pos rfl]
            repeat' split
            all_goals first | omega | rfl | (congr 1 <;> omega)
          · rw [if_neg c2]
            repeat' split
            all_goals first | omega | rfl | (congr 1 <;> omega)
      · have e : t = i := by omega
        subst e
        (repeat (first|refine ja ?_|refine jb ?_|refine jc ?_|refine jd ?_|refine je ?_|refine jf ?_|refine jg ?_|refine jh ?_|refine ji ?_|refine jj ?_|refine jk ?_|refine jl ?_|refine jm ?_|refine jn ?_|refine jo ?_|refine jp ?_|refine jq ?_|refine jr ?_|refine js ?_|refine jt ?_|refine ju ?_|refine jv ?_|refine jw ?_|refine jx ?_|refine jy ?_|refine jz ?_|refine jA ?_|refine jB ?_|refine jC ?_|refine jD ?_|refine jE ?_|refine jF ?_|refine jG ?_|refine jH ?_|refine jI ?_|refine jJ ?_|refine jK ?_|refine jL ?_|refine jM (by assumption) ?_|refine jN (by assumption) rfl ?_|refine jO (by assumption) ?_|refine jP (by assumption) rfl ?_|refine jQ ?_|refine jR ?_|refine jS ?_|refine jT ?_|refine jU (by assumption) rfl ?_))
        refine ⟨by trivial, ys, g2, hl, ?_, ?_, k2⟩
        · rw [he]
          exact sg_back hw hs1 hi1 hti hlo hhi (fun t h1 h2 => hcr t m h1 h2 (Nat.le_refl _) (by omega))
        · rw [he]; exact insL_in _ hi1 hti (by omega)
  (repeat (first|refine ja ?_|refine jb ?_|refine jc ?_|refine jd ?_|refine je ?_|refine jf ?_|refine jg ?_|refine jh ?_|refine ji ?_|refine jj ?_|refine jk ?_|refine jl ?_|refine jm ?_|refine jn ?_|refine jo ?_|refine jp ?_|refine jq ?_|refine jr ?_|refine js ?_|refine jt ?_|refine ju ?_|refine jv ?_|refine jw ?_|refine jx ?_|refine jy ?_|refine jz ?_|refine jA ?_|refine jB ?_|refine jC ?_|refine jD ?_|refine jE ?_|refine jF ?_|refine jG ?_|refine jH ?_|refine jI ?_|refine jJ ?_|refine jK ?_|refine jL ?_|refine jM (by assumption) ?_|refine jN (by assumption) rfl ?_|refine jO (by assumption) ?_|refine jP (by assumption) rfl ?_|refine jQ ?_|refine jR ?_|refine jS ?_|refine jT ?_|refine jU (by assumption) rfl ?_))
  refine M.half_i (by omega) (by omega) ?_
  obtain ⟨mid, hmid⟩ : ∃ c : Nat, ((a : Int) + b) / 2 = c := ⟨(a + b) / 2, by omega⟩
  rw [hmid]
  (repeat (first|refine ja ?_|refine jb ?_|refine jc ?_|refine jd ?_|refine je ?_|refine jf ?_|refine jg ?_|refine jh ?_|refine ji ?_|refine jj ?_|refine jk ?_|refine jl ?_|refine jm ?_|refine jn ?_|refine jo ?_|refine jp ?_|refine jq ?_|refine jr ?_|refine js ?_|refine jt ?_|refine ju ?_|refine jv ?_|refine jw ?_|refine jx ?_|refine jy ?_|refine jz ?_|refine jA ?_|refine jB ?_|refine jC ?_|refine jD ?_|refine jE ?_|refine jF ?_|refine jG ?_|refine jH ?_|refine jI ?_|refine jJ ?_|refine jK ?_|refine jL ?_|refine jM (by assumption) ?_|refine jN (by assumption) rfl ?_|refine jO (by assumption) ?_|refine jP (by assumption) rfl ?_|refine jQ ?_|refine jR ?_|refine jS ?_|refine jT ?_|refine jU (by assumption) rfl ?_))
  refine M.share_j (fun vals w' => ∃ s0 r0 : Nat, vals = [vi s0, vi r0] ∧ w' = w ∧ s0 ≤ r0 ∧ a ≤ s0 ∧ r0 ≤ m ∧ r0 ≤ mid ∧ mid + m ≤ b + s0 ∧ (s0 = a ∨ mid + m = b + s0) ∧ (r0 = m ∨ r0 = mid)) ?_ ?_
  rotate_left
  · intro K hK
    by_cases hgt : mid < m
    · (repeat (first|refine ja ?_|refine jb ?_|refine jc ?_|refine jd ?_|refine je ?_|refine jf ?_|refine jg ?_|refine jh ?_|refine ji ?_|refine jj ?_|refine jk ?_|refine jl ?_|refine jm ?_|refine jn ?_|refine jo ?_|refine jp ?_|refine jq ?_|refine jr ?_|refine js ?_|refine jt ?_|refine ju ?_|refine jv ?_|refine jw ?_|refine jx ?_|refine jy ?_|refine jz ?_|refine jA ?_|refine jB ?_|refine jC ?_|refine jD ?_|refine jE ?_|refine jF ?_|refine jG ?_|refine jH ?_|refine jI ?_|refine jJ ?_|refine jK ?_|refine jL ?_|refine jM (by assumption) ?_|refine jN (by assumption) rfl ?_|refine jO (by assumption) ?_|refine jP (by assumption) rfl ?_|refine jQ ?_|refine jR ?_|refine jS ?_|refine jT ?_|refine jU (by assumption) rfl ?_))
      exact hK _ _ ⟨mid + m - b, mid, by simp only [List.cons.injEq, Value.int.injEq, true_and, and_true]; omega, rfl, by omega, by omega, by omega, by omega, by omega, by omega, by omega⟩
    · (repeat (first|refine ja ?_|refine jb ?_|refine jc ?_|refine jd ?_|refine je ?_|refine jf ?_|refine jg ?_|refine jh ?_|refine ji ?_|refine jj ?_|refine jk ?_|refine jl ?_|refine jm ?_|refine jn ?_|refine jo ?_|refine jp ?_|refine jq ?_|refine jr ?_|refine js ?_|refine jt ?_|refine ju ?_|refine jv ?_|refine jw ?_|refine jx ?_|refine jy ?_|refine jz ?_|refine jA ?_|refine jB ?_|refine jC ?_|refine jD ?_|refine jE ?_|refine jF ?_|refine jG ?_|refine jH ?_|refine jI ?_|refine jJ ?_|refine jK ?_|refine jL ?_|refine jM (by assumption) ?_|refine jN (by assumption) rfl ?_|refine jO (by assumption) ?_|refine jP (by assumption) rfl ?_|refine jQ ?_|refine jR ?_|refine jS ?_|refine jT ?_|refine jU (by assumption) rfl ?_))
      exact hK _ _ ⟨a, m, rfl, rfl, by omega, by omega, by omega, by omega, by omega, by omega, by omega⟩
  rintro vals w' ⟨s0, r0, rfl, rfl, hsr0, has0, hr0m, hr0mid, hpb, hs0, hr0⟩ _
  simp only [List.getD_cons_zero, List.getD_cons_succ]
  (repeat (first|refine ja ?_|refine jb ?_|refine jc ?_|refine jd ?_|refine je ?_|refine jf ?_|refine jg ?_|refine jh ?_|refine ji ?_|refine jj ?_|refine jk ?_|refine jl ?_|refine jm ?_|refine jn ?_|refine jo ?_|refine jp ?_|refine jq ?_|refine jr ?_|refine js ?_|refine jt ?_|refine ju ?_|refine jv ?_|refine jw ?_|refine jx ?_|refine jy ?_|refine jz ?_|refine jA ?_|refine jB ?_|refine jC ?_|refine jD ?_|refine jE ?_|refine jF ?_|refine jG ?_|refine jH ?_|refine jI ?_|refine jJ ?_|refine jK ?_|refine jL ?_|refine jM (by assumption) ?_|refine jN (by assumption) rfl ?_|refine jO (by assumption) ?_|refine jP (by assumption) rfl ?_|refine jQ ?_|refine jR ?_|refine jS ?_|refine jT ?_|refine jU (by assumption) rfl ?_))
  refine M.loop_i (σ := Nat × Nat) (fun t vals w2 => vals = [vi t.1, vi t.2] ∧ Srch lt (fn xs) a m b mid s0 r0 t.1 t.2 ∧ Keep w' w2 No) (fun t => t.2 - t.1) (s0, r0)
    ⟨rfl, ⟨Nat.le_refl _, hsr0, Nat.le_refl _, fun c h1 h2 => absurd h2 (by show ¬ c < s0; omega), fun c h1 h2 => absurd h1 (by show ¬ r0 ≤ c; omega)⟩, Keep.refl _ _⟩ ?_
  rintro ⟨s, r⟩ vals w1 K ⟨rfl, hS, k1⟩ hK _
  simp only at hS
  simp only [List.getD_cons_zero, List.getD_cons_succ]
  have hss := hS.s0s; have hsr := hS.sr; have hrr := hS.rr
  by_cases hlt : s < r
  · (repeat (first|refine ja ?_|refine jb ?_|refine jc ?_|refine jd ?_|refine je ?_|refine jf ?_|refine jg ?_|refine jh ?_|refine ji ?_|refine jj ?_|refine jk ?_|refine jl ?_|refine jm ?_|refine jn ?_|refine jo ?_|refine jp ?_|refine jq ?_|refine jr ?_|refine js ?_|refine jt ?_|refine ju ?_|refine jv ?_|refine jw ?_|refine jx ?_|refine jy ?_|refine jz ?_|refine jA ?_|refine jB ?_|refine jC ?_|refine jD ?_|refine jE ?_|refine jF ?_|refine jG ?_|refine jH ?_|refine jI ?_|refine jJ ?_|refine jK ?_|refine jL ?_|refine jM (by assumption) ?_|refine jN (by assumption) rfl ?_|refine jO (by assumption) ?_|refine jP (by assumption) rfl ?_|refine jQ ?_|refine jR ?_|refine jS ?_|refine jT ?_|refine jU (by assumption) rfl ?_))
    refine M.share_j (fun vals w2 => ∃ i' j' : Nat, vals = [vi i', vi j'] ∧ j' - i' < r - s ∧ Srch lt (fn xs) a m b mid s0 r0 i' j' ∧ Keep w' w2 No) ?_ ?_
    · rintro vals w2 ⟨i', j', rfl, hs, a1, a2⟩ _
      simp only [List.getD_cons_zero, List.getD_cons_succ]
      exact hK (i', j') _ _ hs ⟨rfl, a1, a2⟩
    · intro K2 hK2
      refine M.add_i (by omega) (by omega) ?_
      refine M.half_i (by omega) (by omega) ?_
      obtain ⟨c, hcc⟩ : ∃ c : Nat, ((s : Int) + r) / 2 = c := ⟨(s + r) / 2, by omega⟩
      rw [hcc]
      refine M.draw_i ?_
      have kd := k1.trans (Keep.drew w1 No) (fun _ _ h => h)
      have gd := h.keep kd (fun _ _ _ h => h)
      (repeat (first|refine ja ?_|refine jb ?_|refine jc ?_|refine jd ?_|refine je ?_|refine jf ?_|refine jg ?_|refine jh ?_|refine ji ?_|refine jj ?_|refine jk ?_|refine jl ?_|refine jm ?_|refine jn ?_|refine jo ?_|refine jp ?_|refine jq ?_|refine jr ?_|refine js ?_|refine jt ?_|refine ju ?_|refine jv ?_|refine jw ?_|refine jx ?_|refine jy ?_|refine jz ?_|refine jA ?_|refine jB ?_|refine jC ?_|refine jD ?_|refine jE ?_|refine jF ?_|refine jG ?_|refine jH ?_|refine jI ?_|refine jJ ?_|refine jK ?_|refine jL ?_|refine jM (by assumption) ?_|refine jN (by assumption) rfl ?_|refine jO (by assumption) ?_|refine jP (by assumption) rfl ?_|refine jQ ?_|refine jR ?_|refine jS ?_|refine jT ?_|refine jU (by assumption) rfl ?_))
      refine M.getI_i gd (by omega) (by omega) (fun ad h1 => ?_)
      (repeat (first|refine ja ?_|refine jb ?_|refine jc ?_|refine jd ?_|refine je ?_|refine jf ?_|refine jg ?_|refine jh ?_|refine ji ?_|refine jj ?_|refine jk ?_|refine jl ?_|refine jm ?_|refine jn ?_|refine jo ?_|refine jp ?_|refine jq ?_|refine jr ?_|refine js ?_|refine jt ?_|refine ju ?_|refine jv ?_|refine jw ?_|refine jx ?_|refine jy ?_|refine jz ?_|refine jA ?_|refine jB ?_|refine jC ?_|refine jD ?_|refine jE ?_|refine jF ?_|refine jG ?_|refine jH ?_|refine jI ?_|refine jJ ?_|refine jK ?_|refine jL ?_|refine jM (by assumption) ?_|refine jN (by assumption) rfl ?_|refine jO (by assumption) ?_|refine jP (by assumption) rfl ?_|refine jQ ?_|refine jR ?_|refine jS ?_|refine jT ?_|refine jU (by assumption) rfl ?_))
      refine M.getI_i gd (by omega) (by omega) (fun ad h2 => ?_)
      (repeat (first|refine ja ?_|refine jb ?_|refine jc ?_|refine jd ?_|refine je ?_|refine jf ?_|refine jg ?_|refine jh ?_|refine ji ?_|refine jj ?_|refine jk ?_|refine jl ?_|refine jm ?_|refine jn ?_|refine jo ?_|refine jp ?_|refine jq ?_|refine jr ?_|refine js ?_|refine jt ?_|refine ju ?_|refine jv ?_|refine jw ?_|refine jx ?_|refine jy ?_|refine jz ?_|refine jA ?_|refine jB ?_|refine jC ?_|refine jD ?_|refine jE ?_|refine jF ?_|refine jG ?_|refine jH ?_|refine jI ?_|refine jJ ?_|refine jK ?_|refine jL ?_|refine jM (by assumption) ?_|refine jN (by assumption) rfl ?_|refine jO (by assumption) ?_|refine jP (by assumption) rfl ?_|refine jQ ?_|refine jR ?_|refine jS ?_|refine jT ?_|refine jU (by assumption) rfl ?_))
      have e1 : ((c : Int)).toNat = c := by omega
      have e2 : ((mid : Int) + m - 1 - c).toNat = mid + m - 1 - c := by omega
      rw [e1, e2]
      refine hc _ _ _ _ (hok _ (by omega) (by omega)) (hok c (by omega) (by omega)) (hIk _ _ hI (kd.mono (fun _ _ h => h.elim))) (fun z w3 hz k3 => ?_)
      refine M.lss_i ?_
      rw [hz]
      have k03 := kd.trans k3 (fun _ _ h => h)
      cases hq : lt (fn xs (mid + m - 1 - c)) (fn xs c) with
      | false =>
        (repeat (first|refine ja ?_|refine jb ?_|refine jc ?_|refine jd ?_|refine je ?_|refine jf ?_|refine jg ?_|refine jh ?_|refine ji ?_|refine jj ?_|refine jk ?_|refine jl ?_|refine jm ?_|refine jn ?_|refine jo ?_|refine jp ?_|refine jq ?_|refine jr ?_|refine js ?_|refine jt ?_|refine ju ?_|refine jv ?_|refine jw ?_|refine jx ?_|refine jy ?_|refine jz ?_|refine jA ?_|refine jB ?_|refine jC ?_|refine jD ?_|refine jE ?_|refine jF ?_|refine jG ?_|refine jH ?_|refine jI ?_|refine jJ ?_|refine jK ?_|refine jL ?_|refine jM (by assumption) ?_|refine jN (by assumption) rfl ?_|refine jO (by assumption) ?_|refine jP (by assumption) rfl ?_|refine jQ ?_|refine jR ?_|refine jS ?_|refine jT ?_|refine jU (by assumption) rfl ?_))
        exact hK2 _ _ ⟨c + 1, r, by simp, by omega, hS.left hw hs1 hs2 hcr (by omega) (by omega) has0 hr0m hr0mid hpb hq, k03⟩
      | true =>
        (repeat (first|refine ja ?_|refine jb ?_|refine jc ?_|refine jd ?_|refine je ?_|refine jf ?_|refine jg ?_|refine jh ?_|refine ji ?_|refine jj ?_|refine jk ?_|refine jl ?_|refine jm ?_|refine jn ?_|refine jo ?_|refine jp ?_|refine jq ?_|refine jr ?_|refine js ?_|refine jt ?_|refine ju ?_|refine jv ?_|refine jw ?_|refine jx ?_|refine jy ?_|refine jz ?_|refine jA ?_|refine jB ?_|refine jC ?_|refine jD ?_|refine jE ?_|refine jF ?_|refine jG ?_|refine jH ?_|refine jI ?_|refine jJ ?_|refine jK ?_|refine jL ?_|refine jM (by assumption) ?_|refine jN (by assumption) rfl ?_|refine jO (by assumption) ?_|refine jP (by assumption) rfl ?_|refine jQ ?_|refine jR ?_|refine jS ?_|refine jT ?_|refine jU (by assumption) rfl ?_))
        exact hK2 _ _ ⟨s, c, rfl, by omega, hS.right hw hs1 hs2 hcr (by omega) (by omega) has0 hr0m hr0mid hpb hq, k03⟩
  · have esr : s = r := by omega
    subst esr
    have e1 : ((mid : Int) + m - s) = ((mid + m - s : Nat) : Int) := by omega
    obtain ⟨e, he⟩ : ∃ e, mid + m - s = e := ⟨_, rfl⟩
    have hmide : s + (e - m) = mid := by omega
    (repeat (first|refine ja ?_|refine jb ?_|refine jc ?_|refine jd ?_|refine je ?_|refine jf ?_|refine jg ?_|refine jh ?_|refine ji ?_|refine jj ?_|refine jk ?_|refine jl ?_|refine jm ?_|refine jn ?_|refine jo ?_|refine jp ?_|refine jq ?_|refine jr ?_|refine js ?_|refine jt ?_|refine ju ?_|refine jv ?_|refine jw ?_|refine jx ?_|refine jy ?_|refine jz ?_|refine jA ?_|refine jB ?_|refine jC ?_|refine jD ?_|refine jE ?_|refine jF ?_|refine jG ?_|refine jH ?_|refine jI ?_|refine jJ ?_|refine jK ?_|refine jL ?_|refine jM (by assumption) ?_|refine jN (by assumption) rfl ?_|refine jO (by assumption) ?_|refine jP (by assumption) rfl ?_|refine jQ ?_|refine jR ?_|refine jS ?_|refine jT ?_|refine jU (by assumption) rfl ?_))
    rw [e1, he]
    have g1 := h.keep k1 (fun _ _ _ h => h)
    have hl : a < s → e < b → Bf lt (fn xs (s - 1)) (fn xs e) := fun h1 h2 => by
      have := hS.lo (s - 1) (by omega) (by omega)
      have e2 : mid + m - 1 - (s - 1) = e := by omega
      rw [e2] at this
      exact Bf.of hw this (hcr _ _ (by omega) (by omega) (by omega) h2)
    have hr : s < m → m < e → Bf lt (fn xs (e - 1)) (fn xs s) := fun h1 h2 => by
      have := hS.hi s (Nat.le_refl _) (by omega)
      have e2 : mid + m - 1 - s = e - 1 := by omega
      rw [e2] at this
      exact .inl this
    have hpart := sg_parts hw hs1 hs2 hcr (s := s) (e := e) (by omega) (by omega) (by omega) (by omega) hl hr
    rw [hmide] at hpart
    refine M.share_j (fun vals w2 => ∃ ys, GI w2 L v ys ∧ ys.length = xs.length ∧ fn ys = rot (fn xs) s m e ∧ Keep w' w2 L) ?_ ?_
    rotate_left
    · intro K2 hK2
      by_cases hdo : s < m ∧ m < e
      · have h1 := hdo.1; have h2 := hdo.2
        (repeat (first|refine ja ?_|refine jb ?_|refine jc ?_|refine jd ?_|refine je ?_|refine jf ?_|refine jg ?_|refine jh ?_|refine ji ?_|refine jj ?_|refine jk ?_|refine jl ?_|refine jm ?_|refine jn ?_|refine jo ?_|refine jp ?_|refine jq ?_|refine jr ?_|refine js ?_|refine jt ?_|refine ju ?_|refine jv ?_|refine jw ?_|refine jx ?_|refine jy ?_|refine jz ?_|refine jA ?_|refine jB ?_|refine jC ?_|refine jD ?_|refine jE ?_|refine jF ?_|refine jG ?_|refine jH ?_|refine jI ?_|refine jJ ?_|refine jK ?_|refine jL ?_|refine jM (by assumption) ?_|refine jN (by assumption) rfl ?_|refine jO (by assumption) ?_|refine jP (by assumption) rfl ?_|refine jQ ?_|refine jR ?_|refine jS ?_|refine jT ?_|refine jU (by assumption) rfl ?_))
        refine M.call_i (rotate_ret g1 hf (a := s) (m := m) (b := e) h1 h2 (by omega) g) ?_; rintro _ w2 ⟨rfl, ys, g2, hl2, he2, k2⟩
        exact hK2 _ _ ⟨ys, g2, hl2, he2, (k1.mono (fun _ _ h => h.elim)).trans k2 (fun _ _ h => h)⟩
      · have e0 : fn xs = rot (fn xs) s m e := by
          funext t
          unfold rot
          repeat' split
          all_goals first | omega | rfl | (congr 1 <;> omega)
        by_cases h1 : s < m
        · have h2 : ¬ m < e := fun h2 => hdo ⟨h1, h2⟩
          (repeat (first|refine ja ?_|refine jb ?_|refine jc ?_|refine jd ?_|refine je ?_|refine jf ?_|refine jg ?_|refine jh ?_|refine ji ?_|refine jj ?_|refine jk ?_|refine jl ?_|refine jm ?_|refine jn ?_|refine jo ?_|refine jp ?_|refine jq ?_|refine jr ?_|refine js ?_|refine jt ?_|refine ju ?_|refine jv ?_|refine jw ?_|refine jx ?_|refine jy ?_|refine jz ?_|refine jA ?_|refine jB ?_|refine jC ?_|refine jD ?_|refine jE ?_|refine jF ?_|refine jG ?_|refine jH ?_|refine jI ?_|refine jJ ?_|refine jK ?_|refine jL ?_|refine jM (by assumption) ?_|refine jN (by assumption) rfl ?_|refine jO (by assumption) ?_|refine jP (by assumption) rfl ?_|refine jQ ?_|refine jR ?_|refine jS ?_|refine jT ?_|refine jU (by assumption) rfl ?_))
          exact hK2 _ _ ⟨xs, g1, rfl, e0, k1.mono (fun _ _ h => h.elim)⟩
        · (repeat (first|refine ja ?_|refine jb ?_|refine jc ?_|refine jd ?_|refine je ?_|refine jf ?_|refine jg ?_|refine jh ?_|refine ji ?_|refine jj ?_|refine jk ?_|refine jl ?_|refine jm ?_|refine jn ?_|refine jo ?_|refine jp ?_|refine jq ?_|refine jr ?_|refine js ?_|refine jt ?_|refine ju ?_|refine jv ?_|refine jw ?_|refine jx ?_|refine jy ?_|refine jz ?_|refine jA ?_|refine jB ?_|refine jC ?_|refine jD ?_|refine jE ?_|refine jF ?_|refine jG ?_|refine jH ?_|refine jI ?_|refine jJ ?_|refine jK ?_|refine jL ?_|refine jM (by assumption) ?_|refine jN (by assumption) rfl ?_|refine jO (by assumption) ?_|refine jP (by assumption) rfl ?_|refine jQ ?_|refine jR ?_|refine jS ?_|refine jT ?_|refine jU (by assumption) rfl ?_))
          exact hK2 _ _ ⟨xs, g1, rfl, e0, k1.mono (fun _ _ h => h.elim)⟩
    rintro vals w2 ⟨ys, g2, hl2, he2, k2⟩ _
    have hrot := rot_in (fn xs) (a := s) (m := m) (b := e) (by omega) (by omega)
    have hch1 : Ch (fn xs) (fn ys) a b := by rw [he2]; exact hrot.wide (by omega) (by omega) (by omega)
    have hokw : ∀ (zs : List Int), Ch (fn xs) (fn zs) a b → ∀ j, a ≤ j → j < b → Okk (fn zs j) := fun zs hz j h1 h2 => by
      obtain ⟨q, q1, q2, q3⟩ := (hz.same _).1 (In.mk h1 h2)
      rw [← q3]; exact hok q q1 q2
    have ylo : ∀ j, j < s → fn ys j = fn xs j := fun j hj => by rw [he2]; exact hrot.out j (.inl hj)
    have yhi : ∀ j, e ≤ j → fn ys j = fn xs j := fun j hj => by rw [he2]; exact hrot.out j (.inr hj)
    have ym1 : ∀ j, s ≤ j → j < mid → fn ys j = fn xs (j - s + m) := fun j h1 h2 => by
      rw [he2]; unfold rot; rw [if_pos (by omega)]
    have ym2 : ∀ j, mid ≤ j → j < e → fn ys j = fn xs (j - (e - m)) := fun j h1 h2 => by
      rw [he2]; unfold rot; rw [if_neg (by omega), if_pos (by omega)]
    refine M.share_j (fun vals w3 => ∃ zs, GI w3 L v zs ∧ zs.length = xs.length ∧ Sg lt (fn zs) a mid ∧ Ch (fn ys) (fn zs) a mid ∧ Keep w' w3 L) ?_ ?_
    rotate_left
    · intro K2 hK2
      have sA : Sg lt (fn ys) a s := fun i j h1 h2 h3 => by rw [ylo i (by omega), ylo j h3]; exact hs1 i j h1 h2 (by omega)
      have sB : Sg lt (fn ys) s mid := fun i j h1 h2 h3 => by rw [ym1 i h1 (by omega), ym1 j (by omega) h3]; exact hs2 _ _ (by omega) (by omega) (by omega)
      by_cases hdo : a < s ∧ s < mid
      · have h1 := hdo.1; have h2 := hdo.2
        (repeat (first|refine ja ?_|refine jb ?_|refine jc ?_|refine jd ?_|refine je ?_|refine jf ?_|refine jg ?_|refine jh ?_|refine ji ?_|refine jj ?_|refine jk ?_|refine jl ?_|refine jm ?_|refine jn ?_|refine jo ?_|refine jp ?_|refine jq ?_|refine jr ?_|refine js ?_|refine jt ?_|refine ju ?_|refine jv ?_|refine jw ?_|refine jx ?_|refine jy ?_|refine jz ?_|refine jA ?_|refine jB ?_|refine jC ?_|refine jD ?_|refine jE ?_|refine jF ?_|refine jG ?_|refine jH ?_|refine jI ?_|refine jJ ?_|refine jK ?_|refine jL ?_|refine jM (by assumption) ?_|refine jN (by assumption) rfl ?_|refine jO (by assumption) ?_|refine jP (by assumption) rfl ?_|refine jQ ?_|refine jR ?_|refine jS ?_|refine jT ?_|refine jU (by assumption) rfl ?_))
        refine M.call_i (ih (a := a) (m := s) (b := mid) (by omega) g2 (by rw [hl2]; exact hf) (hIk _ _ hI k2) h1 h2 (by omega) (fun j q1 q2 => hokw ys hch1 j q1 (by omega)) sA sB (fun i j q1 q2 q3 q4 => ?_)) ?_
        · rw [ylo i q2, ym1 j q3 q4]; exact hcr _ _ q1 (by omega) (by omega) (by omega)
        rintro _ w3 ⟨rfl, zs, g3, hl3, hs3, hch3, k3⟩
        exact hK2 _ _ ⟨zs, g3, by omega, hs3, hch3, k2.trans k3 (fun _ _ h => h)⟩
      · have hsort : Sg lt (fn ys) a mid := by
          by_cases h1 : a < s
          · have h2 : s = mid := by
              have : ¬ s < mid := fun h2 => hdo ⟨h1, h2⟩
              omega
            rw [← h2]; exact sA
          · have h2 : s = a := by omega
            rw [← h2]; exact sB
        by_cases h1 : a < s
        · have h2 : ¬ s < mid := fun h2 => hdo ⟨h1, h2⟩
          (repeat (first|refine ja ?_|refine jb ?_|refine jc ?_|refine jd ?_|refine je ?_|refine jf ?_|refine jg ?_|refine jh ?_|refine ji ?_|refine jj ?_|refine jk ?_|refine jl ?_|refine jm ?_|refine jn ?_|refine jo ?_|refine jp ?_|refine jq ?_|refine jr ?_|refine js ?_|refine jt ?_|refine ju ?_|refine jv ?_|refine jw ?_|refine jx ?_|refine jy ?_|refine jz ?_|refine jA ?_|refine jB ?_|refine jC ?_|refine jD ?_|refine jE ?_|refine jF ?_|refine jG ?_|refine jH ?_|refine jI ?_|refine jJ ?_|refine jK ?_|refine jL ?_|refine jM (by assumption) ?_|refine jN (by assumption) rfl ?_|refine jO (by assumption) ?_|refine jP (by assumption) rfl ?_|refine jQ ?_|refine jR ?_|refine jS ?_|refine jT ?_|refine jU (by assumption) rfl ?_))
          exact hK2 _ _ ⟨ys, g2, hl2, hsort, Ch.refl _ _ _, k2⟩
        · (repeat (first|refine ja ?_|refine jb ?_|refine jc ?_|refine jd ?_|refine je ?_|refine jf ?_|refine jg ?_|refine jh ?_|refine ji ?_|refine jj ?_|refine jk ?_|refine jl ?_|refine jm ?_|refine jn ?_|refine jo ?_|refine jp ?_|refine jq ?_|refine jr ?_|refine js ?_|refine jt ?_|refine ju ?_|refine jv ?_|refine jw ?_|refine jx ?_|refine jy ?_|refine jz ?_|refine jA ?_|refine jB ?_|refine jC ?_|refine jD ?_|refine jE ?_|refine jF ?_|refine jG ?_|refine jH ?_|refine jI ?_|refine jJ ?_|refine jK ?_|refine jL ?_|refine jM (by assumption) ?_|refine jN (by assumption) rfl ?_|refine jO (by assumption) ?_|refine jP (by assumption) rfl ?_|refine jQ ?_|refine jR ?_|refine jS ?_|refine jT ?_|refine jU (by assumption) rfl ?_))
          exact hK2 _ _ ⟨ys, g2, hl2, hsort, Ch.refl _ _ _, k2⟩
    rintro vals w3 ⟨zs, g3, hl3, hs3, hch3, k3⟩ _
    have zhi : ∀ j, mid ≤ j → fn zs j = fn ys j := fun j hj => hch3.out j (.inr hj)
    have hch2 : Ch (fn xs) (fn zs) a b := hch1.trans (hch3.wide (Nat.le_refl _) (by omega) (by omega))
    have sA : Sg lt (fn zs) mid e := fun i j h1 h2 h3 => by rw [zhi i h1, zhi j (by omega), ym2 i h1 (by omega), ym2 j (by omega) h3]; exact hs1 _ _ (by omega) (by omega) (by omega)
    have sB : Sg lt (fn zs) e b := fun i j h1 h2 h3 => by rw [zhi i (by omega), zhi j (by omega), yhi i h1, yhi j (by omega)]; exact hs2 _ _ (by omega) h2 h3
    have fin : ∀ (us : List Int) (w4 : World), GI w4 L v us → us.length = xs.length → Sg lt (fn us) mid b → Ch (fn zs) (fn us) mid b → Keep w' w4 L → ∃ ys, GI w4 L v ys ∧ ys.length = xs.length ∧ Sg lt (fn ys) a b ∧ Ch (fn xs) (fn ys) a b ∧ Keep w' w4 L := fun us w4 g4 hl4 hs4 hch4 k4 => by
      have ulo : ∀ j, j < mid → fn us j = fn zs j := fun j hj => hch4.out j (.inl hj)
      refine ⟨us, g4, hl4, sg_join hw (c := mid) (hs3.congr (fun j _ hj => (ulo j hj).symm)) hs4 (fun x y hx hy => ?_), hch2.trans (hch4.wide (by omega) (Nat.le_refl _) (by omega)), k4⟩
      refine hpart x y ?_ ?_
      · have h1 := (In.congr (f := fn us) (g := fn zs) (a := a) (b := mid) (fun j _ hj => ulo j hj) x).1 hx
        have h2 := (hch3.same x).1 h1
        rw [he2] at h2; exact h2
      · have h1 := (hch4.same y).1 hy
        have h2 := (In.congr (f := fn zs) (g := fn ys) (a := mid) (b := b) (fun j hj _ => zhi j hj) y).1 h1
        rw [he2] at h2; exact h2
    by_cases hdo : mid < e ∧ e < b
    · have h1 := hdo.1; have h2 := hdo.2
      (repeat (first|refine ja ?_|refine jb ?_|refine jc ?_|refine jd ?_|refine je ?_|refine jf ?_|refine jg ?_|refine jh ?_|refine ji ?_|refine jj ?_|refine jk ?_|refine jl ?_|refine jm ?_|refine jn ?_|refine jo ?_|refine jp ?_|refine jq ?_|refine jr ?_|refine js ?_|refine jt ?_|refine ju ?_|refine jv ?_|refine jw ?_|refine jx ?_|refine jy ?_|refine jz ?_|refine jA ?_|refine jB ?_|refine jC ?_|refine jD ?_|refine jE ?_|refine jF ?_|refine jG ?_|refine jH ?_|refine jI ?_|refine jJ ?_|refine jK ?_|refine jL ?_|refine jM (by assumption) ?_|refine jN (by assumption) rfl ?_|refine jO (by assumption) ?_|refine jP (by assumption) rfl ?_|refine jQ ?_|refine jR ?_|refine jS ?_|refine jT ?_|refine jU (by assumption) rfl ?_))
      refine M.call_i (ih (a := mid) (m := e) (b := b) (by omega) g3 (by rw [hl3]; exact hf) (hIk _ _ hI k3) h1 h2 (by omega) (fun j q1 q2 => hokw zs hch2 j (by omega) q2) sA sB (fun i j q1 q2 q3 q4 => ?_)) ?_
      · rw [zhi i q1, zhi j (by omega), ym2 i q1 q2, yhi j q3]; exact hcr _ _ (by omega) (by omega) (by omega) q4
      rintro _ w4 ⟨rfl, us, g4, hl4, hs4, hch4, k4⟩
      exact ⟨by trivial, fin us w4 g4 (by omega) hs4 hch4 (k3.trans k4 (fun _ _ h => h))⟩
    · have hsort : Sg lt (fn zs) mid b := by
        by_cases h1 : mid < e
        · have h2 : e = b := by
            have : ¬ e < b := fun h2 => hdo ⟨h1, h2⟩
            omega
          rw [← h2]; exact sA
        · have h2 : e = mid := by omega
          rw [← h2]; exact sB
      by_cases h1 : mid < e
      · have h2 : ¬ e < b := fun h2 => hdo ⟨h1, h2⟩
        (repeat (first|refine ja ?_|refine jb ?_|refine jc ?_|refine jd ?_|refine je ?_|refine jf ?_|refine jg ?_|refine jh ?_|refine ji ?_|refine jj ?_|refine jk ?_|refine jl ?_|refine jm ?_|refine jn ?_|refine jo ?_|refine jp ?_|refine jq ?_|refine jr ?_|refine js ?_|refine jt ?_|refine ju ?_|refine jv ?_|refine jw ?_|refine jx ?_|refine jy ?_|refine jz ?_|refine jA ?_|refine jB ?_|refine jC ?_|refine jD ?_|refine jE ?_|refine jF ?_|refine jG ?_|refine jH ?_|refine jI ?_|refine jJ ?_|refine jK ?_|refine jL ?_|refine jM (by assumption) ?_|refine jN (by assumption) rfl ?_|refine jO (by assumption) ?_|refine jP (by assumption) rfl ?_|refine jQ ?_|refine jR ?_|refine jS ?_|refine jT ?_|refine jU (by assumption) rfl ?_))
        exact ⟨by trivial, fin zs w3 g3 hl3 hsort (Ch.refl _ _ _) k3⟩
      · (repeat (first|refine ja ?_|refine jb ?_|refine jc ?_|refine jd ?_|refine je ?_|refine jf ?_|refine jg ?_|refine jh ?_|refine ji ?_|refine jj ?_|refine jk ?_|refine jl ?_|refine jm ?_|refine jn ?_|refine jo ?_|refine jp ?_|refine jq ?_|refine jr ?_|refine js ?_|refine jt ?_|refine ju ?_|refine jv ?_|refine jw ?_|refine jx ?_|refine jy ?_|refine jz ?_|refine jA ?_|refine jB ?_|refine jC ?_|refine jD ?_|refine jE ?_|refine jF ?_|refine jG ?_|refine jH ?_|refine jI ?_|refine jJ ?_|refine jK ?_|refine jL ?_|refine jM (by assumption) ?_|refine jN (by assumption) rfl ?_|refine jO (by assumption) ?_|refine jP (by assumption) rfl ?_|refine jQ ?_|refine jR ?_|refine jS ?_|refine jT ?_|refine jU (by assumption) rfl ?_))
        exact ⟨by trivial, fin zs w3 g3 hl3 hsort (Ch.refl _ _ _) k3⟩
end
end Go.Proofs.Ythcfmfkigioaeaa
