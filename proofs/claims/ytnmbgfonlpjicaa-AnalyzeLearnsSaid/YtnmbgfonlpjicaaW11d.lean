import Derived.Test.YtnmbgfonlpjicaaW11c
namespace Go.Proofs.Ytnmbgfonlpjicaa
open Go.Mw Go.MapKept
set_option linter.unusedVariables false
set_option linter.unusedSimpArgs false
set_option maxRecDepth 100000
attribute [local irreducible] M.val M.unit M.next M.pick M.new M.nilCheck M.load1 M.loadA M.store M.fieldAddr M.indexSl M.indexArr M.slice M.makeSlice M.buildSlice M.len M.lenS M.cap M.append M.extract M.conv M.not M.neg M.bin M.shift M.eqB M.eqNil M.call M.callv M.gd M.share M.cond M.loop M.draw pureW readW Ret
/-! (*breakwater/watch.Watch).moved: function 52 -/
def sh52 (x0 x1 x2 x3 : Value) (R : Kt) (w : World) : Prop :=
  M.nilCheck x0 (fun t12 w =>
  M.fieldAddr 2 t12 (fun t13 w =>
  M.load1 t13 (fun t14 w =>
  readW Try.prog (Instr.lookup 61 t14 x2 false) (fun t16 w =>
  M.share (fun K1 w =>
  M.nilCheck t16 (fun t18 w =>
  M.fieldAddr 0 t18 (fun t19 w =>
  M.load1 t19 (fun t20 w =>
  M.indexSl 1 t20 (Value.int IntKind.i64 0) (fun t21 w =>
  M.load1 t21 (fun t22 w =>
  M.bin .eql t22 x3 (fun t24 w =>
  M.cond t24
  (M.draw (fun w =>
  M.nilCheck t16 (fun t26 w =>
  M.fieldAddr 0 t26 (fun t27 w =>
  M.load1 t27 (fun t28 w =>
  M.nilCheck t16 (fun t30 w =>
  M.fieldAddr 0 t30 (fun t31 w =>
  M.load1 t31 (fun t32 w =>
  M.nilCheck t16 (fun t34 w =>
  M.fieldAddr 0 t34 (fun t35 w =>
  M.load1 t35 (fun t36 w =>
  M.indexSl 1 t36 (Value.int IntKind.i64 1) (fun t37 w =>
  M.load1 t37 (fun t38 w =>
  M.nilCheck t16 (fun t40 w =>
  M.fieldAddr 0 t40 (fun t41 w =>
  M.load1 t41 (fun t42 w =>
  M.indexSl 1 t42 (Value.int IntKind.i64 0) (fun t43 w =>
  M.load1 t43 (fun t44 w =>
  M.indexSl 1 t28 (Value.int IntKind.i64 0) (fun t45 w =>
  M.store 1 t45 t38 (fun _ w =>
  M.indexSl 1 t32 (Value.int IntKind.i64 1) (fun t46 w =>
  M.store 1 t46 t44 (fun _ w =>
  K1 [] w) w) w) w) w) w) w) w) w) w) w) w) w) w) w) w) w) w) w) w) w) w)
  (K1 [] w)) w) w) w) w) w) w) (fun s1 w => ∀ _ : List Value,
  M.loop [(Value.int IntKind.i64 2)] (fun s2 K2 w => ∀ _ : List Value,
  M.nilCheck t16 (fun t49 w =>
  M.fieldAddr 0 t49 (fun t50 w =>
  M.load1 t50 (fun t51 w =>
  M.len t51 (fun t52 w =>
  M.bin .lss (s2.getD 0 undef) t52 (fun t53 w =>
  M.cond t53
  (M.nilCheck t16 (fun t58 w =>
  M.fieldAddr 0 t58 (fun t59 w =>
  M.load1 t59 (fun t60 w =>
  M.indexSl 1 t60 (s2.getD 0 undef) (fun t62 w =>
  M.load1 t62 (fun t63 w =>
  M.call Try.prog 38 #[x1, t63] (fun t64 w =>
  M.bin .geq t64 (Value.int IntKind.i64 0) (fun t65 w =>
  M.cond t65
  (M.draw (fun w =>
  M.nilCheck t16 (fun t67 w =>
  M.fieldAddr 0 t67 (fun t68 w =>
  M.load1 t68 (fun t69 w =>
  M.nilCheck t16 (fun t71 w =>
  M.fieldAddr 0 t71 (fun t72 w =>
  M.load1 t72 (fun t73 w =>
  M.nilCheck t16 (fun t76 w =>
  M.fieldAddr 0 t76 (fun t77 w =>
  M.load1 t77 (fun t78 w =>
  M.indexSl 1 t78 (s2.getD 0 undef) (fun t80 w =>
  M.load1 t80 (fun t81 w =>
  M.nilCheck t16 (fun t83 w =>
  M.fieldAddr 0 t83 (fun t84 w =>
  M.load1 t84 (fun t85 w =>
  M.indexSl 1 t85 (Value.int IntKind.i64 1) (fun t86 w =>
  M.load1 t86 (fun t87 w =>
  M.indexSl 1 t69 (Value.int IntKind.i64 1) (fun t88 w =>
  M.store 1 t88 t81 (fun _ w =>
  M.indexSl 1 t73 (s2.getD 0 undef) (fun t89 w =>
  M.store 1 t89 t87 (fun _ w =>
  M.draw (fun w =>
  M.nilCheck x0 (fun t91 w =>
  M.fieldAddr 3 t91 (fun t92 w =>
  M.load1 t92 (fun t93 w =>
  M.nilCheck t16 (fun t95 w =>
  M.fieldAddr 0 t95 (fun t96 w =>
  M.load1 t96 (fun t97 w =>
  M.indexSl 1 t97 (Value.int IntKind.i64 1) (fun t98 w =>
  M.load1 t98 (fun t99 w =>
  M.nilCheck x0 (fun t101 w =>
  M.fieldAddr 3 t101 (fun t102 w =>
  M.load1 t102 (fun t103 w =>
  M.nilCheck t16 (fun t105 w =>
  M.fieldAddr 0 t105 (fun t106 w =>
  M.load1 t106 (fun t107 w =>
  M.indexSl 1 t107 (Value.int IntKind.i64 1) (fun t108 w =>
  M.load1 t108 (fun t109 w =>
  M.indexSl 1 t103 t109 (fun t110 w =>
  M.load1 t110 (fun t111 w =>
  M.buildSlice 3 1 #[.int .i64 0] 1 [(0, x2)] (fun t113 w =>
  ((M.load1 t110 (fun v' _ => v' = t111) w) ∧ ((M.load1 t108 (fun v' _ => v' = t109) w) ∧ ((M.load1 t106 (fun v' _ => v' = t107) w) ∧ ((M.load1 t102 (fun v' _ => v' = t103) w) ∧ ((M.load1 t98 (fun v' _ => v' = t99) w) ∧ ((M.load1 t96 (fun v' _ => v' = t97) w) ∧ ((M.load1 t92 (fun v' _ => v' = t93) w) ∧ M.append 3 1 8 #[.int .i64 0] t111 t113 (fun t114 w =>
  ((M.load1 t108 (fun v' _ => v' = t109) w) ∧ ((M.load1 t106 (fun v' _ => v' = t107) w) ∧ ((M.load1 t102 (fun v' _ => v' = t103) w) ∧ ((M.load1 t98 (fun v' _ => v' = t99) w) ∧ ((M.load1 t96 (fun v' _ => v' = t97) w) ∧ ((M.load1 t92 (fun v' _ => v' = t93) w) ∧ M.indexSl 1 t93 t99 (fun t115 w =>
  M.store 1 t115 t114 (fun _ w =>
  R (Value.bool true) w) w) w))))))) w)))))))) w) w) w) w) w) w) w) w) w) w) w) w) w) w) w) w) w) w) w) w) w) w) w) w) w) w) w) w) w) w) w) w) w) w) w) w) w) w) w) w) w)
  (M.bin .add (s2.getD 0 undef) (Value.int IntKind.i64 1) (fun t55 w =>
  K2 [t55] w) w)) w) w) w) w) w) w) w)
  (R (Value.bool false) w)) w) w) w) w) w) w) w) w) w) w) w
theorem ok52 (x0 x1 x2 x3 : Value) (R : Kt) (w : World) (h : sh52 x0 x1 x2 x3 R w) : Ret Try.prog 52 #[x0, x1, x2, x3] w R :=
  ret_mk <| calls_of_comp mixed (c := Try.f52.body.getD .skip) (args := [x0, x1, x2, x3]) (rs := [(ResultVar.tmp 8)]) (Ann.seq Ann.text (Ann.seq Ann.text (Ann.join [] [17, 18, 19, 20, 21, 22, 23, 24, 25, 26, 27, 28, 29, 30, 31, 32, 33, 34, 35, 36, 37, 38, 39, 40, 41, 42, 43, 44, 45, 46] (Ann.seq Ann.text (Ann.cond (Ann.draw (Sch.take 0 (Sch.take 1 (Sch.take 2 (Sch.take 3 (Sch.take 4 (Sch.take 5 (Sch.take 6 (Sch.take 7 (Sch.take 8 (Sch.take 9 (Sch.take 10 (Sch.take 11 (Sch.take 12 (Sch.take 13 (Sch.take 14 (Sch.take 15 (Sch.take 16 (Sch.take 17 (Sch.take 18 (Sch.take 19 (Sch.take 20 (Sch.one 21 (Sch.take 22 (Sch.one 23 Sch.done))))))))))))))))))))))))) Ann.leaf)) (Ann.seq (Ann.seq Ann.text (Ann.block (Ann.loop [10] [8, 47, 48, 49, 50, 51, 52, 53, 54, 55, 56, 57, 58, 59, 60, 61, 62, 63, 64, 65, 66, 67, 68, 69, 70, 71, 72, 73, 74, 75, 76, 77, 78, 79, 80, 81, 82, 83, 84, 85, 86, 87, 88, 89, 90, 91, 92, 93, 94, 95, 96, 97, 98, 99, 100, 101, 102, 103, 104, 105, 106, 107, 108, 109, 110, 111, 112, 113, 114, 115] (Ann.seq (Ann.seq Ann.text (Ann.cond Ann.leaf Ann.leaf)) (Ann.seq (Ann.block (Ann.seq Ann.text (Ann.cond (Ann.seq (Ann.draw (Sch.take 0 (Sch.take 1 (Sch.take 2 (Sch.take 3 (Sch.take 4 (Sch.take 5 (Sch.take 6 (Sch.take 7 (Sch.take 8 (Sch.take 9 (Sch.take 10 (Sch.take 11 (Sch.take 12 (Sch.take 13 (Sch.take 14 (Sch.take 15 (Sch.take 16 (Sch.take 17 (Sch.take 18 (Sch.take 19 (Sch.take 20 (Sch.take 21 (Sch.take 22 (Sch.one 23 (Sch.take 24 (Sch.one 25 Sch.done))))))))))))))))))))))))))) (Ann.seq (Ann.draw (Sch.take 0 (Sch.take 1 (Sch.take 2 (Sch.take 3 (Sch.take 4 (Sch.take 5 (Sch.take 6 (Sch.take 7 (Sch.take 8 (Sch.take 9 (Sch.take 10 (Sch.take 11 (Sch.take 12 (Sch.take 13 (Sch.take 14 (Sch.take 15 (Sch.take 16 (Sch.take 17 (Sch.take 18 (Sch.take 19 (Sch.take 20 (Sch.take 21 (Sch.take 22 (Sch.one 23 (Sch.one 24 (Sch.take 25 (Sch.one 26 Sch.done)))))))))))))))))))))))))))) (Ann.seq Ann.text Ann.leaf))) Ann.leaf))) Ann.text))))) (Ann.seq Ann.text Ann.leaf)))))
    Try.func52 (by kernel_rfl) (by kernel_rfl)
    (Eq.mp (by kernel_rfl) h)

/-- What moved brings about. -/
inductive MovP (t : Tr) (s : Wt) (c : Wc) (a z : Int) (rest : List Int) : Value → Wt → Prop
  | yes (j : Nat) (y : Int) (hj : rest[j]? = some y) (hv : 0 ≤ t.val y) : MovP t s c a z rest (.bool true) { s.putC c.n (a :: y :: rest.set j z) c.whole with by1 := addBy s.by1 y c.n }
  | no (h : ∀ y ∈ rest, t.val y < 0) : MovP t s c a z rest (.bool false) (s.putC c.n (a :: z :: rest) c.whole)
section
variable {w w1 : World} {p q r : Nat} {lab ow bk : Nat → Nat} {cv : Nat → Value} {wv : Value} {t : Tr} {s : Wt} {vb vw1 vd : Value} {bvs : List Value} {O : Nat → Prop}
theorem GI.at0 {L : Nat → Prop} {v : Value} {b0 cap n : Nat} {xs : List Int} (g : GI w L v xs) (hv : v = .slice (some ⟨b0, 0, none⟩) n cap) {i : Nat} {x : Int} (hx : xs[i]? = some x) : w.cell? ⟨b0, i, none⟩ = some (vi x) := by
  obtain ⟨b3, cap3, tl3, e, _, hB, _⟩ := g.pos (by have := (List.getElem?_eq_some_iff.1 hx).1; omega)
  rw [hv] at e
  simp only [Value.slice.injEq, Option.some.injEq, Addr.mk.injEq, and_true] at e
  rw [e.1]
  exact hB.cell (by rw [List.getElem?_append_left (by rw [List.length_map]; exact (List.getElem?_eq_some_iff.1 hx).1), List.getElem?_map, hx]; rfl)
theorem M.at0_i {k : Kt} {L : Nat → Prop} {v : Value} {b0 cap n : Nat} {xs : List Int} (g : GI w L v xs) (hv : v = .slice (some ⟨b0, 0, none⟩) n cap) {i : Nat} {x : Int} (hx : xs[i]? = some x) (h : k (vi x) w) : M.indexSl 1 v (vi i) (fun t w => M.load1 t k w) w := by
  have hc := GI.at0 g hv hx
  obtain ⟨b3, cap3, tl3, e, _, hB, _⟩ := g.pos (by have := (List.getElem?_eq_some_iff.1 hx).1; omega)
  rw [hv] at e ⊢
  simp only [Value.slice.injEq] at e
  refine M.idx_i (by omega) (by have := (List.getElem?_eq_some_iff.1 hx).1; omega) ?_
  simp only [Nat.zero_add, Nat.mul_one, Int.toNat_natCast]
  exact M.load_i hc h
/-- Two elements change places. -/
theorem M.swap_i {k : World → Prop} {L : Nat → Prop} {v : Value} {xs : List Int} {i j : Nat} {x y : Int} (g : GI w L v xs) (hi : i < xs.length) (hj : j < xs.length)
    (h : ∀ w', GI w' L v ((xs.set i x).set j y) → Keep w w' L → k w') : M.indexSl 1 v (vi i) (fun t w => M.store 1 t (vi x) (fun _ w => M.indexSl 1 v (vi j) (fun t w => M.store 1 t (vi y) (fun _ w => k w) w) w) w) w := by
  refine M.idxStore_i g (by omega) (by omega) (fun w4 g4 k4 s4 => ?_)
  rw [Int.toNat_natCast] at g4
  refine M.idxStore_i (i := (j : Int)) (x := y) g4 (by omega) (by simp; omega) (fun w5 g5 k5 s5 => ?_)
  rw [Int.toNat_natCast] at g5
  exact h w5 g5 (k4.trans k5 (fun _ _ e => e))
set_option maxHeartbeats 1000000 in
theorem moved_ret (h : TWR w p q O bk cv wv t s) {c : Wc} (hg : s.get c.n = some c) {l0 l1 a z x : Int} {rest : List Int} (hl01 : c.lits = l0 :: l1 :: rest) (haz : (a, z) = if l0 = x then (l1, l0) else (l0, l1)) (hcl : c.lits.length ≤ 1000000) (hz : s.sz ≤ 1000000000) (hx : ∀ x ∈ c.lits, 0 ≤ x ∧ x < s.by1.length) :
    Ret Try.prog 52 #[ptr q, ptr p, vi c.n, vi x] w (fun v w' => ∃ s' O', MovP t s c a z rest v s' ∧ TWR w' p q O' bk cv wv t s' ∧ OMod w w' O O') := by
  obtain ⟨lab, ow, r, vb, vd, bvs, hT⟩ := id h
  have hB := hT.wb.st
  obtain ⟨hc, _⟩ := get_some hg
  obtain ⟨ho, hb, hl⟩ := hT.wb.one _ hc
  have hll : c.lits.length = rest.length + 2 := by rw [hl01]; rfl
  obtain ⟨b0, cap, tl0, hcv, hL0, hBl, hcap⟩ := hl.pos (by omega)
  rw [hl01] at hl
  refine ok52 _ _ _ _ _ _ ?_
  unfold sh52
  (repeat (first|refine ja ?_|refine jb ?_|refine jc ?_|refine jd ?_|refine je ?_|refine jf ?_|refine jg ?_|refine jh ?_|refine ji ?_|refine jj ?_|refine jk ?_|refine jl ?_|refine jm ?_|refine jn ?_|refine jo ?_|refine jp ?_|refine jq ?_|refine jr ?_|refine js ?_|refine jt ?_|refine ju ?_|refine jv ?_|refine jw ?_|refine jx ?_|refine jy ?_|refine jz ?_|refine jA ?_|refine jB ?_|refine jC ?_|refine jD ?_|refine jE ?_|refine jF ?_|refine jG ?_|refine jH ?_|refine jI ?_|refine jJ ?_|refine jK ?_|refine jL ?_|refine jM (by assumption) ?_|refine jN (by assumption) rfl ?_|refine jO (by assumption) ?_|refine jP (by assumption) rfl ?_|refine jQ ?_|refine jR ?_|refine jS ?_|refine jT ?_|refine jU (by assumption) rfl ?_))
  refine hT.wb.all_i _ ?_
  rw [hg]
  refine M.share_j (fun vals w' => GI w' (ow · = 8 + 3 * c.n) (cv c.n) (a :: z :: rest) ∧ Keep w w' (ow · = 8 + 3 * c.n)) ?_ ?_
  · rintro vals w1 ⟨g1, k1⟩ _
    refine M.loop_i (σ := Nat) (fun j vals w' => vals = [vi (j + 2 : Nat)] ∧ j ≤ rest.length ∧ (∀ (i : Nat) y, i < j → rest[i]? = some y → t.val y < 0) ∧ Keep w1 w' No) (fun j => rest.length - j) 0 ⟨rfl, by omega, fun i y hi => by omega, Keep.refl _ _⟩ ?_
    rintro j vals w2 K ⟨rfl, hj, hno, k2⟩ hK _
    simp only [List.getD_cons_zero, List.getD_cons_succ]
    have k02 := k1.trans k2 (fun _ _ e => e.elim)
    have hb2 := hb.keep k02 (by omega)
    have g2 := g1.keep k2 (fun _ _ _ e => e)
    have hoq := hT.wb.oq
    have ht2 := hT.tr.keep k02 (fun b _ e e2 => by have := hT.ap b e; omega)
    (repeat (first|refine ja ?_|refine jb ?_|refine jc ?_|refine jd ?_|refine je ?_|refine jf ?_|refine jg ?_|refine jh ?_|refine ji ?_|refine jj ?_|refine jk ?_|refine jl ?_|refine jm ?_|refine jn ?_|refine jo ?_|refine jp ?_|refine jq ?_|refine jr ?_|refine js ?_|refine jt ?_|refine ju ?_|refine jv ?_|refine jw ?_|refine jx ?_|refine jy ?_|refine jz ?_|refine jA ?_|refine jB ?_|refine jC ?_|refine jD ?_|refine jE ?_|refine jF ?_|refine jG ?_|refine jH ?_|refine jI ?_|refine jJ ?_|refine jK ?_|refine jL ?_|refine jM (by assumption) ?_|refine jN (by assumption) rfl ?_|refine jO (by assumption) ?_|refine jP (by assumption) rfl ?_|refine jQ ?_|refine jR ?_|refine jS ?_|refine jT ?_|refine jU (by assumption) rfl ?_))
    rw [hcv]
    (repeat (first|refine ja ?_|refine jb ?_|refine jc ?_|refine jd ?_|refine je ?_|refine jf ?_|refine jg ?_|refine jh ?_|refine ji ?_|refine jj ?_|refine jk ?_|refine jl ?_|refine jm ?_|refine jn ?_|refine jo ?_|refine jp ?_|refine jq ?_|refine jr ?_|refine js ?_|refine jt ?_|refine ju ?_|refine jv ?_|refine jw ?_|refine jx ?_|refine jy ?_|refine jz ?_|refine jA ?_|refine jB ?_|refine jC ?_|refine jD ?_|refine jE ?_|refine jF ?_|refine jG ?_|refine jH ?_|refine jI ?_|refine jJ ?_|refine jK ?_|refine jL ?_|refine jM (by assumption) ?_|refine jN (by assumption) rfl ?_|refine jO (by assumption) ?_|refine jP (by assumption) rfl ?_|refine jQ ?_|refine jR ?_|refine jS ?_|refine jT ?_|refine jU (by assumption) rfl ?_))
    by_cases hlt : j < rest.length
    · obtain ⟨y, hy⟩ : ∃ y, rest[j]? = some y := ⟨_, List.getElem?_eq_getElem hlt⟩
      (repeat (first|refine ja ?_|refine jb ?_|refine jc ?_|refine jd ?_|refine je ?_|refine jf ?_|refine jg ?_|refine jh ?_|refine ji ?_|refine jj ?_|refine jk ?_|refine jl ?_|refine jm ?_|refine jn ?_|refine jo ?_|refine jp ?_|refine jq ?_|refine jr ?_|refine js ?_|refine jt ?_|refine ju ?_|refine jv ?_|refine jw ?_|refine jx ?_|refine jy ?_|refine jz ?_|refine jA ?_|refine jB ?_|refine jC ?_|refine jD ?_|refine jE ?_|refine jF ?_|refine jG ?_|refine jH ?_|refine jI ?_|refine jJ ?_|refine jK ?_|refine jL ?_|refine jM (by assumption) ?_|refine jN (by assumption) rfl ?_|refine jO (by assumption) ?_|refine jP (by assumption) rfl ?_|refine jQ ?_|refine jR ?_|refine jS ?_|refine jT ?_|refine jU (by assumption) rfl ?_))
      refine M.at0_i (i := j + 2) g2 hcv (x := y) (by simpa using hy) ?_
      refine M.call_i (value_ret ht2 y) ?_; rintro _ w3 ⟨rfl, k3⟩
      have k03 := k02.trans k3 (fun _ _ e => e.elim)
      by_cases hv : 0 ≤ t.val y
      · (repeat (first|refine ja ?_|refine jb ?_|refine jc ?_|refine jd ?_|refine je ?_|refine jf ?_|refine jg ?_|refine jh ?_|refine ji ?_|refine jj ?_|refine jk ?_|refine jl ?_|refine jm ?_|refine jn ?_|refine jo ?_|refine jp ?_|refine jq ?_|refine jr ?_|refine js ?_|refine jt ?_|refine ju ?_|refine jv ?_|refine jw ?_|refine jx ?_|refine jy ?_|refine jz ?_|refine jA ?_|refine jB ?_|refine jC ?_|refine jD ?_|refine jE ?_|refine jF ?_|refine jG ?_|refine jH ?_|refine jI ?_|refine jJ ?_|refine jK ?_|refine jL ?_|refine jM (by assumption) ?_|refine jN (by assumption) rfl ?_|refine jO (by assumption) ?_|refine jP (by assumption) rfl ?_|refine jQ ?_|refine jR ?_|refine jS ?_|refine jT ?_|refine jU (by assumption) rfl ?_))
        have kd := Keep.drew w3 No
        have g3 := (g2.keep k3 (fun _ _ _ e => e)).keep kd (fun _ _ _ e => e)
        have k03 := k03.trans kd (fun _ _ e => e.elim)
        have hb3 := hb.keep k03 (by omega)
        generalize w3.drew = w4 at *
        (repeat (first|refine ja ?_|refine jb ?_|refine jc ?_|refine jd ?_|refine je ?_|refine jf ?_|refine jg ?_|refine jh ?_|refine ji ?_|refine jj ?_|refine jk ?_|refine jl ?_|refine jm ?_|refine jn ?_|refine jo ?_|refine jp ?_|refine jq ?_|refine jr ?_|refine js ?_|refine jt ?_|refine ju ?_|refine jv ?_|refine jw ?_|refine jx ?_|refine jy ?_|refine jz ?_|refine jA ?_|refine jB ?_|refine jC ?_|refine jD ?_|refine jE ?_|refine jF ?_|refine jG ?_|refine jH ?_|refine jI ?_|refine jJ ?_|refine jK ?_|refine jL ?_|refine jM (by assumption) ?_|refine jN (by assumption) rfl ?_|refine jO (by assumption) ?_|refine jP (by assumption) rfl ?_|refine jQ ?_|refine jR ?_|refine jS ?_|refine jT ?_|refine jU (by assumption) rfl ?_))
        refine M.at0_i (i := j + 2) g3 hcv (x := y) (by simpa using hy) ?_
        (repeat (first|refine ja ?_|refine jb ?_|refine jc ?_|refine jd ?_|refine je ?_|refine jf ?_|refine jg ?_|refine jh ?_|refine ji ?_|refine jj ?_|refine jk ?_|refine jl ?_|refine jm ?_|refine jn ?_|refine jo ?_|refine jp ?_|refine jq ?_|refine jr ?_|refine js ?_|refine jt ?_|refine ju ?_|refine jv ?_|refine jw ?_|refine jx ?_|refine jy ?_|refine jz ?_|refine jA ?_|refine jB ?_|refine jC ?_|refine jD ?_|refine jE ?_|refine jF ?_|refine jG ?_|refine jH ?_|refine jI ?_|refine jJ ?_|refine jK ?_|refine jL ?_|refine jM (by assumption) ?_|refine jN (by assumption) rfl ?_|refine jO (by assumption) ?_|refine jP (by assumption) rfl ?_|refine jQ ?_|refine jR ?_|refine jS ?_|refine jT ?_|refine jU (by assumption) rfl ?_))
        refine M.at0_i (i := 1) g3 hcv (x := z) rfl ?_
        refine M.swap_i (i := 1) (j := j + 2) g3 (by simp) (by simp; omega) (fun w5 g5 k5 => ?_)
        have k05 := k03.trans k5 (fun _ _ e => e)
        have hb5 := hb.keep k05 (by omega)
        have e5 : ((a :: z :: rest).set 1 y).set (j + 2) z = a :: y :: rest.set j z := rfl
        rw [e5] at g5
        have wb5 := hT.wb.setOne (w1 := w5) (n := c.n) (lits := a :: y :: rest.set j z) (wh := c.whole) (k05.mono (fun _ _ e => .inr e)) ho hb5 g5
        obtain ⟨O5, hT5, m5⟩ := hT.setW (k05.mono (fun b _ e => by show ow b ≠ 0; omega)) wb5 (fun b _ e => e)
        have kd2 := Keep.drew w5 No
        have hT5 := hT5.keep kd2
        have m5 := m5.trans (OMod.of kd2)
        have g5 := g5.keep kd2 (fun _ _ _ e => e)
        have hb5 := hb5.keep kd2 (fun e => e)
        (repeat (first|refine ja ?_|refine jb ?_|refine jc ?_|refine jd ?_|refine je ?_|refine jf ?_|refine jg ?_|refine jh ?_|refine ji ?_|refine jj ?_|refine jk ?_|refine jl ?_|refine jm ?_|refine jn ?_|refine jo ?_|refine jp ?_|refine jq ?_|refine jr ?_|refine js ?_|refine jt ?_|refine ju ?_|refine jv ?_|refine jw ?_|refine jx ?_|refine jy ?_|refine jz ?_|refine jA ?_|refine jB ?_|refine jC ?_|refine jD ?_|refine jE ?_|refine jF ?_|refine jG ?_|refine jH ?_|refine jI ?_|refine jJ ?_|refine jK ?_|refine jL ?_|refine jM (by assumption) ?_|refine jN (by assumption) rfl ?_|refine jO (by assumption) ?_|refine jP (by assumption) rfl ?_|refine jQ ?_|refine jR ?_|refine jS ?_|refine jT ?_|refine jU (by assumption) rfl ?_))
        generalize w5.drew = w6 at *
        have hB6 := hT5.wb.st
        have hyx := hx y (by rw [hl01]; have := List.mem_of_getElem? hy; simp only [List.mem_cons] at haz ⊢; exact .inr (.inr this))
        obtain ⟨yn, rfl⟩ := Int.eq_ofNat_of_zero_le hyx.1
        have hc1 := GI.at0 g5 hcv (i := 1) rfl
        (repeat (first|refine ja ?_|refine jb ?_|refine jc ?_|refine jd ?_|refine je ?_|refine jf ?_|refine jg ?_|refine jh ?_|refine ji ?_|refine jj ?_|refine jk ?_|refine jl ?_|refine jm ?_|refine jn ?_|refine jo ?_|refine jp ?_|refine jq ?_|refine jr ?_|refine js ?_|refine jt ?_|refine ju ?_|refine jv ?_|refine jw ?_|refine jx ?_|refine jy ?_|refine jz ?_|refine jA ?_|refine jB ?_|refine jC ?_|refine jD ?_|refine jE ?_|refine jF ?_|refine jG ?_|refine jH ?_|refine jI ?_|refine jJ ?_|refine jK ?_|refine jL ?_|refine jM (by assumption) ?_|refine jN (by assumption) rfl ?_|refine jO (by assumption) ?_|refine jP (by assumption) rfl ?_|refine jQ ?_|refine jR ?_|refine jS ?_|refine jT ?_|refine jU (by assumption) rfl ?_))
        have hi1 : ∀ {k : Kt} {w' : World}, k (.pointer (some ⟨b0, 1, none⟩)) w' → M.indexSl 1 (cv c.n) (Value.int IntKind.i64 1) k w' := fun {k w'} hk => by
          rw [hcv]
          refine M.idx_i (by omega) (by omega) ?_
          exact hk
        refine hi1 ?_
        (repeat (first|refine ja ?_|refine jb ?_|refine jc ?_|refine jd ?_|refine je ?_|refine jf ?_|refine jg ?_|refine jh ?_|refine ji ?_|refine jj ?_|refine jk ?_|refine jl ?_|refine jm ?_|refine jn ?_|refine jo ?_|refine jp ?_|refine jq ?_|refine jr ?_|refine js ?_|refine jt ?_|refine ju ?_|refine jv ?_|refine jw ?_|refine jx ?_|refine jy ?_|refine jz ?_|refine jA ?_|refine jB ?_|refine jC ?_|refine jD ?_|refine jE ?_|refine jF ?_|refine jG ?_|refine jH ?_|refine jI ?_|refine jJ ?_|refine jK ?_|refine jL ?_|refine jM (by assumption) ?_|refine jN (by assumption) rfl ?_|refine jO (by assumption) ?_|refine jP (by assumption) rfl ?_|refine jQ ?_|refine jR ?_|refine jS ?_|refine jT ?_|refine jU (by assumption) rfl ?_))
        refine hi1 ?_
        (repeat (first|refine ja ?_|refine jb ?_|refine jc ?_|refine jd ?_|refine je ?_|refine jf ?_|refine jg ?_|refine jh ?_|refine ji ?_|refine jj ?_|refine jk ?_|refine jl ?_|refine jm ?_|refine jn ?_|refine jo ?_|refine jp ?_|refine jq ?_|refine jr ?_|refine js ?_|refine jt ?_|refine ju ?_|refine jv ?_|refine jw ?_|refine jx ?_|refine jy ?_|refine jz ?_|refine jA ?_|refine jB ?_|refine jC ?_|refine jD ?_|refine jE ?_|refine jF ?_|refine jG ?_|refine jH ?_|refine jI ?_|refine jJ ?_|refine jK ?_|refine jL ?_|refine jM (by assumption) ?_|refine jN (by assumption) rfl ?_|refine jO (by assumption) ?_|refine jP (by assumption) rfl ?_|refine jQ ?_|refine jR ?_|refine jS ?_|refine jT ?_|refine jU (by assumption) rfl ?_))
        refine M.byAt_i hT5.wb (x := yn) (by show yn < s.by1.length; omega) (fun bb v l hob hbv hbl hgl hcell4 => ?_)
        (repeat (first|refine ja ?_|refine jb ?_|refine jc ?_|refine jd ?_|refine je ?_|refine jf ?_|refine jg ?_|refine jh ?_|refine ji ?_|refine jj ?_|refine jk ?_|refine jl ?_|refine jm ?_|refine jn ?_|refine jo ?_|refine jp ?_|refine jq ?_|refine jr ?_|refine js ?_|refine jt ?_|refine ju ?_|refine jv ?_|refine jw ?_|refine jx ?_|refine jy ?_|refine jz ?_|refine jA ?_|refine jB ?_|refine jC ?_|refine jD ?_|refine jE ?_|refine jF ?_|refine jG ?_|refine jH ?_|refine jI ?_|refine jJ ?_|refine jK ?_|refine jL ?_|refine jM (by assumption) ?_|refine jN (by assumption) rfl ?_|refine jO (by assumption) ?_|refine jP (by assumption) rfl ?_|refine jQ ?_|refine jR ?_|refine jS ?_|refine jT ?_|refine jU (by assumption) rfl ?_))
        refine M.buildSlice_i [vi c.n] (by kernel_rfl) (fun w7 b7 k7 s7 => ?_)
        have hT7 := hT5.keep k7
        have hB7 := hT7.wb.st
        have hb7 := hb5.keep k7 (fun e => e)
        have hcell7 := k7.cell (fun e => e) hcell4
        have hc17 := k7.cell (fun e => e) hc1
        (repeat (first|refine ja ?_|refine jb ?_|refine jc ?_|refine jd ?_|refine je ?_|refine jf ?_|refine jg ?_|refine jh ?_|refine ji ?_|refine jj ?_|refine jk ?_|refine jl ?_|refine jm ?_|refine jn ?_|refine jo ?_|refine jp ?_|refine jq ?_|refine jr ?_|refine js ?_|refine jt ?_|refine ju ?_|refine jv ?_|refine jw ?_|refine jx ?_|refine jy ?_|refine jz ?_|refine jA ?_|refine jB ?_|refine jC ?_|refine jD ?_|refine jE ?_|refine jF ?_|refine jG ?_|refine jH ?_|refine jI ?_|refine jJ ?_|refine jK ?_|refine jL ?_|refine jM (by assumption) ?_|refine jN (by assumption) rfl ?_|refine jO (by assumption) ?_|refine jP (by assumption) rfl ?_|refine jQ ?_|refine jR ?_|refine jS ?_|refine jT ?_|refine jU (by assumption) rfl ?_))
        have hll := sz_by hbl
        have hsz : Wt.sz { s with cls := setC s.cls c.n (fun c_1 => { c_1 with lits := a :: (yn : Int) :: rest.set j z, whole := c.whole }) } = s.sz := rfl
        have hlb : l.length ≤ 1000000000000 := by omega
        refine M.append1_i (GC.keep hgl k7 (fun _ _ _ e => e)) (Row.of_blk' (D := fun _ => True) b7 trivial) rfl hlb (fun v8 w8 g8 k8 => ?_)
        have hB8 := hB7.keep k8 (by have := hT5.wb.oq; omega)
        have hb8 := hb7.keep k8 (by omega)
        have hc18 := k8.cell (show ¬ ow b0 = 6 + 3 * yn by have hL0 : ow b0 = 8 + 3 * c.n := hL0; omega) hc17
        (repeat (first|refine ja ?_|refine jb ?_|refine jc ?_|refine jd ?_|refine je ?_|refine jf ?_|refine jg ?_|refine jh ?_|refine ji ?_|refine jj ?_|refine jk ?_|refine jl ?_|refine jm ?_|refine jn ?_|refine jo ?_|refine jp ?_|refine jq ?_|refine jr ?_|refine js ?_|refine jt ?_|refine ju ?_|refine jv ?_|refine jw ?_|refine jx ?_|refine jy ?_|refine jz ?_|refine jA ?_|refine jB ?_|refine jC ?_|refine jD ?_|refine jE ?_|refine jF ?_|refine jG ?_|refine jH ?_|refine jI ?_|refine jJ ?_|refine jK ?_|refine jL ?_|refine jM (by assumption) ?_|refine jN (by assumption) rfl ?_|refine jO (by assumption) ?_|refine jP (by assumption) rfl ?_|refine jQ ?_|refine jR ?_|refine jS ?_|refine jT ?_|refine jU (by assumption) rfl ?_))
        refine hT7.byStore_i (by show yn < s.by1.length; omega) g8 (fun b e => e) k8 (fun w9 O9 h9 m9 => ?_)
        refine ⟨_, O9, .yes j yn hy hv, ?_, m5.trans ((OMod.of (O := O5) k7).trans m9)⟩
        have e : addBy s.by1 yn c.n = s.by1.set yn (l ++ [(c.n : Int)]) := by
          unfold addBy
          rw [Int.toNat_natCast, getD_of hbl]
        unfold Wt.putC
        rw [e]
        exact h9
      · (repeat (first|refine ja ?_|refine jb ?_|refine jc ?_|refine jd ?_|refine je ?_|refine jf ?_|refine jg ?_|refine jh ?_|refine ji ?_|refine jj ?_|refine jk ?_|refine jl ?_|refine jm ?_|refine jn ?_|refine jo ?_|refine jp ?_|refine jq ?_|refine jr ?_|refine js ?_|refine jt ?_|refine ju ?_|refine jv ?_|refine jw ?_|refine jx ?_|refine jy ?_|refine jz ?_|refine jA ?_|refine jB ?_|refine jC ?_|refine jD ?_|refine jE ?_|refine jF ?_|refine jG ?_|refine jH ?_|refine jI ?_|refine jJ ?_|refine jK ?_|refine jL ?_|refine jM (by assumption) ?_|refine jN (by assumption) rfl ?_|refine jO (by assumption) ?_|refine jP (by assumption) rfl ?_|refine jQ ?_|refine jR ?_|refine jS ?_|refine jT ?_|refine jU (by assumption) rfl ?_))
        refine hK (j + 1) _ _ (by omega) ⟨by simp only [List.cons.injEq, Value.int.injEq, true_and, and_true]; omega, by omega, fun i y' hi hy' => ?_, k2.trans k3 (fun _ _ e => e)⟩
        by_cases e : i = j
        · subst e
          rw [hy] at hy'; cases hy'; omega
        · exact hno i y' (by omega) hy'
    · (repeat (first|refine ja ?_|refine jb ?_|refine jc ?_|refine jd ?_|refine je ?_|refine jf ?_|refine jg ?_|refine jh ?_|refine ji ?_|refine jj ?_|refine jk ?_|refine jl ?_|refine jm ?_|refine jn ?_|refine jo ?_|refine jp ?_|refine jq ?_|refine jr ?_|refine js ?_|refine jt ?_|refine ju ?_|refine jv ?_|refine jw ?_|refine jx ?_|refine jy ?_|refine jz ?_|refine jA ?_|refine jB ?_|refine jC ?_|refine jD ?_|refine jE ?_|refine jF ?_|refine jG ?_|refine jH ?_|refine jI ?_|refine jJ ?_|refine jK ?_|refine jL ?_|refine jM (by assumption) ?_|refine jN (by assumption) rfl ?_|refine jO (by assumption) ?_|refine jP (by assumption) rfl ?_|refine jQ ?_|refine jR ?_|refine jS ?_|refine jT ?_|refine jU (by assumption) rfl ?_))
      have wb2 := hT.wb.setOne (w1 := w2) (n := c.n) (lits := a :: z :: rest) (wh := c.whole) (k02.mono (fun _ _ e => .inr e)) ho hb2 g2
      obtain ⟨O2, hT2, m2⟩ := hT.setW (k02.mono (fun b _ e => by show ow b ≠ 0; omega)) wb2 (fun b _ e => e)
      exact ⟨_, O2, .no (fun y hy => by
        obtain ⟨i, hi⟩ := List.mem_iff_getElem?.1 hy
        exact hno i y (by have := (List.getElem?_eq_some_iff.1 hi).1; omega) hi), ⟨_, _, _, _, _, _, hT2⟩, m2⟩
  · intro K hK
    (repeat (first|refine ja ?_|refine jb ?_|refine jc ?_|refine jd ?_|refine je ?_|refine jf ?_|refine jg ?_|refine jh ?_|refine ji ?_|refine jj ?_|refine jk ?_|refine jl ?_|refine jm ?_|refine jn ?_|refine jo ?_|refine jp ?_|refine jq ?_|refine jr ?_|refine js ?_|refine jt ?_|refine ju ?_|refine jv ?_|refine jw ?_|refine jx ?_|refine jy ?_|refine jz ?_|refine jA ?_|refine jB ?_|refine jC ?_|refine jD ?_|refine jE ?_|refine jF ?_|refine jG ?_|refine jH ?_|refine jI ?_|refine jJ ?_|refine jK ?_|refine jL ?_|refine jM (by assumption) ?_|refine jN (by assumption) rfl ?_|refine jO (by assumption) ?_|refine jP (by assumption) rfl ?_|refine jQ ?_|refine jR ?_|refine jS ?_|refine jT ?_|refine jU (by assumption) rfl ?_))
    refine M.at0_i (i := 0) hl hcv rfl ?_
    by_cases e : l0 = x
    · rw [if_pos e] at haz
      simp only [Prod.mk.injEq] at haz
      obtain ⟨rfl, rfl⟩ := haz
      subst e
      (repeat (first|refine ja ?_|refine jb ?_|refine jc ?_|refine jd ?_|refine je ?_|refine jf ?_|refine jg ?_|refine jh ?_|refine ji ?_|refine jj ?_|refine jk ?_|refine jl ?_|refine jm ?_|refine jn ?_|refine jo ?_|refine jp ?_|refine jq ?_|refine jr ?_|refine js ?_|refine jt ?_|refine ju ?_|refine jv ?_|refine jw ?_|refine jx ?_|refine jy ?_|refine jz ?_|refine jA ?_|refine jB ?_|refine jC ?_|refine jD ?_|refine jE ?_|refine jF ?_|refine jG ?_|refine jH ?_|refine jI ?_|refine jJ ?_|refine jK ?_|refine jL ?_|refine jM (by assumption) ?_|refine jN (by assumption) rfl ?_|refine jO (by assumption) ?_|refine jP (by assumption) rfl ?_|refine jQ ?_|refine jR ?_|refine jS ?_|refine jT ?_|refine jU (by assumption) rfl ?_))
      have kd := Keep.drew w No
      have hl2 := hl.keep kd (fun _ _ _ e => e)
      have hb2 := hb.keep kd (fun e => e)
      generalize w.drew = w2 at *
      (repeat (first|refine ja ?_|refine jb ?_|refine jc ?_|refine jd ?_|refine je ?_|refine jf ?_|refine jg ?_|refine jh ?_|refine ji ?_|refine jj ?_|refine jk ?_|refine jl ?_|refine jm ?_|refine jn ?_|refine jo ?_|refine jp ?_|refine jq ?_|refine jr ?_|refine js ?_|refine jt ?_|refine ju ?_|refine jv ?_|refine jw ?_|refine jx ?_|refine jy ?_|refine jz ?_|refine jA ?_|refine jB ?_|refine jC ?_|refine jD ?_|refine jE ?_|refine jF ?_|refine jG ?_|refine jH ?_|refine jI ?_|refine jJ ?_|refine jK ?_|refine jL ?_|refine jM (by assumption) ?_|refine jN (by assumption) rfl ?_|refine jO (by assumption) ?_|refine jP (by assumption) rfl ?_|refine jQ ?_|refine jR ?_|refine jS ?_|refine jT ?_|refine jU (by assumption) rfl ?_))
      refine M.at0_i (i := 1) hl2 hcv rfl ?_
      (repeat (first|refine ja ?_|refine jb ?_|refine jc ?_|refine jd ?_|refine je ?_|refine jf ?_|refine jg ?_|refine jh ?_|refine ji ?_|refine jj ?_|refine jk ?_|refine jl ?_|refine jm ?_|refine jn ?_|refine jo ?_|refine jp ?_|refine jq ?_|refine jr ?_|refine js ?_|refine jt ?_|refine ju ?_|refine jv ?_|refine jw ?_|refine jx ?_|refine jy ?_|refine jz ?_|refine jA ?_|refine jB ?_|refine jC ?_|refine jD ?_|refine jE ?_|refine jF ?_|refine jG ?_|refine jH ?_|refine jI ?_|refine jJ ?_|refine jK ?_|refine jL ?_|refine jM (by assumption) ?_|refine jN (by assumption) rfl ?_|refine jO (by assumption) ?_|refine jP (by assumption) rfl ?_|refine jQ ?_|refine jR ?_|refine jS ?_|refine jT ?_|refine jU (by assumption) rfl ?_))
      refine M.at0_i (i := 0) hl2 hcv rfl ?_
      refine M.swap_i (i := 0) (j := 1) hl2 (by simp) (by simp) (fun w3 g3 k3 => ?_)
      exact hK _ _ ⟨g3, (kd.mono (fun _ _ e => e.elim)).trans k3 (fun _ _ e => e)⟩
    · rw [if_neg e] at haz
      simp only [Prod.mk.injEq] at haz
      obtain ⟨rfl, rfl⟩ := haz
      (repeat (first|refine ja ?_|refine jb ?_|refine jc ?_|refine jd ?_|refine je ?_|refine jf ?_|refine jg ?_|refine jh ?_|refine ji ?_|refine jj ?_|refine jk ?_|refine jl ?_|refine jm ?_|refine jn ?_|refine jo ?_|refine jp ?_|refine jq ?_|refine jr ?_|refine js ?_|refine jt ?_|refine ju ?_|refine jv ?_|refine jw ?_|refine jx ?_|refine jy ?_|refine jz ?_|refine jA ?_|refine jB ?_|refine jC ?_|refine jD ?_|refine jE ?_|refine jF ?_|refine jG ?_|refine jH ?_|refine jI ?_|refine jJ ?_|refine jK ?_|refine jL ?_|refine jM (by assumption) ?_|refine jN (by assumption) rfl ?_|refine jO (by assumption) ?_|refine jP (by assumption) rfl ?_|refine jQ ?_|refine jR ?_|refine jS ?_|refine jT ?_|refine jU (by assumption) rfl ?_))
      exact hK _ _ ⟨hl, Keep.refl _ _⟩
end
end Go.Proofs.Ytnmbgfonlpjicaa
