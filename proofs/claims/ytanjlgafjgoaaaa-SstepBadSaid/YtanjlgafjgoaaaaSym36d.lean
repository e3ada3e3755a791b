import Derived.Test.YtanjlgafjgoaaaaSym36c
namespace Go.Proofs.Ytanjlgafjgoaaaa
open Go.Mw Go.Maps Go.MapKept
set_option linter.unusedVariables false
set_option linter.unusedSimpArgs false
set_option maxRecDepth 100000
attribute [local irreducible] M.val M.unit M.next M.pick M.new M.nilCheck M.load1 M.loadA M.store M.fieldAddr M.indexSl M.indexArr M.slice M.makeSlice M.buildSlice M.len M.lenS M.cap M.append M.extract M.conv M.not M.neg M.bin M.shift M.eqB M.eqNil M.scat M.call M.callv M.gd M.share M.cond M.loop M.draw pureW readW Ret
/-! breakwater/sym.Device: function 8 -/
def sh8 (x0 x1 : Value) (R : Kt) (w : World) : Prop :=
  M.new 37 #[.slice none 0 0, .slice none 0 0, .int .i64 0] (fun t4 w =>
  M.new 37 #[.slice none 0 0, .slice none 0 0, .int .i64 0] (fun t6 w =>
  M.len x1 (fun t12 w =>
  M.loop [(Value.int IntKind.i64 0)] (fun s1 K1 w => ∀ _ : List Value,
  M.bin .lss (s1.getD 0 undef) t12 (fun t14 w =>
  M.cond t14
  (M.indexSl 1 x1 (s1.getD 0 undef) (fun t15 w =>
  M.load1 t15 (fun t16 w =>
  M.call Try.prog 7 #[x0, (Value.int IntKind.i64 64), t16] (fun t20 w =>
  M.extract 0 t20 (fun t21 w =>
  M.extract 1 t20 (fun t22 w =>
  M.bin .neq t22 (Value.int IntKind.i64 0) (fun t24 w =>
  M.cond t24
  (pureW Try.prog (Instr.build 37 #[]) (fun t25 w =>
  M.store 3 t4 t25 (fun _ w =>
  M.loadA 3 t4 (fun r0 w => R (.tuple #[r0, t22]) w) w) w) w)
  (M.fieldAddr 0 t6 (fun t27 w =>
  M.load1 t27 (fun t28 w =>
  M.buildSlice 3 1 #[.int .i64 0] 1 [(0, t21)] (fun t30 w =>
  M.append 3 1 8 #[.int .i64 0] t28 t30 (fun t31 w =>
  M.fieldAddr 0 t6 (fun t32 w =>
  M.store 1 t32 t31 (fun _ w =>
  M.bin .add (s1.getD 0 undef) (Value.int IntKind.i64 1) (fun t33 w =>
  K1 [t33] w) w) w) w) w) w) w) w)) w) w) w) w) w) w)
  (M.loadA 3 t6 (fun t34 w =>
  M.store 3 t4 t34 (fun _ w =>
  M.loadA 3 t4 (fun r0 w => R (.tuple #[r0, (Value.int IntKind.i64 0)]) w) w) w) w)) w) w) w) w) w
theorem ok8 (x0 x1 : Value) (R : Kt) (w : World) (h : sh8 x0 x1 R w) : Ret Try.prog 8 #[x0, x1] w R :=
  ret_mk <| calls_of_comp mixed (c := Try.f8.body.getD .skip) (args := [x0, x1]) (rs := [(ResultVar.cell 4 37), (ResultVar.tmp 5)]) (Ann.seq Ann.text (Ann.seq Ann.text (Ann.seq (Ann.seq Ann.text (Ann.block (Ann.loop [13] [5, 8, 9, 10, 14, 15, 16, 17, 18, 19, 20, 21, 22, 23, 24, 25, 26, 27, 28, 29, 30, 31, 32, 33] (Ann.seq Ann.text (Ann.seq (Ann.cond Ann.leaf Ann.leaf) (Ann.seq (Ann.block (Ann.seq Ann.text (Ann.seq Ann.text (Ann.seq (Ann.seq Ann.text (Ann.cond (Ann.seq Ann.text Ann.leaf) Ann.leaf)) Ann.text)))) Ann.text)))))) (Ann.seq Ann.text Ann.leaf))))
    Try.func8 (by kernel_rfl) (by kernel_rfl)
    (Eq.mp (by kernel_rfl) h)
/-! breakwater/sym.Start: function 9 -/
def sh9 (x0 x1 x2 x3 : Value) (R : Kt) (w : World) : Prop :=
  M.new 37 (Value.cells x1) (fun t5 w =>
  M.new 42 #[.int .i64 0, .int .i64 0, .int .i64 0, .int .i64 0, .int .i64 0, .int .i64 0, .int .i64 0, .int .i64 0, .slice none 0 0, .int .i64 0, .int .i64 0, .int .i64 0, .int .i64 0, .int .i64 0, .int .i64 0, .slice none 0 0, .slice none 0 0, .int .i64 0, .slice none 0 0] (fun t8 w =>
  M.call Try.prog 7 #[x0, (Value.int IntKind.i64 64), (Value.int IntKind.u64 0)] (fun t17 w =>
  M.extract 0 t17 (fun t18 w =>
  M.extract 1 t17 (fun t19 w =>
  M.bin .neq t19 (Value.int IntKind.i64 0) (fun t21 w =>
  M.cond t21
  (pureW Try.prog (Instr.build 42 #[]) (fun t22 w =>
  M.store 19 t8 t22 (fun _ w =>
  M.loadA 19 t8 (fun r0 w => R (.tuple #[r0, t19]) w) w) w) w)
  (M.share (fun K1 w =>
  M.bin .lss x2 (Value.int IntKind.i64 0) (fun t25 w =>
  M.gd t25 false (fun k w => k x2 w) (fun t27 w =>
  M.gd t25 false (fun k w => M.bin .gtr t27 (Value.int IntKind.i64 255) k w) (fun t28 w =>
  M.pick t25 (Value.bool true) t28 (fun t29 w =>
  M.cond t29
  (K1 [(Value.int IntKind.i64 0)] w)
  (K1 [x2] w)) w) w) w) w) (fun s1 w => ∀ _ : List Value,
  M.share (fun K2 w =>
  M.draw (fun w =>
  M.loadA 3 t5 (fun t32 w =>
  ((M.makeSlice 3 1 8 #[.int .i64 0] (s1.getD 0 undef) (s1.getD 0 undef) (fun t31 w =>
  ((M.loadA 3 t5 (fun v' _ => v' = t32) w) ∧ pureW Try.prog (Instr.build 42 #[(1, t31), (7, (Value.int IntKind.i64 (-1))), (8, t32), (9, x3)]) (fun t34 w =>
  M.new 42 #[.int .i64 0, .int .i64 0, .int .i64 0, .int .i64 0, .int .i64 0, .int .i64 0, .int .i64 0, .int .i64 0, .slice none 0 0, .int .i64 0, .int .i64 0, .int .i64 0, .int .i64 0, .int .i64 0, .int .i64 0, .slice none 0 0, .slice none 0 0, .int .i64 0, .slice none 0 0] (fun t12 w =>
  ((M.loadA 3 t5 (fun v' _ => v' = t32) w) ∧ M.store 19 t12 t34 (fun _ w =>
  K2 [t12] w) w)) w) w)) w) ∧
   (M.new 42 #[.int .i64 0, .int .i64 0, .int .i64 0, .int .i64 0, .int .i64 0, .int .i64 0, .int .i64 0, .int .i64 0, .slice none 0 0, .int .i64 0, .int .i64 0, .int .i64 0, .int .i64 0, .int .i64 0, .int .i64 0, .slice none 0 0, .slice none 0 0, .int .i64 0, .slice none 0 0] (fun t12_2 w =>
  ((M.loadA 3 t5 (fun v' _ => v' = t32) w) ∧ M.makeSlice 3 1 8 #[.int .i64 0] (s1.getD 0 undef) (s1.getD 0 undef) (fun t31_2 w =>
  ((M.loadA 3 t5 (fun v' _ => v' = t32) w) ∧ pureW Try.prog (Instr.build 42 #[(1, t31_2), (7, (Value.int IntKind.i64 (-1))), (8, t32), (9, x3)]) (fun t34_2 w =>
  M.store 19 t12_2 t34_2 (fun _ w =>
  K2 [t12_2] w) w) w)) w)) w))) w) w) (fun s2 w => ∀ _ : List Value,
  M.loop [(Value.int IntKind.i64 0)] (fun s3 K3 w => ∀ _ : List Value,
  M.bin .lss (s3.getD 0 undef) (Value.int IntKind.i64 8) (fun t36 w =>
  M.cond t36
  (M.fieldAddr 0 (s2.getD 0 undef) (fun t40 w =>
  M.indexArr 8 1 t40 (s3.getD 0 undef) (fun t41 w =>
  M.store 1 t41 t18 (fun _ w =>
  M.bin .add (s3.getD 0 undef) (Value.int IntKind.i64 1) (fun t42 w =>
  K3 [t42] w) w) w) w) w)
  (M.fieldAddr 8 (s2.getD 0 undef) (fun t43 w =>
  M.load1 t43 (fun t44 w =>
  M.len t44 (fun t45 w =>
  M.loop [(Value.int IntKind.i64 0)] (fun s4 K4 w => ∀ _ : List Value,
  M.bin .lss (s4.getD 0 undef) t45 (fun t47 w =>
  M.cond t47
  (M.fieldAddr 8 (s2.getD 0 undef) (fun t49 w =>
  M.load1 t49 (fun t50 w =>
  M.indexSl 1 t50 (s4.getD 0 undef) (fun t53 w =>
  M.store 1 t53 t18 (fun _ w =>
  M.bin .add (s4.getD 0 undef) (Value.int IntKind.i64 1) (fun t54 w =>
  K4 [t54] w) w) w) w) w) w)
  (M.loadA 19 (s2.getD 0 undef) (fun t55 w =>
  M.store 19 t8 t55 (fun _ w =>
  M.loadA 19 t8 (fun r0 w => R (.tuple #[r0, (Value.int IntKind.i64 0)]) w) w) w) w)) w) w) w) w) w)) w) w) w) w)) w) w) w) w) w) w
theorem ok9 (x0 x1 x2 x3 : Value) (R : Kt) (w : World) (h : sh9 x0 x1 x2 x3 R w) : Ret Try.prog 9 #[x0, x1, x2, x3] w R :=
  ret_mk <| calls_of_comp mixed (c := Try.f9.body.getD .skip) (args := [x0, x1, x2, x3]) (rs := [(ResultVar.cell 8 42), (ResultVar.tmp 9)]) (Ann.seq Ann.text (Ann.seq Ann.text (Ann.seq (Ann.seq Ann.text (Ann.cond (Ann.seq Ann.text Ann.leaf) Ann.leaf)) (Ann.join [2] [24, 25, 26, 27, 28, 29] (Ann.seq Ann.text (Ann.cond Ann.text Ann.leaf)) (Ann.join [12] [30, 31, 32, 33, 34] (Ann.draw (Sch.take 0 (Sch.take 2 (Sch.take 3 (Sch.two 1 5 (Sch.take 4 (Sch.one 5 (Sch.one 6 Sch.done))) (Sch.one 1 (Sch.take 4 (Sch.one 6 Sch.done)))))))) (Ann.seq (Ann.seq Ann.text (Ann.block (Ann.loop [35] [13, 36, 37, 38, 39, 40, 41, 42] (Ann.seq Ann.text (Ann.seq (Ann.cond Ann.leaf Ann.leaf) (Ann.seq (Ann.block (Ann.seq Ann.text Ann.text)) Ann.text)))))) (Ann.seq (Ann.seq Ann.text (Ann.block (Ann.loop [46] [14, 47, 48, 49, 50, 51, 52, 53, 54] (Ann.seq Ann.text (Ann.seq (Ann.cond Ann.leaf Ann.leaf) (Ann.seq (Ann.block (Ann.seq Ann.text Ann.text)) Ann.text)))))) (Ann.seq Ann.text Ann.leaf))))))))
    Try.func9 (by kernel_rfl) (by kernel_rfl)
    (Eq.mp (by kernel_rfl) h)

section
variable {w : World} {F De : Nat → Prop} {p : Nat} {N : List Nd} {most : Int} {ev : Value} {env : List W64}
/-! ### a device of terms -/
def devN (most : Int) : List Nd → List W64 → List Int → List Nd × List Int × Int
  | N, [], acc => (N, acc, 0)
  | N, x :: xs, acc => if (constN most N 64 x).2.2 = 0 then devN most (constN most N 64 x).1 xs (acc ++ [(constN most N 64 x).2.1]) else ((constN most N 64 x).1, [], (constN most N 64 x).2.2)
theorem device_ret {D : Nat → Prop} {u : Value} {xs : List W64} (hd : DagO w F p N most) (hl : LV vw w D u xs) (hf : xs.length ≤ 1000000) (hD : ∀ b, D b → ¬ F b) :
    Ret Try.prog 8 #[ptr p, u] w (fun r w' => ∃ F' a, r = .tuple #[.agg ⟨[a, .slice none 0 0, vi 0]⟩, vi (devN most N xs []).2.2] ∧ DagO w' F' p (devN most N xs []).1 most ∧ (∀ b, b < w.heap.size → F' b → F b) ∧ Keep w w' F ∧ LV vi w' (fun b => w.heap.size ≤ b ∧ ¬ F' b) a (devN most N xs []).2.1) := by
  obtain ⟨A, c, rfl, hr, _⟩ := hl
  refine ok8 _ _ _ _ ?_
  unfold sh8
  refine M.new_i (l := [.slice none 0 0, .slice none 0 0, vi 0]) (fun w1 b1 k1 s1 => ?_)
  refine M.new_i (l := [.slice none 0 0, .slice none 0 0, vi 0]) (fun w2 b2 k2 s2 => ?_)
  have b1 := b1.keep k2 (fun h => h)
  have k02 := k1.trans k2 (fun _ _ h => h)
  (repeat (first|refine ja ?_|refine jb ?_|refine jc ?_|refine jd ?_|refine je ?_|refine jf ?_|refine jg ?_|refine jh ?_|refine ji ?_|refine jj ?_|refine jk ?_|refine jl ?_|refine jm ?_|refine jn ?_|refine jo ?_|refine jp ?_|refine jq ?_|refine jr ?_|refine js ?_|refine jt ?_|refine ju ?_|refine jv ?_|refine jw ?_|refine jx ?_|refine jy ?_|refine jz ?_|refine jA ?_|refine jB ?_|refine jC ?_|refine jD ?_|refine jE ?_|refine jF ?_|refine jG ?_|refine jH ?_|refine jI ?_|refine jJ ?_|refine jK ?_|refine jL ?_|refine jM (by assumption) ?_|refine jN (by assumption) rfl ?_|refine jO (by assumption) ?_|refine jP (by assumption) rfl ?_|refine jQ ?_|refine jR ?_|refine jS ?_|refine jT ?_|refine jU (by assumption) rfl ?_))
  refine M.loop_i (σ := Nat) (fun n vals w' => ∃ (i : Nat) (sv : Value) (N' : List Nd) (acc : List Int) (F' : Nat → Prop), n = xs.length - i ∧ i ≤ xs.length ∧ vals = [vi i] ∧ acc.length = i ∧ devN most N xs [] = devN most N' (xs.drop i) acc ∧ DagO w' F' p N' most ∧ (∀ b, b < w2.heap.size → F' b → F b) ∧ GI w' (fun b => w2.heap.size ≤ b ∧ ¬ F' b) sv acc ∧ Blk w' w.heap.size [.slice none 0 0, .slice none 0 0, vi 0] ∧ Blk w' w1.heap.size [sv, .slice none 0 0, vi 0] ∧ Keep w2 w' (fun b => F b ∨ b = w1.heap.size)) id xs.length
    ⟨0, _, N, [], F, by omega, by omega, rfl, rfl, rfl, hd.keepN k02, fun _ _ h => h, GC.nil _ _ _, b1, b2, Keep.refl _ _⟩ ?_
  rintro n vals w3 K ⟨i, sv, N', acc, F', rfl, hi, rfl, hal, hN, h3, hFF, g3, b1, b2, k3⟩ hK _
  simp only [List.getD_cons_zero, List.getD_cons_succ]
  have q3 := k3.size
  have hw : ¬ F w.heap.size := fun h => by have := hd.lt h; omega
  have hw1 : ¬ F w1.heap.size := fun h => by have := hd.lt h; omega
  have hw' : ¬ F' w.heap.size := fun h => hw (hFF _ (by omega) h)
  have hw1' : ¬ F' w1.heap.size := fun h => hw1 (hFF _ (by omega) h)
  by_cases hlt : i < xs.length
  · have hr3 := ((hr.mono (D' := fun b => D b ∧ b < w.heap.size) (fun b hb h => ⟨h, hb⟩)).keep k02 (fun _ _ _ h => h)).keep k3 (fun b hb h e => by
      rcases e with e | e
      · exact hD b h.1 e
      · have := h.2; omega)
    (repeat (first|refine ja ?_|refine jb ?_|refine jc ?_|refine jd ?_|refine je ?_|refine jf ?_|refine jg ?_|refine jh ?_|refine ji ?_|refine jj ?_|refine jk ?_|refine jl ?_|refine jm ?_|refine jn ?_|refine jo ?_|refine jp ?_|refine jq ?_|refine jr ?_|refine js ?_|refine jt ?_|refine ju ?_|refine jv ?_|refine jw ?_|refine jx ?_|refine jy ?_|refine jz ?_|refine jA ?_|refine jB ?_|refine jC ?_|refine jD ?_|refine jE ?_|refine jF ?_|refine jG ?_|refine jH ?_|refine jI ?_|refine jJ ?_|refine jK ?_|refine jL ?_|refine jM (by assumption) ?_|refine jN (by assumption) rfl ?_|refine jO (by assumption) ?_|refine jP (by assumption) rfl ?_|refine jQ ?_|refine jR ?_|refine jS ?_|refine jT ?_|refine jU (by assumption) rfl ?_))
    refine M.idxLV_i hr3 rfl (by omega) (by omega) (x := xs[i]) (by rw [Int.toNat_natCast]; exact List.getElem?_eq_getElem hlt) (fun bb oo hA hcc => ?_)
    (repeat (first|refine ja ?_|refine jb ?_|refine jc ?_|refine jd ?_|refine je ?_|refine jf ?_|refine jg ?_|refine jh ?_|refine ji ?_|refine jj ?_|refine jk ?_|refine jl ?_|refine jm ?_|refine jn ?_|refine jo ?_|refine jp ?_|refine jq ?_|refine jr ?_|refine js ?_|refine jt ?_|refine ju ?_|refine jv ?_|refine jw ?_|refine jx ?_|refine jy ?_|refine jz ?_|refine jA ?_|refine jB ?_|refine jC ?_|refine jD ?_|refine jE ?_|refine jF ?_|refine jG ?_|refine jH ?_|refine jI ?_|refine jJ ?_|refine jK ?_|refine jL ?_|refine jM (by assumption) ?_|refine jN (by assumption) rfl ?_|refine jO (by assumption) ?_|refine jP (by assumption) rfl ?_|refine jQ ?_|refine jR ?_|refine jS ?_|refine jT ?_|refine jU (by assumption) rfl ?_))
    refine M.call_i (const_ret h3 64 xs[i]) ?_; rintro _ w4 ⟨F4, rfl, h4, hF4, k4⟩
    refine M.extract_i rfl ?_
    refine M.extract_i rfl ?_
    have b1 := b1.keep k4 hw'
    have b2 := b2.keep k4 hw1'
    have g3 : GI w4 (fun b => w2.heap.size ≤ b ∧ ¬ F4 b) sv acc := (GC.mono (L' := fun b => (w2.heap.size ≤ b ∧ ¬ F' b) ∧ b < w3.heap.size) g3 (fun b hb h => ⟨h, hb⟩) |>.keep k4 (fun b hb h e => h.1.2 e)).mono (fun b hb h => ⟨h.1.1, fun e => h.1.2 (hF4 b h.2 e)⟩)
    have hFF4 : ∀ b, b < w2.heap.size → F4 b → F b := fun b hb h => hFF b hb (hF4 b (by omega) h)
    have k24 : Keep w2 w4 (fun b => F b ∨ b = w1.heap.size) := k3.trans k4 (fun b hb h => .inl (hFF b hb h))
    have hdrop : xs.drop i = xs[i] :: xs.drop (i + 1) := List.drop_eq_getElem_cons hlt
    rw [hdrop, devN] at hN
    have q4 := k4.size
    by_cases hz : (constN most N' 64 xs[i]).2.2 = 0
    · rw [if_pos hz] at hN
      rw [hz]
      (repeat (first|refine ja ?_|refine jb ?_|refine jc ?_|refine jd ?_|refine je ?_|refine jf ?_|refine jg ?_|refine jh ?_|refine ji ?_|refine jj ?_|refine jk ?_|refine jl ?_|refine jm ?_|refine jn ?_|refine jo ?_|refine jp ?_|refine jq ?_|refine jr ?_|refine js ?_|refine jt ?_|refine ju ?_|refine jv ?_|refine jw ?_|refine jx ?_|refine jy ?_|refine jz ?_|refine jA ?_|refine jB ?_|refine jC ?_|refine jD ?_|refine jE ?_|refine jF ?_|refine jG ?_|refine jH ?_|refine jI ?_|refine jJ ?_|refine jK ?_|refine jL ?_|refine jM (by assumption) ?_|refine jN (by assumption) rfl ?_|refine jO (by assumption) ?_|refine jP (by assumption) rfl ?_|refine jQ ?_|refine jR ?_|refine jS ?_|refine jT ?_|refine jU (by assumption) rfl ?_))
      refine M.buildSlice_i [vi (constN most N' 64 xs[i]).2.1] (by kernel_rfl) (fun w5 b5 k5 s5 => ?_)
      have b1 := b1.keep k5 (fun h => h)
      have b2 := b2.keep k5 (fun h => h)
      refine M.append1_i (GC.own (g3.keep k5 (fun _ _ _ h => h))) (Row.of_blk' (D := fun _ => True) b5 trivial) rfl (by omega) (fun sv6 w6 g6 k6 => ?_)
      have g35 := g3.keep k5 (fun _ _ _ h => h)
      have own : ∀ b, blkOf sv b → w2.heap.size ≤ b ∧ ¬ F4 b := fun b hb => (GC.blkOf g35 hb).1
      have b1 := b1.keep k6 (fun h => by have := (own _ h).1; omega)
      have b2 := b2.keep k6 (fun h => by have := (own _ h).1; omega)
      have h6 := (h4.keepN k5).keep k6 (fun b hb h => (own b h).2 hb)
      have q6 := k6.size
      (repeat (first|refine ja ?_|refine jb ?_|refine jc ?_|refine jd ?_|refine je ?_|refine jf ?_|refine jg ?_|refine jh ?_|refine ji ?_|refine jj ?_|refine jk ?_|refine jl ?_|refine jm ?_|refine jn ?_|refine jo ?_|refine jp ?_|refine jq ?_|refine jr ?_|refine js ?_|refine jt ?_|refine ju ?_|refine jv ?_|refine jw ?_|refine jx ?_|refine jy ?_|refine jz ?_|refine jA ?_|refine jB ?_|refine jC ?_|refine jD ?_|refine jE ?_|refine jF ?_|refine jG ?_|refine jH ?_|refine jI ?_|refine jJ ?_|refine jK ?_|refine jL ?_|refine jM (by assumption) ?_|refine jN (by assumption) rfl ?_|refine jO (by assumption) ?_|refine jP (by assumption) rfl ?_|refine jQ ?_|refine jR ?_|refine jS ?_|refine jT ?_|refine jU (by assumption) rfl ?_))
      refine M.store_i b2 (by simp) (GC.one g6) (fun w7 b7 k7 s7 => ?_)
      have hF41 : ¬ F4 w1.heap.size := fun h => hw1 (hFF4 _ (by omega) h)
      (repeat (first|refine ja ?_|refine jb ?_|refine jc ?_|refine jd ?_|refine je ?_|refine jf ?_|refine jg ?_|refine jh ?_|refine ji ?_|refine jj ?_|refine jk ?_|refine jl ?_|refine jm ?_|refine jn ?_|refine jo ?_|refine jp ?_|refine jq ?_|refine jr ?_|refine js ?_|refine jt ?_|refine ju ?_|refine jv ?_|refine jw ?_|refine jx ?_|refine jy ?_|refine jz ?_|refine jA ?_|refine jB ?_|refine jC ?_|refine jD ?_|refine jE ?_|refine jF ?_|refine jG ?_|refine jH ?_|refine jI ?_|refine jJ ?_|refine jK ?_|refine jL ?_|refine jM (by assumption) ?_|refine jN (by assumption) rfl ?_|refine jO (by assumption) ?_|refine jP (by assumption) rfl ?_|refine jQ ?_|refine jR ?_|refine jS ?_|refine jT ?_|refine jU (by assumption) rfl ?_))
      refine hK (xs.length - (i + 1)) _ _ (by show xs.length - (i + 1) < xs.length - i; omega) ⟨i + 1, sv6, _, _, F4, rfl, by omega, rfl, by simp [hal], hN, h6.keep k7 (fun b hb h => hF41 (h ▸ hb)), hFF4, ?_, b1.keep k7 (fun h => by omega), b7, ?_⟩
      · refine GC.keep (GC.mono (L' := fun b => w2.heap.size ≤ b ∧ ¬ F4 b) g6 (fun b hb h => ?_)) k7 (fun b hb h e => by have := h.1; omega)
        rcases h with h | h
        · exact own b h
        · exact ⟨by omega, fun e => by have := h4.lt e; omega⟩
      · exact ((k24.trans k5 (fun _ _ h => h.elim)).trans k6 (fun b hb h => by have := (own b h).1; omega)).trans k7 (fun _ _ h => .inr h)
    · rw [if_neg hz] at hN
      refine M.neq_t hz ?_
      (repeat (first|refine ja ?_|refine jb ?_|refine jc ?_|refine jd ?_|refine je ?_|refine jf ?_|refine jg ?_|refine jh ?_|refine ji ?_|refine jj ?_|refine jk ?_|refine jl ?_|refine jm ?_|refine jn ?_|refine jo ?_|refine jp ?_|refine jq ?_|refine jr ?_|refine js ?_|refine jt ?_|refine ju ?_|refine jv ?_|refine jw ?_|refine jx ?_|refine jy ?_|refine jz ?_|refine jA ?_|refine jB ?_|refine jC ?_|refine jD ?_|refine jE ?_|refine jF ?_|refine jG ?_|refine jH ?_|refine jI ?_|refine jJ ?_|refine jK ?_|refine jL ?_|refine jM (by assumption) ?_|refine jN (by assumption) rfl ?_|refine jO (by assumption) ?_|refine jP (by assumption) rfl ?_|refine jQ ?_|refine jR ?_|refine jS ?_|refine jT ?_|refine jU (by assumption) rfl ?_))
      refine M.pure_i (.agg ⟨[.slice none 0 0, .slice none 0 0, vi 0]⟩) (fun _ => by kernel_rfl) ?_
      refine M.storeAll_i b1 rfl rfl (List.all_eq_true.1 rfl) (fun w7 b7 k7 s7 => ?_)
      refine M.loadAll_i b7 rfl ?_
      rw [hN]
      have hF40 : ¬ F4 w.heap.size := fun h => hw (hFF4 _ (by omega) h)
      exact ⟨F4, _, rfl, h4.keep k7 (fun b hb h => hF40 (h ▸ hb)), fun b hb h => hFF4 b (by omega) h, ((k02.mono (fun _ _ h => h.elim)).trans k24 (fun b hb h => by rcases h with h | h; exact h; omega)).trans k7 (fun b hb h => by omega), LV.nil _ _ _⟩
  · have : i = xs.length := by omega
    subst this
    rw [List.drop_length, devN] at hN
    rw [hN]
    (repeat (first|refine ja ?_|refine jb ?_|refine jc ?_|refine jd ?_|refine je ?_|refine jf ?_|refine jg ?_|refine jh ?_|refine ji ?_|refine jj ?_|refine jk ?_|refine jl ?_|refine jm ?_|refine jn ?_|refine jo ?_|refine jp ?_|refine jq ?_|refine jr ?_|refine js ?_|refine jt ?_|refine ju ?_|refine jv ?_|refine jw ?_|refine jx ?_|refine jy ?_|refine jz ?_|refine jA ?_|refine jB ?_|refine jC ?_|refine jD ?_|refine jE ?_|refine jF ?_|refine jG ?_|refine jH ?_|refine jI ?_|refine jJ ?_|refine jK ?_|refine jL ?_|refine jM (by assumption) ?_|refine jN (by assumption) rfl ?_|refine jO (by assumption) ?_|refine jP (by assumption) rfl ?_|refine jQ ?_|refine jR ?_|refine jS ?_|refine jT ?_|refine jU (by assumption) rfl ?_))
    refine M.loadAll_i b2 rfl ?_
    have o1 := GC.one g3
    refine M.storeAll_i b1 rfl rfl (by
      refine List.all_eq_true.1 ?_
      simp only [List.all_cons, List.all_nil, o1]
      rfl) (fun w7 b7 k7 s7 => ?_)
    refine M.loadAll_i b7 rfl ?_
    refine ⟨F', _, rfl, h3.keep k7 (fun b hb h => hw' (h ▸ hb)), fun b hb h => hFF b (by omega) h, ((k02.mono (fun _ _ h => h.elim)).trans k3 (fun b hb h => by rcases h with h | h; exact h; omega)).trans k7 (fun b hb h => by omega), ?_⟩
    exact ((GI.lv g3).keep k7 (fun b hb h e => by have := h.1; omega)).mono (fun b hb h => ⟨by have := h.1; omega, h.2⟩)
set_option maxHeartbeats 1000000 in
theorem sstart_ret {D : Nat → Prop} {a b cv : Value} {d : SDv} {conds : List Int} (hd : DagO w F p N most) (hs : SDvO w D a b d) (hcv : LV vi w D cv conds) (hD : ∀ b, D b → ¬ F b) (n : Int) (hz : (constN most N 64 0).2.2 = 0) :
    Ret Try.prog 9 #[ptr p, .agg ⟨[a, b, vi d.ep]⟩, vi n, cv] w (fun r w' => ∃ F' v, r = .tuple #[v, vi 0] ∧ DagO w' F' p (constN most N 64 0).1 most ∧ (∀ b, b < w.heap.size → F' b → F b) ∧ Keep w w' F ∧ SyO w' (fun b => ((D b ∧ b < w.heap.size) ∨ w.heap.size ≤ b) ∧ ¬ F' b) v ⟨List.replicate 8 (constN most N 64 0).2.1, List.replicate (cellsOk n) (constN most N 64 0).2.1, 0, 0, 0, 0, 0, -1, d, conds⟩) := by
  have hs := hs.mono (D' := fun b => D b ∧ b < w.heap.size) (fun b hb h => ⟨h, hb⟩)
  have hcv := hcv.mono (D' := fun b => D b ∧ b < w.heap.size) (fun b hb h => ⟨h, hb⟩)
  obtain ⟨⟨A, c, rfl, _, _⟩, A', c', rfl, _, _⟩ := id hs
  obtain ⟨A2, c2, rfl, _, _⟩ := id hcv
  refine ok9 _ _ _ _ _ _ ?_
  unfold sh9
  refine M.new_i (l := [.slice A d.disk.length c, .slice A' d.pend.length c', vi d.ep]) (fun w1 b1 k1 s1 => ?_)
  refine M.new_i (l := [vi 0, vi 0, vi 0, vi 0, vi 0, vi 0, vi 0, vi 0, .slice none 0 0, vi 0, vi 0, vi 0, vi 0, vi 0, vi 0, .slice none 0 0, .slice none 0 0, vi 0, .slice none 0 0]) (fun w2 b2 k2 s2 => ?_)
  have b1 := b1.keep k2 (fun h => h)
  have k02 := k1.trans k2 (fun _ _ h => h)
  change M.call Try.prog 7 #[ptr p, vi 64, vw 0] _ _
  refine M.call_i (const_ret (hd.keepN k02) 64 0) ?_; rintro _ w3 ⟨F3, rfl, h3, hF3, k3⟩
  refine M.extract_i (v := vi (constN most N 64 0).2.1) rfl ?_
  refine M.extract_i (v := vi (constN most N 64 0).2.2) rfl ?_
  rw [hz]
  generalize hz1 : (constN most N 64 0).2.1 = z
  generalize (constN most N 64 0).1 = N3 at h3
  have hw : ∀ x, w.heap.size ≤ x → ¬ F x := fun x hx h => by have := hd.lt h; omega
  have b1 := b1.keep k3 (hw _ (by omega))
  have b2 := b2.keep k3 (hw _ (by omega))
  have k03 : Keep w w3 F := (k02.mono (fun _ _ h => h.elim)).trans k3 (fun _ _ h => h)
  have hs := hs.keep k03 (fun b _ h e => hD b h.1 e)
  have hcv := hcv.keep k03 (fun b _ h e => hD b h.1 e)
  have q3 := k3.size
  have hF3w : ∀ x, w.heap.size ≤ x → x < w2.heap.size → ¬ F3 x := fun x h1 h2 h => hw x h1 (hF3 x h2 h)
  (repeat (first|refine ja ?_|refine jb ?_|refine jc ?_|refine jd ?_|refine je ?_|refine jf ?_|refine jg ?_|refine jh ?_|refine ji ?_|refine jj ?_|refine jk ?_|refine jl ?_|refine jm ?_|refine jn ?_|refine jo ?_|refine jp ?_|refine jq ?_|refine jr ?_|refine js ?_|refine jt ?_|refine ju ?_|refine jv ?_|refine jw ?_|refine jx ?_|refine jy ?_|refine jz ?_|refine jA ?_|refine jB ?_|refine jC ?_|refine jD ?_|refine jE ?_|refine jF ?_|refine jG ?_|refine jH ?_|refine jI ?_|refine jJ ?_|refine jK ?_|refine jL ?_|refine jM (by assumption) ?_|refine jN (by assumption) rfl ?_|refine jO (by assumption) ?_|refine jP (by assumption) rfl ?_|refine jQ ?_|refine jR ?_|refine jS ?_|refine jT ?_|refine jU (by assumption) rfl ?_))
  refine M.share_j (fun vals w' => vals = [vi (cellsOk n : Nat)] ∧ w' = w3) ?_ ?_
  · rintro vals w3 ⟨rfl, rfl⟩ _
    simp only [List.getD_cons_zero, List.getD_cons_succ]
    have hn : cellsOk n ≤ 255 := by unfold cellsOk; split <;> omega
    refine M.share_j (fun vals w' => ∃ pn pc, vals = [ptr pn] ∧ w3.heap.size ≤ pn ∧ w3.heap.size ≤ pc ∧ pn ≠ pc ∧ Blk w' pn [vi 0, vi 0, vi 0, vi 0, vi 0, vi 0, vi 0, vi 0, .slice (some ⟨pc, 0, none⟩) (cellsOk n) (cellsOk n), vi 0, vi 0, vi 0, vi 0, vi 0, vi (-1), .slice A d.disk.length c, .slice A' d.pend.length c', vi d.ep, .slice A2 conds.length c2] ∧ Blk w' pc (List.replicate (cellsOk n) (vi 0)) ∧ Keep w3 w' No) ?_ ?_
    · rintro vals w4 ⟨pn, pc, rfl, hpn, hpc, hne, bn, bc, k4⟩ _
      simp only [List.getD_cons_zero, List.getD_cons_succ]
      have q4 := k4.size
      have b2 := b2.keep k4 (fun h => h)
      have h4 := h3.keepN k4
      have hFn : ∀ x, w3.heap.size ≤ x → ¬ F3 x := fun x hx h => by have := h3.lt h; omega
      have hpnl := bn.lt
      have hpcl := bc.lt
      refine M.loop_i (σ := Nat) (fun m vals w' => ∃ i : Nat, m = 8 - i ∧ i ≤ 8 ∧ vals = [vi i] ∧ Blk w' pn ((List.replicate 8 (vi z)).take i ++ (List.replicate 8 (vi 0)).drop i ++ [.slice (some ⟨pc, 0, none⟩) (cellsOk n) (cellsOk n), vi 0, vi 0, vi 0, vi 0, vi 0, vi (-1), .slice A d.disk.length c, .slice A' d.pend.length c', vi d.ep, .slice A2 conds.length c2]) ∧ Keep w4 w' (· = pn)) id 8
        ⟨0, rfl, by omega, rfl, bn, Keep.refl _ _⟩ ?_
      rintro m vals w5 K ⟨i, rfl, hi, rfl, bn5, k5⟩ hK _
      simp only [List.getD_cons_zero, List.getD_cons_succ]
      by_cases hlt : i < 8
      · (repeat (first|refine ja ?_|refine jb ?_|refine jc ?_|refine jd ?_|refine je ?_|refine jf ?_|refine jg ?_|refine jh ?_|refine ji ?_|refine jj ?_|refine jk ?_|refine jl ?_|refine jm ?_|refine jn ?_|refine jo ?_|refine jp ?_|refine jq ?_|refine jr ?_|refine js ?_|refine jt ?_|refine ju ?_|refine jv ?_|refine jw ?_|refine jx ?_|refine jy ?_|refine jz ?_|refine jA ?_|refine jB ?_|refine jC ?_|refine jD ?_|refine jE ?_|refine jF ?_|refine jG ?_|refine jH ?_|refine jI ?_|refine jJ ?_|refine jK ?_|refine jL ?_|refine jM (by assumption) ?_|refine jN (by assumption) rfl ?_|refine jO (by assumption) ?_|refine jP (by assumption) rfl ?_|refine jQ ?_|refine jR ?_|refine jS ?_|refine jT ?_|refine jU (by assumption) rfl ?_))
        refine M.arr_i (by omega) (by omega) ?_
        have e0 : 0 + 0 + (i : Int).toNat * 1 = i := by omega
        rw [e0]
        refine M.store_i bn5 (by simp; omega) rfl (fun w7 b7 k7 s7 => ?_)
        have hiW : i < (List.replicate 8 (vi z)).length := by simp; omega
        have fs := fill_set (tail := [.slice (some ⟨pc, 0, none⟩) (cellsOk n) (cellsOk n), vi 0, vi 0, vi 0, vi 0, vi 0, vi (-1), .slice A d.disk.length c, .slice A' d.pend.length c', vi d.ep, .slice A2 conds.length c2]) (ys := List.replicate 8 (vi 0)) (by simp) hiW
        rw [List.getElem_replicate] at fs
        rw [fs] at b7
        (repeat (first|refine ja ?_|refine jb ?_|refine jc ?_|refine jd ?_|refine je ?_|refine jf ?_|refine jg ?_|refine jh ?_|refine ji ?_|refine jj ?_|refine jk ?_|refine jl ?_|refine jm ?_|refine jn ?_|refine jo ?_|refine jp ?_|refine jq ?_|refine jr ?_|refine js ?_|refine jt ?_|refine ju ?_|refine jv ?_|refine jw ?_|refine jx ?_|refine jy ?_|refine jz ?_|refine jA ?_|refine jB ?_|refine jC ?_|refine jD ?_|refine jE ?_|refine jF ?_|refine jG ?_|refine jH ?_|refine jI ?_|refine jJ ?_|refine jK ?_|refine jL ?_|refine jM (by assumption) ?_|refine jN (by assumption) rfl ?_|refine jO (by assumption) ?_|refine jP (by assumption) rfl ?_|refine jQ ?_|refine jR ?_|refine jS ?_|refine jT ?_|refine jU (by assumption) rfl ?_))
        exact hK (8 - (i + 1)) _ _ (by show 8 - (i + 1) < 8 - i; omega) ⟨i + 1, rfl, by omega, rfl, b7, k5.trans k7 (fun _ _ h => h)⟩
      · have : i = 8 := by omega
        subst this
        have bn5 : Blk w5 pn [vi z, vi z, vi z, vi z, vi z, vi z, vi z, vi z, .slice (some ⟨pc, 0, none⟩) (cellsOk n) (cellsOk n), vi 0, vi 0, vi 0, vi 0, vi 0, vi (-1), .slice A d.disk.length c, .slice A' d.pend.length c', vi d.ep, .slice A2 conds.length c2] := bn5
        have bc5 := bc.keep k5 (fun h => hne h.symm)
        have b2 := b2.keep k5 (fun h => by omega)
        have h5 := h4.keep k5 (fun b hb h => hFn pn hpn (h ▸ hb))
        clear hK
        have q5 := k5.size
        (repeat (first|refine ja ?_|refine jb ?_|refine jc ?_|refine jd ?_|refine je ?_|refine jf ?_|refine jg ?_|refine jh ?_|refine ji ?_|refine jj ?_|refine jk ?_|refine jl ?_|refine jm ?_|refine jn ?_|refine jo ?_|refine jp ?_|refine jq ?_|refine jr ?_|refine js ?_|refine jt ?_|refine ju ?_|refine jv ?_|refine jw ?_|refine jx ?_|refine jy ?_|refine jz ?_|refine jA ?_|refine jB ?_|refine jC ?_|refine jD ?_|refine jE ?_|refine jF ?_|refine jG ?_|refine jH ?_|refine jI ?_|refine jJ ?_|refine jK ?_|refine jL ?_|refine jM (by assumption) ?_|refine jN (by assumption) rfl ?_|refine jO (by assumption) ?_|refine jP (by assumption) rfl ?_|refine jQ ?_|refine jR ?_|refine jS ?_|refine jT ?_|refine jU (by assumption) rfl ?_))
        refine M.loop_i (σ := Nat) (fun m vals w' => ∃ i : Nat, m = cellsOk n - i ∧ i ≤ cellsOk n ∧ vals = [vi i] ∧ Blk w' pc ((List.replicate (cellsOk n) (vi z)).take i ++ (List.replicate (cellsOk n) (vi 0)).drop i ++ []) ∧ Keep w5 w' (· = pc)) id (cellsOk n)
          ⟨0, by omega, by omega, rfl, by simpa using bc5, Keep.refl _ _⟩ ?_
        rintro m vals w6 K ⟨i, rfl, hi, rfl, bc6, k6⟩ hK _
        simp only [List.getD_cons_zero, List.getD_cons_succ]
        have bn6 := bn5.keep k6 hne
        by_cases hlt : i < cellsOk n
        · (repeat (first|refine ja ?_|refine jb ?_|refine jc ?_|refine jd ?_|refine je ?_|refine jf ?_|refine jg ?_|refine jh ?_|refine ji ?_|refine jj ?_|refine jk ?_|refine jl ?_|refine jm ?_|refine jn ?_|refine jo ?_|refine jp ?_|refine jq ?_|refine jr ?_|refine js ?_|refine jt ?_|refine ju ?_|refine jv ?_|refine jw ?_|refine jx ?_|refine jy ?_|refine jz ?_|refine jA ?_|refine jB ?_|refine jC ?_|refine jD ?_|refine jE ?_|refine jF ?_|refine jG ?_|refine jH ?_|refine jI ?_|refine jJ ?_|refine jK ?_|refine jL ?_|refine jM (by assumption) ?_|refine jN (by assumption) rfl ?_|refine jO (by assumption) ?_|refine jP (by assumption) rfl ?_|refine jQ ?_|refine jR ?_|refine jS ?_|refine jT ?_|refine jU (by assumption) rfl ?_))
          refine M.idx_i (by omega) (by omega) ?_
          have e0 : 0 + (i : Int).toNat * 1 = i := by omega
          rw [e0]
          refine M.store_i bc6 (by simp; omega) rfl (fun w7 b7 k7 s7 => ?_)
          have hiW : i < (List.replicate (cellsOk n) (vi z)).length := by simp; omega
          have fs := fill_set (tail := []) (ys := List.replicate (cellsOk n) (vi 0)) (by simp) hiW
          rw [List.getElem_replicate] at fs
          rw [fs] at b7
          (repeat (first|refine ja ?_|refine jb ?_|refine jc ?_|refine jd ?_|refine je ?_|refine jf ?_|refine jg ?_|refine jh ?_|refine ji ?_|refine jj ?_|refine jk ?_|refine jl ?_|refine jm ?_|refine jn ?_|refine jo ?_|refine jp ?_|refine jq ?_|refine jr ?_|refine js ?_|refine jt ?_|refine ju ?_|refine jv ?_|refine jw ?_|refine jx ?_|refine jy ?_|refine jz ?_|refine jA ?_|refine jB ?_|refine jC ?_|refine jD ?_|refine jE ?_|refine jF ?_|refine jG ?_|refine jH ?_|refine jI ?_|refine jJ ?_|refine jK ?_|refine jL ?_|refine jM (by assumption) ?_|refine jN (by assumption) rfl ?_|refine jO (by assumption) ?_|refine jP (by assumption) rfl ?_|refine jQ ?_|refine jR ?_|refine jS ?_|refine jT ?_|refine jU (by assumption) rfl ?_))
          exact hK (cellsOk n - (i + 1)) _ _ (by show cellsOk n - (i + 1) < cellsOk n - i; omega) ⟨i + 1, rfl, by omega, rfl, b7, k6.trans k7 (fun _ _ h => h)⟩
        · have : i = cellsOk n := by omega
          subst this
          have bc6 : Blk w6 pc (List.replicate (cellsOk n) (vi z)) := by
            rw [List.take_of_length_le (by simp), List.drop_eq_nil_of_le (by simp), List.append_nil, List.append_nil] at bc6; exact bc6
          have b2 := b2.keep k6 (fun h => by omega)
          have h6 := h5.keep k6 (fun b hb h => hFn pc hpc (h ▸ hb))
          (repeat (first|refine ja ?_|refine jb ?_|refine jc ?_|refine jd ?_|refine je ?_|refine jf ?_|refine jg ?_|refine jh ?_|refine ji ?_|refine jj ?_|refine jk ?_|refine jl ?_|refine jm ?_|refine jn ?_|refine jo ?_|refine jp ?_|refine jq ?_|refine jr ?_|refine js ?_|refine jt ?_|refine ju ?_|refine jv ?_|refine jw ?_|refine jx ?_|refine jy ?_|refine jz ?_|refine jA ?_|refine jB ?_|refine jC ?_|refine jD ?_|refine jE ?_|refine jF ?_|refine jG ?_|refine jH ?_|refine jI ?_|refine jJ ?_|refine jK ?_|refine jL ?_|refine jM (by assumption) ?_|refine jN (by assumption) rfl ?_|refine jO (by assumption) ?_|refine jP (by assumption) rfl ?_|refine jQ ?_|refine jR ?_|refine jS ?_|refine jT ?_|refine jU (by assumption) rfl ?_))
          refine M.loadAll_i bn6 rfl ?_
          refine M.storeAll_i b2 rfl rfl (List.all_eq_true.1 rfl) (fun w7 b7 k7 s7 => ?_)
          refine M.loadAll_i b7 rfl ?_
          have k37 : Keep w3 w7 (fun b => b = pn ∨ b = pc ∨ b = w1.heap.size) := (((k4.mono (fun _ _ h => h.elim)).trans k5 (fun _ _ h => .inl h)).trans k6 (fun _ _ h => .inr (.inl h))).trans k7 (fun _ _ h => .inr (.inr h))
          have b8 := bc6.keep k7 (fun h => by omega)
          have dk : ∀ b, (D b ∧ b < w.heap.size) → ((D b ∧ b < w.heap.size) ∨ w.heap.size ≤ b) ∧ ¬ F3 b := fun b h => ⟨.inl h, fun e => hD b h.1 (hF3 b (by omega) e)⟩
          refine ⟨F3, _, rfl, h6.keep k7 (fun b hb h => hF3w w1.heap.size (by omega) (by omega) (h ▸ hb)), fun b hb h => hF3 b (by omega) h, k03.trans k37 (fun b hb h => by rcases h with h | h | h <;> omega), rfl, .slice (some ⟨pc, 0, none⟩) (cellsOk n) (cellsOk n), _, _, _, rfl, ?_, ?_, ?_⟩
          · have b8' : Blk w7 pc ((List.replicate (cellsOk n) z).map vi) := by rw [List.map_replicate]; exact b8
            exact ⟨some ⟨pc, 0, none⟩, cellsOk n, by simp, Row.of_blk' b8' ⟨.inr (by omega), hFn pc hpc⟩, by simp⟩
          · exact (hs.keep k37 (fun b _ h e => by have := h.2; rcases e with e | e | e <;> omega)).mono (fun b _ h => dk b h)
          · exact (hcv.keep k37 (fun b _ h e => by have := h.2; rcases e with e | e | e <;> omega)).mono (fun b _ h => dk b h)
    · intro K hK
      refine M.draw_i ?_
      have e3 : w3.drew.heap.size = w3.heap.size := rfl
      have kd : Keep w3 w3.drew No := Keep.drew w3 No
      have b1 := b1.keep kd (fun h => h)
      revert e3 kd b1
      generalize w3.drew = w4
      intro e3 kd b1
      refine M.loadAll_i b1 rfl ?_
      refine ⟨?_, ?_⟩
      · refine M.makeSlice_i rfl rfl (by omega) (by omega) (fun w5 b5 k5 s5 => ?_)
        have b1 := b1.keep k5 (fun h => h)
        refine M.stAll_i b1 rfl ?_
        refine M.pure_i (.agg ⟨[vi 0, vi 0, vi 0, vi 0, vi 0, vi 0, vi 0, vi 0, .slice (some ⟨w4.heap.size, 0, none⟩) (cellsOk n) (cellsOk n), vi 0, vi 0, vi 0, vi 0, vi 0, vi (-1), .slice A d.disk.length c, .slice A' d.pend.length c', vi d.ep, .slice A2 conds.length c2]⟩) (fun _ => by kernel_rfl) ?_
        refine M.new_i (l := [vi 0, vi 0, vi 0, vi 0, vi 0, vi 0, vi 0, vi 0, .slice none 0 0, vi 0, vi 0, vi 0, vi 0, vi 0, vi 0, .slice none 0 0, .slice none 0 0, vi 0, .slice none 0 0]) (fun w6 b6 k6 s6 => ?_)
        have b1 := b1.keep k6 (fun h => h)
        refine M.stAll_i b1 rfl ?_
        refine M.storeAll_i b6 rfl rfl (List.all_eq_true.1 rfl) (fun w7 b7 k7 s7 => ?_)
        exact hK _ _ ⟨w5.heap.size, w4.heap.size, rfl, by omega, by omega, by omega, b7, (b5.keep k6 (fun h => h)).keep k7 (fun h => by omega), ((kd.trans k5 (fun _ _ h => h)).trans k6 (fun _ _ h => h)).trans k7 (fun b hb h => by omega)⟩
      · refine M.new_i (l := [vi 0, vi 0, vi 0, vi 0, vi 0, vi 0, vi 0, vi 0, .slice none 0 0, vi 0, vi 0, vi 0, vi 0, vi 0, vi 0, .slice none 0 0, .slice none 0 0, vi 0, .slice none 0 0]) (fun w5 b5 k5 s5 => ?_)
        have b1 := b1.keep k5 (fun h => h)
        refine M.stAll_i b1 rfl ?_
        refine M.makeSlice_i rfl rfl (by omega) (by omega) (fun w6 b6 k6 s6 => ?_)
        have b1 := b1.keep k6 (fun h => h)
        have b5 := b5.keep k6 (fun h => h)
        refine M.stAll_i b1 rfl ?_
        refine M.pure_i (.agg ⟨[vi 0, vi 0, vi 0, vi 0, vi 0, vi 0, vi 0, vi 0, .slice (some ⟨w5.heap.size, 0, none⟩) (cellsOk n) (cellsOk n), vi 0, vi 0, vi 0, vi 0, vi 0, vi (-1), .slice A d.disk.length c, .slice A' d.pend.length c', vi d.ep, .slice A2 conds.length c2]⟩) (fun _ => by kernel_rfl) ?_
        refine M.storeAll_i b5 rfl rfl (List.all_eq_true.1 rfl) (fun w7 b7 k7 s7 => ?_)
        exact hK _ _ ⟨w4.heap.size, w5.heap.size, rfl, by omega, by omega, by omega, b7, b6.keep k7 (fun h => by omega), ((kd.trans k5 (fun _ _ h => h)).trans k6 (fun _ _ h => h)).trans k7 (fun b hb h => by omega)⟩
  · intro K hK
    unfold cellsOk at hK
    by_cases h1 : n < 0
    · rw [if_pos (.inl h1)] at hK
      (repeat (first|refine ja ?_|refine jb ?_|refine jc ?_|refine jd ?_|refine je ?_|refine jf ?_|refine jg ?_|refine jh ?_|refine ji ?_|refine jj ?_|refine jk ?_|refine jl ?_|refine jm ?_|refine jn ?_|refine jo ?_|refine jp ?_|refine jq ?_|refine jr ?_|refine js ?_|refine jt ?_|refine ju ?_|refine jv ?_|refine jw ?_|refine jx ?_|refine jy ?_|refine jz ?_|refine jA ?_|refine jB ?_|refine jC ?_|refine jD ?_|refine jE ?_|refine jF ?_|refine jG ?_|refine jH ?_|refine jI ?_|refine jJ ?_|refine jK ?_|refine jL ?_|refine jM (by assumption) ?_|refine jN (by assumption) rfl ?_|refine jO (by assumption) ?_|refine jP (by assumption) rfl ?_|refine jQ ?_|refine jR ?_|refine jS ?_|refine jT ?_|refine jU (by assumption) rfl ?_))
      exact hK _ _ ⟨rfl, rfl⟩
    · by_cases h2 : 255 < n
      · rw [if_pos (.inr h2)] at hK
        (repeat (first|refine ja ?_|refine jb ?_|refine jc ?_|refine jd ?_|refine je ?_|refine jf ?_|refine jg ?_|refine jh ?_|refine ji ?_|refine jj ?_|refine jk ?_|refine jl ?_|refine jm ?_|refine jn ?_|refine jo ?_|refine jp ?_|refine jq ?_|refine jr ?_|refine js ?_|refine jt ?_|refine ju ?_|refine jv ?_|refine jw ?_|refine jx ?_|refine jy ?_|refine jz ?_|refine jA ?_|refine jB ?_|refine jC ?_|refine jD ?_|refine jE ?_|refine jF ?_|refine jG ?_|refine jH ?_|refine jI ?_|refine jJ ?_|refine jK ?_|refine jL ?_|refine jM (by assumption) ?_|refine jN (by assumption) rfl ?_|refine jO (by assumption) ?_|refine jP (by assumption) rfl ?_|refine jQ ?_|refine jR ?_|refine jS ?_|refine jT ?_|refine jU (by assumption) rfl ?_))
        exact hK _ _ ⟨rfl, rfl⟩
      · rw [if_neg (by omega)] at hK
        (repeat (first|refine ja ?_|refine jb ?_|refine jc ?_|refine jd ?_|refine je ?_|refine jf ?_|refine jg ?_|refine jh ?_|refine ji ?_|refine jj ?_|refine jk ?_|refine jl ?_|refine jm ?_|refine jn ?_|refine jo ?_|refine jp ?_|refine jq ?_|refine jr ?_|refine js ?_|refine jt ?_|refine ju ?_|refine jv ?_|refine jw ?_|refine jx ?_|refine jy ?_|refine jz ?_|refine jA ?_|refine jB ?_|refine jC ?_|refine jD ?_|refine jE ?_|refine jF ?_|refine jG ?_|refine jH ?_|refine jI ?_|refine jJ ?_|refine jK ?_|refine jL ?_|refine jM (by assumption) ?_|refine jN (by assumption) rfl ?_|refine jO (by assumption) ?_|refine jP (by assumption) rfl ?_|refine jQ ?_|refine jR ?_|refine jS ?_|refine jT ?_|refine jU (by assumption) rfl ?_))
        exact hK _ _ ⟨by rw [show ((n.toNat : Nat) : Int) = n by omega], rfl⟩
end
end Go.Proofs.Ytanjlgafjgoaaaa
