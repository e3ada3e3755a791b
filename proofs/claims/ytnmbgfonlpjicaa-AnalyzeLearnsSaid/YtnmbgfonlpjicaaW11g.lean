import Derived.Test.YtnmbgfonlpjicaaW11f
import Derived.ChangeKeysEq
import Derived.Laws.StructEq
import Derived.Tactics
namespace Go.Proofs.Ytnmbgfonlpjicaa
open Go.Mw Go.MapKept
set_option linter.unusedVariables false
set_option linter.unusedSimpArgs false
set_option maxRecDepth 100000
attribute [local irreducible] M.val M.unit M.next M.pick M.new M.nilCheck M.load1 M.loadA M.store M.fieldAddr M.indexSl M.indexArr M.slice M.makeSlice M.buildSlice M.len M.lenS M.cap M.append M.extract M.conv M.not M.neg M.bin M.shift M.eqB M.eqNil M.call M.callv M.gd M.share M.cond M.loop M.draw pureW readW Ret
/-! (*breakwater/watch.Watch).begin: function 30 -/
def sh30 (x0 x1 : Value) (R : Kt) (w : World) : Prop :=
  M.call Try.prog 32 #[x1] (fun t7 w =>
  M.loop [(Value.int IntKind.i64 0)] (fun s1 K1 w => ∀ _ : List Value,
  M.draw (fun w =>
  M.nilCheck x0 (fun t10 w =>
  M.fieldAddr 5 t10 (fun t11 w =>
  M.load1 t11 (fun t12 w =>
  M.len t12 (fun t13 w =>
  M.bin .lss (s1.getD 0 undef) t13 (fun t14 w =>
  M.gd t14 true (fun k w => k (s1.getD 0 undef) w) (fun t16 w =>
  M.gd t14 true (fun k w => k t7 w) (fun t17 w =>
  M.gd t14 true (fun k w => M.len t17 k w) (fun t18 w =>
  M.gd t14 true (fun k w => M.bin .lss t16 t18 k w) (fun t19 w =>
  M.pick t14 t19 (Value.bool false) (fun t20 w =>
  M.gd t20 true (fun k w => k x0 w) (fun t22 w =>
  M.gd t20 true (fun k w => M.nilCheck t22 k w) (fun t23 w =>
  M.gd t20 true (fun k w => M.fieldAddr 5 t23 k w) (fun t24 w =>
  M.gd t20 true (fun k w => M.load1 t24 k w) (fun t25 w =>
  M.gd t20 true (fun k w => k (s1.getD 0 undef) w) (fun t26 w =>
  M.gd t20 true (fun k w => M.indexSl 2 t25 t26 k w) (fun t27 w =>
  M.gd t20 true (fun k w => M.loadA 2 t27 k w) (fun t28 w =>
  M.gd t20 true (fun k w => k t7 w) (fun t29 w =>
  M.gd t20 true (fun k w => k (s1.getD 0 undef) w) (fun t30 w =>
  M.gd t20 true (fun k w => M.indexSl 1 t29 t30 k w) (fun t31 w =>
  M.gd t20 true (fun k w => M.load1 t31 k w) (fun t32 w =>
  M.gd t20 true (fun k w => k x1 w) (fun t33 w =>
  M.gd t20 true (fun k w => k (s1.getD 0 undef) w) (fun t34 w =>
  M.gd t20 true (fun k w => M.call Try.prog 34 #[t33, t34] k w) (fun t35 w =>
  ((M.gd t20 true (fun k w => M.load1 t31 k w) (fun v' _ => v' = t32) w) ∧ ((M.gd t20 true (fun k w => M.loadA 2 t27 k w) (fun v' _ => v' = t28) w) ∧ ((M.gd t20 true (fun k w => M.load1 t24 k w) (fun v' _ => v' = t25) w) ∧ ((M.load1 t11 (fun v' _ => v' = t12) w) ∧ M.gd t20 true (fun k w => pureW Try.prog (Instr.build 72 #[(0, t32), (1, t35)]) k w) (fun t36 w =>
  M.gd t20 true (fun k w => M.val Try.prog (do eqGuard .eql 72 (Operand.tmp 28) (Operand.tmp 36) t28 t36; binOp .eql 72 t28 t36) k w) (fun t37 w =>
  ((M.gd t20 true (fun k w => M.load1 t31 k w) (fun v' _ => v' = t32) w) ∧ ((M.gd t20 true (fun k w => M.load1 t24 k w) (fun v' _ => v' = t25) w) ∧ ((M.load1 t11 (fun v' _ => v' = t12) w) ∧ M.pick t20 t37 (Value.bool false) (fun t38 w =>
  M.cond t38
  (M.bin .add (s1.getD 0 undef) (Value.int IntKind.i64 1) (fun t40 w =>
  K1 [t40] w) w)
  (M.nilCheck x0 (fun t43 w =>
  M.fieldAddr 5 t43 (fun t44 w =>
  M.load1 t44 (fun t45 w =>
  M.slice 2 t45 none (some (s1.getD 0 undef)) none (fun t47 w =>
  M.nilCheck x0 (fun t48 w =>
  M.fieldAddr 5 t48 (fun t49 w =>
  M.store 1 t49 t47 (fun _ w =>
  R (.tuple #[]) w) w) w) w) w) w) w) w)) w)))) w) w))))) w) w) w) w) w) w) w) w) w) w) w) w) w) w) w) w) w) w) w) w) w) w) w) w) w) w) w
theorem ok30 (x0 x1 : Value) (R : Kt) (w : World) (h : sh30 x0 x1 R w) : Ret Try.prog 30 #[x0, x1] w R :=
  ret_mk <| calls_of_comp mixed (c := Try.f30.body.getD .skip) (args := [x0, x1]) (rs := []) (Ann.seq Ann.text (Ann.seq Ann.text (Ann.seq (Ann.block (Ann.loop [5] [8, 9, 10, 11, 12, 13, 14, 15, 16, 17, 18, 19, 20, 21, 22, 23, 24, 25, 26, 27, 28, 29, 30, 31, 32, 33, 34, 35, 36, 37, 38, 39, 40] (Ann.seq (Ann.seq (Ann.draw (Sch.take 0 (Sch.take 1 (Sch.take 2 (Sch.take 3 (Sch.take 4 (Sch.take 5 (Sch.take 6 (Sch.take 7 (Sch.take 8 (Sch.take 9 (Sch.take 10 (Sch.take 11 (Sch.take 12 (Sch.take 13 (Sch.take 14 (Sch.take 15 (Sch.take 16 (Sch.take 17 (Sch.take 18 (Sch.take 19 (Sch.take 20 (Sch.take 21 (Sch.take 22 (Sch.take 23 (Sch.take 24 (Sch.take 25 (Sch.take 26 (Sch.one 27 (Sch.take 28 (Sch.one 29 (Sch.take 30 Sch.done)))))))))))))))))))))))))))))))) (Ann.cond Ann.leaf Ann.leaf)) (Ann.block Ann.text)))) Ann.text)))
    Try.func30 (by kernel_rfl) (by kernel_rfl)
    (Eq.mp (by kernel_rfl) h)

theorem eqHd (x y : Hd) (w : World) : (binOp .eql 72 (.agg ⟨x.cells⟩) (.agg ⟨y.cells⟩)).run Try.prog w = .ok (.bool (decide (x = y))) w := by
  have u3 := Try.underlying3
  have a3 := Try.isAgg3
  have z3 := Try.sizeOf3
  have hS : Try.prog.underlying 72 = some (.struct (Try.prog.fieldsOf 72)) := by kernel_rfl
  have hp : Try.prog.stoodInHeld 72 = false := by kernel_rfl
  rw [run_eql_struct, show (10000 : Nat) = 9999 + 1 from rfl, run_equalIn_agg w 9999 72 _ _ hS hp]
  simp only [Program.fieldsOf, Try.underlying72, Hd.cells]
  obtain ⟨x1, x2⟩ := x
  obtain ⟨y1, y2⟩ := y
  simp only [Hd.mk.injEq]
  by_cases h1 : x1 = y1
  · by_cases h2 : x2 = y2
    · subst h1; subst h2
      go_simp
    · subst h1
      go_simp
  · go_simp
theorem M.eqHd_i {k : Kt} {w : World} {o1 o2 : Operand} {x y : Hd} (h : k (.bool (decide (x = y))) w) :
    M.val Try.prog (do eqGuard .eql 72 o1 o2 (.agg ⟨x.cells⟩) (.agg ⟨y.cells⟩); binOp .eql 72 (.agg ⟨x.cells⟩) (.agg ⟨y.cells⟩)) k w := by
  refine M.val_i (v := .bool (decide (x = y))) (w' := w) ?_ h
  have hm : Try.prog.eqGuardType Try.prog.depth 72 = false := by kernel_rfl
  rw [Sem.run_bind, run_eqGuard_agg w .eql _ o1 o2 _ _ hm]
  exact eqHd x y w
theorem M.load2_i {k : Kt} {w : World} {b o : Nat} {x y : Value} (h0 : w.cell? ⟨b, o, none⟩ = some x) (h1 : w.cell? ⟨b, o + 1, none⟩ = some y)
    (h : k (.agg ⟨[x, y]⟩) w) : M.loadA 2 (.pointer (some ⟨b, o, none⟩)) k w := by
  have := rdL_cells (w := w) (b := b) (o := o) (cs := [x, y]) 2 0 (by
    intro j hj
    match j, hj with
    | 0, _ => exact h0
    | 1, _ => exact h1) rfl
  unfold M.loadA
  simp only [this]
  exact h
theorem M.st2_i {w : World} {b o : Nat} {x y : Value} {X : Prop} (h0 : w.cell? ⟨b, o, none⟩ = some x) (h1 : w.cell? ⟨b, o + 1, none⟩ = some y)
    (h : X) : M.loadA 2 (.pointer (some ⟨b, o, none⟩)) (fun v' _ => v' = .agg ⟨[x, y]⟩) w ∧ X := ⟨M.load2_i h0 h1 rfl, h⟩
theorem GC.cutN {w : World} {L : Nat → Prop} {sz n c m : Nat} {A : Option Addr} {l : List Value} (h : GC w L sz (.slice A n c) n l) (hm : m ≤ n) :
    GC w L sz (.slice (if c = 0 then A else A.map (·.add (0 * sz))) (m - 0) (c - 0)) m (l.take (m * sz)) := by
  obtain ⟨h0, ⟨h1, h2⟩ | ⟨b, cc, rest, h1, h2, h3, h4⟩⟩ := h
  · simp only [Value.slice.injEq] at h1
    obtain ⟨rfl, _, rfl⟩ := h1
    subst h2
    have : m = 0 := by omega
    subst this
    exact ⟨by simp, .inl ⟨rfl, rfl⟩⟩
  · simp only [Value.slice.injEq] at h1
    obtain ⟨rfl, _, rfl⟩ := h1
    have e : (if c = 0 then some (⟨b, 0, none⟩ : Addr) else (some (⟨b, 0, none⟩ : Addr)).map (·.add (0 * sz))) = some ⟨b, 0, none⟩ := by
      simp [add_mk]
    have hle : m * sz ≤ n * sz := Nat.mul_le_mul_right _ hm
    rw [e]
    refine ⟨by rw [List.length_take]; omega, .inr ⟨b, c, l.drop (m * sz) ++ rest, by simp, h2, ?_, ?_⟩⟩
    · rw [← List.append_assoc, List.take_append_drop]; exact h3
    · rw [List.length_take, List.length_append, List.length_drop]; omega
theorem hd_take : ∀ (l : List Hd) (m : Nat), (l.flatMap Hd.cells).take (m * 2) = (l.take m).flatMap Hd.cells
  | [], m => by simp
  | x :: l, 0 => by simp
  | x :: l, m + 1 => by
    have e : (m + 1) * 2 = m * 2 + 2 := by omega
    rw [List.flatMap_cons, List.take_succ_cons, List.flatMap_cons, e]
    have ih := hd_take l m
    show (vi x.l :: vi x.born :: l.flatMap Hd.cells).take (m * 2 + 2) = vi x.l :: vi x.born :: _
    rw [List.take_succ_cons, List.take_succ_cons, ih]
    rfl
def Mch (t : Tr) (s : Wt) (j : Nat) : Prop := ∃ (e : Ent) (b : Int), t.L[j]? = some e ∧ t.born[j]? = some b ∧ s.done[j]? = some ⟨e.lit, b⟩
section
variable {w w1 : World} {p q r : Nat} {lab ow bk : Nat → Nat} {cv : Nat → Value} {wv : Value} {t : Tr} {s : Wt} {vb vw1 vd : Value} {bvs : List Value} {O : Nat → Prop}
set_option maxHeartbeats 1000000 in
theorem begin_ret (h : TWR w p q O bk cv wv t s) :
    Ret Try.prog 30 #[ptr q, ptr p] w (fun v w' => v = .tuple #[] ∧ ∃ O' n, n ≤ s.done.length ∧ TWR w' p q O' bk cv wv t { s with done := s.done.take n } ∧ OMod w w' O O' ∧ ∀ j, j < n → Mch t s j) := by
  have hf := h.fine
  have hlen := hf.len
  refine ok30 _ _ _ _ ?_
  unfold sh30
  refine M.call_i (lits_tw h) ?_; rintro lv w1 ⟨g1, k1⟩
  have h1 := h.keepN k1
  obtain ⟨lab, ow, r, vb, vd, bvs, hT⟩ := id h1
  obtain ⟨A, cap, rfl, hrow, _⟩ := GI.lv g1
  obtain ⟨DA, dcap, hvd, hdrow, _⟩ := GC.row2 hT.wb.dn (by omega)
  subst hvd
  refine M.loop_i (σ := Nat) (fun i vals w' => vals = [vi i] ∧ i ≤ s.done.length ∧ i ≤ t.L.length ∧ Keep w1 w' No ∧ ∀ j, j < i → Mch t s j) (fun i => s.done.length - i) 0 ⟨rfl, by omega, by omega, Keep.refl _ _, fun j hj => by omega⟩ ?_
  rintro i vals w2 K ⟨rfl, hi, hi2, k2, hm⟩ hK _
  simp only [List.getD_cons_zero, List.getD_cons_succ]
  have k2 := k2.trans (Keep.drew w2 No) (fun _ _ e => e)
  refine M.draw_i ?_
  generalize w2.drew = w3 at *
  have hT3 := hT.keep k2
  have hB3 := hT3.wb.st
  have hdr3 := hdrow.keep k2 (fun _ _ _ e => e)
  have hr3 := hrow.keep k2 (fun _ _ _ e => e)
  have hll : (t.L.map (·.lit)).length = t.L.length := by simp
  have fin : ∀ w4, Keep w3 w4 No → (M.slice 2 (.slice DA s.done.length dcap) none (some (vi i)) none (fun t47 w_ => M.nilCheck (ptr q) (fun t48 w_ => M.fieldAddr 5 t48 (fun t49 w_ => M.store 1 t49 t47 (fun _ wz => True ∧ ∃ O' n, n ≤ s.done.length ∧ TWR wz p q O' bk cv wv t { s with done := s.done.take n } ∧ OMod w wz O O' ∧ ∀ (j : Nat), j < n → Mch t s j) w_) w_) w_) w4) := by
    intro w4 k4
    have hT4 := hT3.keep k4
    have hB4 := hT4.wb.st
    have hq := hT4.wb.oq
    have hdn := hT4.wb.dn
    have hcc : s.done.length ≤ dcap := by
      obtain ⟨_, _, e, _, h5⟩ := GC.row2 hdn (by omega)
      simp only [Value.slice.injEq] at e
      rw [e.2.2]; exact h5
    refine M.slice_i 0 i dcap (sl3_h (by omega)) ?_
    have g4 := GC.cutN hdn (m := i) hi
    rw [hd_take] at g4
    (repeat (first|refine ja ?_|refine jb ?_|refine jc ?_|refine jd ?_|refine je ?_|refine jf ?_|refine jg ?_|refine jh ?_|refine ji ?_|refine jj ?_|refine jk ?_|refine jl ?_|refine jm ?_|refine jn ?_|refine jo ?_|refine jp ?_|refine jq ?_|refine jr ?_|refine js ?_|refine jt ?_|refine ju ?_|refine jv ?_|refine jw ?_|refine jx ?_|refine jy ?_|refine jz ?_|refine jA ?_|refine jB ?_|refine jC ?_|refine jD ?_|refine jE ?_|refine jF ?_|refine jG ?_|refine jH ?_|refine jI ?_|refine jJ ?_|refine jK ?_|refine jL ?_|refine jM (by assumption) ?_|refine jN (by assumption) rfl ?_|refine jO (by assumption) ?_|refine jP (by assumption) rfl ?_|refine jQ ?_|refine jR ?_|refine jS ?_|refine jT ?_|refine jU (by assumption) rfl ?_))
    refine M.store_i hB4 (by simp) (GC.one g4) (fun w5 b5 k5 s5 => ?_)
    have g5 := g4.keep k5 (fun b _ e e2 => by have e2 : b = q := e2; subst e2; omega)
    have hle : (s.done.take i).length = i := by rw [List.length_take]; omega
    have g5' : GC w5 (ow · = 5) 2 (.slice (if dcap = 0 then DA else DA.map (·.add (0 * 2))) (i - 0) (dcap - 0)) (s.done.take i).length ((s.done.take i).flatMap Hd.cells) := by rw [hle]; exact g5
    have wb5 := hT4.wb.setDn (w1 := w5) (l' := s.done.take i) g5' (fun b e => .inl e) (k5.mono (fun _ _ e => .inl e)) b5
    obtain ⟨O5, hT5, m5⟩ := hT4.setW (k5.mono (fun b _ e => by have e : b = q := e; show ow b ≠ 0; rw [e]; omega)) wb5 (fun b hb e => by
      rcases relX_le e with h | h
      · exact h
      · have := (GC.blkOf g5' h).1; show ow b ≠ 0; omega)
    exact ⟨trivial, O5, i, hi, ⟨_, _, _, _, _, _, hT5⟩, (OMod.of ((k1.trans k2 (fun _ _ e => e)).trans k4 (fun _ _ e => e))).trans m5, hm⟩
  by_cases hlt : i < s.done.length
  · by_cases hlt2 : i < t.L.length
    · obtain ⟨d, hd⟩ : ∃ d, s.done[i]? = some d := ⟨_, List.getElem?_eq_getElem hlt⟩
      obtain ⟨e, he⟩ : ∃ e, t.L[i]? = some e := ⟨_, List.getElem?_eq_getElem hlt2⟩
      obtain ⟨b, hb⟩ : ∃ b, t.born[i]? = some b := ⟨_, List.getElem?_eq_getElem (by omega)⟩
      (repeat (first|refine ja ?_|refine jb ?_|refine jc ?_|refine jd ?_|refine je ?_|refine jf ?_|refine jg ?_|refine jh ?_|refine ji ?_|refine jj ?_|refine jk ?_|refine jl ?_|refine jm ?_|refine jn ?_|refine jo ?_|refine jp ?_|refine jq ?_|refine jr ?_|refine js ?_|refine jt ?_|refine ju ?_|refine jv ?_|refine jw ?_|refine jx ?_|refine jy ?_|refine jz ?_|refine jA ?_|refine jB ?_|refine jC ?_|refine jD ?_|refine jE ?_|refine jF ?_|refine jG ?_|refine jH ?_|refine jI ?_|refine jJ ?_|refine jK ?_|refine jL ?_|refine jM (by assumption) ?_|refine jN (by assumption) rfl ?_|refine jO (by assumption) ?_|refine jP (by assumption) rfl ?_|refine jQ ?_|refine jR ?_|refine jS ?_|refine jT ?_|refine jU (by assumption) rfl ?_))
      refine M.idxF_i hd_len (by omega) hdr3 rfl (by omega) (x := d) (by simpa using hd) (fun bb oo hcc => ?_)
      have hc0 : w3.cell? ⟨bb, oo, none⟩ = some (vi d.l) := hcc 0 _ rfl
      have hc1 : w3.cell? ⟨bb, oo + 1, none⟩ = some (vi d.born) := hcc 1 _ rfl
      (repeat (first|refine ja ?_|refine jb ?_|refine jc ?_|refine jd ?_|refine je ?_|refine jf ?_|refine jg ?_|refine jh ?_|refine ji ?_|refine jj ?_|refine jk ?_|refine jl ?_|refine jm ?_|refine jn ?_|refine jo ?_|refine jp ?_|refine jq ?_|refine jr ?_|refine js ?_|refine jt ?_|refine ju ?_|refine jv ?_|refine jw ?_|refine jx ?_|refine jy ?_|refine jz ?_|refine jA ?_|refine jB ?_|refine jC ?_|refine jD ?_|refine jE ?_|refine jF ?_|refine jG ?_|refine jH ?_|refine jI ?_|refine jJ ?_|refine jK ?_|refine jL ?_|refine jM (by assumption) ?_|refine jN (by assumption) rfl ?_|refine jO (by assumption) ?_|refine jP (by assumption) rfl ?_|refine jQ ?_|refine jR ?_|refine jS ?_|refine jT ?_|refine jU (by assumption) rfl ?_))
      refine M.load2_i hc0 hc1 ?_
      (repeat (first|refine ja ?_|refine jb ?_|refine jc ?_|refine jd ?_|refine je ?_|refine jf ?_|refine jg ?_|refine jh ?_|refine ji ?_|refine jj ?_|refine jk ?_|refine jl ?_|refine jm ?_|refine jn ?_|refine jo ?_|refine jp ?_|refine jq ?_|refine jr ?_|refine js ?_|refine jt ?_|refine ju ?_|refine jv ?_|refine jw ?_|refine jx ?_|refine jy ?_|refine jz ?_|refine jA ?_|refine jB ?_|refine jC ?_|refine jD ?_|refine jE ?_|refine jF ?_|refine jG ?_|refine jH ?_|refine jI ?_|refine jJ ?_|refine jK ?_|refine jL ?_|refine jM (by assumption) ?_|refine jN (by assumption) rfl ?_|refine jO (by assumption) ?_|refine jP (by assumption) rfl ?_|refine jQ ?_|refine jR ?_|refine jS ?_|refine jT ?_|refine jU (by assumption) rfl ?_))
      refine M.idxLV_i hr3 rfl (by omega) (by rw [hll]; omega) (x := e.lit) (by simp [he]) (fun bb2 oo2 hA2 hcc2 => ?_)
      (repeat (first|refine ja ?_|refine jb ?_|refine jc ?_|refine jd ?_|refine je ?_|refine jf ?_|refine jg ?_|refine jh ?_|refine ji ?_|refine jj ?_|refine jk ?_|refine jl ?_|refine jm ?_|refine jn ?_|refine jo ?_|refine jp ?_|refine jq ?_|refine jr ?_|refine js ?_|refine jt ?_|refine ju ?_|refine jv ?_|refine jw ?_|refine jx ?_|refine jy ?_|refine jz ?_|refine jA ?_|refine jB ?_|refine jC ?_|refine jD ?_|refine jE ?_|refine jF ?_|refine jG ?_|refine jH ?_|refine jI ?_|refine jJ ?_|refine jK ?_|refine jL ?_|refine jM (by assumption) ?_|refine jN (by assumption) rfl ?_|refine jO (by assumption) ?_|refine jP (by assumption) rfl ?_|refine jQ ?_|refine jR ?_|refine jS ?_|refine jT ?_|refine jU (by assumption) rfl ?_))
      refine M.call_i (born_tw ⟨_, _, _, _, _, _, hT3⟩ i) ?_; rintro _ w4 ⟨rfl, k4⟩
      have hb0 : t.bornAt i = b := by
        unfold Tr.bornAt
        rw [if_neg (by omega), Int.toNat_natCast, hb]
      rw [hb0]
      have hB4 := hB3.keep k4 (fun e => e)
      have hc0' := k4.cell (fun e => e) hc0
      have hc1' := k4.cell (fun e => e) hc1
      have hcc2' := k4.cell (fun e => e) hcc2
      (repeat (first|refine ja ?_|refine jb ?_|refine jc ?_|refine jd ?_|refine je ?_|refine jf ?_|refine jg ?_|refine jh ?_|refine ji ?_|refine jj ?_|refine jk ?_|refine jl ?_|refine jm ?_|refine jn ?_|refine jo ?_|refine jp ?_|refine jq ?_|refine jr ?_|refine js ?_|refine jt ?_|refine ju ?_|refine jv ?_|refine jw ?_|refine jx ?_|refine jy ?_|refine jz ?_|refine jA ?_|refine jB ?_|refine jC ?_|refine jD ?_|refine jE ?_|refine jF ?_|refine jG ?_|refine jH ?_|refine jI ?_|refine jJ ?_|refine jK ?_|refine jL ?_|refine jM (by assumption) ?_|refine jN (by assumption) rfl ?_|refine jO (by assumption) ?_|refine jP (by assumption) rfl ?_|refine jQ ?_|refine jR ?_|refine jS ?_|refine jT ?_|refine jU (by assumption) rfl ?_))
      refine M.st2_i hc0' hc1' ?_
      (repeat (first|refine ja ?_|refine jb ?_|refine jc ?_|refine jd ?_|refine je ?_|refine jf ?_|refine jg ?_|refine jh ?_|refine ji ?_|refine jj ?_|refine jk ?_|refine jl ?_|refine jm ?_|refine jn ?_|refine jo ?_|refine jp ?_|refine jq ?_|refine jr ?_|refine js ?_|refine jt ?_|refine ju ?_|refine jv ?_|refine jw ?_|refine jx ?_|refine jy ?_|refine jz ?_|refine jA ?_|refine jB ?_|refine jC ?_|refine jD ?_|refine jE ?_|refine jF ?_|refine jG ?_|refine jH ?_|refine jI ?_|refine jJ ?_|refine jK ?_|refine jL ?_|refine jM (by assumption) ?_|refine jN (by assumption) rfl ?_|refine jO (by assumption) ?_|refine jP (by assumption) rfl ?_|refine jQ ?_|refine jR ?_|refine jS ?_|refine jT ?_|refine jU (by assumption) rfl ?_))
      refine M.pure_i (.agg ⟨[vi e.lit, vi b]⟩) (fun _ => by kernel_rfl) ?_
      (repeat (first|refine ja ?_|refine jb ?_|refine jc ?_|refine jd ?_|refine je ?_|refine jf ?_|refine jg ?_|refine jh ?_|refine ji ?_|refine jj ?_|refine jk ?_|refine jl ?_|refine jm ?_|refine jn ?_|refine jo ?_|refine jp ?_|refine jq ?_|refine jr ?_|refine js ?_|refine jt ?_|refine ju ?_|refine jv ?_|refine jw ?_|refine jx ?_|refine jy ?_|refine jz ?_|refine jA ?_|refine jB ?_|refine jC ?_|refine jD ?_|refine jE ?_|refine jF ?_|refine jG ?_|refine jH ?_|refine jI ?_|refine jJ ?_|refine jK ?_|refine jL ?_|refine jM (by assumption) ?_|refine jN (by assumption) rfl ?_|refine jO (by assumption) ?_|refine jP (by assumption) rfl ?_|refine jQ ?_|refine jR ?_|refine jS ?_|refine jT ?_|refine jU (by assumption) rfl ?_))
      refine M.eqHd_i (x := d) (y := ⟨e.lit, b⟩) ?_
      (repeat (first|refine ja ?_|refine jb ?_|refine jc ?_|refine jd ?_|refine je ?_|refine jf ?_|refine jg ?_|refine jh ?_|refine ji ?_|refine jj ?_|refine jk ?_|refine jl ?_|refine jm ?_|refine jn ?_|refine jo ?_|refine jp ?_|refine jq ?_|refine jr ?_|refine js ?_|refine jt ?_|refine ju ?_|refine jv ?_|refine jw ?_|refine jx ?_|refine jy ?_|refine jz ?_|refine jA ?_|refine jB ?_|refine jC ?_|refine jD ?_|refine jE ?_|refine jF ?_|refine jG ?_|refine jH ?_|refine jI ?_|refine jJ ?_|refine jK ?_|refine jL ?_|refine jM (by assumption) ?_|refine jN (by assumption) rfl ?_|refine jO (by assumption) ?_|refine jP (by assumption) rfl ?_|refine jQ ?_|refine jR ?_|refine jS ?_|refine jT ?_|refine jU (by assumption) rfl ?_))
      by_cases hde : d = ⟨e.lit, b⟩
      · rw [decide_eq_true hde]
        (repeat (first|refine ja ?_|refine jb ?_|refine jc ?_|refine jd ?_|refine je ?_|refine jf ?_|refine jg ?_|refine jh ?_|refine ji ?_|refine jj ?_|refine jk ?_|refine jl ?_|refine jm ?_|refine jn ?_|refine jo ?_|refine jp ?_|refine jq ?_|refine jr ?_|refine js ?_|refine jt ?_|refine ju ?_|refine jv ?_|refine jw ?_|refine jx ?_|refine jy ?_|refine jz ?_|refine jA ?_|refine jB ?_|refine jC ?_|refine jD ?_|refine jE ?_|refine jF ?_|refine jG ?_|refine jH ?_|refine jI ?_|refine jJ ?_|refine jK ?_|refine jL ?_|refine jM (by assumption) ?_|refine jN (by assumption) rfl ?_|refine jO (by assumption) ?_|refine jP (by assumption) rfl ?_|refine jQ ?_|refine jR ?_|refine jS ?_|refine jT ?_|refine jU (by assumption) rfl ?_))
        exact hK (i + 1) _ _ (by omega) ⟨rfl, by omega, by omega, k2.trans k4 (fun _ _ e => e), fun j hj => by
          by_cases ej : j = i
          · subst ej
            exact ⟨e, b, he, hb, by rw [hd, hde]⟩
          · exact hm j (by omega)⟩
      · rw [decide_eq_false hde]
        (repeat (first|refine ja ?_|refine jb ?_|refine jc ?_|refine jd ?_|refine je ?_|refine jf ?_|refine jg ?_|refine jh ?_|refine ji ?_|refine jj ?_|refine jk ?_|refine jl ?_|refine jm ?_|refine jn ?_|refine jo ?_|refine jp ?_|refine jq ?_|refine jr ?_|refine js ?_|refine jt ?_|refine ju ?_|refine jv ?_|refine jw ?_|refine jx ?_|refine jy ?_|refine jz ?_|refine jA ?_|refine jB ?_|refine jC ?_|refine jD ?_|refine jE ?_|refine jF ?_|refine jG ?_|refine jH ?_|refine jI ?_|refine jJ ?_|refine jK ?_|refine jL ?_|refine jM (by assumption) ?_|refine jN (by assumption) rfl ?_|refine jO (by assumption) ?_|refine jP (by assumption) rfl ?_|refine jQ ?_|refine jR ?_|refine jS ?_|refine jT ?_|refine jU (by assumption) rfl ?_))
        exact fin w4 k4
    · (repeat (first|refine ja ?_|refine jb ?_|refine jc ?_|refine jd ?_|refine je ?_|refine jf ?_|refine jg ?_|refine jh ?_|refine ji ?_|refine jj ?_|refine jk ?_|refine jl ?_|refine jm ?_|refine jn ?_|refine jo ?_|refine jp ?_|refine jq ?_|refine jr ?_|refine js ?_|refine jt ?_|refine ju ?_|refine jv ?_|refine jw ?_|refine jx ?_|refine jy ?_|refine jz ?_|refine jA ?_|refine jB ?_|refine jC ?_|refine jD ?_|refine jE ?_|refine jF ?_|refine jG ?_|refine jH ?_|refine jI ?_|refine jJ ?_|refine jK ?_|refine jL ?_|refine jM (by assumption) ?_|refine jN (by assumption) rfl ?_|refine jO (by assumption) ?_|refine jP (by assumption) rfl ?_|refine jQ ?_|refine jR ?_|refine jS ?_|refine jT ?_|refine jU (by assumption) rfl ?_))
      exact fin w3 (Keep.refl _ _)
  · (repeat (first|refine ja ?_|refine jb ?_|refine jc ?_|refine jd ?_|refine je ?_|refine jf ?_|refine jg ?_|refine jh ?_|refine ji ?_|refine jj ?_|refine jk ?_|refine jl ?_|refine jm ?_|refine jn ?_|refine jo ?_|refine jp ?_|refine jq ?_|refine jr ?_|refine js ?_|refine jt ?_|refine ju ?_|refine jv ?_|refine jw ?_|refine jx ?_|refine jy ?_|refine jz ?_|refine jA ?_|refine jB ?_|refine jC ?_|refine jD ?_|refine jE ?_|refine jF ?_|refine jG ?_|refine jH ?_|refine jI ?_|refine jJ ?_|refine jK ?_|refine jL ?_|refine jM (by assumption) ?_|refine jN (by assumption) rfl ?_|refine jO (by assumption) ?_|refine jP (by assumption) rfl ?_|refine jQ ?_|refine jR ?_|refine jS ?_|refine jT ?_|refine jU (by assumption) rfl ?_))
    exact fin w3 (Keep.refl _ _)
end
end Go.Proofs.Ytnmbgfonlpjicaa
