import Derived.Test.YtkpgmbifaohjgaaRef10
namespace Go.Proofs.Ytkpgmbifaohjgaa
open Go.Mw
set_option linter.unusedVariables false
set_option linter.unusedSimpArgs false
set_option maxRecDepth 100000
attribute [local irreducible] M.val M.unit M.next M.pick M.new M.nilCheck M.load1 M.loadA M.store M.fieldAddr M.indexSl M.indexArr M.slice M.makeSlice M.buildSlice M.len M.lenS M.cap M.append M.extract M.conv M.not M.neg M.bin M.shift M.eqB M.eqNil M.call M.callv M.gd M.share M.cond M.loop M.draw pureW readW Ret
def Tr.doD (t : Tr) (kd l n : Int) : Tr := if kd = 0 then t.assign l n else if kd = 1 then t.dec l else if kd = 2 then (t.back n).1 else t
def RT.doD (t : RT) (kd l n : Int) : RT := if kd = 0 then t.assign l n else if kd = 1 then t.dec l else if kd = 2 then (t.back n).1 else t
def sameD (t : Tr) (u : RT) (kd l n : Int) : Bool := if kd = 0 ∨ kd = 1 then t.may l == u.may l else if kd = 2 then decide ((t.back n).2 = (u.back n).2) else true
/-! breakwater/breakwaterlaw10.Do: function 25 -/
def sh25 (x0 x1 x2 : Value) (R : Kt) (w : World) : Prop :=
  M.new 47 (Value.cells x1) (fun t4 w =>
  M.new 52 (Value.cells x2) (fun t5 w =>
  M.new 47 #[.int .i64 0, .slice none 0 0, .int .i64 0] (fun t6 w =>
  M.fieldAddr 0 t5 (fun t15 w =>
  M.load1 t15 (fun t16 w =>
  M.share (fun K1 w =>
  M.bin .eql t16 (Value.int IntKind.i64 0) (fun t18 w =>
  M.cond t18
  (M.loadA 3 t4 (fun t20 w =>
  M.fieldAddr 1 t5 (fun t21 w =>
  M.load1 t21 (fun t22 w =>
  M.fieldAddr 2 t5 (fun t23 w =>
  M.load1 t23 (fun t24 w =>
  M.call Try.prog 62 #[t20, t22, t24] (fun t25 w =>
  M.extract 0 t25 (fun t26 w =>
  M.extract 1 t25 (fun t27 w =>
  M.new 47 #[.int .i64 0, .slice none 0 0, .int .i64 0] (fun t9 w =>
  M.store 3 t9 t26 (fun _ w =>
  M.loadA 3 t9 (fun t28 w =>
  M.store 3 t4 t28 (fun _ w =>
  M.fieldAddr 1 t5 (fun t30 w =>
  M.load1 t30 (fun t31 w =>
  M.fieldAddr 2 t5 (fun t32 w =>
  M.load1 t32 (fun t33 w =>
  M.call Try.prog 36 #[x0, t31, t33] (fun t34 w =>
  M.eqB false t34 t27 (fun t36 w =>
  K1 [t36] w) w) w) w) w) w) w) w) w) w) w) w) w) w) w) w) w) w) w)
  (M.bin .eql t16 (Value.int IntKind.i64 1) (fun t38 w =>
  M.cond t38
  (M.loadA 3 t4 (fun t40 w =>
  M.fieldAddr 1 t5 (fun t41 w =>
  M.load1 t41 (fun t42 w =>
  M.call Try.prog 63 #[t40, t42] (fun t43 w =>
  M.extract 0 t43 (fun t44 w =>
  M.extract 1 t43 (fun t45 w =>
  M.new 47 #[.int .i64 0, .slice none 0 0, .int .i64 0] (fun t11 w =>
  M.store 3 t11 t44 (fun _ w =>
  M.loadA 3 t11 (fun t46 w =>
  M.store 3 t4 t46 (fun _ w =>
  M.fieldAddr 1 t5 (fun t48 w =>
  M.load1 t48 (fun t49 w =>
  M.call Try.prog 37 #[x0, t49] (fun t50 w =>
  M.eqB false t50 t45 (fun t52 w =>
  K1 [t52] w) w) w) w) w) w) w) w) w) w) w) w) w) w) w)
  (M.bin .eql t16 (Value.int IntKind.i64 2) (fun t54 w =>
  M.cond t54
  (M.loadA 3 t4 (fun t56 w =>
  M.fieldAddr 2 t5 (fun t57 w =>
  M.load1 t57 (fun t58 w =>
  M.call Try.prog 64 #[t56, t58] (fun t59 w =>
  M.extract 0 t59 (fun t60 w =>
  M.extract 1 t59 (fun t61 w =>
  M.new 47 #[.int .i64 0, .slice none 0 0, .int .i64 0] (fun t13 w =>
  M.store 3 t13 t60 (fun _ w =>
  M.loadA 3 t13 (fun t62 w =>
  M.store 3 t4 t62 (fun _ w =>
  M.fieldAddr 2 t5 (fun t64 w =>
  M.load1 t64 (fun t65 w =>
  M.call Try.prog 35 #[x0, t65] (fun t66 w =>
  M.call Try.prog 16 #[t66, t61] (fun t68 w =>
  K1 [t68] w) w) w) w) w) w) w) w) w) w) w) w) w) w) w)
  (K1 [(Value.bool true)] w)) w)) w)) w) (fun s1 w => ∀ _ : List Value,
  M.cond (s1.getD 0 undef)
  (M.loadA 3 t4 (fun t70 w =>
  M.store 3 t6 t70 (fun _ w =>
  M.loadA 3 t6 (fun r0 w => R (.tuple #[r0, (Value.int IntKind.i64 1)]) w) w) w) w)
  (M.loadA 3 t4 (fun t71 w =>
  M.store 3 t6 t71 (fun _ w =>
  M.loadA 3 t6 (fun r0 w => R (.tuple #[r0, (Value.int IntKind.i64 0)]) w) w) w) w)) w) w) w) w) w) w
theorem ok25 (x0 x1 x2 : Value) (R : Kt) (w : World) (h : sh25 x0 x1 x2 R w) : Ret Try.prog 25 #[x0, x1, x2] w R :=
  ret_mk <| calls_of_comp mixed (c := Try.f25.body.getD .skip) (args := [x0, x1, x2]) (rs := [(ResultVar.cell 6 47), (ResultVar.tmp 7)]) (Ann.seq Ann.text (Ann.seq Ann.text (Ann.seq (Ann.seq Ann.text (Ann.jblock [8] [9, 10, 11, 12, 13, 14, 17, 18, 19, 20, 21, 22, 23, 24, 25, 26, 27, 28, 29, 30, 31, 32, 33, 34, 35, 36, 37, 38, 39, 40, 41, 42, 43, 44, 45, 46, 47, 48, 49, 50, 51, 52, 53, 54, 55, 56, 57, 58, 59, 60, 61, 62, 63, 64, 65, 66, 67, 68] (Ann.seq Ann.text (Ann.cond (Ann.seq Ann.text (Ann.seq Ann.text Ann.text)) (Ann.seq Ann.text (Ann.cond (Ann.seq Ann.text (Ann.seq Ann.text Ann.text)) (Ann.seq Ann.text (Ann.cond (Ann.seq Ann.text (Ann.seq Ann.text Ann.text)) Ann.leaf)))))))) (Ann.seq (Ann.seq Ann.text (Ann.cond (Ann.seq Ann.text Ann.leaf) Ann.leaf)) (Ann.seq Ann.text Ann.leaf)))))
    Try.func25 (by kernel_rfl) (by kernel_rfl)
    (Eq.mp (by kernel_rfl) h)


theorem TMod.of_keep {w w' : World} {lab : Nat → Nat} (h : Keep w w' No) : TMod w w' lab lab := ⟨h.mono (fun _ _ h => h.elim), fun _ _ => rfl⟩
theorem TMod.trans {a b c : World} {l1 l2 l3 : Nat → Nat} (h : TMod a b l1 l2) (k : TMod b c l2 l3) : TMod a c l1 l3 :=
  ⟨h.1.trans k.1 (fun i hi hn => by rw [← h.2 i hi]; exact hn), fun i hi => (k.2 i (Nat.lt_of_lt_of_le hi h.1.size)).trans (h.2 i hi)⟩
theorem TRep.lab0 {w : World} {p : Nat} {lab : Nat → Nat} {t : Tr} (h : TRep w p lab t) {b : Nat} (hb : w.heap.size ≤ b) : lab b = 0 := by
  obtain ⟨vl, vb, vg, va, ve, vr, at1, levels, reasons, hB, hl, hb', hg, ha, he, hr, hp, hlab, ok⟩ := h
  exact Classical.byContradiction fun hh => by have := hlab b hh; omega

structure RT.Fit (u : RT) : Prop where
  few : Few u.L.length
  lev : 0 ≤ u.level ∧ u.level ≤ 1000000000
  lits : ∀ e ∈ u.L, I64 e.lit

set_option maxHeartbeats 2000000 in
theorem do_ret {w : World} {p : Nat} {lab : Nat → Nat} {t : Tr} {u : RT} {D : Nat → Prop} {v : Value} (h : TRep w p lab t) (wf : t.Wf) (hv : RV w D v u) (fit : u.Fit) (hD : ∀ b, b < w.heap.size → D b → lab b = 0)
    (kd l n : Int) (hl : I64 l) :
    Ret Try.prog 25 #[ptr p, v, .agg ⟨[vi kd, vi l, vi n]⟩] w (fun r w' => ∃ v' lab', r = .tuple #[v', vi (if sameD t u kd l n then 1 else 0)] ∧ TRep w' p lab' (t.doD kd l n) ∧ TMod w w' lab lab' ∧
      RV w' (fun b => D b ∨ (w.heap.size ≤ b ∧ lab' b = 0)) v' (u.doD kd l n)) := by
  obtain ⟨A, c, rfl, hc, hr⟩ := id hv
  refine ok25 _ _ _ _ _ ?_
  unfold sh25
  refine M.new_i (l := [vi u.vars, .slice A u.L.length c, vi u.level]) (fun w1 hX k1 s1 => ?_)
  refine M.new_i (l := [vi kd, vi l, vi n]) (fun w2 hE k2 s2 => ?_)
  refine M.new_i (fun w3 hZ k3 s3 => ?_)
  have hX := (hX.keep k2 (fun h => h)).keep k3 (fun h => h)
  have hE := hE.keep k3 (fun h => h)
  have k13 := (k1.trans k2 (fun _ _ h => h)).trans k3 (fun _ _ h => h)
  have h3 := h.keep k13 (fun _ _ _ h => h)
  have q1 := k1.size; have q2 := k2.size; have q3 := k3.size
  have l0 : ∀ b, w.heap.size ≤ b → lab b = 0 := fun b hb => h.lab0 hb
  have hr3 := (hr.mono (D' := fun b => D b ∧ b < w.heap.size) (fun b hb hd => ⟨hd, hb⟩)).keep k13 (fun _ _ _ h => h)
  (repeat (first | refine M.len_i ?_ | refine M.nilCheck_i ?_ | refine M.field_i ?_ | refine M.draw_i ?_ | refine M.cap_i ?_ | refine M.gd_tt ?_ | refine M.gd_ff ?_ | refine M.gd_ft ?_ | refine M.gd_tf ?_ | refine M.pick_t ?_ | refine M.pick_f ?_ | refine M.not_t ?_ | refine M.not_f ?_ | refine M.cond_t ?_ | refine M.cond_f ?_ | refine M.eqNilP_tn ?_ | refine M.eqNilP_ts ?_ | refine M.eqNilP_fn ?_ | refine M.eqNilP_fs ?_ | refine M.eqNilS_tn ?_ | refine M.eqNilS_ts ?_ | refine M.eqNilS_fn ?_ | refine M.eqNilS_fs ?_ | refine M.lss_t (by omega) ?_ | refine M.lss_f (by omega) ?_ | refine M.leq_t (by omega) ?_ | refine M.leq_f (by omega) ?_ | refine M.gtr_t (by omega) ?_ | refine M.gtr_f (by omega) ?_ | refine M.geq_t (by omega) ?_ | refine M.geq_f (by omega) ?_ | refine M.eql_t (by omega) ?_ | refine M.eql_f (by omega) ?_ | refine M.neq_t (by omega) ?_ | refine M.neq_f (by omega) ?_ | refine M.add_i (by omega) (by omega) ?_ | refine M.sub_i (by omega) (by omega) ?_ | refine M.load_i (by assumption) ?_ | refine M.loadB_i (by assumption) rfl ?_ | refine M.st_i (by assumption) ?_ | refine M.stB_i (by assumption) rfl ?_ | refine M.gs_ff ?_ | refine M.gs_tt ?_ | refine M.gs_ft ?_ | refine M.gs_tf ?_ | refine M.stAll_i (by assumption) rfl ?_))
  refine M.share_j (fun vals w' => ∃ lab' x y z, vals = [.bool (sameD t u kd l n)] ∧ Blk w' w.heap.size [x, y, z] ∧ RV w' (fun b => D b ∧ b < w.heap.size ∨ (w3.heap.size ≤ b ∧ lab' b = 0)) (.agg ⟨[x, y, z]⟩) (u.doD kd l n) ∧
      Blk w' w2.heap.size [vi 0, .slice none 0 0, vi 0] ∧ TRep w' p lab' (t.doD kd l n) ∧ TMod w w' lab lab' ∧ (∀ b, w.heap.size ≤ b → b < w3.heap.size → lab' b = 0) ∧ x.oneCell' = true ∧ y.oneCell' = true ∧ z.oneCell' = true) ?_ ?_
  · rintro vals w' ⟨lab', x, y, z, rfl, hX, hv, hZ, hT, hm, hlz, o1, o2, o3⟩ _
    simp only [List.getD_cons_zero, List.getD_cons_succ]
    have q4 := hm.1.size
    have l1 : lab' w2.heap.size = 0 := hlz _ (by omega) (by omega)
    generalize sameD t u kd l n = bs
    have fin : ∀ i : Int, i = (if bs then 1 else 0) → M.loadA 3 (.pointer (some ⟨w.heap.size, 0, none⟩)) (fun t70 w_1 => M.store 3 (.pointer (some ⟨w2.heap.size, 0, none⟩)) t70 (fun _ w_1 =>
        M.loadA 3 (.pointer (some ⟨w2.heap.size, 0, none⟩)) (fun r0 w_1 => (fun r w' => ∃ v' lab', r = Value.tuple #[v', vi (if bs then 1 else 0)] ∧ TRep w' p lab' (t.doD kd l n) ∧ TMod w w' lab lab' ∧
        RV w' (fun b => D b ∨ (w.heap.size ≤ b ∧ lab' b = 0)) v' (u.doD kd l n)) (.tuple #[r0, vi i]) w_1) w_1) w_1) w' := by
      intro i hi
      refine M.loadAll_i hX rfl ?_
      refine M.storeAll_i hZ rfl rfl (tri_one _ _ _ o1 o2 o3) (fun w5 hZ k5 s5 => ?_)
      refine M.loadAll_i hZ rfl ?_
      have hT5 := hT.keep k5 (fun b hb h1 h2 => by subst h2; omega)
      have hv5 := hv.keep k5 (fun b hb h1 h2 => by subst h2; omega)
      refine ⟨_, lab', by rw [hi], hT5, ?_, hv5.mono (fun b hb h => by rcases h with h | h; exact .inl h.1; right; omega)⟩
      exact ⟨hm.1.trans k5 (fun b hb h => by omega), hm.2⟩
    cases bs with
    | true => (repeat (first | refine M.len_i ?_ | refine M.nilCheck_i ?_ | refine M.field_i ?_ | refine M.draw_i ?_ | refine M.cap_i ?_ | refine M.gd_tt ?_ | refine M.gd_ff ?_ | refine M.gd_ft ?_ | refine M.gd_tf ?_ | refine M.pick_t ?_ | refine M.pick_f ?_ | refine M.not_t ?_ | refine M.not_f ?_ | refine M.cond_t ?_ | refine M.cond_f ?_ | refine M.eqNilP_tn ?_ | refine M.eqNilP_ts ?_ | refine M.eqNilP_fn ?_ | refine M.eqNilP_fs ?_ | refine M.eqNilS_tn ?_ | refine M.eqNilS_ts ?_ | refine M.eqNilS_fn ?_ | refine M.eqNilS_fs ?_ | refine M.lss_t (by omega) ?_ | refine M.lss_f (by omega) ?_ | refine M.leq_t (by omega) ?_ | refine M.leq_f (by omega) ?_ | refine M.gtr_t (by omega) ?_ | refine M.gtr_f (by omega) ?_ | refine M.geq_t (by omega) ?_ | refine M.geq_f (by omega) ?_ | refine M.eql_t (by omega) ?_ | refine M.eql_f (by omega) ?_ | refine M.neq_t (by omega) ?_ | refine M.neq_f (by omega) ?_ | refine M.add_i (by omega) (by omega) ?_ | refine M.sub_i (by omega) (by omega) ?_ | refine M.load_i (by assumption) ?_ | refine M.loadB_i (by assumption) rfl ?_ | refine M.st_i (by assumption) ?_ | refine M.stB_i (by assumption) rfl ?_ | refine M.gs_ff ?_ | refine M.gs_tt ?_ | refine M.gs_ft ?_ | refine M.gs_tf ?_ | refine M.stAll_i (by assumption) rfl ?_)); exact fin 1 (by simp)
    | false => (repeat (first | refine M.len_i ?_ | refine M.nilCheck_i ?_ | refine M.field_i ?_ | refine M.draw_i ?_ | refine M.cap_i ?_ | refine M.gd_tt ?_ | refine M.gd_ff ?_ | refine M.gd_ft ?_ | refine M.gd_tf ?_ | refine M.pick_t ?_ | refine M.pick_f ?_ | refine M.not_t ?_ | refine M.not_f ?_ | refine M.cond_t ?_ | refine M.cond_f ?_ | refine M.eqNilP_tn ?_ | refine M.eqNilP_ts ?_ | refine M.eqNilP_fn ?_ | refine M.eqNilP_fs ?_ | refine M.eqNilS_tn ?_ | refine M.eqNilS_ts ?_ | refine M.eqNilS_fn ?_ | refine M.eqNilS_fs ?_ | refine M.lss_t (by omega) ?_ | refine M.lss_f (by omega) ?_ | refine M.leq_t (by omega) ?_ | refine M.leq_f (by omega) ?_ | refine M.gtr_t (by omega) ?_ | refine M.gtr_f (by omega) ?_ | refine M.geq_t (by omega) ?_ | refine M.geq_f (by omega) ?_ | refine M.eql_t (by omega) ?_ | refine M.eql_f (by omega) ?_ | refine M.neq_t (by omega) ?_ | refine M.neq_f (by omega) ?_ | refine M.add_i (by omega) (by omega) ?_ | refine M.sub_i (by omega) (by omega) ?_ | refine M.load_i (by assumption) ?_ | refine M.loadB_i (by assumption) rfl ?_ | refine M.st_i (by assumption) ?_ | refine M.stB_i (by assumption) rfl ?_ | refine M.gs_ff ?_ | refine M.gs_tt ?_ | refine M.gs_ft ?_ | refine M.gs_tf ?_ | refine M.stAll_i (by assumption) rfl ?_)); exact fin 0 (by simp)
  · intro K hK
    have rv3 : RV w3 (fun b => D b ∧ b < w.heap.size) (.agg ⟨[vi u.vars, .slice A u.L.length c, vi u.level]⟩) u := ⟨A, c, rfl, hc, hr3⟩
    by_cases e0 : kd = 0
    · subst e0
      (repeat (first | refine M.len_i ?_ | refine M.nilCheck_i ?_ | refine M.field_i ?_ | refine M.draw_i ?_ | refine M.cap_i ?_ | refine M.gd_tt ?_ | refine M.gd_ff ?_ | refine M.gd_ft ?_ | refine M.gd_tf ?_ | refine M.pick_t ?_ | refine M.pick_f ?_ | refine M.not_t ?_ | refine M.not_f ?_ | refine M.cond_t ?_ | refine M.cond_f ?_ | refine M.eqNilP_tn ?_ | refine M.eqNilP_ts ?_ | refine M.eqNilP_fn ?_ | refine M.eqNilP_fs ?_ | refine M.eqNilS_tn ?_ | refine M.eqNilS_ts ?_ | refine M.eqNilS_fn ?_ | refine M.eqNilS_fs ?_ | refine M.lss_t (by omega) ?_ | refine M.lss_f (by omega) ?_ | refine M.leq_t (by omega) ?_ | refine M.leq_f (by omega) ?_ | refine M.gtr_t (by omega) ?_ | refine M.gtr_f (by omega) ?_ | refine M.geq_t (by omega) ?_ | refine M.geq_f (by omega) ?_ | refine M.eql_t (by omega) ?_ | refine M.eql_f (by omega) ?_ | refine M.neq_t (by omega) ?_ | refine M.neq_f (by omega) ?_ | refine M.add_i (by omega) (by omega) ?_ | refine M.sub_i (by omega) (by omega) ?_ | refine M.load_i (by assumption) ?_ | refine M.loadB_i (by assumption) rfl ?_ | refine M.st_i (by assumption) ?_ | refine M.stB_i (by assumption) rfl ?_ | refine M.gs_ff ?_ | refine M.gs_tt ?_ | refine M.gs_ft ?_ | refine M.gs_tf ?_ | refine M.stAll_i (by assumption) rfl ?_))
      refine M.loadAll_i hX rfl ?_
      (repeat (first | refine M.len_i ?_ | refine M.nilCheck_i ?_ | refine M.field_i ?_ | refine M.draw_i ?_ | refine M.cap_i ?_ | refine M.gd_tt ?_ | refine M.gd_ff ?_ | refine M.gd_ft ?_ | refine M.gd_tf ?_ | refine M.pick_t ?_ | refine M.pick_f ?_ | refine M.not_t ?_ | refine M.not_f ?_ | refine M.cond_t ?_ | refine M.cond_f ?_ | refine M.eqNilP_tn ?_ | refine M.eqNilP_ts ?_ | refine M.eqNilP_fn ?_ | refine M.eqNilP_fs ?_ | refine M.eqNilS_tn ?_ | refine M.eqNilS_ts ?_ | refine M.eqNilS_fn ?_ | refine M.eqNilS_fs ?_ | refine M.lss_t (by omega) ?_ | refine M.lss_f (by omega) ?_ | refine M.leq_t (by omega) ?_ | refine M.leq_f (by omega) ?_ | refine M.gtr_t (by omega) ?_ | refine M.gtr_f (by omega) ?_ | refine M.geq_t (by omega) ?_ | refine M.geq_f (by omega) ?_ | refine M.eql_t (by omega) ?_ | refine M.eql_f (by omega) ?_ | refine M.neq_t (by omega) ?_ | refine M.neq_f (by omega) ?_ | refine M.add_i (by omega) (by omega) ?_ | refine M.sub_i (by omega) (by omega) ?_ | refine M.load_i (by assumption) ?_ | refine M.loadB_i (by assumption) rfl ?_ | refine M.st_i (by assumption) ?_ | refine M.stB_i (by assumption) rfl ?_ | refine M.gs_ff ?_ | refine M.gs_tt ?_ | refine M.gs_ft ?_ | refine M.gs_tf ?_ | refine M.stAll_i (by assumption) rfl ?_))
      refine M.call_i (rassign_ret rv3 fit.few fit.lits hl n) ?_; rintro _ w4 ⟨v4, rfl, rv4, k4⟩
      obtain ⟨A4, c4, rfl, hc4, hr4⟩ := rv4
      refine M.extract_i rfl ?_
      refine M.extract_i rfl ?_
      refine M.new_i (fun w5 hN k5 s5 => ?_)
      refine M.storeAll_i hN rfl rfl (tri_one _ _ _ rfl rfl rfl) (fun w6 hN k6 s6 => ?_)
      refine M.loadAll_i hN rfl ?_
      have q4 := k4.size; have q5 := k5.size; have q6 := k6.size
      have k36 : Keep w3 w6 No := (k4.trans k5 (fun _ _ h => h)).trans k6 (fun b hb h => by omega)
      have hX := hX.keep k36 (fun h => h)
      refine M.storeAll_i hX rfl rfl (tri_one _ _ _ rfl rfl rfl) (fun w7 hX k7 s7 => ?_)
      have hE := (hE.keep k36 (fun h => h)).keep k7 (fun h => by omega)
      have hZ := (hZ.keep k36 (fun h => h)).keep k7 (fun h => by omega)
      have hr4 := hr4.mono (D' := fun b => (D b ∧ b < w.heap.size ∨ w3.heap.size ≤ b) ∧ b < w4.heap.size) (fun b hb h => ⟨h, hb⟩)
      have hr7 := ((hr4.keep k5 (fun _ _ _ h => h)).keep k6 (fun b hb h1 h2 => by have := h1.2; omega)).keep k7 (fun b hb h1 h2 => by rcases h1.1 with h1 | h1 <;> omega)
      have h7 := (h3.keep k36 (fun _ _ _ h => h)).keep k7 (fun b hb h1 h2 => by subst h2; exact h1 (l0 _ (by omega)))
      (repeat (first | refine M.len_i ?_ | refine M.nilCheck_i ?_ | refine M.field_i ?_ | refine M.draw_i ?_ | refine M.cap_i ?_ | refine M.gd_tt ?_ | refine M.gd_ff ?_ | refine M.gd_ft ?_ | refine M.gd_tf ?_ | refine M.pick_t ?_ | refine M.pick_f ?_ | refine M.not_t ?_ | refine M.not_f ?_ | refine M.cond_t ?_ | refine M.cond_f ?_ | refine M.eqNilP_tn ?_ | refine M.eqNilP_ts ?_ | refine M.eqNilP_fn ?_ | refine M.eqNilP_fs ?_ | refine M.eqNilS_tn ?_ | refine M.eqNilS_ts ?_ | refine M.eqNilS_fn ?_ | refine M.eqNilS_fs ?_ | refine M.lss_t (by omega) ?_ | refine M.lss_f (by omega) ?_ | refine M.leq_t (by omega) ?_ | refine M.leq_f (by omega) ?_ | refine M.gtr_t (by omega) ?_ | refine M.gtr_f (by omega) ?_ | refine M.geq_t (by omega) ?_ | refine M.geq_f (by omega) ?_ | refine M.eql_t (by omega) ?_ | refine M.eql_f (by omega) ?_ | refine M.neq_t (by omega) ?_ | refine M.neq_f (by omega) ?_ | refine M.add_i (by omega) (by omega) ?_ | refine M.sub_i (by omega) (by omega) ?_ | refine M.load_i (by assumption) ?_ | refine M.loadB_i (by assumption) rfl ?_ | refine M.st_i (by assumption) ?_ | refine M.stB_i (by assumption) rfl ?_ | refine M.gs_ff ?_ | refine M.gs_tt ?_ | refine M.gs_ft ?_ | refine M.gs_tf ?_ | refine M.stAll_i (by assumption) rfl ?_))
      refine M.call_i (assign_ret h7 l n) ?_; rintro _ w8 ⟨rfl, lab', h8, m8⟩
      have z8 : ∀ b, w.heap.size ≤ b → b < w7.heap.size → lab' b = 0 := fun b h1 h2 => by rw [m8.2 b h2]; exact l0 b h1
      have q8 := m8.1.size
      refine M.eqB_i ?_
      have hr7 := hr7.mono (D' := fun b => D b ∧ b < w.heap.size ∨ (w3.heap.size ≤ b ∧ lab' b = 0)) (fun b hb h => by
        rcases h.1 with h | h
        · exact .inl h
        · exact .inr ⟨by omega, z8 b (by omega) hb⟩)
      have hr8 := hr7.keep m8.1 (fun b hb h1 h2 => by
        rcases h1 with h1 | h1
        · exact h2 (hD b (by omega) h1.1)
        · exact h2 (l0 b (by omega)))
      refine hK _ _ ⟨lab', _, _, _, ?_, hX.keep m8.1 (fun h => h (l0 _ (by omega))), ⟨A4, c4, ?_, ?_, ?_⟩, hZ.keep m8.1 (fun h => h (l0 _ (by omega))), ?_, ?_, fun b h1 h2 => z8 b h1 (by omega), rfl, rfl, rfl⟩
      · simp [sameD]
      · simp [RT.doD]
      · simpa [RT.doD] using hc4
      · simpa [RT.doD] using hr8
      · simpa [Tr.doD] using h8
      · exact ⟨((k13.trans k36 (fun _ _ h => h)).trans k7 (fun b hb h => by omega)).mono (fun _ _ h => h.elim) |>.trans m8.1 (fun b hb h => h), fun b hb => m8.2 b (by omega)⟩
    by_cases e1 : kd = 1
    · subst e1
      (repeat (first | refine M.len_i ?_ | refine M.nilCheck_i ?_ | refine M.field_i ?_ | refine M.draw_i ?_ | refine M.cap_i ?_ | refine M.gd_tt ?_ | refine M.gd_ff ?_ | refine M.gd_ft ?_ | refine M.gd_tf ?_ | refine M.pick_t ?_ | refine M.pick_f ?_ | refine M.not_t ?_ | refine M.not_f ?_ | refine M.cond_t ?_ | refine M.cond_f ?_ | refine M.eqNilP_tn ?_ | refine M.eqNilP_ts ?_ | refine M.eqNilP_fn ?_ | refine M.eqNilP_fs ?_ | refine M.eqNilS_tn ?_ | refine M.eqNilS_ts ?_ | refine M.eqNilS_fn ?_ | refine M.eqNilS_fs ?_ | refine M.lss_t (by omega) ?_ | refine M.lss_f (by omega) ?_ | refine M.leq_t (by omega) ?_ | refine M.leq_f (by omega) ?_ | refine M.gtr_t (by omega) ?_ | refine M.gtr_f (by omega) ?_ | refine M.geq_t (by omega) ?_ | refine M.geq_f (by omega) ?_ | refine M.eql_t (by omega) ?_ | refine M.eql_f (by omega) ?_ | refine M.neq_t (by omega) ?_ | refine M.neq_f (by omega) ?_ | refine M.add_i (by omega) (by omega) ?_ | refine M.sub_i (by omega) (by omega) ?_ | refine M.load_i (by assumption) ?_ | refine M.loadB_i (by assumption) rfl ?_ | refine M.st_i (by assumption) ?_ | refine M.stB_i (by assumption) rfl ?_ | refine M.gs_ff ?_ | refine M.gs_tt ?_ | refine M.gs_ft ?_ | refine M.gs_tf ?_ | refine M.stAll_i (by assumption) rfl ?_))
      refine M.loadAll_i hX rfl ?_
      (repeat (first | refine M.len_i ?_ | refine M.nilCheck_i ?_ | refine M.field_i ?_ | refine M.draw_i ?_ | refine M.cap_i ?_ | refine M.gd_tt ?_ | refine M.gd_ff ?_ | refine M.gd_ft ?_ | refine M.gd_tf ?_ | refine M.pick_t ?_ | refine M.pick_f ?_ | refine M.not_t ?_ | refine M.not_f ?_ | refine M.cond_t ?_ | refine M.cond_f ?_ | refine M.eqNilP_tn ?_ | refine M.eqNilP_ts ?_ | refine M.eqNilP_fn ?_ | refine M.eqNilP_fs ?_ | refine M.eqNilS_tn ?_ | refine M.eqNilS_ts ?_ | refine M.eqNilS_fn ?_ | refine M.eqNilS_fs ?_ | refine M.lss_t (by omega) ?_ | refine M.lss_f (by omega) ?_ | refine M.leq_t (by omega) ?_ | refine M.leq_f (by omega) ?_ | refine M.gtr_t (by omega) ?_ | refine M.gtr_f (by omega) ?_ | refine M.geq_t (by omega) ?_ | refine M.geq_f (by omega) ?_ | refine M.eql_t (by omega) ?_ | refine M.eql_f (by omega) ?_ | refine M.neq_t (by omega) ?_ | refine M.neq_f (by omega) ?_ | refine M.add_i (by omega) (by omega) ?_ | refine M.sub_i (by omega) (by omega) ?_ | refine M.load_i (by assumption) ?_ | refine M.loadB_i (by assumption) rfl ?_ | refine M.st_i (by assumption) ?_ | refine M.stB_i (by assumption) rfl ?_ | refine M.gs_ff ?_ | refine M.gs_tt ?_ | refine M.gs_ft ?_ | refine M.gs_tf ?_ | refine M.stAll_i (by assumption) rfl ?_))
      refine M.call_i (rdec_ret rv3 fit.few fit.lev fit.lits hl) ?_; rintro _ w4 ⟨v4, rfl, rv4, k4⟩
      obtain ⟨A4, c4, rfl, hc4, hr4⟩ := rv4
      refine M.extract_i rfl ?_
      refine M.extract_i rfl ?_
      refine M.new_i (fun w5 hN k5 s5 => ?_)
      refine M.storeAll_i hN rfl rfl (tri_one _ _ _ rfl rfl rfl) (fun w6 hN k6 s6 => ?_)
      refine M.loadAll_i hN rfl ?_
      have q4 := k4.size; have q5 := k5.size; have q6 := k6.size
      have k36 : Keep w3 w6 No := (k4.trans k5 (fun _ _ h => h)).trans k6 (fun b hb h => by omega)
      have hX := hX.keep k36 (fun h => h)
      refine M.storeAll_i hX rfl rfl (tri_one _ _ _ rfl rfl rfl) (fun w7 hX k7 s7 => ?_)
      have hE := (hE.keep k36 (fun h => h)).keep k7 (fun h => by omega)
      have hZ := (hZ.keep k36 (fun h => h)).keep k7 (fun h => by omega)
      have hr4 := hr4.mono (D' := fun b => (D b ∧ b < w.heap.size ∨ w3.heap.size ≤ b) ∧ b < w4.heap.size) (fun b hb h => ⟨h, hb⟩)
      have hr7 := ((hr4.keep k5 (fun _ _ _ h => h)).keep k6 (fun b hb h1 h2 => by have := h1.2; omega)).keep k7 (fun b hb h1 h2 => by rcases h1.1 with h1 | h1 <;> omega)
      have h7 := (h3.keep k36 (fun _ _ _ h => h)).keep k7 (fun b hb h1 h2 => by subst h2; exact h1 (l0 _ (by omega)))
      (repeat (first | refine M.len_i ?_ | refine M.nilCheck_i ?_ | refine M.field_i ?_ | refine M.draw_i ?_ | refine M.cap_i ?_ | refine M.gd_tt ?_ | refine M.gd_ff ?_ | refine M.gd_ft ?_ | refine M.gd_tf ?_ | refine M.pick_t ?_ | refine M.pick_f ?_ | refine M.not_t ?_ | refine M.not_f ?_ | refine M.cond_t ?_ | refine M.cond_f ?_ | refine M.eqNilP_tn ?_ | refine M.eqNilP_ts ?_ | refine M.eqNilP_fn ?_ | refine M.eqNilP_fs ?_ | refine M.eqNilS_tn ?_ | refine M.eqNilS_ts ?_ | refine M.eqNilS_fn ?_ | refine M.eqNilS_fs ?_ | refine M.lss_t (by omega) ?_ | refine M.lss_f (by omega) ?_ | refine M.leq_t (by omega) ?_ | refine M.leq_f (by omega) ?_ | refine M.gtr_t (by omega) ?_ | refine M.gtr_f (by omega) ?_ | refine M.geq_t (by omega) ?_ | refine M.geq_f (by omega) ?_ | refine M.eql_t (by omega) ?_ | refine M.eql_f (by omega) ?_ | refine M.neq_t (by omega) ?_ | refine M.neq_f (by omega) ?_ | refine M.add_i (by omega) (by omega) ?_ | refine M.sub_i (by omega) (by omega) ?_ | refine M.load_i (by assumption) ?_ | refine M.loadB_i (by assumption) rfl ?_ | refine M.st_i (by assumption) ?_ | refine M.stB_i (by assumption) rfl ?_ | refine M.gs_ff ?_ | refine M.gs_tt ?_ | refine M.gs_ft ?_ | refine M.gs_tf ?_ | refine M.stAll_i (by assumption) rfl ?_))
      refine M.call_i (decide_ret h7 wf l) ?_; rintro _ w8 ⟨rfl, lab', h8, m8⟩
      have z8 : ∀ b, w.heap.size ≤ b → b < w7.heap.size → lab' b = 0 := fun b h1 h2 => by rw [m8.2 b h2]; exact l0 b h1
      have q8 := m8.1.size
      refine M.eqB_i ?_
      have hr7 := hr7.mono (D' := fun b => D b ∧ b < w.heap.size ∨ (w3.heap.size ≤ b ∧ lab' b = 0)) (fun b hb h => by
        rcases h.1 with h | h
        · exact .inl h
        · exact .inr ⟨by omega, z8 b (by omega) hb⟩)
      have hr8 := hr7.keep m8.1 (fun b hb h1 h2 => by
        rcases h1 with h1 | h1
        · exact h2 (hD b (by omega) h1.1)
        · exact h2 (l0 b (by omega)))
      refine hK _ _ ⟨lab', _, _, _, ?_, hX.keep m8.1 (fun h => h (l0 _ (by omega))), ⟨A4, c4, ?_, ?_, ?_⟩, hZ.keep m8.1 (fun h => h (l0 _ (by omega))), ?_, ?_, fun b h1 h2 => z8 b h1 (by omega), rfl, rfl, rfl⟩
      · simp [sameD]
      · simp [RT.doD]
      · simpa [RT.doD] using hc4
      · simpa [RT.doD] using hr8
      · simpa [Tr.doD] using h8
      · exact ⟨((k13.trans k36 (fun _ _ h => h)).trans k7 (fun b hb h => by omega)).mono (fun _ _ h => h.elim) |>.trans m8.1 (fun b hb h => h), fun b hb => m8.2 b (by omega)⟩
    by_cases e2 : kd = 2
    · subst e2
      (repeat (first | refine M.len_i ?_ | refine M.nilCheck_i ?_ | refine M.field_i ?_ | refine M.draw_i ?_ | refine M.cap_i ?_ | refine M.gd_tt ?_ | refine M.gd_ff ?_ | refine M.gd_ft ?_ | refine M.gd_tf ?_ | refine M.pick_t ?_ | refine M.pick_f ?_ | refine M.not_t ?_ | refine M.not_f ?_ | refine M.cond_t ?_ | refine M.cond_f ?_ | refine M.eqNilP_tn ?_ | refine M.eqNilP_ts ?_ | refine M.eqNilP_fn ?_ | refine M.eqNilP_fs ?_ | refine M.eqNilS_tn ?_ | refine M.eqNilS_ts ?_ | refine M.eqNilS_fn ?_ | refine M.eqNilS_fs ?_ | refine M.lss_t (by omega) ?_ | refine M.lss_f (by omega) ?_ | refine M.leq_t (by omega) ?_ | refine M.leq_f (by omega) ?_ | refine M.gtr_t (by omega) ?_ | refine M.gtr_f (by omega) ?_ | refine M.geq_t (by omega) ?_ | refine M.geq_f (by omega) ?_ | refine M.eql_t (by omega) ?_ | refine M.eql_f (by omega) ?_ | refine M.neq_t (by omega) ?_ | refine M.neq_f (by omega) ?_ | refine M.add_i (by omega) (by omega) ?_ | refine M.sub_i (by omega) (by omega) ?_ | refine M.load_i (by assumption) ?_ | refine M.loadB_i (by assumption) rfl ?_ | refine M.st_i (by assumption) ?_ | refine M.stB_i (by assumption) rfl ?_ | refine M.gs_ff ?_ | refine M.gs_tt ?_ | refine M.gs_ft ?_ | refine M.gs_tf ?_ | refine M.stAll_i (by assumption) rfl ?_))
      refine M.loadAll_i hX rfl ?_
      (repeat (first | refine M.len_i ?_ | refine M.nilCheck_i ?_ | refine M.field_i ?_ | refine M.draw_i ?_ | refine M.cap_i ?_ | refine M.gd_tt ?_ | refine M.gd_ff ?_ | refine M.gd_ft ?_ | refine M.gd_tf ?_ | refine M.pick_t ?_ | refine M.pick_f ?_ | refine M.not_t ?_ | refine M.not_f ?_ | refine M.cond_t ?_ | refine M.cond_f ?_ | refine M.eqNilP_tn ?_ | refine M.eqNilP_ts ?_ | refine M.eqNilP_fn ?_ | refine M.eqNilP_fs ?_ | refine M.eqNilS_tn ?_ | refine M.eqNilS_ts ?_ | refine M.eqNilS_fn ?_ | refine M.eqNilS_fs ?_ | refine M.lss_t (by omega) ?_ | refine M.lss_f (by omega) ?_ | refine M.leq_t (by omega) ?_ | refine M.leq_f (by omega) ?_ | refine M.gtr_t (by omega) ?_ | refine M.gtr_f (by omega) ?_ | refine M.geq_t (by omega) ?_ | refine M.geq_f (by omega) ?_ | refine M.eql_t (by omega) ?_ | refine M.eql_f (by omega) ?_ | refine M.neq_t (by omega) ?_ | refine M.neq_f (by omega) ?_ | refine M.add_i (by omega) (by omega) ?_ | refine M.sub_i (by omega) (by omega) ?_ | refine M.load_i (by assumption) ?_ | refine M.loadB_i (by assumption) rfl ?_ | refine M.st_i (by assumption) ?_ | refine M.stB_i (by assumption) rfl ?_ | refine M.gs_ff ?_ | refine M.gs_tt ?_ | refine M.gs_ft ?_ | refine M.gs_tf ?_ | refine M.stAll_i (by assumption) rfl ?_))
      refine M.call_i (rback_ret rv3 fit.few fit.lits n) ?_; rintro _ w4 ⟨v4, o4, rfl, rv4, ho4, k4⟩
      obtain ⟨A4, c4, rfl, hc4, hr4⟩ := rv4
      refine M.extract_i rfl ?_
      refine M.extract_i rfl ?_
      refine M.new_i (fun w5 hN k5 s5 => ?_)
      refine M.storeAll_i hN rfl rfl (tri_one _ _ _ rfl rfl rfl) (fun w6 hN k6 s6 => ?_)
      refine M.loadAll_i hN rfl ?_
      have q4 := k4.size; have q5 := k5.size; have q6 := k6.size
      have k36 : Keep w3 w6 No := (k4.trans k5 (fun _ _ h => h)).trans k6 (fun b hb h => by omega)
      have hX := hX.keep k36 (fun h => h)
      have ho4 := ho4.mono (L' := fun b => w3.heap.size ≤ b ∧ b < w4.heap.size) (fun b hb h => ⟨h, hb⟩)
      refine M.storeAll_i hX rfl rfl (tri_one _ _ _ rfl rfl rfl) (fun w7 hX k7 s7 => ?_)
      have ho7 := ((ho4.keep k5 (fun _ _ _ h => h)).keep k6 (fun b hb h1 h2 => by omega)).keep k7 (fun b hb h1 h2 => by omega)
      have hE := (hE.keep k36 (fun h => h)).keep k7 (fun h => by omega)
      have hZ := (hZ.keep k36 (fun h => h)).keep k7 (fun h => by omega)
      have hr4 := hr4.mono (D' := fun b => (D b ∧ b < w.heap.size ∨ w3.heap.size ≤ b) ∧ b < w4.heap.size) (fun b hb h => ⟨h, hb⟩)
      have hr7 := ((hr4.keep k5 (fun _ _ _ h => h)).keep k6 (fun b hb h1 h2 => by have := h1.2; omega)).keep k7 (fun b hb h1 h2 => by rcases h1.1 with h1 | h1 <;> omega)
      have h7 := (h3.keep k36 (fun _ _ _ h => h)).keep k7 (fun b hb h1 h2 => by subst h2; exact h1 (l0 _ (by omega)))
      (repeat (first | refine M.len_i ?_ | refine M.nilCheck_i ?_ | refine M.field_i ?_ | refine M.draw_i ?_ | refine M.cap_i ?_ | refine M.gd_tt ?_ | refine M.gd_ff ?_ | refine M.gd_ft ?_ | refine M.gd_tf ?_ | refine M.pick_t ?_ | refine M.pick_f ?_ | refine M.not_t ?_ | refine M.not_f ?_ | refine M.cond_t ?_ | refine M.cond_f ?_ | refine M.eqNilP_tn ?_ | refine M.eqNilP_ts ?_ | refine M.eqNilP_fn ?_ | refine M.eqNilP_fs ?_ | refine M.eqNilS_tn ?_ | refine M.eqNilS_ts ?_ | refine M.eqNilS_fn ?_ | refine M.eqNilS_fs ?_ | refine M.lss_t (by omega) ?_ | refine M.lss_f (by omega) ?_ | refine M.leq_t (by omega) ?_ | refine M.leq_f (by omega) ?_ | refine M.gtr_t (by omega) ?_ | refine M.gtr_f (by omega) ?_ | refine M.geq_t (by omega) ?_ | refine M.geq_f (by omega) ?_ | refine M.eql_t (by omega) ?_ | refine M.eql_f (by omega) ?_ | refine M.neq_t (by omega) ?_ | refine M.neq_f (by omega) ?_ | refine M.add_i (by omega) (by omega) ?_ | refine M.sub_i (by omega) (by omega) ?_ | refine M.load_i (by assumption) ?_ | refine M.loadB_i (by assumption) rfl ?_ | refine M.st_i (by assumption) ?_ | refine M.stB_i (by assumption) rfl ?_ | refine M.gs_ff ?_ | refine M.gs_tt ?_ | refine M.gs_ft ?_ | refine M.gs_tf ?_ | refine M.stAll_i (by assumption) rfl ?_))
      have hlen8 : (t.back n).2.length < 9223372036854775808 := by
        obtain ⟨vl, vb, vg, va, ve, vr, at1, levels, reasons, _, _, _, _, _, _, _, _, _, ok⟩ := id h
        have h1 := ok.llen
        have h2 := ok.vars
        unfold Tr.back
        split
        · simp
        · split
          · simp
          · simp; omega
      refine M.call_i (back_ret h7 n) ?_; rintro o8 w8 ⟨ho8, h8, m8⟩
      have z8 : ∀ b, w.heap.size ≤ b → b < w7.heap.size → lab b = 0 := fun b h1 h2 => l0 b h1
      have q8 := m8.size
      have ho7 := ho7.keep m8 (fun b hb h1 h2 => h2 (l0 b (by omega)))
      refine M.call_i (same_retG ho8 ho7 hlen8) ?_; rintro _ w9 ⟨rfl, k9⟩
      have hr7 := hr7.mono (D' := fun b => D b ∧ b < w.heap.size ∨ (w3.heap.size ≤ b ∧ lab b = 0)) (fun b hb h => by
        rcases h.1 with h | h
        · exact .inl h
        · exact .inr ⟨by omega, z8 b (by omega) hb⟩)
      have hr8 := (hr7.keep m8 (fun b hb h1 h2 => by
        rcases h1 with h1 | h1
        · exact h2 (hD b (by omega) h1.1)
        · exact h2 (l0 b (by omega)))).keep k9 (fun _ _ _ h => h)
      refine hK _ _ ⟨lab, _, _, _, ?_, (hX.keep m8 (fun h => h (l0 _ (by omega)))).keep k9 (fun h => h), ⟨A4, c4, ?_, ?_, ?_⟩, (hZ.keep m8 (fun h => h (l0 _ (by omega)))).keep k9 (fun h => h), ?_, ?_, fun b h1 h2 => z8 b h1 (by omega), rfl, rfl, rfl⟩
      · simp [sameD]
      · simp [RT.doD]
      · simpa [RT.doD] using hc4
      · simpa [RT.doD] using hr8
      · simpa [Tr.doD] using h8.keep k9 (fun _ _ _ h => h)
      · exact ⟨(((k13.trans k36 (fun _ _ h => h)).trans k7 (fun b hb h => by omega)).mono (fun _ _ h => h.elim) |>.trans m8 (fun b hb h => h)).trans k9 (fun _ _ h => h.elim), fun b hb => rfl⟩
    · (repeat (first | refine M.len_i ?_ | refine M.nilCheck_i ?_ | refine M.field_i ?_ | refine M.draw_i ?_ | refine M.cap_i ?_ | refine M.gd_tt ?_ | refine M.gd_ff ?_ | refine M.gd_ft ?_ | refine M.gd_tf ?_ | refine M.pick_t ?_ | refine M.pick_f ?_ | refine M.not_t ?_ | refine M.not_f ?_ | refine M.cond_t ?_ | refine M.cond_f ?_ | refine M.eqNilP_tn ?_ | refine M.eqNilP_ts ?_ | refine M.eqNilP_fn ?_ | refine M.eqNilP_fs ?_ | refine M.eqNilS_tn ?_ | refine M.eqNilS_ts ?_ | refine M.eqNilS_fn ?_ | refine M.eqNilS_fs ?_ | refine M.lss_t (by omega) ?_ | refine M.lss_f (by omega) ?_ | refine M.leq_t (by omega) ?_ | refine M.leq_f (by omega) ?_ | refine M.gtr_t (by omega) ?_ | refine M.gtr_f (by omega) ?_ | refine M.geq_t (by omega) ?_ | refine M.geq_f (by omega) ?_ | refine M.eql_t (by omega) ?_ | refine M.eql_f (by omega) ?_ | refine M.neq_t (by omega) ?_ | refine M.neq_f (by omega) ?_ | refine M.add_i (by omega) (by omega) ?_ | refine M.sub_i (by omega) (by omega) ?_ | refine M.load_i (by assumption) ?_ | refine M.loadB_i (by assumption) rfl ?_ | refine M.st_i (by assumption) ?_ | refine M.stB_i (by assumption) rfl ?_ | refine M.gs_ff ?_ | refine M.gs_tt ?_ | refine M.gs_ft ?_ | refine M.gs_tf ?_ | refine M.stAll_i (by assumption) rfl ?_))
      refine hK _ _ ⟨lab, _, _, _, ?_, hX, ⟨A, c, ?_, ?_, ?_⟩, hZ, ?_, ?_, fun b h1 h2 => l0 b h1, rfl, rfl, rfl⟩
      · simp [sameD, e0, e1, e2]
      · simp [RT.doD, e0, e1, e2]
      · simpa [RT.doD, e0, e1, e2] using hc
      · simpa [RT.doD, e0, e1, e2] using hr3.mono (fun b hb h => .inl h)
      · simpa [Tr.doD, e0, e1, e2] using h3
      · exact TMod.of_keep k13
end Go.Proofs.Ytkpgmbifaohjgaa
