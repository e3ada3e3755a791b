import Derived.Test.YtfkbacoiocniaaaClause
namespace Go.Proofs.Ytfkbacoiocniaaa
open Go.Mw Go.Shelf
set_option linter.unusedVariables false
set_option linter.unusedSimpArgs false
set_option maxRecDepth 100000
attribute [local irreducible] M.val M.unit M.next M.pick M.new M.nilCheck M.load1 M.loadA M.store M.fieldAddr M.indexSl M.indexArr M.slice M.makeSlice M.buildSlice M.len M.lenS M.cap M.append M.extract M.conv M.not M.neg M.bin M.shift M.eqB M.eqNil M.call M.callv M.gd M.share M.cond M.loop M.draw pureW readW Ret
abbrev ptr (p : Nat) : Value := .pointer (some ⟨p, 0, none⟩)
theorem holdsC {D : Nat → Prop} {mv : Value} {m : List Bool} {p : Nat} (hf : Few m.length) :
    PredF (.func (.func 54) #[] #[ptr p]) (fun w => Blk w p [mv] ∧ LV vb w D mv m) (holdsL m) := by
  rintro x w k ⟨hb, hm⟩ hk
  refine M.callv_i (enters_of Try.func54 (by kernel_rfl) rfl) (Q := fun r w' => r = .bool (holdsL m x) ∧ Keep w w' No) ?_ ?_
  · show Ret Try.prog 54 #[vi x, ptr p] w _
    refine ok54 _ _ _ _ ?_
    unfold sh54
    (repeat (first | refine M.len_i ?_ | refine M.nilCheck_i ?_ | refine M.field_i ?_ | refine M.draw_i ?_ | refine M.cap_i ?_ | refine M.gd_tt ?_ | refine M.gd_ff ?_ | refine M.gd_ft ?_ | refine M.gd_tf ?_ | refine M.gd_u ?_ | refine M.pick_t ?_ | refine M.pick_f ?_ | refine M.not_t ?_ | refine M.not_f ?_ | refine M.cond_t ?_ | refine M.cond_f ?_ | refine M.eqNilP_tn ?_ | refine M.eqNilP_ts ?_ | refine M.eqNilP_fn ?_ | refine M.eqNilP_fs ?_ | refine M.eqNilS_tn ?_ | refine M.eqNilS_ts ?_ | refine M.eqNilS_fn ?_ | refine M.eqNilS_fs ?_ | refine M.lss_t (by omega) ?_ | refine M.lss_f (by omega) ?_ | refine M.leq_t (by omega) ?_ | refine M.leq_f (by omega) ?_ | refine M.gtr_t (by omega) ?_ | refine M.gtr_f (by omega) ?_ | refine M.geq_t (by omega) ?_ | refine M.geq_f (by omega) ?_ | refine M.eql_t (by omega) ?_ | refine M.eql_f (by omega) ?_ | refine M.neq_t (by omega) ?_ | refine M.neq_f (by omega) ?_ | refine M.add_i (by omega) (by omega) ?_ | refine M.sub_i (by omega) (by omega) ?_ | refine M.load_i (by assumption) ?_ | refine M.loadB_i (by assumption) rfl ?_ | refine M.st_i (by assumption) ?_ | refine M.stB_i (by assumption) rfl ?_ | refine M.gs_ff ?_ | refine M.gs_tt ?_ | refine M.gs_ft ?_ | refine M.gs_tf ?_ | refine M.stAll_i (by assumption) rfl ?_))
    refine M.call_i (lholds_ret x hm (by omega)) ?_; rintro _ w1 ⟨rfl, k1⟩
    exact ⟨rfl, k1⟩
  · rintro r w1 ⟨rfl, k1⟩
    exact hk w1 ⟨hb.keep k1 (fun h => h), hm.keep k1 (fun _ _ _ h => h)⟩ k1
theorem choldsR {w : World} {D D' : Nat → Prop} {u v : Value} {xs : List Int} {m : List Bool} (h1 : LV vi w D u xs) (h2 : LV vb w D' v m) (hf : Few xs.length) (hm : Few m.length) :
    Ret Try.prog 17 #[u, v] w (fun r w' => r = .bool (xs.any (holdsL m)) ∧ Keep w w' No) := by
  obtain ⟨A2, c2, rfl, _⟩ := id h2
  refine ok17 _ _ _ _ ?_
  unfold sh17
  refine M.new_i (l := [.slice A2 m.length c2]) (fun w1 hb k1 s1 => ?_)
  have h1 := h1.keep k1 (fun _ _ _ h => h)
  have h2 := h2.keep k1 (fun _ _ _ h => h)
  refine M.call_i (containsFunc_ret h1 hf (holdsC hm) ⟨hb, h2⟩) ?_; rintro _ w2 ⟨rfl, _, k2⟩
  exact ⟨rfl, k1.trans k2 (fun _ _ h => h)⟩
theorem chas_ret {w : World} {D : Nat → Prop} {v : Value} {xs : List Int} (h : LV vi w D v xs) (hf : Few xs.length) (x : Int) :
    Ret Try.prog 19 #[v, vi x] w (fun r w' => r = .bool (decide (x ∈ xs)) ∧ Keep w w' No) := by
  refine ok19 _ _ _ _ ?_
  unfold sh19
  refine M.call_i (contains_ret h hf x) ?_; rintro _ w1 ⟨rfl, k1⟩
  exact ⟨rfl, k1⟩
theorem withinC {D : Nat → Prop} {v : Value} {ys : List Int} {p : Nat} (hf : Few ys.length) :
    PredF (.func (.func 58) #[] #[ptr p]) (fun w => Blk w p [v] ∧ LV vi w D v ys) (fun x => !decide (x ∈ ys)) := by
  rintro x w k ⟨hb, hm⟩ hk
  refine M.callv_i (enters_of Try.func58 (by kernel_rfl) rfl) (Q := fun r w' => r = .bool (!decide (x ∈ ys)) ∧ Keep w w' No) ?_ ?_
  · show Ret Try.prog 58 #[vi x, ptr p] w _
    refine ok58 _ _ _ _ ?_
    unfold sh58
    (repeat (first | refine M.len_i ?_ | refine M.nilCheck_i ?_ | refine M.field_i ?_ | refine M.draw_i ?_ | refine M.cap_i ?_ | refine M.gd_tt ?_ | refine M.gd_ff ?_ | refine M.gd_ft ?_ | refine M.gd_tf ?_ | refine M.gd_u ?_ | refine M.pick_t ?_ | refine M.pick_f ?_ | refine M.not_t ?_ | refine M.not_f ?_ | refine M.cond_t ?_ | refine M.cond_f ?_ | refine M.eqNilP_tn ?_ | refine M.eqNilP_ts ?_ | refine M.eqNilP_fn ?_ | refine M.eqNilP_fs ?_ | refine M.eqNilS_tn ?_ | refine M.eqNilS_ts ?_ | refine M.eqNilS_fn ?_ | refine M.eqNilS_fs ?_ | refine M.lss_t (by omega) ?_ | refine M.lss_f (by omega) ?_ | refine M.leq_t (by omega) ?_ | refine M.leq_f (by omega) ?_ | refine M.gtr_t (by omega) ?_ | refine M.gtr_f (by omega) ?_ | refine M.geq_t (by omega) ?_ | refine M.geq_f (by omega) ?_ | refine M.eql_t (by omega) ?_ | refine M.eql_f (by omega) ?_ | refine M.neq_t (by omega) ?_ | refine M.neq_f (by omega) ?_ | refine M.add_i (by omega) (by omega) ?_ | refine M.sub_i (by omega) (by omega) ?_ | refine M.load_i (by assumption) ?_ | refine M.loadB_i (by assumption) rfl ?_ | refine M.st_i (by assumption) ?_ | refine M.stB_i (by assumption) rfl ?_ | refine M.gs_ff ?_ | refine M.gs_tt ?_ | refine M.gs_ft ?_ | refine M.gs_tf ?_ | refine M.stAll_i (by assumption) rfl ?_))
    refine M.call_i (chas_ret hm hf x) ?_; rintro _ w1 ⟨rfl, k1⟩
    exact M.not_i ⟨rfl, k1⟩
  · rintro r w1 ⟨rfl, k1⟩
    exact hk w1 ⟨hb.keep k1 (fun h => h), hm.keep k1 (fun _ _ _ h => h)⟩ k1
theorem cwithin_ret {w : World} {D D' : Nat → Prop} {u v : Value} {xs ys : List Int} (h1 : LV vi w D u xs) (h2 : LV vi w D' v ys) (hf : Few xs.length) (hy : Few ys.length) :
    Ret Try.prog 21 #[u, v] w (fun r w' => r = .bool (xs.all (decide <| · ∈ ys)) ∧ Keep w w' No) := by
  obtain ⟨A2, c2, rfl, _⟩ := id h2
  refine ok21 _ _ _ _ ?_
  unfold sh21
  refine M.new_i (l := [.slice A2 ys.length c2]) (fun w1 hb k1 s1 => ?_)
  have h1 := h1.keep k1 (fun _ _ _ h => h)
  have h2 := h2.keep k1 (fun _ _ _ h => h)
  refine M.call_i (containsFunc_ret h1 hf (withinC hy) ⟨hb, h2⟩) ?_; rintro _ w2 ⟨rfl, _, k2⟩
  refine M.not_i ⟨?_, k1.trans k2 (fun _ _ h => h)⟩
  have : (!xs.any fun x => !decide (x ∈ ys)) = xs.all (decide <| · ∈ ys) := by
    rw [List.all_eq_not_any_not]
  rw [this]
/-- Which literals 'is' tells. -/
def isV (v : Int) (neg : Bool) (x : Int) : Bool := decide (varOf x = v) && (negOf x == neg)
theorem isC {v : Int} {neg : Bool} {p q : Nat} :
    PredF (.func (.func 60) #[] #[ptr p, ptr q]) (fun w => Blk w p [vi v] ∧ Blk w q [.bool neg]) (isV v neg) := by
  rintro x w k ⟨hb, hq⟩ hk
  refine M.callv_i (enters_of Try.func60 (by kernel_rfl) rfl) (Q := fun r w' => r = .bool (isV v neg x) ∧ Keep w w' No) ?_ ?_
  · show Ret Try.prog 60 #[vi x, ptr p, ptr q] w _
    refine ok60 _ _ _ _ _ ?_
    unfold sh60
    refine M.draw_i ?_
    have kd : Keep w w.drew No := Keep.drew _ _
    replace hb := hb.keep kd (fun h => h)
    replace hq := hq.keep kd (fun h => h)
    generalize w.drew = w0 at *
    (repeat (first | refine M.len_i ?_ | refine M.nilCheck_i ?_ | refine M.field_i ?_ | refine M.draw_i ?_ | refine M.cap_i ?_ | refine M.gd_tt ?_ | refine M.gd_ff ?_ | refine M.gd_ft ?_ | refine M.gd_tf ?_ | refine M.gd_u ?_ | refine M.pick_t ?_ | refine M.pick_f ?_ | refine M.not_t ?_ | refine M.not_f ?_ | refine M.cond_t ?_ | refine M.cond_f ?_ | refine M.eqNilP_tn ?_ | refine M.eqNilP_ts ?_ | refine M.eqNilP_fn ?_ | refine M.eqNilP_fs ?_ | refine M.eqNilS_tn ?_ | refine M.eqNilS_ts ?_ | refine M.eqNilS_fn ?_ | refine M.eqNilS_fs ?_ | refine M.lss_t (by omega) ?_ | refine M.lss_f (by omega) ?_ | refine M.leq_t (by omega) ?_ | refine M.leq_f (by omega) ?_ | refine M.gtr_t (by omega) ?_ | refine M.gtr_f (by omega) ?_ | refine M.geq_t (by omega) ?_ | refine M.geq_f (by omega) ?_ | refine M.eql_t (by omega) ?_ | refine M.eql_f (by omega) ?_ | refine M.neq_t (by omega) ?_ | refine M.neq_f (by omega) ?_ | refine M.add_i (by omega) (by omega) ?_ | refine M.sub_i (by omega) (by omega) ?_ | refine M.load_i (by assumption) ?_ | refine M.loadB_i (by assumption) rfl ?_ | refine M.st_i (by assumption) ?_ | refine M.stB_i (by assumption) rfl ?_ | refine M.gs_ff ?_ | refine M.gs_tt ?_ | refine M.gs_ft ?_ | refine M.gs_tf ?_ | refine M.stAll_i (by assumption) rfl ?_))
    refine M.call_i (var_ret x w0) ?_; rintro _ w1 ⟨rfl, k1⟩
    replace hb := hb.keep k1 (fun h => h)
    replace hq := hq.keep k1 (fun h => h)
    (repeat (first | refine M.len_i ?_ | refine M.nilCheck_i ?_ | refine M.field_i ?_ | refine M.draw_i ?_ | refine M.cap_i ?_ | refine M.gd_tt ?_ | refine M.gd_ff ?_ | refine M.gd_ft ?_ | refine M.gd_tf ?_ | refine M.gd_u ?_ | refine M.pick_t ?_ | refine M.pick_f ?_ | refine M.not_t ?_ | refine M.not_f ?_ | refine M.cond_t ?_ | refine M.cond_f ?_ | refine M.eqNilP_tn ?_ | refine M.eqNilP_ts ?_ | refine M.eqNilP_fn ?_ | refine M.eqNilP_fs ?_ | refine M.eqNilS_tn ?_ | refine M.eqNilS_ts ?_ | refine M.eqNilS_fn ?_ | refine M.eqNilS_fs ?_ | refine M.lss_t (by omega) ?_ | refine M.lss_f (by omega) ?_ | refine M.leq_t (by omega) ?_ | refine M.leq_f (by omega) ?_ | refine M.gtr_t (by omega) ?_ | refine M.gtr_f (by omega) ?_ | refine M.geq_t (by omega) ?_ | refine M.geq_f (by omega) ?_ | refine M.eql_t (by omega) ?_ | refine M.eql_f (by omega) ?_ | refine M.neq_t (by omega) ?_ | refine M.neq_f (by omega) ?_ | refine M.add_i (by omega) (by omega) ?_ | refine M.sub_i (by omega) (by omega) ?_ | refine M.load_i (by assumption) ?_ | refine M.loadB_i (by assumption) rfl ?_ | refine M.st_i (by assumption) ?_ | refine M.stB_i (by assumption) rfl ?_ | refine M.gs_ff ?_ | refine M.gs_tt ?_ | refine M.gs_ft ?_ | refine M.gs_tf ?_ | refine M.stAll_i (by assumption) rfl ?_))
    by_cases hv : varOf x = v
    · (repeat (first | refine M.len_i ?_ | refine M.nilCheck_i ?_ | refine M.field_i ?_ | refine M.draw_i ?_ | refine M.cap_i ?_ | refine M.gd_tt ?_ | refine M.gd_ff ?_ | refine M.gd_ft ?_ | refine M.gd_tf ?_ | refine M.gd_u ?_ | refine M.pick_t ?_ | refine M.pick_f ?_ | refine M.not_t ?_ | refine M.not_f ?_ | refine M.cond_t ?_ | refine M.cond_f ?_ | refine M.eqNilP_tn ?_ | refine M.eqNilP_ts ?_ | refine M.eqNilP_fn ?_ | refine M.eqNilP_fs ?_ | refine M.eqNilS_tn ?_ | refine M.eqNilS_ts ?_ | refine M.eqNilS_fn ?_ | refine M.eqNilS_fs ?_ | refine M.lss_t (by omega) ?_ | refine M.lss_f (by omega) ?_ | refine M.leq_t (by omega) ?_ | refine M.leq_f (by omega) ?_ | refine M.gtr_t (by omega) ?_ | refine M.gtr_f (by omega) ?_ | refine M.geq_t (by omega) ?_ | refine M.geq_f (by omega) ?_ | refine M.eql_t (by omega) ?_ | refine M.eql_f (by omega) ?_ | refine M.neq_t (by omega) ?_ | refine M.neq_f (by omega) ?_ | refine M.add_i (by omega) (by omega) ?_ | refine M.sub_i (by omega) (by omega) ?_ | refine M.load_i (by assumption) ?_ | refine M.loadB_i (by assumption) rfl ?_ | refine M.st_i (by assumption) ?_ | refine M.stB_i (by assumption) rfl ?_ | refine M.gs_ff ?_ | refine M.gs_tt ?_ | refine M.gs_ft ?_ | refine M.gs_tf ?_ | refine M.stAll_i (by assumption) rfl ?_))
      refine M.call_i (neg_ret x w1) ?_; rintro _ w2 ⟨rfl, k2⟩
      replace hb := hb.keep k2 (fun h => h)
      replace hq := hq.keep k2 (fun h => h)
      (repeat (first | refine M.len_i ?_ | refine M.nilCheck_i ?_ | refine M.field_i ?_ | refine M.draw_i ?_ | refine M.cap_i ?_ | refine M.gd_tt ?_ | refine M.gd_ff ?_ | refine M.gd_ft ?_ | refine M.gd_tf ?_ | refine M.gd_u ?_ | refine M.pick_t ?_ | refine M.pick_f ?_ | refine M.not_t ?_ | refine M.not_f ?_ | refine M.cond_t ?_ | refine M.cond_f ?_ | refine M.eqNilP_tn ?_ | refine M.eqNilP_ts ?_ | refine M.eqNilP_fn ?_ | refine M.eqNilP_fs ?_ | refine M.eqNilS_tn ?_ | refine M.eqNilS_ts ?_ | refine M.eqNilS_fn ?_ | refine M.eqNilS_fs ?_ | refine M.lss_t (by omega) ?_ | refine M.lss_f (by omega) ?_ | refine M.leq_t (by omega) ?_ | refine M.leq_f (by omega) ?_ | refine M.gtr_t (by omega) ?_ | refine M.gtr_f (by omega) ?_ | refine M.geq_t (by omega) ?_ | refine M.geq_f (by omega) ?_ | refine M.eql_t (by omega) ?_ | refine M.eql_f (by omega) ?_ | refine M.neq_t (by omega) ?_ | refine M.neq_f (by omega) ?_ | refine M.add_i (by omega) (by omega) ?_ | refine M.sub_i (by omega) (by omega) ?_ | refine M.load_i (by assumption) ?_ | refine M.loadB_i (by assumption) rfl ?_ | refine M.st_i (by assumption) ?_ | refine M.stB_i (by assumption) rfl ?_ | refine M.gs_ff ?_ | refine M.gs_tt ?_ | refine M.gs_ft ?_ | refine M.gs_tf ?_ | refine M.stAll_i (by assumption) rfl ?_))
      refine M.eqB_i ?_
      (repeat (first | refine M.len_i ?_ | refine M.nilCheck_i ?_ | refine M.field_i ?_ | refine M.draw_i ?_ | refine M.cap_i ?_ | refine M.gd_tt ?_ | refine M.gd_ff ?_ | refine M.gd_ft ?_ | refine M.gd_tf ?_ | refine M.gd_u ?_ | refine M.pick_t ?_ | refine M.pick_f ?_ | refine M.not_t ?_ | refine M.not_f ?_ | refine M.cond_t ?_ | refine M.cond_f ?_ | refine M.eqNilP_tn ?_ | refine M.eqNilP_ts ?_ | refine M.eqNilP_fn ?_ | refine M.eqNilP_fs ?_ | refine M.eqNilS_tn ?_ | refine M.eqNilS_ts ?_ | refine M.eqNilS_fn ?_ | refine M.eqNilS_fs ?_ | refine M.lss_t (by omega) ?_ | refine M.lss_f (by omega) ?_ | refine M.leq_t (by omega) ?_ | refine M.leq_f (by omega) ?_ | refine M.gtr_t (by omega) ?_ | refine M.gtr_f (by omega) ?_ | refine M.geq_t (by omega) ?_ | refine M.geq_f (by omega) ?_ | refine M.eql_t (by omega) ?_ | refine M.eql_f (by omega) ?_ | refine M.neq_t (by omega) ?_ | refine M.neq_f (by omega) ?_ | refine M.add_i (by omega) (by omega) ?_ | refine M.sub_i (by omega) (by omega) ?_ | refine M.load_i (by assumption) ?_ | refine M.loadB_i (by assumption) rfl ?_ | refine M.st_i (by assumption) ?_ | refine M.stB_i (by assumption) rfl ?_ | refine M.gs_ff ?_ | refine M.gs_tt ?_ | refine M.gs_ft ?_ | refine M.gs_tf ?_ | refine M.stAll_i (by assumption) rfl ?_))
      refine ⟨?_, (kd.trans k1 (fun _ _ h => h)).trans k2 (fun _ _ h => h)⟩
      simp [isV, hv]
    · (repeat (first | refine M.len_i ?_ | refine M.nilCheck_i ?_ | refine M.field_i ?_ | refine M.draw_i ?_ | refine M.cap_i ?_ | refine M.gd_tt ?_ | refine M.gd_ff ?_ | refine M.gd_ft ?_ | refine M.gd_tf ?_ | refine M.gd_u ?_ | refine M.pick_t ?_ | refine M.pick_f ?_ | refine M.not_t ?_ | refine M.not_f ?_ | refine M.cond_t ?_ | refine M.cond_f ?_ | refine M.eqNilP_tn ?_ | refine M.eqNilP_ts ?_ | refine M.eqNilP_fn ?_ | refine M.eqNilP_fs ?_ | refine M.eqNilS_tn ?_ | refine M.eqNilS_ts ?_ | refine M.eqNilS_fn ?_ | refine M.eqNilS_fs ?_ | refine M.lss_t (by omega) ?_ | refine M.lss_f (by omega) ?_ | refine M.leq_t (by omega) ?_ | refine M.leq_f (by omega) ?_ | refine M.gtr_t (by omega) ?_ | refine M.gtr_f (by omega) ?_ | refine M.geq_t (by omega) ?_ | refine M.geq_f (by omega) ?_ | refine M.eql_t (by omega) ?_ | refine M.eql_f (by omega) ?_ | refine M.neq_t (by omega) ?_ | refine M.neq_f (by omega) ?_ | refine M.add_i (by omega) (by omega) ?_ | refine M.sub_i (by omega) (by omega) ?_ | refine M.load_i (by assumption) ?_ | refine M.loadB_i (by assumption) rfl ?_ | refine M.st_i (by assumption) ?_ | refine M.stB_i (by assumption) rfl ?_ | refine M.gs_ff ?_ | refine M.gs_tt ?_ | refine M.gs_ft ?_ | refine M.gs_tf ?_ | refine M.stAll_i (by assumption) rfl ?_))
      exact ⟨by simp [isV, hv], kd.trans k1 (fun _ _ h => h)⟩
  · rintro r w1 ⟨rfl, k1⟩
    exact hk w1 ⟨hb.keep k1 (fun h => h), hq.keep k1 (fun h => h)⟩ k1
/-- 'is(neg)': a new function value. -/
theorem isM (p : Nat) (neg : Bool) (w : World) (k : Kt) (hk : ∀ w', Blk w' w.heap.size [.bool neg] → Keep w w' No → w'.heap.size = w.heap.size + 1 → k (.func (.func 60) #[] #[ptr p, ptr w.heap.size]) w') :
    M.callv Try.prog (.func (.func 59) #[] #[ptr p]) #[.bool neg] k w := by
  refine M.callv_i (enters_of Try.func59 (by kernel_rfl) rfl) (Q := fun r w' => r = .func (.func 60) #[] #[ptr p, ptr w.heap.size] ∧ Blk w' w.heap.size [.bool neg] ∧ Keep w w' No ∧ w'.heap.size = w.heap.size + 1) ?_ ?_
  · show Ret Try.prog 59 #[.bool neg, ptr p] w _
    refine ok59 _ _ _ _ ?_
    unfold sh59
    refine M.new_i (l := [.bool neg]) (fun w1 hb k1 s1 => ?_)
    exact ⟨rfl, hb, k1, s1⟩
  · rintro r w1 ⟨rfl, h1, h2, h3⟩
    exact hk w1 h1 h2 h3
theorem isV_iff {v x : Int} (hv : ¬ v < 0) (hx : ¬ x < 0) (neg : Bool) : isV v neg x = decide (x = 2 * v + if neg then 1 else 0) := by
  have e : varOf x = x / 2 := by simp [varOf, hx]
  unfold isV negOf
  rw [e]
  cases neg
  · by_cases h : x = 2 * v
    · subst h
      have h1 : 2 * v / 2 = v := by omega
      have h2 : ¬ (2 * v % 2 = 1) := by omega
      simp [h1, h2]
    · by_cases h1 : x / 2 = v
      · have h2 : x % 2 = 1 := by omega
        have h3 : 0 ≤ x := by omega
        simp [h, h1, h2, h3]
      · simp [h, h1]
  · by_cases h : x = 2 * v + 1
    · subst h
      have h1 : (2 * v + 1) / 2 = v := by omega
      have h2 : (2 * v + 1) % 2 = 1 := by omega
      have h3 : 0 ≤ 2 * v + 1 := by omega
      simp [h1, h2, h3]
    · by_cases h1 : x / 2 = v
      · have h2 : ¬ x % 2 = 1 := by omega
        simp [h, h1, h2]
      · simp [h, h1]
theorem normD_ok {xs : List Int} (h : (normD xs).2.2 = 0) : (∀ x ∈ xs, ¬ x < 0) ∧ (normD xs).1 = srt xs := by
  unfold normD at h ⊢
  split at h
  · simp at h
  · rename_i hn
    rw [if_neg hn]
    refine ⟨fun x hx hx0 => hn (List.any_eq_true.2 ⟨x, hx, by simpa using hx0⟩), rfl⟩
theorem normD_of {xs : List Int} (h : ∀ x ∈ xs, ¬ x < 0) : (normD xs).1 = srt xs ∧ (normD xs).2.2 = 0 := by
  unfold normD
  rw [if_neg]
  · exact ⟨rfl, rfl⟩
  · intro hh
    obtain ⟨x, hx, h0⟩ := List.any_eq_true.1 hh
    exact h x hx (by simpa using h0)
theorem any_isV {xs : List Int} {v : Int} (hv : ¬ v < 0) (h : ∀ x ∈ xs, ¬ x < 0) (neg : Bool) : (srt xs).any (isV v neg) = decide (2 * v + (if neg then 1 else 0) ∈ xs) := by
  by_cases hm : 2 * v + (if neg then 1 else 0) ∈ xs
  · simp only [hm, decide_true]
    exact List.any_eq_true.2 ⟨_, (mem_srt _ _).2 hm, by rw [isV_iff hv (h _ hm)]; simp⟩
  · simp only [hm, decide_false]
    rw [List.any_eq_false]
    intro x hx hh
    have hx := (mem_srt _ _).1 hx
    rw [isV_iff hv (h x hx)] at hh
    have : x = 2 * v + if neg then 1 else 0 := by simpa using hh
    exact hm (this ▸ hx)
theorem mem_filter_isV {xs : List Int} {v : Int} (hv : ¬ v < 0) (h : ∀ x ∈ xs, ¬ x < 0) (neg : Bool) (y : Int) : y ∈ (srt xs).filter (fun x => !isV v neg x) ↔ y ∈ xs.filter (decide <| · ≠ 2 * v + if neg then 1 else 0) := by
  rw [List.mem_filter, List.mem_filter, mem_srt]
  constructor
  · rintro ⟨h1, h2⟩
    rw [isV_iff hv (h y h1)] at h2
    exact ⟨h1, by simpa using h2⟩
  · rintro ⟨h1, h2⟩
    rw [isV_iff hv (h y h1)]
    exact ⟨h1, by simpa using h2⟩
set_option maxHeartbeats 2000000 in
theorem resolve_ret {w : World} {D D' : Nat → Prop} {u u' : Value} {a b : List Int} (h1 : LV vi w D u a) (h2 : LV vi w D' u' b) (hf : Few (a.length + b.length)) (hI : ∀ x ∈ a, I64 x) (hJ : ∀ x ∈ b, I64 x) (v : Int) :
    Ret Try.prog 23 #[u, u', vi v] w (fun r w' => ∃ o, r = .tuple #[o, vi (resD a b v).2] ∧ GI w' (w.heap.size ≤ ·) o (resD a b v).1 ∧ Keep w w' No) := by
  refine ok23 _ _ _ _ _ ?_
  unfold sh23
  refine M.new_i (l := [vi v]) (fun w0 hb k0 s0 => ?_)
  have h1 := h1.keep k0 (fun _ _ _ h => h)
  have h2 := h2.keep k0 (fun _ _ _ h => h)
  refine M.call_i (normal_ret h1 (by omega) hI) ?_; rintro _ w1 ⟨o1, rfl, g1, k1⟩
  refine M.extract_i rfl ?_
  refine M.extract_i rfl ?_
  refine M.extract_i rfl ?_
  have k01 := k0.trans k1 (fun _ _ h => h)
  by_cases e1 : (normD a).2.2 = 0
  rotate_left
  · (repeat (first | refine M.len_i ?_ | refine M.nilCheck_i ?_ | refine M.field_i ?_ | refine M.draw_i ?_ | refine M.cap_i ?_ | refine M.gd_tt ?_ | refine M.gd_ff ?_ | refine M.gd_ft ?_ | refine M.gd_tf ?_ | refine M.gd_u ?_ | refine M.pick_t ?_ | refine M.pick_f ?_ | refine M.not_t ?_ | refine M.not_f ?_ | refine M.cond_t ?_ | refine M.cond_f ?_ | refine M.eqNilP_tn ?_ | refine M.eqNilP_ts ?_ | refine M.eqNilP_fn ?_ | refine M.eqNilP_fs ?_ | refine M.eqNilS_tn ?_ | refine M.eqNilS_ts ?_ | refine M.eqNilS_fn ?_ | refine M.eqNilS_fs ?_ | refine M.lss_t (by omega) ?_ | refine M.lss_f (by omega) ?_ | refine M.leq_t (by omega) ?_ | refine M.leq_f (by omega) ?_ | refine M.gtr_t (by omega) ?_ | refine M.gtr_f (by omega) ?_ | refine M.geq_t (by omega) ?_ | refine M.geq_f (by omega) ?_ | refine M.eql_t (by omega) ?_ | refine M.eql_f (by omega) ?_ | refine M.neq_t (by omega) ?_ | refine M.neq_f (by omega) ?_ | refine M.add_i (by omega) (by omega) ?_ | refine M.sub_i (by omega) (by omega) ?_ | refine M.load_i (by assumption) ?_ | refine M.loadB_i (by assumption) rfl ?_ | refine M.st_i (by assumption) ?_ | refine M.stB_i (by assumption) rfl ?_ | refine M.gs_ff ?_ | refine M.gs_tt ?_ | refine M.gs_ft ?_ | refine M.gs_tf ?_ | refine M.stAll_i (by assumption) rfl ?_))
    have : resD a b v = ([], (normD a).2.2) := by unfold resD; rw [if_pos e1]
    rw [this]
    exact ⟨_, rfl, GI.nil _ _, k01⟩
  have h1 := h1.keep k1 (fun _ _ _ h => h)
  have h2 := h2.keep k1 (fun _ _ _ h => h)
  have hb := hb.keep k1 (fun h => h)
  (repeat (first | refine M.len_i ?_ | refine M.nilCheck_i ?_ | refine M.field_i ?_ | refine M.draw_i ?_ | refine M.cap_i ?_ | refine M.gd_tt ?_ | refine M.gd_ff ?_ | refine M.gd_ft ?_ | refine M.gd_tf ?_ | refine M.gd_u ?_ | refine M.pick_t ?_ | refine M.pick_f ?_ | refine M.not_t ?_ | refine M.not_f ?_ | refine M.cond_t ?_ | refine M.cond_f ?_ | refine M.eqNilP_tn ?_ | refine M.eqNilP_ts ?_ | refine M.eqNilP_fn ?_ | refine M.eqNilP_fs ?_ | refine M.eqNilS_tn ?_ | refine M.eqNilS_ts ?_ | refine M.eqNilS_fn ?_ | refine M.eqNilS_fs ?_ | refine M.lss_t (by omega) ?_ | refine M.lss_f (by omega) ?_ | refine M.leq_t (by omega) ?_ | refine M.leq_f (by omega) ?_ | refine M.gtr_t (by omega) ?_ | refine M.gtr_f (by omega) ?_ | refine M.geq_t (by omega) ?_ | refine M.geq_f (by omega) ?_ | refine M.eql_t (by omega) ?_ | refine M.eql_f (by omega) ?_ | refine M.neq_t (by omega) ?_ | refine M.neq_f (by omega) ?_ | refine M.add_i (by omega) (by omega) ?_ | refine M.sub_i (by omega) (by omega) ?_ | refine M.load_i (by assumption) ?_ | refine M.loadB_i (by assumption) rfl ?_ | refine M.st_i (by assumption) ?_ | refine M.stB_i (by assumption) rfl ?_ | refine M.gs_ff ?_ | refine M.gs_tt ?_ | refine M.gs_ft ?_ | refine M.gs_tf ?_ | refine M.stAll_i (by assumption) rfl ?_))
  refine M.call_i (normal_ret h2 (by omega) hJ) ?_; rintro _ w2 ⟨o2, rfl, g2, k2⟩
  have hb := hb.keep k2 (fun h => h)
  have q0 := k0.size; have q1 := k1.size; have q2 := k2.size
  have g1 := (g1.mono (L' := fun z => w0.heap.size ≤ z ∧ z < w1.heap.size) (fun z hz h => ⟨h, hz⟩)).keep k2 (fun _ _ _ h => h)
  have g2 := g2.mono (L' := fun z => w1.heap.size ≤ z ∧ z < w2.heap.size) (fun z hz h => ⟨h, hz⟩)
  have k02 := k01.trans k2 (fun _ _ h => h)
  refine M.extract_i rfl ?_
  refine M.extract_i rfl ?_
  refine M.extract_i rfl ?_
  by_cases e2 : (normD b).2.2 = 0
  rotate_left
  · (repeat (first | refine M.len_i ?_ | refine M.nilCheck_i ?_ | refine M.field_i ?_ | refine M.draw_i ?_ | refine M.cap_i ?_ | refine M.gd_tt ?_ | refine M.gd_ff ?_ | refine M.gd_ft ?_ | refine M.gd_tf ?_ | refine M.gd_u ?_ | refine M.pick_t ?_ | refine M.pick_f ?_ | refine M.not_t ?_ | refine M.not_f ?_ | refine M.cond_t ?_ | refine M.cond_f ?_ | refine M.eqNilP_tn ?_ | refine M.eqNilP_ts ?_ | refine M.eqNilP_fn ?_ | refine M.eqNilP_fs ?_ | refine M.eqNilS_tn ?_ | refine M.eqNilS_ts ?_ | refine M.eqNilS_fn ?_ | refine M.eqNilS_fs ?_ | refine M.lss_t (by omega) ?_ | refine M.lss_f (by omega) ?_ | refine M.leq_t (by omega) ?_ | refine M.leq_f (by omega) ?_ | refine M.gtr_t (by omega) ?_ | refine M.gtr_f (by omega) ?_ | refine M.geq_t (by omega) ?_ | refine M.geq_f (by omega) ?_ | refine M.eql_t (by omega) ?_ | refine M.eql_f (by omega) ?_ | refine M.neq_t (by omega) ?_ | refine M.neq_f (by omega) ?_ | refine M.add_i (by omega) (by omega) ?_ | refine M.sub_i (by omega) (by omega) ?_ | refine M.load_i (by assumption) ?_ | refine M.loadB_i (by assumption) rfl ?_ | refine M.st_i (by assumption) ?_ | refine M.stB_i (by assumption) rfl ?_ | refine M.gs_ff ?_ | refine M.gs_tt ?_ | refine M.gs_ft ?_ | refine M.gs_tf ?_ | refine M.stAll_i (by assumption) rfl ?_))
    have : resD a b v = ([], (normD b).2.2) := by unfold resD; rw [if_neg (by omega), if_pos e2]
    rw [this]
    exact ⟨_, rfl, GI.nil _ _, k02⟩
  have bad : (v < 0 ∨ 4611686018427387903 < v ∨ 2 * v ∉ a ∨ 2 * v + 1 ∉ b) → resD a b v = ([], 9) := fun h => by
    unfold resD; rw [if_neg (by omega), if_neg (by omega), if_pos h]
  obtain ⟨na, sa⟩ := normD_ok e1
  obtain ⟨nb, sb⟩ := normD_ok e2
  rw [sa] at g1
  rw [sb] at g2
  have la := len_srt a
  have lb := len_srt b
  (repeat (first | refine M.len_i ?_ | refine M.nilCheck_i ?_ | refine M.field_i ?_ | refine M.draw_i ?_ | refine M.cap_i ?_ | refine M.gd_tt ?_ | refine M.gd_ff ?_ | refine M.gd_ft ?_ | refine M.gd_tf ?_ | refine M.gd_u ?_ | refine M.pick_t ?_ | refine M.pick_f ?_ | refine M.not_t ?_ | refine M.not_f ?_ | refine M.cond_t ?_ | refine M.cond_f ?_ | refine M.eqNilP_tn ?_ | refine M.eqNilP_ts ?_ | refine M.eqNilP_fn ?_ | refine M.eqNilP_fs ?_ | refine M.eqNilS_tn ?_ | refine M.eqNilS_ts ?_ | refine M.eqNilS_fn ?_ | refine M.eqNilS_fs ?_ | refine M.lss_t (by omega) ?_ | refine M.lss_f (by omega) ?_ | refine M.leq_t (by omega) ?_ | refine M.leq_f (by omega) ?_ | refine M.gtr_t (by omega) ?_ | refine M.gtr_f (by omega) ?_ | refine M.geq_t (by omega) ?_ | refine M.geq_f (by omega) ?_ | refine M.eql_t (by omega) ?_ | refine M.eql_f (by omega) ?_ | refine M.neq_t (by omega) ?_ | refine M.neq_f (by omega) ?_ | refine M.add_i (by omega) (by omega) ?_ | refine M.sub_i (by omega) (by omega) ?_ | refine M.load_i (by assumption) ?_ | refine M.loadB_i (by assumption) rfl ?_ | refine M.st_i (by assumption) ?_ | refine M.stB_i (by assumption) rfl ?_ | refine M.gs_ff ?_ | refine M.gs_tt ?_ | refine M.gs_ft ?_ | refine M.gs_tf ?_ | refine M.stAll_i (by assumption) rfl ?_))
  by_cases c0 : v < 0
  · (repeat (first | refine M.len_i ?_ | refine M.nilCheck_i ?_ | refine M.field_i ?_ | refine M.draw_i ?_ | refine M.cap_i ?_ | refine M.gd_tt ?_ | refine M.gd_ff ?_ | refine M.gd_ft ?_ | refine M.gd_tf ?_ | refine M.gd_u ?_ | refine M.pick_t ?_ | refine M.pick_f ?_ | refine M.not_t ?_ | refine M.not_f ?_ | refine M.cond_t ?_ | refine M.cond_f ?_ | refine M.eqNilP_tn ?_ | refine M.eqNilP_ts ?_ | refine M.eqNilP_fn ?_ | refine M.eqNilP_fs ?_ | refine M.eqNilS_tn ?_ | refine M.eqNilS_ts ?_ | refine M.eqNilS_fn ?_ | refine M.eqNilS_fs ?_ | refine M.lss_t (by omega) ?_ | refine M.lss_f (by omega) ?_ | refine M.leq_t (by omega) ?_ | refine M.leq_f (by omega) ?_ | refine M.gtr_t (by omega) ?_ | refine M.gtr_f (by omega) ?_ | refine M.geq_t (by omega) ?_ | refine M.geq_f (by omega) ?_ | refine M.eql_t (by omega) ?_ | refine M.eql_f (by omega) ?_ | refine M.neq_t (by omega) ?_ | refine M.neq_f (by omega) ?_ | refine M.add_i (by omega) (by omega) ?_ | refine M.sub_i (by omega) (by omega) ?_ | refine M.load_i (by assumption) ?_ | refine M.loadB_i (by assumption) rfl ?_ | refine M.st_i (by assumption) ?_ | refine M.stB_i (by assumption) rfl ?_ | refine M.gs_ff ?_ | refine M.gs_tt ?_ | refine M.gs_ft ?_ | refine M.gs_tf ?_ | refine M.stAll_i (by assumption) rfl ?_))
    rw [bad (.inl c0)]
    exact ⟨_, rfl, GI.nil _ _, k02⟩
  (repeat (first | refine M.len_i ?_ | refine M.nilCheck_i ?_ | refine M.field_i ?_ | refine M.draw_i ?_ | refine M.cap_i ?_ | refine M.gd_tt ?_ | refine M.gd_ff ?_ | refine M.gd_ft ?_ | refine M.gd_tf ?_ | refine M.gd_u ?_ | refine M.pick_t ?_ | refine M.pick_f ?_ | refine M.not_t ?_ | refine M.not_f ?_ | refine M.cond_t ?_ | refine M.cond_f ?_ | refine M.eqNilP_tn ?_ | refine M.eqNilP_ts ?_ | refine M.eqNilP_fn ?_ | refine M.eqNilP_fs ?_ | refine M.eqNilS_tn ?_ | refine M.eqNilS_ts ?_ | refine M.eqNilS_fn ?_ | refine M.eqNilS_fs ?_ | refine M.lss_t (by omega) ?_ | refine M.lss_f (by omega) ?_ | refine M.leq_t (by omega) ?_ | refine M.leq_f (by omega) ?_ | refine M.gtr_t (by omega) ?_ | refine M.gtr_f (by omega) ?_ | refine M.geq_t (by omega) ?_ | refine M.geq_f (by omega) ?_ | refine M.eql_t (by omega) ?_ | refine M.eql_f (by omega) ?_ | refine M.neq_t (by omega) ?_ | refine M.neq_f (by omega) ?_ | refine M.add_i (by omega) (by omega) ?_ | refine M.sub_i (by omega) (by omega) ?_ | refine M.load_i (by assumption) ?_ | refine M.loadB_i (by assumption) rfl ?_ | refine M.st_i (by assumption) ?_ | refine M.stB_i (by assumption) rfl ?_ | refine M.gs_ff ?_ | refine M.gs_tt ?_ | refine M.gs_ft ?_ | refine M.gs_tf ?_ | refine M.stAll_i (by assumption) rfl ?_))
  refine isM w.heap.size false w2 _ (fun w3 hq3 k3 s3 => ?_)
  have hb := hb.keep k3 (fun h => h)
  have g1 := g1.keep k3 (fun _ _ _ h => h)
  have g2 := g2.keep k3 (fun _ _ _ h => h)
  refine M.call_i (containsFunc_ret (GI.lv g1) (by omega) (isC (neg := false)) ⟨hb, hq3⟩) ?_; rintro _ w4 ⟨rfl, ⟨hb, hq3⟩, k4⟩
  have g1 := g1.keep k4 (fun _ _ _ h => h)
  have g2 := g2.keep k4 (fun _ _ _ h => h)
  have k04 := (k02.trans k3 (fun _ _ h => h)).trans k4 (fun _ _ h => h)
  rw [any_isV c0 na]
  refine M.not_i ?_
  have ee : ∀ z : Int, z + (if false = true then 1 else 0) = z := fun z => by simp
  rw [ee]
  by_cases c2 : 2 * v ∈ a
  rotate_left
  · simp only [c2, decide_false]
    (repeat (first | refine M.len_i ?_ | refine M.nilCheck_i ?_ | refine M.field_i ?_ | refine M.draw_i ?_ | refine M.cap_i ?_ | refine M.gd_tt ?_ | refine M.gd_ff ?_ | refine M.gd_ft ?_ | refine M.gd_tf ?_ | refine M.gd_u ?_ | refine M.pick_t ?_ | refine M.pick_f ?_ | refine M.not_t ?_ | refine M.not_f ?_ | refine M.cond_t ?_ | refine M.cond_f ?_ | refine M.eqNilP_tn ?_ | refine M.eqNilP_ts ?_ | refine M.eqNilP_fn ?_ | refine M.eqNilP_fs ?_ | refine M.eqNilS_tn ?_ | refine M.eqNilS_ts ?_ | refine M.eqNilS_fn ?_ | refine M.eqNilS_fs ?_ | refine M.lss_t (by omega) ?_ | refine M.lss_f (by omega) ?_ | refine M.leq_t (by omega) ?_ | refine M.leq_f (by omega) ?_ | refine M.gtr_t (by omega) ?_ | refine M.gtr_f (by omega) ?_ | refine M.geq_t (by omega) ?_ | refine M.geq_f (by omega) ?_ | refine M.eql_t (by omega) ?_ | refine M.eql_f (by omega) ?_ | refine M.neq_t (by omega) ?_ | refine M.neq_f (by omega) ?_ | refine M.add_i (by omega) (by omega) ?_ | refine M.sub_i (by omega) (by omega) ?_ | refine M.load_i (by assumption) ?_ | refine M.loadB_i (by assumption) rfl ?_ | refine M.st_i (by assumption) ?_ | refine M.stB_i (by assumption) rfl ?_ | refine M.gs_ff ?_ | refine M.gs_tt ?_ | refine M.gs_ft ?_ | refine M.gs_tf ?_ | refine M.stAll_i (by assumption) rfl ?_))
    rw [bad (.inr (.inr (.inl c2)))]
    exact ⟨_, rfl, GI.nil _ _, k04⟩
  have c1 : ¬ 4611686018427387903 < v := fun h => by have := (hI _ c2).2; omega
  simp only [c2, decide_true]
  have q3 := k3.size; have q4 := k4.size
  (repeat (first | refine M.len_i ?_ | refine M.nilCheck_i ?_ | refine M.field_i ?_ | refine M.draw_i ?_ | refine M.cap_i ?_ | refine M.gd_tt ?_ | refine M.gd_ff ?_ | refine M.gd_ft ?_ | refine M.gd_tf ?_ | refine M.gd_u ?_ | refine M.pick_t ?_ | refine M.pick_f ?_ | refine M.not_t ?_ | refine M.not_f ?_ | refine M.cond_t ?_ | refine M.cond_f ?_ | refine M.eqNilP_tn ?_ | refine M.eqNilP_ts ?_ | refine M.eqNilP_fn ?_ | refine M.eqNilP_fs ?_ | refine M.eqNilS_tn ?_ | refine M.eqNilS_ts ?_ | refine M.eqNilS_fn ?_ | refine M.eqNilS_fs ?_ | refine M.lss_t (by omega) ?_ | refine M.lss_f (by omega) ?_ | refine M.leq_t (by omega) ?_ | refine M.leq_f (by omega) ?_ | refine M.gtr_t (by omega) ?_ | refine M.gtr_f (by omega) ?_ | refine M.geq_t (by omega) ?_ | refine M.geq_f (by omega) ?_ | refine M.eql_t (by omega) ?_ | refine M.eql_f (by omega) ?_ | refine M.neq_t (by omega) ?_ | refine M.neq_f (by omega) ?_ | refine M.add_i (by omega) (by omega) ?_ | refine M.sub_i (by omega) (by omega) ?_ | refine M.load_i (by assumption) ?_ | refine M.loadB_i (by assumption) rfl ?_ | refine M.st_i (by assumption) ?_ | refine M.stB_i (by assumption) rfl ?_ | refine M.gs_ff ?_ | refine M.gs_tt ?_ | refine M.gs_ft ?_ | refine M.gs_tf ?_ | refine M.stAll_i (by assumption) rfl ?_))
  refine isM w.heap.size true w4 _ (fun w5 hq5 k5 s5 => ?_)
  have hb := hb.keep k5 (fun h => h)
  have g1 := g1.keep k5 (fun _ _ _ h => h)
  have g2 := g2.keep k5 (fun _ _ _ h => h)
  (repeat (first | refine M.len_i ?_ | refine M.nilCheck_i ?_ | refine M.field_i ?_ | refine M.draw_i ?_ | refine M.cap_i ?_ | refine M.gd_tt ?_ | refine M.gd_ff ?_ | refine M.gd_ft ?_ | refine M.gd_tf ?_ | refine M.gd_u ?_ | refine M.pick_t ?_ | refine M.pick_f ?_ | refine M.not_t ?_ | refine M.not_f ?_ | refine M.cond_t ?_ | refine M.cond_f ?_ | refine M.eqNilP_tn ?_ | refine M.eqNilP_ts ?_ | refine M.eqNilP_fn ?_ | refine M.eqNilP_fs ?_ | refine M.eqNilS_tn ?_ | refine M.eqNilS_ts ?_ | refine M.eqNilS_fn ?_ | refine M.eqNilS_fs ?_ | refine M.lss_t (by omega) ?_ | refine M.lss_f (by omega) ?_ | refine M.leq_t (by omega) ?_ | refine M.leq_f (by omega) ?_ | refine M.gtr_t (by omega) ?_ | refine M.gtr_f (by omega) ?_ | refine M.geq_t (by omega) ?_ | refine M.geq_f (by omega) ?_ | refine M.eql_t (by omega) ?_ | refine M.eql_f (by omega) ?_ | refine M.neq_t (by omega) ?_ | refine M.neq_f (by omega) ?_ | refine M.add_i (by omega) (by omega) ?_ | refine M.sub_i (by omega) (by omega) ?_ | refine M.load_i (by assumption) ?_ | refine M.loadB_i (by assumption) rfl ?_ | refine M.st_i (by assumption) ?_ | refine M.stB_i (by assumption) rfl ?_ | refine M.gs_ff ?_ | refine M.gs_tt ?_ | refine M.gs_ft ?_ | refine M.gs_tf ?_ | refine M.stAll_i (by assumption) rfl ?_))
  refine M.call_i (containsFunc_ret (GI.lv g2) (by omega) (isC (neg := true)) ⟨hb, hq5⟩) ?_; rintro _ w6 ⟨rfl, ⟨hb, hq5⟩, k6⟩
  have g1 := g1.keep k6 (fun _ _ _ h => h)
  have g2 := g2.keep k6 (fun _ _ _ h => h)
  have k06 := (k04.trans k5 (fun _ _ h => h)).trans k6 (fun _ _ h => h)
  rw [any_isV c0 nb]
  have ee1 : ∀ z : Int, z + (if true = true then 1 else 0) = z + 1 := fun z => by simp
  rw [ee1]
  by_cases c3 : 2 * v + 1 ∈ b
  rotate_left
  · simp only [c3, decide_false]
    (repeat (first | refine M.len_i ?_ | refine M.nilCheck_i ?_ | refine M.field_i ?_ | refine M.draw_i ?_ | refine M.cap_i ?_ | refine M.gd_tt ?_ | refine M.gd_ff ?_ | refine M.gd_ft ?_ | refine M.gd_tf ?_ | refine M.gd_u ?_ | refine M.pick_t ?_ | refine M.pick_f ?_ | refine M.not_t ?_ | refine M.not_f ?_ | refine M.cond_t ?_ | refine M.cond_f ?_ | refine M.eqNilP_tn ?_ | refine M.eqNilP_ts ?_ | refine M.eqNilP_fn ?_ | refine M.eqNilP_fs ?_ | refine M.eqNilS_tn ?_ | refine M.eqNilS_ts ?_ | refine M.eqNilS_fn ?_ | refine M.eqNilS_fs ?_ | refine M.lss_t (by omega) ?_ | refine M.lss_f (by omega) ?_ | refine M.leq_t (by omega) ?_ | refine M.leq_f (by omega) ?_ | refine M.gtr_t (by omega) ?_ | refine M.gtr_f (by omega) ?_ | refine M.geq_t (by omega) ?_ | refine M.geq_f (by omega) ?_ | refine M.eql_t (by omega) ?_ | refine M.eql_f (by omega) ?_ | refine M.neq_t (by omega) ?_ | refine M.neq_f (by omega) ?_ | refine M.add_i (by omega) (by omega) ?_ | refine M.sub_i (by omega) (by omega) ?_ | refine M.load_i (by assumption) ?_ | refine M.loadB_i (by assumption) rfl ?_ | refine M.st_i (by assumption) ?_ | refine M.stB_i (by assumption) rfl ?_ | refine M.gs_ff ?_ | refine M.gs_tt ?_ | refine M.gs_ft ?_ | refine M.gs_tf ?_ | refine M.stAll_i (by assumption) rfl ?_))
    rw [bad (.inr (.inr (.inr c3)))]
    exact ⟨_, rfl, GI.nil _ _, k06⟩
  simp only [c3, decide_true]
  have q5 := k5.size; have q6 := k6.size
  (repeat (first | refine M.len_i ?_ | refine M.nilCheck_i ?_ | refine M.field_i ?_ | refine M.draw_i ?_ | refine M.cap_i ?_ | refine M.gd_tt ?_ | refine M.gd_ff ?_ | refine M.gd_ft ?_ | refine M.gd_tf ?_ | refine M.gd_u ?_ | refine M.pick_t ?_ | refine M.pick_f ?_ | refine M.not_t ?_ | refine M.not_f ?_ | refine M.cond_t ?_ | refine M.cond_f ?_ | refine M.eqNilP_tn ?_ | refine M.eqNilP_ts ?_ | refine M.eqNilP_fn ?_ | refine M.eqNilP_fs ?_ | refine M.eqNilS_tn ?_ | refine M.eqNilS_ts ?_ | refine M.eqNilS_fn ?_ | refine M.eqNilS_fs ?_ | refine M.lss_t (by omega) ?_ | refine M.lss_f (by omega) ?_ | refine M.leq_t (by omega) ?_ | refine M.leq_f (by omega) ?_ | refine M.gtr_t (by omega) ?_ | refine M.gtr_f (by omega) ?_ | refine M.geq_t (by omega) ?_ | refine M.geq_f (by omega) ?_ | refine M.eql_t (by omega) ?_ | refine M.eql_f (by omega) ?_ | refine M.neq_t (by omega) ?_ | refine M.neq_f (by omega) ?_ | refine M.add_i (by omega) (by omega) ?_ | refine M.sub_i (by omega) (by omega) ?_ | refine M.load_i (by assumption) ?_ | refine M.loadB_i (by assumption) rfl ?_ | refine M.st_i (by assumption) ?_ | refine M.stB_i (by assumption) rfl ?_ | refine M.gs_ff ?_ | refine M.gs_tt ?_ | refine M.gs_ft ?_ | refine M.gs_tf ?_ | refine M.stAll_i (by assumption) rfl ?_))
  refine isM w.heap.size false w6 _ (fun w7 hq7 k7 s7 => ?_)
  have hb := hb.keep k7 (fun h => h)
  have g1 := g1.keep k7 (fun _ _ _ h => h)
  have g2 := g2.keep k7 (fun _ _ _ h => h)
  have q7 := k7.size
  refine M.call_i (deleteFunc_ret g1 (by omega) (isC (neg := false)) ⟨hb, hq7⟩ (fun w w' h k => ⟨h.1.keep k (fun h => by omega), h.2.keep k (fun h => by omega)⟩)) ?_; rintro o8 w8 ⟨g8, ⟨hb, _⟩, k8⟩
  have g2 := g2.keep k8 (fun z _ h1 h2 => by omega)
  have q8 := k8.size
  refine isM w.heap.size true w8 _ (fun w9 hq9 k9 s9 => ?_)
  have hb := hb.keep k9 (fun h => h)
  have g8 := g8.keep k9 (fun _ _ _ h => h)
  have g2 := g2.keep k9 (fun _ _ _ h => h)
  have q9 := k9.size
  refine M.call_i (deleteFunc_ret g2 (by omega) (isC (neg := true)) ⟨hb, hq9⟩ (fun w w' h k => ⟨h.1.keep k (fun h => by omega), h.2.keep k (fun h => by omega)⟩)) ?_; rintro o10 w10 ⟨g10, _, k10⟩
  have g8 := g8.keep k10 (fun z _ h1 h2 => by omega)
  obtain ⟨A10, c10, rfl, r10, _⟩ := GI.lv g10
  have l1 := List.length_filter_le (fun x => !isV v false x) (srt a)
  have l2 := List.length_filter_le (fun x => !isV v true x) (srt b)
  refine M.appendI_i rfl g8 r10 rfl (by omega) (fun v11 w11 g11 k11 => ?_)
  have q10 := k10.size; have q11 := k11.size
  have hall : ∀ x ∈ (srt a).filter (fun x => !isV v false x) ++ (srt b).filter (fun x => !isV v true x), ¬ x < 0 ∧ I64 x := fun x hx => by
    rcases List.mem_append.1 hx with hx | hx
    · have := (mem_srt _ _).1 (List.mem_filter.1 hx).1; exact ⟨na x this, hI x this⟩
    · have := (mem_srt _ _).1 (List.mem_filter.1 hx).1; exact ⟨nb x this, hJ x this⟩
  refine M.call_i (normal_ret (GI.lv g11) (by simp only [List.length_append]; omega) (fun x hx => (hall x hx).2)) ?_; rintro _ w12 ⟨o12, rfl, g12, k12⟩
  obtain ⟨n1, n2⟩ := normD_of (fun x hx => (hall x hx).1)
  refine M.extract_i rfl ?_
  refine M.extract_i rfl ?_
  refine M.extract_i rfl ?_
  have good : resD a b v = (srt (a.filter (decide <| · ≠ 2 * v) ++ b.filter (decide <| · ≠ 2 * v + 1)), 0) := by
    unfold resD; rw [if_neg (by omega), if_neg (by omega), if_neg]
    rintro (h | h | h | h)
    · exact c0 h
    · exact c1 h
    · exact h c2
    · exact h c3
  have same : srt ((srt a).filter (fun x => !isV v false x) ++ (srt b).filter (fun x => !isV v true x)) = srt (a.filter (decide <| · ≠ 2 * v) ++ b.filter (decide <| · ≠ 2 * v + 1)) := eq_srt (srt_lt _) (fun y => by
    rw [mem_srt, List.mem_append, List.mem_append, mem_filter_isV c0 na, mem_filter_isV c0 nb]
    simp)
  rw [good, n2]
  rw [n1, same] at g12
  refine ⟨_, rfl, g12.mono (fun z hz h => by omega), ?_⟩
  have k08 : Keep w w8 No := (k06.trans k7 (fun _ _ h => h)).trans k8 (fun z hz h => by omega)
  have k010 : Keep w w10 No := (k08.trans k9 (fun _ _ h => h)).trans k10 (fun z hz h => by omega)
  exact (k010.trans k11 (fun z hz h => by omega)).trans k12 (fun _ _ h => h)
end Go.Proofs.Ytfkbacoiocniaaa
