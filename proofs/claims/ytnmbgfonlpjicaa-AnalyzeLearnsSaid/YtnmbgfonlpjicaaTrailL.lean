import Derived.Test.YtnmbgfonlpjicaaLit
namespace Go.Proofs.Ytnmbgfonlpjicaa
open Go.Mw
set_option linter.unusedVariables false
set_option linter.unusedSimpArgs false
set_option maxRecDepth 100000
attribute [local irreducible] M.val M.unit M.next M.pick M.new M.nilCheck M.load1 M.loadA M.store M.fieldAddr M.indexSl M.indexArr M.slice M.makeSlice M.buildSlice M.len M.lenS M.cap M.append M.extract M.conv M.not M.neg M.bin M.shift M.eqB M.eqNil M.call M.callv M.gd M.share M.cond M.loop M.draw pureW readW Ret
/-! ### a trail -/
structure Ent where
  lit : Int
  lev : Int
  rea : Int
structure Tr where
  vars : Nat
  L : List Ent
  begins : List Int
  born : List Int
  count : Int
def Tr.idx (t : Tr) (v : Int) : Option Nat := t.L.findIdx? fun e => decide (e.lit / 2 = v)
def Tr.at1 (t : Tr) (v : Int) : Int := match t.idx v with
  | some i => i
  | none => -1
structure Tr.Ok (t : Tr) (at1 levels reasons : List Int) : Prop where
  vars : t.vars ≤ 1048576
  lat : at1.length = t.vars
  llev : levels.length = t.vars
  lrea : reasons.length = t.vars
  lborn : t.born.length = t.L.length
  at1 : ∀ v, v < t.vars → at1[v]? = some (t.at1 v)
  lits : ∀ (i : Nat) e, t.L[i]? = some e → 0 ≤ e.lit ∧ e.lit / 2 < t.vars ∧ levels[(e.lit / 2).toNat]? = some e.lev ∧ reasons[(e.lit / 2).toNat]? = some e.rea ∧ t.idx (e.lit / 2) = some i
  beg : ∀ (i : Nat) x, t.begins[i]? = some x → i ≤ x ∧ x ≤ t.L.length
  mono : ∀ (i j : Nat) x y, i < j → t.begins[i]? = some x → t.begins[j]? = some y → x < y
  llen : t.L.length ≤ t.vars

def TRep (w : World) (p : Nat) (lab : Nat → Nat) (t : Tr) : Prop :=
  ∃ vl vb vg va ve vr at1 levels reasons, Blk w p [vl, vb, vi t.count, vg, va, ve, vr] ∧
    GI w (lab · = 2) vl (t.L.map (·.lit)) ∧ GI w (lab · = 3) vb t.born ∧ GI w (lab · = 4) vg t.begins ∧
    GI w (lab · = 5) va at1 ∧ GI w (lab · = 6) ve levels ∧ GI w (lab · = 7) vr reasons ∧ lab p = 1 ∧ (∀ b, lab b ≠ 0 → b < w.heap.size) ∧ t.Ok at1 levels reasons

theorem TRep.keep {w w' : World} {p : Nat} {lab : Nat → Nat} {t : Tr} {S : Nat → Prop} (h : TRep w p lab t) (k : Keep w w' S) (hs : ∀ b, b < w.heap.size → lab b ≠ 0 → ¬ S b) : TRep w' p lab t := by
  obtain ⟨vl, vb, vg, va, ve, vr, at1, levels, reasons, hB, hl, hb, hg, ha, he, hr, hp, hlab, ok⟩ := h
  exact ⟨vl, vb, vg, va, ve, vr, at1, levels, reasons, hB.keep k (hs p hB.lt (by omega)), hl.keep k (fun b hb e => hs b hb (by omega)), hb.keep k (fun b hb e => hs b hb (by omega)),
    hg.keep k (fun b hb e => hs b hb (by omega)), ha.keep k (fun b hb e => hs b hb (by omega)), he.keep k (fun b hb e => hs b hb (by omega)), hr.keep k (fun b hb e => hs b hb (by omega)), hp,
    fun b hb => Nat.lt_of_lt_of_le (hlab b hb) k.size, ok⟩

theorem Tr.Ok.lbeg {t : Tr} {at1 levels reasons : List Int} (ok : t.Ok at1 levels reasons) : t.begins.length ≤ t.L.length + 1 := by
  rcases Nat.eq_zero_or_pos t.begins.length with h | h
  · omega
  · have := ok.beg (t.begins.length - 1) _ (List.getElem?_eq_getElem (by omega))
    omega
/-- Each level has a literal. -/
def Tr.Wf (t : Tr) : Prop := ∀ x ∈ t.begins, x < t.L.length

theorem Tr.Ok.none_of {t : Tr} {at1 levels reasons : List Int} (ok : t.Ok at1 levels reasons) {v : Int} (h : v < 0 ∨ t.vars ≤ v) : t.idx v = none := by
  unfold Tr.idx
  rw [List.findIdx?_eq_none_iff]
  intro e he
  obtain ⟨i, hi⟩ := List.mem_iff_getElem?.1 he
  have := ok.lits i e hi
  simp
  omega

/-! (*breakwater/trail.Trail).is: function 44 -/
def sh44 (x0 x1 : Value) (R : Kt) (w : World) : Prop :=
  M.eqNil 0 true x0 (fun t6 w =>
  M.gd t6 true (fun k w => k x1 w) (fun t8 w =>
  M.gd t6 true (fun k w => M.bin .geq t8 (Value.int IntKind.i64 0) k w) (fun t9 w =>
  M.pick t6 t9 (Value.bool false) (fun t10 w =>
  M.gd t10 true (fun k w => k x1 w) (fun t12 w =>
  M.gd t10 true (fun k w => k x0 w) (fun t13 w =>
  M.gd t10 true (fun k w => M.nilCheck t13 k w) (fun t14 w =>
  M.gd t10 true (fun k w => M.fieldAddr 4 t14 k w) (fun t15 w =>
  M.gd t10 true (fun k w => M.load1 t15 k w) (fun t16 w =>
  M.gd t10 true (fun k w => M.len t16 k w) (fun t17 w =>
  M.gd t10 true (fun k w => M.bin .lss t12 t17 k w) (fun t18 w =>
  M.pick t10 t18 (Value.bool false) (fun t19 w =>
  M.gd t19 true (fun k w => k x0 w) (fun t21 w =>
  M.gd t19 true (fun k w => M.nilCheck t21 k w) (fun t22 w =>
  M.gd t19 true (fun k w => M.fieldAddr 4 t22 k w) (fun t23 w =>
  M.gd t19 true (fun k w => M.load1 t23 k w) (fun t24 w =>
  M.gd t19 true (fun k w => k x1 w) (fun t25 w =>
  M.gd t19 true (fun k w => M.indexSl 1 t24 t25 k w) (fun t26 w =>
  M.gd t19 true (fun k w => M.load1 t26 k w) (fun t27 w =>
  M.gd t19 true (fun k w => M.bin .geq t27 (Value.int IntKind.i64 0) k w) (fun t28 w =>
  M.pick t19 t28 (Value.bool false) (fun t29 w =>
  R t29 w) w) w) w) w) w) w) w) w) w) w) w) w) w) w) w) w) w) w) w) w) w
theorem ok44 (x0 x1 : Value) (R : Kt) (w : World) (h : sh44 x0 x1 R w) : Ret Try.prog 44 #[x0, x1] w R :=
  ret_mk <| calls_of_comp mixed (c := Try.f44.body.getD .skip) (args := [x0, x1]) (rs := [(ResultVar.tmp 4)]) (Ann.seq Ann.text (Ann.seq Ann.text Ann.leaf))
    Try.func44 (by kernel_rfl) (by kernel_rfl)
    (Eq.mp (by kernel_rfl) h)
/-! (*breakwater/trail.Trail).may: function 35 -/
def sh35 (x0 x1 : Value) (R : Kt) (w : World) : Prop :=
  M.call Try.prog 22 #[x1] (fun t7 w =>
  M.eqNil 0 true x0 (fun t9 w =>
  M.gd t9 true (fun k w => k t7 w) (fun t11 w =>
  M.gd t9 true (fun k w => M.bin .geq t11 (Value.int IntKind.i64 0) k w) (fun t12 w =>
  M.pick t9 t12 (Value.bool false) (fun t13 w =>
  M.gd t13 true (fun k w => k t7 w) (fun t15 w =>
  M.gd t13 true (fun k w => k x0 w) (fun t16 w =>
  M.gd t13 true (fun k w => M.nilCheck t16 k w) (fun t17 w =>
  M.gd t13 true (fun k w => M.fieldAddr 4 t17 k w) (fun t18 w =>
  M.gd t13 true (fun k w => M.load1 t18 k w) (fun t19 w =>
  M.gd t13 true (fun k w => M.len t19 k w) (fun t20 w =>
  M.gd t13 true (fun k w => M.bin .lss t15 t20 k w) (fun t21 w =>
  M.pick t13 t21 (Value.bool false) (fun t22 w =>
  M.gd t22 true (fun k w => k x0 w) (fun t24 w =>
  M.gd t22 true (fun k w => M.nilCheck t24 k w) (fun t25 w =>
  M.gd t22 true (fun k w => M.fieldAddr 4 t25 k w) (fun t26 w =>
  M.gd t22 true (fun k w => M.load1 t26 k w) (fun t27 w =>
  M.gd t22 true (fun k w => k t7 w) (fun t28 w =>
  M.gd t22 true (fun k w => M.indexSl 1 t27 t28 k w) (fun t29 w =>
  M.gd t22 true (fun k w => M.load1 t29 k w) (fun t30 w =>
  M.gd t22 true (fun k w => M.bin .lss t30 (Value.int IntKind.i64 0) k w) (fun t31 w =>
  M.pick t22 t31 (Value.bool false) (fun t32 w =>
  R t32 w) w) w) w) w) w) w) w) w) w) w) w) w) w) w) w) w) w) w) w) w) w) w
theorem ok35 (x0 x1 : Value) (R : Kt) (w : World) (h : sh35 x0 x1 R w) : Ret Try.prog 35 #[x0, x1] w R :=
  ret_mk <| calls_of_comp mixed (c := Try.f35.body.getD .skip) (args := [x0, x1]) (rs := [(ResultVar.tmp 4)]) (Ann.seq Ann.text (Ann.seq Ann.text (Ann.seq Ann.text Ann.leaf)))
    Try.func35 (by kernel_rfl) (by kernel_rfl)
    (Eq.mp (by kernel_rfl) h)
/-! (*breakwater/trail.Trail).Levels: function 14 -/
def sh14 (x0 : Value) (R : Kt) (w : World) : Prop :=
  M.eqNil 0 false x0 (fun t4 w =>
  M.cond t4
  (R (Value.int IntKind.i64 0) w)
  (M.nilCheck x0 (fun t6 w =>
  M.fieldAddr 3 t6 (fun t7 w =>
  M.load1 t7 (fun t8 w =>
  M.len t8 (fun t9 w =>
  R t9 w) w) w) w) w)) w
theorem ok14 (x0 : Value) (R : Kt) (w : World) (h : sh14 x0 R w) : Ret Try.prog 14 #[x0] w R :=
  ret_mk <| calls_of_comp mixed (c := Try.f14.body.getD .skip) (args := [x0]) (rs := [(ResultVar.tmp 2)]) (Ann.seq Ann.text (Ann.seq (Ann.seq Ann.text (Ann.cond (Ann.seq Ann.text Ann.leaf) Ann.leaf)) (Ann.seq Ann.text Ann.leaf)))
    Try.func14 (by kernel_rfl) (by kernel_rfl)
    (Eq.mp (by kernel_rfl) h)
/-! (*breakwater/trail.Trail).Value: function 38 -/
def sh38 (x0 x1 : Value) (R : Kt) (w : World) : Prop :=
  M.call Try.prog 22 #[x1] (fun t7 w =>
  M.call Try.prog 44 #[x0, t7] (fun t11 w =>
  M.not t11 (fun t12 w =>
  M.cond t12
  (R (Value.int IntKind.i64 0) w)
  (M.draw (fun w =>
  M.nilCheck x0 (fun t15 w =>
  M.fieldAddr 0 t15 (fun t16 w =>
  M.load1 t16 (fun t17 w =>
  M.nilCheck x0 (fun t19 w =>
  M.fieldAddr 4 t19 (fun t20 w =>
  M.load1 t20 (fun t21 w =>
  M.indexSl 1 t21 t7 (fun t23 w =>
  M.load1 t23 (fun t24 w =>
  M.indexSl 1 t17 t24 (fun t25 w =>
  M.load1 t25 (fun t26 w =>
  M.bin .eql t26 x1 (fun t28 w =>
  M.cond t28
  (R (Value.int IntKind.i64 1) w)
  (R (Value.int IntKind.i64 (-1)) w)) w) w) w) w) w) w) w) w) w) w) w) w)) w) w) w
theorem ok38 (x0 x1 : Value) (R : Kt) (w : World) (h : sh38 x0 x1 R w) : Ret Try.prog 38 #[x0, x1] w R :=
  ret_mk <| calls_of_comp mixed (c := Try.f38.body.getD .skip) (args := [x0, x1]) (rs := [(ResultVar.tmp 4)]) (Ann.seq Ann.text (Ann.seq Ann.text (Ann.seq (Ann.block (Ann.seq Ann.text (Ann.cond (Ann.seq Ann.text Ann.leaf) (Ann.seq (Ann.draw (Sch.take 0 (Sch.take 1 (Sch.take 2 (Sch.take 3 (Sch.take 4 (Sch.take 5 (Sch.take 6 (Sch.take 7 (Sch.take 8 (Sch.take 9 (Sch.take 10 (Sch.take 11 (Sch.take 12 (Sch.take 13 (Sch.take 14 (Sch.take 15 Sch.done))))))))))))))))) (Ann.cond (Ann.seq Ann.text Ann.leaf) Ann.leaf))))) (Ann.seq Ann.text Ann.leaf))))
    Try.func38 (by kernel_rfl) (by kernel_rfl)
    (Eq.mp (by kernel_rfl) h)
/-! (*breakwater/trail.Trail).Level: function 21 -/
def sh21 (x0 x1 : Value) (R : Kt) (w : World) : Prop :=
  M.call Try.prog 44 #[x0, x1] (fun t7 w =>
  M.not t7 (fun t8 w =>
  M.cond t8
  (R (Value.int IntKind.i64 (-1)) w)
  (M.nilCheck x0 (fun t10 w =>
  M.fieldAddr 5 t10 (fun t11 w =>
  M.load1 t11 (fun t12 w =>
  M.indexSl 1 t12 x1 (fun t14 w =>
  M.load1 t14 (fun t15 w =>
  R t15 w) w) w) w) w) w)) w) w
theorem ok21 (x0 x1 : Value) (R : Kt) (w : World) (h : sh21 x0 x1 R w) : Ret Try.prog 21 #[x0, x1] w R :=
  ret_mk <| calls_of_comp mixed (c := Try.f21.body.getD .skip) (args := [x0, x1]) (rs := [(ResultVar.tmp 4)]) (Ann.seq Ann.text (Ann.seq (Ann.seq Ann.text (Ann.cond (Ann.seq Ann.text Ann.leaf) Ann.leaf)) (Ann.seq Ann.text Ann.leaf)))
    Try.func21 (by kernel_rfl) (by kernel_rfl)
    (Eq.mp (by kernel_rfl) h)
/-! (*breakwater/trail.Trail).Reason: function 57 -/
def sh57 (x0 x1 : Value) (R : Kt) (w : World) : Prop :=
  M.call Try.prog 44 #[x0, x1] (fun t7 w =>
  M.not t7 (fun t8 w =>
  M.cond t8
  (R (Value.int IntKind.i64 (-1)) w)
  (M.nilCheck x0 (fun t10 w =>
  M.fieldAddr 6 t10 (fun t11 w =>
  M.load1 t11 (fun t12 w =>
  M.indexSl 1 t12 x1 (fun t14 w =>
  M.load1 t14 (fun t15 w =>
  R t15 w) w) w) w) w) w)) w) w
theorem ok57 (x0 x1 : Value) (R : Kt) (w : World) (h : sh57 x0 x1 R w) : Ret Try.prog 57 #[x0, x1] w R :=
  ret_mk <| calls_of_comp mixed (c := Try.f57.body.getD .skip) (args := [x0, x1]) (rs := [(ResultVar.tmp 4)]) (Ann.seq Ann.text (Ann.seq (Ann.seq Ann.text (Ann.cond (Ann.seq Ann.text Ann.leaf) Ann.leaf)) (Ann.seq Ann.text Ann.leaf)))
    Try.func57 (by kernel_rfl) (by kernel_rfl)
    (Eq.mp (by kernel_rfl) h)
/-! (*breakwater/trail.Trail).Lits: function 32 -/
def sh32 (x0 : Value) (R : Kt) (w : World) : Prop :=
  M.eqNil 0 false x0 (fun t5 w =>
  M.cond t5
  (R (Value.slice none 0 0) w)
  (M.nilCheck x0 (fun t7 w =>
  M.fieldAddr 0 t7 (fun t8 w =>
  M.load1 t8 (fun t9 w =>
  M.len t9 (fun t10 w =>
  M.nilCheck x0 (fun t12 w =>
  M.fieldAddr 0 t12 (fun t13 w =>
  M.load1 t13 (fun t14 w =>
  M.slice 1 t14 (some (Value.int IntKind.i64 0)) (some t10) (some t10) (fun t17 w =>
  M.append 3 1 8 #[.int .i64 0] (Value.slice none 0 0) t17 (fun t18 w =>
  R t18 w) w) w) w) w) w) w) w) w) w)) w
theorem ok32 (x0 : Value) (R : Kt) (w : World) (h : sh32 x0 R w) : Ret Try.prog 32 #[x0] w R :=
  ret_mk <| calls_of_comp mixed (c := Try.f32.body.getD .skip) (args := [x0]) (rs := [(ResultVar.tmp 2)]) (Ann.seq Ann.text (Ann.seq (Ann.seq Ann.text (Ann.cond (Ann.seq Ann.text Ann.leaf) Ann.leaf)) (Ann.seq Ann.text (Ann.seq Ann.text Ann.leaf))))
    Try.func32 (by kernel_rfl) (by kernel_rfl)
    (Eq.mp (by kernel_rfl) h)


abbrev ptr (p : Nat) : Value := .pointer (some ⟨p, 0, none⟩)
abbrev nilp : Value := .pointer none

theorem is_nil (v : Int) (w : World) : Ret Try.prog 44 #[nilp, vi v] w (fun r w' => r = .bool false ∧ Keep w w' No) := by
  refine ok44 _ _ _ _ ?_
  unfold sh44
  (repeat (first|refine ja ?_|refine jb ?_|refine jc ?_|refine jd ?_|refine je ?_|refine jf ?_|refine jg ?_|refine jh ?_|refine ji ?_|refine jj ?_|refine jk ?_|refine jl ?_|refine jm ?_|refine jn ?_|refine jo ?_|refine jp ?_|refine jq ?_|refine jr ?_|refine js ?_|refine jt ?_|refine ju ?_|refine jv ?_|refine jw ?_|refine jx ?_|refine jy ?_|refine jz ?_|refine jA ?_|refine jB ?_|refine jC ?_|refine jD ?_|refine jE ?_|refine jF ?_|refine jG ?_|refine jH ?_|refine jI ?_|refine jJ ?_|refine jK ?_|refine jL ?_|refine jM (by assumption) ?_|refine jN (by assumption) rfl ?_|refine jO (by assumption) ?_|refine jP (by assumption) rfl ?_|refine jQ ?_|refine jR ?_|refine jS ?_|refine jT ?_|refine jU (by assumption) rfl ?_))
  exact ⟨rfl, Keep.refl _ _⟩
theorem is_ret {w : World} {p : Nat} {lab : Nat → Nat} {t : Tr} (h : TRep w p lab t) (v : Int) :
    Ret Try.prog 44 #[ptr p, vi v] w (fun r w' => r = .bool (t.idx v).isSome ∧ Keep w w' No) := by
  obtain ⟨vl, vb, vg, va, ve, vr, at1, levels, reasons, hB, hl, hb, hg, ha, he, hr, hp, hlab, ok⟩ := h
  obtain ⟨Aa, ca, rfl, ra⟩ := ha.row
  refine ok44 _ _ _ _ ?_
  unfold sh44
  have hlat := ok.lat
  by_cases h0 : v < 0
  · (repeat (first|refine ja ?_|refine jb ?_|refine jc ?_|refine jd ?_|refine je ?_|refine jf ?_|refine jg ?_|refine jh ?_|refine ji ?_|refine jj ?_|refine jk ?_|refine jl ?_|refine jm ?_|refine jn ?_|refine jo ?_|refine jp ?_|refine jq ?_|refine jr ?_|refine js ?_|refine jt ?_|refine ju ?_|refine jv ?_|refine jw ?_|refine jx ?_|refine jy ?_|refine jz ?_|refine jA ?_|refine jB ?_|refine jC ?_|refine jD ?_|refine jE ?_|refine jF ?_|refine jG ?_|refine jH ?_|refine jI ?_|refine jJ ?_|refine jK ?_|refine jL ?_|refine jM (by assumption) ?_|refine jN (by assumption) rfl ?_|refine jO (by assumption) ?_|refine jP (by assumption) rfl ?_|refine jQ ?_|refine jR ?_|refine jS ?_|refine jT ?_|refine jU (by assumption) rfl ?_))
    exact ⟨by rw [ok.none_of (.inl h0)]; rfl, Keep.refl _ _⟩
  by_cases h1 : v < t.vars
  · (repeat (first|refine ja ?_|refine jb ?_|refine jc ?_|refine jd ?_|refine je ?_|refine jf ?_|refine jg ?_|refine jh ?_|refine ji ?_|refine jj ?_|refine jk ?_|refine jl ?_|refine jm ?_|refine jn ?_|refine jo ?_|refine jp ?_|refine jq ?_|refine jr ?_|refine js ?_|refine jt ?_|refine ju ?_|refine jv ?_|refine jw ?_|refine jx ?_|refine jy ?_|refine jz ?_|refine jA ?_|refine jB ?_|refine jC ?_|refine jD ?_|refine jE ?_|refine jF ?_|refine jG ?_|refine jH ?_|refine jI ?_|refine jJ ?_|refine jK ?_|refine jL ?_|refine jM (by assumption) ?_|refine jN (by assumption) rfl ?_|refine jO (by assumption) ?_|refine jP (by assumption) rfl ?_|refine jQ ?_|refine jR ?_|refine jS ?_|refine jT ?_|refine jU (by assumption) rfl ?_))
    refine M.idxRow_i ra (by simp) (by omega) (by omega) (fun b o hA hc => ?_)
    have hat := ok.at1 v.toNat (by omega)
    rw [List.getElem?_map, hat] at hc
    have hv : ((v.toNat : Nat) : Int) = v := by omega
    rw [hv] at hc
    simp only [Option.map_some] at hc
    (repeat (first|refine ja ?_|refine jb ?_|refine jc ?_|refine jd ?_|refine je ?_|refine jf ?_|refine jg ?_|refine jh ?_|refine ji ?_|refine jj ?_|refine jk ?_|refine jl ?_|refine jm ?_|refine jn ?_|refine jo ?_|refine jp ?_|refine jq ?_|refine jr ?_|refine js ?_|refine jt ?_|refine ju ?_|refine jv ?_|refine jw ?_|refine jx ?_|refine jy ?_|refine jz ?_|refine jA ?_|refine jB ?_|refine jC ?_|refine jD ?_|refine jE ?_|refine jF ?_|refine jG ?_|refine jH ?_|refine jI ?_|refine jJ ?_|refine jK ?_|refine jL ?_|refine jM (by assumption) ?_|refine jN (by assumption) rfl ?_|refine jO (by assumption) ?_|refine jP (by assumption) rfl ?_|refine jQ ?_|refine jR ?_|refine jS ?_|refine jT ?_|refine jU (by assumption) rfl ?_))
    refine M.geq_i ?_
    (repeat (first|refine ja ?_|refine jb ?_|refine jc ?_|refine jd ?_|refine je ?_|refine jf ?_|refine jg ?_|refine jh ?_|refine ji ?_|refine jj ?_|refine jk ?_|refine jl ?_|refine jm ?_|refine jn ?_|refine jo ?_|refine jp ?_|refine jq ?_|refine jr ?_|refine js ?_|refine jt ?_|refine ju ?_|refine jv ?_|refine jw ?_|refine jx ?_|refine jy ?_|refine jz ?_|refine jA ?_|refine jB ?_|refine jC ?_|refine jD ?_|refine jE ?_|refine jF ?_|refine jG ?_|refine jH ?_|refine jI ?_|refine jJ ?_|refine jK ?_|refine jL ?_|refine jM (by assumption) ?_|refine jN (by assumption) rfl ?_|refine jO (by assumption) ?_|refine jP (by assumption) rfl ?_|refine jQ ?_|refine jR ?_|refine jS ?_|refine jT ?_|refine jU (by assumption) rfl ?_))
    refine ⟨?_, Keep.refl _ _⟩
    unfold Tr.at1
    cases t.idx v with
    | none => simp
    | some i => simp
  · (repeat (first|refine ja ?_|refine jb ?_|refine jc ?_|refine jd ?_|refine je ?_|refine jf ?_|refine jg ?_|refine jh ?_|refine ji ?_|refine jj ?_|refine jk ?_|refine jl ?_|refine jm ?_|refine jn ?_|refine jo ?_|refine jp ?_|refine jq ?_|refine jr ?_|refine js ?_|refine jt ?_|refine ju ?_|refine jv ?_|refine jw ?_|refine jx ?_|refine jy ?_|refine jz ?_|refine jA ?_|refine jB ?_|refine jC ?_|refine jD ?_|refine jE ?_|refine jF ?_|refine jG ?_|refine jH ?_|refine jI ?_|refine jJ ?_|refine jK ?_|refine jL ?_|refine jM (by assumption) ?_|refine jN (by assumption) rfl ?_|refine jO (by assumption) ?_|refine jP (by assumption) rfl ?_|refine jQ ?_|refine jR ?_|refine jS ?_|refine jT ?_|refine jU (by assumption) rfl ?_))
    exact ⟨by rw [ok.none_of (.inr (by omega))]; rfl, Keep.refl _ _⟩

def Tr.ent (t : Tr) (v : Int) : Option Ent := (t.idx v).bind (t.L[·]?)
def Tr.may (t : Tr) (l : Int) : Bool := decide (0 ≤ l) && (decide (l / 2 < t.vars) && (t.idx (l / 2)).isNone)
def Tr.val (t : Tr) (l : Int) : Int := if l < 0 then 0 else match t.ent (l / 2) with
  | none => 0
  | some e => if e.lit = l then 1 else -1
def Tr.lev (t : Tr) (v : Int) : Int := match t.ent v with
  | none => -1
  | some e => e.lev
def Tr.rea (t : Tr) (v : Int) : Int := match t.ent v with
  | none => -1
  | some e => e.rea

theorem Tr.idx_some {t : Tr} {v : Int} {i : Nat} (h : t.idx v = some i) : ∃ e, t.L[i]? = some e ∧ e.lit / 2 = v := by
  unfold Tr.idx at h
  rw [List.findIdx?_eq_some_iff_getElem] at h
  obtain ⟨hlt, h1, _⟩ := h
  exact ⟨t.L[i], List.getElem?_eq_getElem hlt, by simpa using h1⟩
theorem Tr.ent_of {t : Tr} {v : Int} {i : Nat} {e : Ent} (h : t.idx v = some i) (he : t.L[i]? = some e) : t.ent v = some e := by
  simp [Tr.ent, h, he]

theorem may_nil (l : Int) (w : World) : Ret Try.prog 35 #[nilp, vi l] w (fun r w' => r = .bool false ∧ Keep w w' No) := by
  refine ok35 _ _ _ _ ?_
  unfold sh35
  refine M.call_i (var_ret l w) ?_
  rintro v w1 ⟨rfl, hk⟩
  (repeat (first|refine ja ?_|refine jb ?_|refine jc ?_|refine jd ?_|refine je ?_|refine jf ?_|refine jg ?_|refine jh ?_|refine ji ?_|refine jj ?_|refine jk ?_|refine jl ?_|refine jm ?_|refine jn ?_|refine jo ?_|refine jp ?_|refine jq ?_|refine jr ?_|refine js ?_|refine jt ?_|refine ju ?_|refine jv ?_|refine jw ?_|refine jx ?_|refine jy ?_|refine jz ?_|refine jA ?_|refine jB ?_|refine jC ?_|refine jD ?_|refine jE ?_|refine jF ?_|refine jG ?_|refine jH ?_|refine jI ?_|refine jJ ?_|refine jK ?_|refine jL ?_|refine jM (by assumption) ?_|refine jN (by assumption) rfl ?_|refine jO (by assumption) ?_|refine jP (by assumption) rfl ?_|refine jQ ?_|refine jR ?_|refine jS ?_|refine jT ?_|refine jU (by assumption) rfl ?_))
  exact ⟨rfl, hk⟩
theorem may_ret {w : World} {p : Nat} {lab : Nat → Nat} {t : Tr} (h : TRep w p lab t) (l : Int) :
    Ret Try.prog 35 #[ptr p, vi l] w (fun r w' => r = .bool (t.may l) ∧ Keep w w' No) := by
  refine ok35 _ _ _ _ ?_
  unfold sh35
  refine M.call_i (var_ret l w) ?_
  rintro v w1 ⟨rfl, hk⟩
  have h := h.keep hk (fun _ _ _ h => h)
  obtain ⟨vl, vb, vg, va, ve, vr, at1, levels, reasons, hB, hl, hb, hg, ha, he, hr, hp, hlab, ok⟩ := h
  obtain ⟨Aa, ca, rfl, ra⟩ := ha.row
  have hlat := ok.lat
  unfold varOf
  by_cases h0 : l < 0
  · simp only [h0, if_true]
    (repeat (first|refine ja ?_|refine jb ?_|refine jc ?_|refine jd ?_|refine je ?_|refine jf ?_|refine jg ?_|refine jh ?_|refine ji ?_|refine jj ?_|refine jk ?_|refine jl ?_|refine jm ?_|refine jn ?_|refine jo ?_|refine jp ?_|refine jq ?_|refine jr ?_|refine js ?_|refine jt ?_|refine ju ?_|refine jv ?_|refine jw ?_|refine jx ?_|refine jy ?_|refine jz ?_|refine jA ?_|refine jB ?_|refine jC ?_|refine jD ?_|refine jE ?_|refine jF ?_|refine jG ?_|refine jH ?_|refine jI ?_|refine jJ ?_|refine jK ?_|refine jL ?_|refine jM (by assumption) ?_|refine jN (by assumption) rfl ?_|refine jO (by assumption) ?_|refine jP (by assumption) rfl ?_|refine jQ ?_|refine jR ?_|refine jS ?_|refine jT ?_|refine jU (by assumption) rfl ?_))
    refine ⟨?_, hk⟩
    have : ¬ 0 ≤ l := by omega
    simp [Tr.may, this]
  simp only [h0, if_false]
  by_cases h1 : l / 2 < t.vars
  · (repeat (first|refine ja ?_|refine jb ?_|refine jc ?_|refine jd ?_|refine je ?_|refine jf ?_|refine jg ?_|refine jh ?_|refine ji ?_|refine jj ?_|refine jk ?_|refine jl ?_|refine jm ?_|refine jn ?_|refine jo ?_|refine jp ?_|refine jq ?_|refine jr ?_|refine js ?_|refine jt ?_|refine ju ?_|refine jv ?_|refine jw ?_|refine jx ?_|refine jy ?_|refine jz ?_|refine jA ?_|refine jB ?_|refine jC ?_|refine jD ?_|refine jE ?_|refine jF ?_|refine jG ?_|refine jH ?_|refine jI ?_|refine jJ ?_|refine jK ?_|refine jL ?_|refine jM (by assumption) ?_|refine jN (by assumption) rfl ?_|refine jO (by assumption) ?_|refine jP (by assumption) rfl ?_|refine jQ ?_|refine jR ?_|refine jS ?_|refine jT ?_|refine jU (by assumption) rfl ?_))
    refine M.idxRow_i ra (by simp) (by omega) (by omega) (fun b o hA hc => ?_)
    have hat := ok.at1 (l / 2).toNat (by omega)
    rw [List.getElem?_map, hat] at hc
    have hv : (((l / 2).toNat : Nat) : Int) = l / 2 := by omega
    rw [hv] at hc
    simp only [Option.map_some] at hc
    (repeat (first|refine ja ?_|refine jb ?_|refine jc ?_|refine jd ?_|refine je ?_|refine jf ?_|refine jg ?_|refine jh ?_|refine ji ?_|refine jj ?_|refine jk ?_|refine jl ?_|refine jm ?_|refine jn ?_|refine jo ?_|refine jp ?_|refine jq ?_|refine jr ?_|refine js ?_|refine jt ?_|refine ju ?_|refine jv ?_|refine jw ?_|refine jx ?_|refine jy ?_|refine jz ?_|refine jA ?_|refine jB ?_|refine jC ?_|refine jD ?_|refine jE ?_|refine jF ?_|refine jG ?_|refine jH ?_|refine jI ?_|refine jJ ?_|refine jK ?_|refine jL ?_|refine jM (by assumption) ?_|refine jN (by assumption) rfl ?_|refine jO (by assumption) ?_|refine jP (by assumption) rfl ?_|refine jQ ?_|refine jR ?_|refine jS ?_|refine jT ?_|refine jU (by assumption) rfl ?_))
    refine M.lss_i ?_
    (repeat (first|refine ja ?_|refine jb ?_|refine jc ?_|refine jd ?_|refine je ?_|refine jf ?_|refine jg ?_|refine jh ?_|refine ji ?_|refine jj ?_|refine jk ?_|refine jl ?_|refine jm ?_|refine jn ?_|refine jo ?_|refine jp ?_|refine jq ?_|refine jr ?_|refine js ?_|refine jt ?_|refine ju ?_|refine jv ?_|refine jw ?_|refine jx ?_|refine jy ?_|refine jz ?_|refine jA ?_|refine jB ?_|refine jC ?_|refine jD ?_|refine jE ?_|refine jF ?_|refine jG ?_|refine jH ?_|refine jI ?_|refine jJ ?_|refine jK ?_|refine jL ?_|refine jM (by assumption) ?_|refine jN (by assumption) rfl ?_|refine jO (by assumption) ?_|refine jP (by assumption) rfl ?_|refine jQ ?_|refine jR ?_|refine jS ?_|refine jT ?_|refine jU (by assumption) rfl ?_))
    refine ⟨?_, hk⟩
    unfold Tr.at1 Tr.may
    have : 0 ≤ l := by omega
    cases t.idx (l / 2) with
    | none => simp [this, h1]
    | some i => simp [this, h1]
  · (repeat (first|refine ja ?_|refine jb ?_|refine jc ?_|refine jd ?_|refine je ?_|refine jf ?_|refine jg ?_|refine jh ?_|refine ji ?_|refine jj ?_|refine jk ?_|refine jl ?_|refine jm ?_|refine jn ?_|refine jo ?_|refine jp ?_|refine jq ?_|refine jr ?_|refine js ?_|refine jt ?_|refine ju ?_|refine jv ?_|refine jw ?_|refine jx ?_|refine jy ?_|refine jz ?_|refine jA ?_|refine jB ?_|refine jC ?_|refine jD ?_|refine jE ?_|refine jF ?_|refine jG ?_|refine jH ?_|refine jI ?_|refine jJ ?_|refine jK ?_|refine jL ?_|refine jM (by assumption) ?_|refine jN (by assumption) rfl ?_|refine jO (by assumption) ?_|refine jP (by assumption) rfl ?_|refine jQ ?_|refine jR ?_|refine jS ?_|refine jT ?_|refine jU (by assumption) rfl ?_))
    refine ⟨?_, hk⟩
    simp [Tr.may, h1]

theorem levels_nil (w : World) : Ret Try.prog 14 #[nilp] w (fun r w' => r = vi 0 ∧ Keep w w' No) := by
  refine ok14 _ _ _ ?_
  unfold sh14
  (repeat (first|refine ja ?_|refine jb ?_|refine jc ?_|refine jd ?_|refine je ?_|refine jf ?_|refine jg ?_|refine jh ?_|refine ji ?_|refine jj ?_|refine jk ?_|refine jl ?_|refine jm ?_|refine jn ?_|refine jo ?_|refine jp ?_|refine jq ?_|refine jr ?_|refine js ?_|refine jt ?_|refine ju ?_|refine jv ?_|refine jw ?_|refine jx ?_|refine jy ?_|refine jz ?_|refine jA ?_|refine jB ?_|refine jC ?_|refine jD ?_|refine jE ?_|refine jF ?_|refine jG ?_|refine jH ?_|refine jI ?_|refine jJ ?_|refine jK ?_|refine jL ?_|refine jM (by assumption) ?_|refine jN (by assumption) rfl ?_|refine jO (by assumption) ?_|refine jP (by assumption) rfl ?_|refine jQ ?_|refine jR ?_|refine jS ?_|refine jT ?_|refine jU (by assumption) rfl ?_))
  exact ⟨rfl, Keep.refl _ _⟩
theorem levels_ret {w : World} {p : Nat} {lab : Nat → Nat} {t : Tr} (h : TRep w p lab t) :
    Ret Try.prog 14 #[ptr p] w (fun r w' => r = vi t.begins.length ∧ Keep w w' No) := by
  obtain ⟨vl, vb, vg, va, ve, vr, at1, levels, reasons, hB, hl, hb, hg, ha, he, hr, hp, hlab, ok⟩ := h
  obtain ⟨Aa, ca, rfl, ra⟩ := hg.row
  refine ok14 _ _ _ ?_
  unfold sh14
  (repeat (first|refine ja ?_|refine jb ?_|refine jc ?_|refine jd ?_|refine je ?_|refine jf ?_|refine jg ?_|refine jh ?_|refine ji ?_|refine jj ?_|refine jk ?_|refine jl ?_|refine jm ?_|refine jn ?_|refine jo ?_|refine jp ?_|refine jq ?_|refine jr ?_|refine js ?_|refine jt ?_|refine ju ?_|refine jv ?_|refine jw ?_|refine jx ?_|refine jy ?_|refine jz ?_|refine jA ?_|refine jB ?_|refine jC ?_|refine jD ?_|refine jE ?_|refine jF ?_|refine jG ?_|refine jH ?_|refine jI ?_|refine jJ ?_|refine jK ?_|refine jL ?_|refine jM (by assumption) ?_|refine jN (by assumption) rfl ?_|refine jO (by assumption) ?_|refine jP (by assumption) rfl ?_|refine jQ ?_|refine jR ?_|refine jS ?_|refine jT ?_|refine jU (by assumption) rfl ?_))
  exact ⟨rfl, Keep.refl _ _⟩

theorem value_nil (l : Int) (w : World) : Ret Try.prog 38 #[nilp, vi l] w (fun r w' => r = vi 0 ∧ Keep w w' No) := by
  refine ok38 _ _ _ _ ?_
  unfold sh38
  refine M.call_i (var_ret l w) ?_
  rintro v w1 ⟨rfl, hk⟩
  refine M.call_i (is_nil _ w1) ?_
  rintro v w2 ⟨rfl, hk2⟩
  (repeat (first|refine ja ?_|refine jb ?_|refine jc ?_|refine jd ?_|refine je ?_|refine jf ?_|refine jg ?_|refine jh ?_|refine ji ?_|refine jj ?_|refine jk ?_|refine jl ?_|refine jm ?_|refine jn ?_|refine jo ?_|refine jp ?_|refine jq ?_|refine jr ?_|refine js ?_|refine jt ?_|refine ju ?_|refine jv ?_|refine jw ?_|refine jx ?_|refine jy ?_|refine jz ?_|refine jA ?_|refine jB ?_|refine jC ?_|refine jD ?_|refine jE ?_|refine jF ?_|refine jG ?_|refine jH ?_|refine jI ?_|refine jJ ?_|refine jK ?_|refine jL ?_|refine jM (by assumption) ?_|refine jN (by assumption) rfl ?_|refine jO (by assumption) ?_|refine jP (by assumption) rfl ?_|refine jQ ?_|refine jR ?_|refine jS ?_|refine jT ?_|refine jU (by assumption) rfl ?_))
  exact ⟨rfl, hk.trans hk2 (fun _ _ h => h)⟩
theorem value_ret {w : World} {p : Nat} {lab : Nat → Nat} {t : Tr} (h : TRep w p lab t) (l : Int) :
    Ret Try.prog 38 #[ptr p, vi l] w (fun r w' => r = vi (t.val l) ∧ Keep w w' No) := by
  refine ok38 _ _ _ _ ?_
  unfold sh38
  refine M.call_i (var_ret l w) ?_
  rintro v w1 ⟨rfl, hk1⟩
  have h := h.keep hk1 (fun _ _ _ h => h)
  refine M.call_i (is_ret h _) ?_
  rintro v w2 ⟨rfl, hk2⟩
  have h := h.keep hk2 (fun _ _ _ h => h)
  have hk := hk1.trans hk2 (fun _ _ h => h)
  obtain ⟨vl, vb, vg, va, ve, vr, at1, levels, reasons, hB, hl, hb, hg, ha, he, hr, hp, hlab, ok⟩ := h
  obtain ⟨Aa, ca, rfl, ra⟩ := ha.row
  obtain ⟨Al, cl, rfl, rl⟩ := hl.row
  have hlat := ok.lat
  cases hi : t.idx (varOf l) with
  | none =>
    simp only [Option.isSome_none]
    (repeat (first|refine ja ?_|refine jb ?_|refine jc ?_|refine jd ?_|refine je ?_|refine jf ?_|refine jg ?_|refine jh ?_|refine ji ?_|refine jj ?_|refine jk ?_|refine jl ?_|refine jm ?_|refine jn ?_|refine jo ?_|refine jp ?_|refine jq ?_|refine jr ?_|refine js ?_|refine jt ?_|refine ju ?_|refine jv ?_|refine jw ?_|refine jx ?_|refine jy ?_|refine jz ?_|refine jA ?_|refine jB ?_|refine jC ?_|refine jD ?_|refine jE ?_|refine jF ?_|refine jG ?_|refine jH ?_|refine jI ?_|refine jJ ?_|refine jK ?_|refine jL ?_|refine jM (by assumption) ?_|refine jN (by assumption) rfl ?_|refine jO (by assumption) ?_|refine jP (by assumption) rfl ?_|refine jQ ?_|refine jR ?_|refine jS ?_|refine jT ?_|refine jU (by assumption) rfl ?_))
    refine ⟨?_, hk⟩
    unfold Tr.val Tr.ent
    by_cases h0 : l < 0
    · simp [h0]
    · simp only [varOf, h0, if_false] at hi
      simp [h0, hi]
  | some i =>
    simp only [Option.isSome_some]
    obtain ⟨e, he1, he2⟩ := Tr.idx_some hi
    have hlt := (List.getElem?_eq_some_iff.1 he1).1
    obtain ⟨hl0, hl1, _⟩ := ok.lits i e he1
    have h0 : ¬ l < 0 := fun h0 => by simp only [varOf, h0, if_true] at he2; omega
    simp only [varOf, h0, if_false] at hi he2 ⊢
    (repeat (first|refine ja ?_|refine jb ?_|refine jc ?_|refine jd ?_|refine je ?_|refine jf ?_|refine jg ?_|refine jh ?_|refine ji ?_|refine jj ?_|refine jk ?_|refine jl ?_|refine jm ?_|refine jn ?_|refine jo ?_|refine jp ?_|refine jq ?_|refine jr ?_|refine js ?_|refine jt ?_|refine ju ?_|refine jv ?_|refine jw ?_|refine jx ?_|refine jy ?_|refine jz ?_|refine jA ?_|refine jB ?_|refine jC ?_|refine jD ?_|refine jE ?_|refine jF ?_|refine jG ?_|refine jH ?_|refine jI ?_|refine jJ ?_|refine jK ?_|refine jL ?_|refine jM (by assumption) ?_|refine jN (by assumption) rfl ?_|refine jO (by assumption) ?_|refine jP (by assumption) rfl ?_|refine jQ ?_|refine jR ?_|refine jS ?_|refine jT ?_|refine jU (by assumption) rfl ?_))
    refine M.idxRow_i ra (by simp) (by omega) (by omega) (fun b o hA hc => ?_)
    have hat := ok.at1 (l / 2).toNat (by omega)
    rw [List.getElem?_map, hat] at hc
    have hv : (((l / 2).toNat : Nat) : Int) = l / 2 := by omega
    have hat1 : t.at1 (l / 2) = i := by unfold Tr.at1; rw [hi]
    rw [hv, hat1] at hc
    simp only [Option.map_some] at hc
    (repeat (first|refine ja ?_|refine jb ?_|refine jc ?_|refine jd ?_|refine je ?_|refine jf ?_|refine jg ?_|refine jh ?_|refine ji ?_|refine jj ?_|refine jk ?_|refine jl ?_|refine jm ?_|refine jn ?_|refine jo ?_|refine jp ?_|refine jq ?_|refine jr ?_|refine js ?_|refine jt ?_|refine ju ?_|refine jv ?_|refine jw ?_|refine jx ?_|refine jy ?_|refine jz ?_|refine jA ?_|refine jB ?_|refine jC ?_|refine jD ?_|refine jE ?_|refine jF ?_|refine jG ?_|refine jH ?_|refine jI ?_|refine jJ ?_|refine jK ?_|refine jL ?_|refine jM (by assumption) ?_|refine jN (by assumption) rfl ?_|refine jO (by assumption) ?_|refine jP (by assumption) rfl ?_|refine jQ ?_|refine jR ?_|refine jS ?_|refine jT ?_|refine jU (by assumption) rfl ?_))
    refine M.idxRow_i rl (by simp) (by omega) (by simp; omega) (fun b' o' hA' hc' => ?_)
    simp only [Int.toNat_natCast, List.map_map, List.getElem?_map, he1, Option.map_some, Function.comp] at hc'
    (repeat (first|refine ja ?_|refine jb ?_|refine jc ?_|refine jd ?_|refine je ?_|refine jf ?_|refine jg ?_|refine jh ?_|refine ji ?_|refine jj ?_|refine jk ?_|refine jl ?_|refine jm ?_|refine jn ?_|refine jo ?_|refine jp ?_|refine jq ?_|refine jr ?_|refine js ?_|refine jt ?_|refine ju ?_|refine jv ?_|refine jw ?_|refine jx ?_|refine jy ?_|refine jz ?_|refine jA ?_|refine jB ?_|refine jC ?_|refine jD ?_|refine jE ?_|refine jF ?_|refine jG ?_|refine jH ?_|refine jI ?_|refine jJ ?_|refine jK ?_|refine jL ?_|refine jM (by assumption) ?_|refine jN (by assumption) rfl ?_|refine jO (by assumption) ?_|refine jP (by assumption) rfl ?_|refine jQ ?_|refine jR ?_|refine jS ?_|refine jT ?_|refine jU (by assumption) rfl ?_))
    refine M.eql_i ?_
    refine M.cond_i (fun hc => ?_) (fun hc => ?_)
    · refine ⟨?_, hk.to_drew⟩
      simp [Tr.val, h0, Tr.ent_of hi he1, hc]
    · refine ⟨?_, hk.to_drew⟩
      simp [Tr.val, h0, Tr.ent_of hi he1, hc]

theorem level_nil (v : Int) (w : World) : Ret Try.prog 21 #[nilp, vi v] w (fun r w' => r = vi (-1) ∧ Keep w w' No) := by
  refine ok21 _ _ _ _ ?_
  unfold sh21
  refine M.call_i (is_nil _ w) ?_
  rintro v w2 ⟨rfl, hk2⟩
  (repeat (first|refine ja ?_|refine jb ?_|refine jc ?_|refine jd ?_|refine je ?_|refine jf ?_|refine jg ?_|refine jh ?_|refine ji ?_|refine jj ?_|refine jk ?_|refine jl ?_|refine jm ?_|refine jn ?_|refine jo ?_|refine jp ?_|refine jq ?_|refine jr ?_|refine js ?_|refine jt ?_|refine ju ?_|refine jv ?_|refine jw ?_|refine jx ?_|refine jy ?_|refine jz ?_|refine jA ?_|refine jB ?_|refine jC ?_|refine jD ?_|refine jE ?_|refine jF ?_|refine jG ?_|refine jH ?_|refine jI ?_|refine jJ ?_|refine jK ?_|refine jL ?_|refine jM (by assumption) ?_|refine jN (by assumption) rfl ?_|refine jO (by assumption) ?_|refine jP (by assumption) rfl ?_|refine jQ ?_|refine jR ?_|refine jS ?_|refine jT ?_|refine jU (by assumption) rfl ?_))
  exact ⟨rfl, hk2⟩
theorem level_ret {w : World} {p : Nat} {lab : Nat → Nat} {t : Tr} (h : TRep w p lab t) (v : Int) :
    Ret Try.prog 21 #[ptr p, vi v] w (fun r w' => r = vi (t.lev v) ∧ Keep w w' No) := by
  refine ok21 _ _ _ _ ?_
  unfold sh21
  refine M.call_i (is_ret h _) ?_
  rintro r w2 ⟨rfl, hk⟩
  have h := h.keep hk (fun _ _ _ h => h)
  obtain ⟨vl, vb, vg, va, ve, vr, at1, levels, reasons, hB, hl, hb, hg, ha, he, hr, hp, hlab, ok⟩ := h
  obtain ⟨Aa, ca, rfl, ra⟩ := he.row
  have hlat := ok.llev
  cases hi : t.idx v with
  | none =>
    simp only [Option.isSome_none]
    (repeat (first|refine ja ?_|refine jb ?_|refine jc ?_|refine jd ?_|refine je ?_|refine jf ?_|refine jg ?_|refine jh ?_|refine ji ?_|refine jj ?_|refine jk ?_|refine jl ?_|refine jm ?_|refine jn ?_|refine jo ?_|refine jp ?_|refine jq ?_|refine jr ?_|refine js ?_|refine jt ?_|refine ju ?_|refine jv ?_|refine jw ?_|refine jx ?_|refine jy ?_|refine jz ?_|refine jA ?_|refine jB ?_|refine jC ?_|refine jD ?_|refine jE ?_|refine jF ?_|refine jG ?_|refine jH ?_|refine jI ?_|refine jJ ?_|refine jK ?_|refine jL ?_|refine jM (by assumption) ?_|refine jN (by assumption) rfl ?_|refine jO (by assumption) ?_|refine jP (by assumption) rfl ?_|refine jQ ?_|refine jR ?_|refine jS ?_|refine jT ?_|refine jU (by assumption) rfl ?_))
    exact ⟨by simp [Tr.lev, Tr.ent, hi], hk⟩
  | some i =>
    simp only [Option.isSome_some]
    obtain ⟨e, he1, he2⟩ := Tr.idx_some hi
    obtain ⟨hl0, hl1, hl2, hl3, _⟩ := ok.lits i e he1
    (repeat (first|refine ja ?_|refine jb ?_|refine jc ?_|refine jd ?_|refine je ?_|refine jf ?_|refine jg ?_|refine jh ?_|refine ji ?_|refine jj ?_|refine jk ?_|refine jl ?_|refine jm ?_|refine jn ?_|refine jo ?_|refine jp ?_|refine jq ?_|refine jr ?_|refine js ?_|refine jt ?_|refine ju ?_|refine jv ?_|refine jw ?_|refine jx ?_|refine jy ?_|refine jz ?_|refine jA ?_|refine jB ?_|refine jC ?_|refine jD ?_|refine jE ?_|refine jF ?_|refine jG ?_|refine jH ?_|refine jI ?_|refine jJ ?_|refine jK ?_|refine jL ?_|refine jM (by assumption) ?_|refine jN (by assumption) rfl ?_|refine jO (by assumption) ?_|refine jP (by assumption) rfl ?_|refine jQ ?_|refine jR ?_|refine jS ?_|refine jT ?_|refine jU (by assumption) rfl ?_))
    refine M.idxRow_i ra (by simp) (by omega) (by omega) (fun b o hA hc => ?_)
    rw [List.getElem?_map, ← he2, hl2] at hc
    simp only [Option.map_some] at hc
    rw [he2] at hc
    (repeat (first|refine ja ?_|refine jb ?_|refine jc ?_|refine jd ?_|refine je ?_|refine jf ?_|refine jg ?_|refine jh ?_|refine ji ?_|refine jj ?_|refine jk ?_|refine jl ?_|refine jm ?_|refine jn ?_|refine jo ?_|refine jp ?_|refine jq ?_|refine jr ?_|refine js ?_|refine jt ?_|refine ju ?_|refine jv ?_|refine jw ?_|refine jx ?_|refine jy ?_|refine jz ?_|refine jA ?_|refine jB ?_|refine jC ?_|refine jD ?_|refine jE ?_|refine jF ?_|refine jG ?_|refine jH ?_|refine jI ?_|refine jJ ?_|refine jK ?_|refine jL ?_|refine jM (by assumption) ?_|refine jN (by assumption) rfl ?_|refine jO (by assumption) ?_|refine jP (by assumption) rfl ?_|refine jQ ?_|refine jR ?_|refine jS ?_|refine jT ?_|refine jU (by assumption) rfl ?_))
    exact ⟨by simp [Tr.lev, Tr.ent_of hi he1], hk⟩
theorem reason_nil (v : Int) (w : World) : Ret Try.prog 57 #[nilp, vi v] w (fun r w' => r = vi (-1) ∧ Keep w w' No) := by
  refine ok57 _ _ _ _ ?_
  unfold sh57
  refine M.call_i (is_nil _ w) ?_
  rintro v w2 ⟨rfl, hk2⟩
  (repeat (first|refine ja ?_|refine jb ?_|refine jc ?_|refine jd ?_|refine je ?_|refine jf ?_|refine jg ?_|refine jh ?_|refine ji ?_|refine jj ?_|refine jk ?_|refine jl ?_|refine jm ?_|refine jn ?_|refine jo ?_|refine jp ?_|refine jq ?_|refine jr ?_|refine js ?_|refine jt ?_|refine ju ?_|refine jv ?_|refine jw ?_|refine jx ?_|refine jy ?_|refine jz ?_|refine jA ?_|refine jB ?_|refine jC ?_|refine jD ?_|refine jE ?_|refine jF ?_|refine jG ?_|refine jH ?_|refine jI ?_|refine jJ ?_|refine jK ?_|refine jL ?_|refine jM (by assumption) ?_|refine jN (by assumption) rfl ?_|refine jO (by assumption) ?_|refine jP (by assumption) rfl ?_|refine jQ ?_|refine jR ?_|refine jS ?_|refine jT ?_|refine jU (by assumption) rfl ?_))
  exact ⟨rfl, hk2⟩
theorem reason_ret {w : World} {p : Nat} {lab : Nat → Nat} {t : Tr} (h : TRep w p lab t) (v : Int) :
    Ret Try.prog 57 #[ptr p, vi v] w (fun r w' => r = vi (t.rea v) ∧ Keep w w' No) := by
  refine ok57 _ _ _ _ ?_
  unfold sh57
  refine M.call_i (is_ret h _) ?_
  rintro r w2 ⟨rfl, hk⟩
  have h := h.keep hk (fun _ _ _ h => h)
  obtain ⟨vl, vb, vg, va, ve, vr, at1, levels, reasons, hB, hl, hb, hg, ha, he, hr, hp, hlab, ok⟩ := h
  obtain ⟨Aa, ca, rfl, ra⟩ := hr.row
  have hlat := ok.lrea
  cases hi : t.idx v with
  | none =>
    simp only [Option.isSome_none]
    (repeat (first|refine ja ?_|refine jb ?_|refine jc ?_|refine jd ?_|refine je ?_|refine jf ?_|refine jg ?_|refine jh ?_|refine ji ?_|refine jj ?_|refine jk ?_|refine jl ?_|refine jm ?_|refine jn ?_|refine jo ?_|refine jp ?_|refine jq ?_|refine jr ?_|refine js ?_|refine jt ?_|refine ju ?_|refine jv ?_|refine jw ?_|refine jx ?_|refine jy ?_|refine jz ?_|refine jA ?_|refine jB ?_|refine jC ?_|refine jD ?_|refine jE ?_|refine jF ?_|refine jG ?_|refine jH ?_|refine jI ?_|refine jJ ?_|refine jK ?_|refine jL ?_|refine jM (by assumption) ?_|refine jN (by assumption) rfl ?_|refine jO (by assumption) ?_|refine jP (by assumption) rfl ?_|refine jQ ?_|refine jR ?_|refine jS ?_|refine jT ?_|refine jU (by assumption) rfl ?_))
    exact ⟨by simp [Tr.rea, Tr.ent, hi], hk⟩
  | some i =>
    simp only [Option.isSome_some]
    obtain ⟨e, he1, he2⟩ := Tr.idx_some hi
    obtain ⟨hl0, hl1, hl2, hl3, _⟩ := ok.lits i e he1
    (repeat (first|refine ja ?_|refine jb ?_|refine jc ?_|refine jd ?_|refine je ?_|refine jf ?_|refine jg ?_|refine jh ?_|refine ji ?_|refine jj ?_|refine jk ?_|refine jl ?_|refine jm ?_|refine jn ?_|refine jo ?_|refine jp ?_|refine jq ?_|refine jr ?_|refine js ?_|refine jt ?_|refine ju ?_|refine jv ?_|refine jw ?_|refine jx ?_|refine jy ?_|refine jz ?_|refine jA ?_|refine jB ?_|refine jC ?_|refine jD ?_|refine jE ?_|refine jF ?_|refine jG ?_|refine jH ?_|refine jI ?_|refine jJ ?_|refine jK ?_|refine jL ?_|refine jM (by assumption) ?_|refine jN (by assumption) rfl ?_|refine jO (by assumption) ?_|refine jP (by assumption) rfl ?_|refine jQ ?_|refine jR ?_|refine jS ?_|refine jT ?_|refine jU (by assumption) rfl ?_))
    refine M.idxRow_i ra (by simp) (by omega) (by omega) (fun b o hA hc => ?_)
    rw [List.getElem?_map, ← he2, hl3] at hc
    simp only [Option.map_some] at hc
    rw [he2] at hc
    (repeat (first|refine ja ?_|refine jb ?_|refine jc ?_|refine jd ?_|refine je ?_|refine jf ?_|refine jg ?_|refine jh ?_|refine ji ?_|refine jj ?_|refine jk ?_|refine jl ?_|refine jm ?_|refine jn ?_|refine jo ?_|refine jp ?_|refine jq ?_|refine jr ?_|refine js ?_|refine jt ?_|refine ju ?_|refine jv ?_|refine jw ?_|refine jx ?_|refine jy ?_|refine jz ?_|refine jA ?_|refine jB ?_|refine jC ?_|refine jD ?_|refine jE ?_|refine jF ?_|refine jG ?_|refine jH ?_|refine jI ?_|refine jJ ?_|refine jK ?_|refine jL ?_|refine jM (by assumption) ?_|refine jN (by assumption) rfl ?_|refine jO (by assumption) ?_|refine jP (by assumption) rfl ?_|refine jQ ?_|refine jR ?_|refine jS ?_|refine jT ?_|refine jU (by assumption) rfl ?_))
    exact ⟨by simp [Tr.rea, Tr.ent_of hi he1], hk⟩

theorem lits_nil (w : World) : Ret Try.prog 32 #[nilp] w (fun r w' => GI w' (w.heap.size ≤ ·) r [] ∧ Keep w w' No) := by
  refine ok32 _ _ _ ?_
  unfold sh32
  (repeat (first|refine ja ?_|refine jb ?_|refine jc ?_|refine jd ?_|refine je ?_|refine jf ?_|refine jg ?_|refine jh ?_|refine ji ?_|refine jj ?_|refine jk ?_|refine jl ?_|refine jm ?_|refine jn ?_|refine jo ?_|refine jp ?_|refine jq ?_|refine jr ?_|refine js ?_|refine jt ?_|refine ju ?_|refine jv ?_|refine jw ?_|refine jx ?_|refine jy ?_|refine jz ?_|refine jA ?_|refine jB ?_|refine jC ?_|refine jD ?_|refine jE ?_|refine jF ?_|refine jG ?_|refine jH ?_|refine jI ?_|refine jJ ?_|refine jK ?_|refine jL ?_|refine jM (by assumption) ?_|refine jN (by assumption) rfl ?_|refine jO (by assumption) ?_|refine jP (by assumption) rfl ?_|refine jQ ?_|refine jR ?_|refine jS ?_|refine jT ?_|refine jU (by assumption) rfl ?_))
  exact ⟨GI.nil _ _, Keep.refl _ _⟩
theorem lits_ret {w : World} {p : Nat} {lab : Nat → Nat} {t : Tr} (h : TRep w p lab t) :
    Ret Try.prog 32 #[ptr p] w (fun r w' => GI w' (w.heap.size ≤ ·) r (t.L.map (·.lit)) ∧ Keep w w' No) := by
  obtain ⟨vl, vb, vg, va, ve, vr, at1, levels, reasons, hB, hl, hb, hg, ha, he, hr, hp, hlab, ok⟩ := h
  obtain ⟨Al, cl, rfl, rl⟩ := hl.row
  have hlen := ok.llen
  have hv := ok.vars
  refine ok32 _ _ _ ?_
  unfold sh32
  (repeat (first|refine ja ?_|refine jb ?_|refine jc ?_|refine jd ?_|refine je ?_|refine jf ?_|refine jg ?_|refine jh ?_|refine ji ?_|refine jj ?_|refine jk ?_|refine jl ?_|refine jm ?_|refine jn ?_|refine jo ?_|refine jp ?_|refine jq ?_|refine jr ?_|refine js ?_|refine jt ?_|refine ju ?_|refine jv ?_|refine jw ?_|refine jx ?_|refine jy ?_|refine jz ?_|refine jA ?_|refine jB ?_|refine jC ?_|refine jD ?_|refine jE ?_|refine jF ?_|refine jG ?_|refine jH ?_|refine jI ?_|refine jJ ?_|refine jK ?_|refine jL ?_|refine jM (by assumption) ?_|refine jN (by assumption) rfl ?_|refine jO (by assumption) ?_|refine jP (by assumption) rfl ?_|refine jQ ?_|refine jR ?_|refine jS ?_|refine jT ?_|refine jU (by assumption) rfl ?_))
  have hcl : (t.L.map (·.lit)).length ≤ cl := by
    obtain ⟨h0, ⟨h1, h2⟩ | ⟨b, c, rest, h1, h2, h3, h4⟩⟩ := hl
    · omega
    · simp only [Value.slice.injEq] at h1
      omega
  refine M.slice_i 0 (t.L.map (·.lit)).length (t.L.map (·.lit)).length (sl3_lhm (l := 0) (Nat.zero_le _) (Nat.le_refl _) hcl) ?_
  refine M.append_i (GC.nil w No 1) (rl.same) (by simp) (vi_one _) rfl (by omega) (by simp; omega) (fun v' w' hg hk => ?_)
  simp only [Nat.sub_zero, Nat.zero_add, List.nil_append] at hg
  exact ⟨hg.mono fun b _ hb => hb.elim False.elim id, hk⟩

/-! ### what turns a trail -/
def bump (c : Int) : Int := IntKind.i64.wrap (c + 1)
def Tr.push (t : Tr) (l r : Int) : Tr := { t with L := t.L ++ [⟨l, t.begins.length, r⟩], born := t.born ++ [bump t.count], count := bump t.count }
def Tr.assign (t : Tr) (l r : Int) : Tr := if t.may l then t.push l r else t
def TMod (w w' : World) (lab lab' : Nat → Nat) : Prop := Keep w w' (fun b => lab b ≠ 0) ∧ ∀ b, b < w.heap.size → lab' b = lab b

theorem Tr.Ok.idx_lt {t : Tr} {v : Int} {i : Nat} (h : t.idx v = some i) : i < t.L.length := by
  obtain ⟨e, he, _⟩ := Tr.idx_some h
  exact (List.getElem?_eq_some_iff.1 he).1

theorem nodup_le : ∀ (n : Nat) (l : List Nat), l.Nodup → (∀ x ∈ l, x < n) → l.length ≤ n
  | 0, l, _, h => by
    cases l with
    | nil => simp
    | cons x l => exact absurd (h x List.mem_cons_self) (by omega)
  | n + 1, l, hd, h => by
    have h1 := nodup_le n (l.filter (· ≠ n)) (hd.filter _) (fun x hx => by
      simp only [ne_eq, decide_not, List.mem_filter, Bool.not_eq_true', decide_eq_false_iff_not] at hx
      have := h x hx.1; omega)
    have h2 : l.length ≤ (l.filter (· ≠ n)).length + 1 := by
      have key : ∀ l : List Nat, l.Nodup → l.length ≤ (l.filter (· ≠ n)).length + 1 := by
        intro l
        induction l with
        | nil => intro _; simp
        | cons y l ih =>
          intro hd
          rw [List.nodup_cons] at hd
          by_cases hy : y = n
          · have hf : l.filter (· ≠ n) = l := by
              rw [List.filter_eq_self]
              intro z hz
              have : z ≠ n := fun e => hd.1 (by rw [hy, ← e]; exact hz)
              simp [this]
            simp [List.filter_cons, hy, hf]
            have : List.filter (fun x => !decide (x = n)) l = l := by simpa using hf
            rw [this]
            omega
          · have := ih hd.2
            simp [List.filter_cons, hy] at this ⊢
            omega
      exact key l hd
    omega

theorem Tr.idx_push {t : Tr} {l r v : Int} (hn : t.idx (l / 2) = none) : (t.push l r).idx v = if l / 2 = v then some t.L.length else t.idx v := by
  unfold Tr.idx Tr.push
  simp only [List.findIdx?_append]
  by_cases h : l / 2 = v
  · subst h
    unfold Tr.idx at hn
    simp [hn, List.findIdx?_cons]
  · simp [h, List.findIdx?_cons]

theorem Tr.Ok.push {t : Tr} {at1 levels reasons : List Int} (ok : t.Ok at1 levels reasons) {l r : Int} (h : t.may l = true) :
    (t.push l r).Ok (at1.set (l / 2).toNat t.L.length) (levels.set (l / 2).toNat t.begins.length) (reasons.set (l / 2).toNat r) := by
  unfold Tr.may at h
  simp only [Bool.and_eq_true, decide_eq_true_eq, Option.isNone_iff_eq_none] at h
  obtain ⟨h0, h1, h2⟩ := h
  have hidx := fun v => Tr.idx_push (r := r) (v := v) h2
  have hlits : ∀ (i : Nat) e, (t.push l r).L[i]? = some e → 0 ≤ e.lit ∧ e.lit / 2 < t.vars ∧ (levels.set (l / 2).toNat t.begins.length)[(e.lit / 2).toNat]? = some e.lev ∧
      (reasons.set (l / 2).toNat r)[(e.lit / 2).toNat]? = some e.rea ∧ (t.push l r).idx (e.lit / 2) = some i := by
    intro i e hi
    have h3 := ok.llev
    have h4 := ok.lrea
    simp only [Tr.push, List.getElem?_append] at hi
    split at hi
    · rename_i hlt
      obtain ⟨a1, a2, a3, a4, a5⟩ := ok.lits i e hi
      have hne : l / 2 ≠ e.lit / 2 := fun hh => by rw [hh, a5] at h2; cases h2
      have hne' : (l / 2).toNat ≠ (e.lit / 2).toNat := by omega
      refine ⟨a1, a2, by rw [List.getElem?_set_ne hne']; exact a3, by rw [List.getElem?_set_ne hne']; exact a4, ?_⟩
      rw [hidx, if_neg hne, a5]
    · rename_i hge
      have hi0 : i = t.L.length := by
        have := (List.getElem?_eq_some_iff.1 hi).1
        simp at this
        omega
      subst hi0
      simp at hi
      subst hi
      refine ⟨h0, h1, ?_, ?_, ?_⟩
      · rw [List.getElem?_set_self (by omega)]
      · rw [List.getElem?_set_self (by omega)]
      · rw [hidx, if_pos rfl]
  refine ⟨ok.vars, by simp [Tr.push, ok.lat], by simp [Tr.push, ok.llev], by simp [Tr.push, ok.lrea], by simp [Tr.push, ok.lborn], ?_, hlits, ?_, ok.mono, ?_⟩
  · intro v hv
    have hv' : v < t.vars := hv
    have hl := ok.lat
    unfold Tr.at1
    rw [hidx]
    by_cases h3 : l / 2 = v
    · rw [if_pos h3]
      have : (l / 2).toNat = v := by omega
      rw [this, List.getElem?_set_self (by omega)]
    · rw [if_neg h3, List.getElem?_set_ne (by omega), ok.at1 v hv']
      rfl
  · intro i x hx
    have := ok.beg i x hx
    simp [Tr.push]
    omega
  · -- as many as there are variables, at most
    have hd : ((t.push l r).L.map fun e => (e.lit / 2).toNat).Nodup := by
      rw [List.nodup_iff_pairwise_ne, List.pairwise_iff_getElem]
      intro i j hi hj hij
      simp only [List.length_map] at hi hj
      simp only [List.getElem_map]
      obtain ⟨a1, _, _, _, a5⟩ := hlits i _ (List.getElem?_eq_getElem hi)
      obtain ⟨b1, _, _, _, b5⟩ := hlits j _ (List.getElem?_eq_getElem hj)
      intro he
      have he' : (t.push l r).L[i].lit / 2 = (t.push l r).L[j].lit / 2 := by omega
      rw [he', b5] at a5
      have := Option.some.inj a5
      omega
    have := nodup_le t.vars _ hd (fun x hx => by
      obtain ⟨e, he, rfl⟩ := List.mem_map.1 hx
      obtain ⟨i, hi⟩ := List.mem_iff_getElem?.1 he
      have := hlits i e hi
      omega)
    have e : ((t.push l r).L.map fun e => (e.lit / 2).toNat).length = (t.push l r).L.length := List.length_map _
    rw [e] at this
    exact this

/-! (*breakwater/trail.Trail).Assign: function 16 -/
def sh16 (x0 x1 x2 : Value) (R : Kt) (w : World) : Prop :=
  M.call Try.prog 35 #[x0, x1] (fun t10 w =>
  M.not t10 (fun t11 w =>
  M.cond t11
  (R (Value.bool false) w)
  (M.call Try.prog 22 #[x1] (fun t13 w =>
  M.draw (fun w =>
  M.nilCheck x0 (fun t15 w =>
  M.fieldAddr 4 t15 (fun t16 w =>
  M.load1 t16 (fun t17 w =>
  M.nilCheck x0 (fun t20 w =>
  M.fieldAddr 5 t20 (fun t21 w =>
  M.load1 t21 (fun t22 w =>
  M.nilCheck x0 (fun t25 w =>
  M.fieldAddr 6 t25 (fun t26 w =>
  M.load1 t26 (fun t27 w =>
  M.nilCheck x0 (fun t30 w =>
  M.fieldAddr 0 t30 (fun t31 w =>
  M.load1 t31 (fun t32 w =>
  M.len t32 (fun t33 w =>
  M.nilCheck x0 (fun t35 w =>
  M.fieldAddr 3 t35 (fun t36 w =>
  M.load1 t36 (fun t37 w =>
  M.len t37 (fun t38 w =>
  M.indexSl 1 t17 t13 (fun t40 w =>
  M.store 1 t40 t33 (fun _ w =>
  M.indexSl 1 t22 t13 (fun t41 w =>
  M.store 1 t41 t38 (fun _ w =>
  M.indexSl 1 t27 t13 (fun t42 w =>
  M.store 1 t42 x2 (fun _ w =>
  M.nilCheck x0 (fun t45 w =>
  M.fieldAddr 0 t45 (fun t46 w =>
  M.load1 t46 (fun t47 w =>
  M.buildSlice 3 1 #[.int .i64 0] 1 [(0, x1)] (fun t49 w =>
  M.append 3 1 8 #[.int .i64 0] t47 t49 (fun t50 w =>
  M.nilCheck x0 (fun t51 w =>
  M.fieldAddr 0 t51 (fun t52 w =>
  M.store 1 t52 t50 (fun _ w =>
  M.nilCheck x0 (fun t54 w =>
  M.fieldAddr 2 t54 (fun t55 w =>
  M.load1 t55 (fun t56 w =>
  M.bin .add t56 (Value.int IntKind.i64 1) (fun t57 w =>
  M.nilCheck x0 (fun t58 w =>
  M.fieldAddr 2 t58 (fun t59 w =>
  M.store 1 t59 t57 (fun _ w =>
  M.draw (fun w =>
  M.nilCheck x0 (fun t62 w =>
  M.fieldAddr 1 t62 (fun t63 w =>
  M.load1 t63 (fun t64 w =>
  M.nilCheck x0 (fun t66 w =>
  M.fieldAddr 2 t66 (fun t67 w =>
  M.load1 t67 (fun t68 w =>
  M.buildSlice 3 1 #[.int .i64 0] 1 [(0, t68)] (fun t69 w =>
  ((M.load1 t63 (fun v' _ => v' = t64) w) ∧ M.append 3 1 8 #[.int .i64 0] t64 t69 (fun t70 w =>
  M.nilCheck x0 (fun t71 w =>
  M.fieldAddr 1 t71 (fun t72 w =>
  M.store 1 t72 t70 (fun _ w =>
  R (Value.bool true) w) w) w) w) w)) w) w) w) w) w) w) w) w) w) w) w) w) w) w) w) w) w) w) w) w) w) w) w) w) w) w) w) w) w) w) w) w) w) w) w) w) w) w) w) w) w) w) w) w) w) w) w) w)) w) w
theorem ok16 (x0 x1 x2 : Value) (R : Kt) (w : World) (h : sh16 x0 x1 x2 R w) : Ret Try.prog 16 #[x0, x1, x2] w R :=
  ret_mk <| calls_of_comp mixed (c := Try.f16.body.getD .skip) (args := [x0, x1, x2]) (rs := [(ResultVar.tmp 6)]) (Ann.seq Ann.text (Ann.seq (Ann.seq Ann.text (Ann.cond (Ann.seq Ann.text Ann.leaf) Ann.leaf)) (Ann.seq Ann.text (Ann.seq (Ann.draw (Sch.take 0 (Sch.take 1 (Sch.take 2 (Sch.take 3 (Sch.take 4 (Sch.take 5 (Sch.take 6 (Sch.take 7 (Sch.take 8 (Sch.take 9 (Sch.take 10 (Sch.take 11 (Sch.take 12 (Sch.take 13 (Sch.take 14 (Sch.take 15 (Sch.take 16 (Sch.take 17 (Sch.take 18 (Sch.take 19 (Sch.take 20 (Sch.take 21 (Sch.take 22 (Sch.take 23 (Sch.take 24 (Sch.take 25 (Sch.take 26 (Sch.one 27 (Sch.take 28 (Sch.one 29 (Sch.take 30 (Sch.one 31 Sch.done))))))))))))))))))))))))))))))))) (Ann.seq Ann.text (Ann.seq Ann.text (Ann.seq (Ann.draw (Sch.take 0 (Sch.take 1 (Sch.take 2 (Sch.take 3 (Sch.take 4 (Sch.take 5 (Sch.take 6 (Sch.take 7 (Sch.take 8 (Sch.one 9 (Sch.one 10 (Sch.take 11 (Sch.take 12 (Sch.one 13 Sch.done))))))))))))))) (Ann.seq Ann.text Ann.leaf))))))))
    Try.func16 (by kernel_rfl) (by kernel_rfl)
    (Eq.mp (by kernel_rfl) h)
/-! (*breakwater/trail.Trail).Decide: function 13 -/
def sh13 (x0 x1 : Value) (R : Kt) (w : World) : Prop :=
  M.call Try.prog 35 #[x0, x1] (fun t7 w =>
  M.not t7 (fun t8 w =>
  M.cond t8
  (R (Value.bool false) w)
  (M.draw (fun w =>
  M.nilCheck x0 (fun t11 w =>
  M.fieldAddr 3 t11 (fun t12 w =>
  M.load1 t12 (fun t13 w =>
  M.nilCheck x0 (fun t15 w =>
  M.fieldAddr 0 t15 (fun t16 w =>
  M.load1 t16 (fun t17 w =>
  M.len t17 (fun t18 w =>
  M.buildSlice 3 1 #[.int .i64 0] 1 [(0, t18)] (fun t19 w =>
  ((M.load1 t16 (fun v' _ => v' = t17) w) ∧ ((M.load1 t12 (fun v' _ => v' = t13) w) ∧ M.append 3 1 8 #[.int .i64 0] t13 t19 (fun t20 w =>
  ((M.load1 t16 (fun v' _ => v' = t17) w) ∧ M.nilCheck x0 (fun t21 w =>
  M.fieldAddr 3 t21 (fun t22 w =>
  M.store 1 t22 t20 (fun _ w =>
  M.call Try.prog 16 #[x0, x1, (Value.int IntKind.i64 (-1))] (fun t25 w =>
  R t25 w) w) w) w) w)) w))) w) w) w) w) w) w) w) w) w)) w) w
theorem ok13 (x0 x1 : Value) (R : Kt) (w : World) (h : sh13 x0 x1 R w) : Ret Try.prog 13 #[x0, x1] w R :=
  ret_mk <| calls_of_comp mixed (c := Try.f13.body.getD .skip) (args := [x0, x1]) (rs := [(ResultVar.tmp 4)]) (Ann.seq Ann.text (Ann.seq (Ann.seq Ann.text (Ann.cond (Ann.seq Ann.text Ann.leaf) Ann.leaf)) (Ann.seq (Ann.draw (Sch.take 0 (Sch.take 1 (Sch.take 2 (Sch.take 3 (Sch.take 4 (Sch.take 5 (Sch.take 6 (Sch.take 7 (Sch.take 8 (Sch.take 9 (Sch.one 10 (Sch.one 11 (Sch.take 12 (Sch.take 13 (Sch.one 14 Sch.done)))))))))))))))) (Ann.seq Ann.text Ann.leaf))))
    Try.func13 (by kernel_rfl) (by kernel_rfl)
    (Eq.mp (by kernel_rfl) h)

theorem assign_nil (l r : Int) (w : World) : Ret Try.prog 16 #[nilp, vi l, vi r] w (fun v w' => v = .bool false ∧ Keep w w' No) := by
  refine ok16 _ _ _ _ _ ?_
  unfold sh16
  refine M.call_i (may_nil _ w) ?_
  rintro v w2 ⟨rfl, hk2⟩
  (repeat (first|refine ja ?_|refine jb ?_|refine jc ?_|refine jd ?_|refine je ?_|refine jf ?_|refine jg ?_|refine jh ?_|refine ji ?_|refine jj ?_|refine jk ?_|refine jl ?_|refine jm ?_|refine jn ?_|refine jo ?_|refine jp ?_|refine jq ?_|refine jr ?_|refine js ?_|refine jt ?_|refine ju ?_|refine jv ?_|refine jw ?_|refine jx ?_|refine jy ?_|refine jz ?_|refine jA ?_|refine jB ?_|refine jC ?_|refine jD ?_|refine jE ?_|refine jF ?_|refine jG ?_|refine jH ?_|refine jI ?_|refine jJ ?_|refine jK ?_|refine jL ?_|refine jM (by assumption) ?_|refine jN (by assumption) rfl ?_|refine jO (by assumption) ?_|refine jP (by assumption) rfl ?_|refine jQ ?_|refine jR ?_|refine jS ?_|refine jT ?_|refine jU (by assumption) rfl ?_))
  exact ⟨rfl, hk2⟩
set_option maxHeartbeats 1000000 in
theorem assign_ret {w : World} {p : Nat} {lab : Nat → Nat} {t : Tr} (h : TRep w p lab t) (l r : Int) :
    Ret Try.prog 16 #[ptr p, vi l, vi r] w (fun v w' => v = .bool (t.may l) ∧ ∃ lab', TRep w' p lab' (t.assign l r) ∧ TMod w w' lab lab') := by
  refine ok16 _ _ _ _ _ ?_
  unfold sh16
  refine M.call_i (may_ret h l) ?_
  rintro v w1 ⟨rfl, hk1⟩
  have h := h.keep hk1 (fun _ _ _ h => h)
  cases hm : t.may l with
  | false =>
    (repeat (first|refine ja ?_|refine jb ?_|refine jc ?_|refine jd ?_|refine je ?_|refine jf ?_|refine jg ?_|refine jh ?_|refine ji ?_|refine jj ?_|refine jk ?_|refine jl ?_|refine jm ?_|refine jn ?_|refine jo ?_|refine jp ?_|refine jq ?_|refine jr ?_|refine js ?_|refine jt ?_|refine ju ?_|refine jv ?_|refine jw ?_|refine jx ?_|refine jy ?_|refine jz ?_|refine jA ?_|refine jB ?_|refine jC ?_|refine jD ?_|refine jE ?_|refine jF ?_|refine jG ?_|refine jH ?_|refine jI ?_|refine jJ ?_|refine jK ?_|refine jL ?_|refine jM (by assumption) ?_|refine jN (by assumption) rfl ?_|refine jO (by assumption) ?_|refine jP (by assumption) rfl ?_|refine jQ ?_|refine jR ?_|refine jS ?_|refine jT ?_|refine jU (by assumption) rfl ?_))
    exact ⟨rfl, lab, by simpa [Tr.assign, hm] using h, hk1.mono (fun _ _ h => h.elim), fun _ _ => rfl⟩
  | true =>
    (repeat (first|refine ja ?_|refine jb ?_|refine jc ?_|refine jd ?_|refine je ?_|refine jf ?_|refine jg ?_|refine jh ?_|refine ji ?_|refine jj ?_|refine jk ?_|refine jl ?_|refine jm ?_|refine jn ?_|refine jo ?_|refine jp ?_|refine jq ?_|refine jr ?_|refine js ?_|refine jt ?_|refine ju ?_|refine jv ?_|refine jw ?_|refine jx ?_|refine jy ?_|refine jz ?_|refine jA ?_|refine jB ?_|refine jC ?_|refine jD ?_|refine jE ?_|refine jF ?_|refine jG ?_|refine jH ?_|refine jI ?_|refine jJ ?_|refine jK ?_|refine jL ?_|refine jM (by assumption) ?_|refine jN (by assumption) rfl ?_|refine jO (by assumption) ?_|refine jP (by assumption) rfl ?_|refine jQ ?_|refine jR ?_|refine jS ?_|refine jT ?_|refine jU (by assumption) rfl ?_))
    refine M.call_i (var_ret l w1) ?_
    rintro v w2 ⟨rfl, hk2⟩
    have h := h.keep hk2 (fun _ _ _ h => h)
    have hk12 := hk1.trans hk2 (fun _ _ h => h)
    have hm' := hm
    unfold Tr.may at hm'
    simp only [Bool.and_eq_true, decide_eq_true_eq, Option.isNone_iff_eq_none] at hm'
    obtain ⟨m0, m1, m2⟩ := hm'
    have hv : varOf l = l / 2 := by unfold varOf; rw [if_neg (by omega)]
    rw [hv]
    obtain ⟨vl, vb, vg, va, ve, vr, at1, levels, reasons, hB, hl, hb, hg, ha, he, hr, hp, hlab, ok⟩ := h
    obtain ⟨Al, cl, rfl, rl⟩ := hl.row
    obtain ⟨Ag, cg, rfl, rg⟩ := hg.row
    have hlen := ok.llen
    have hvars := ok.vars
    have h1 := ok.lat
    have h2 := ok.llev
    have h3 := ok.lrea
    have h4 := ok.lborn
    (repeat (first|refine ja ?_|refine jb ?_|refine jc ?_|refine jd ?_|refine je ?_|refine jf ?_|refine jg ?_|refine jh ?_|refine ji ?_|refine jj ?_|refine jk ?_|refine jl ?_|refine jm ?_|refine jn ?_|refine jo ?_|refine jp ?_|refine jq ?_|refine jr ?_|refine js ?_|refine jt ?_|refine ju ?_|refine jv ?_|refine jw ?_|refine jx ?_|refine jy ?_|refine jz ?_|refine jA ?_|refine jB ?_|refine jC ?_|refine jD ?_|refine jE ?_|refine jF ?_|refine jG ?_|refine jH ?_|refine jI ?_|refine jJ ?_|refine jK ?_|refine jL ?_|refine jM (by assumption) ?_|refine jN (by assumption) rfl ?_|refine jO (by assumption) ?_|refine jP (by assumption) rfl ?_|refine jQ ?_|refine jR ?_|refine jS ?_|refine jT ?_|refine jU (by assumption) rfl ?_))
    refine M.idxStore_i ha.drew (by omega) (by omega) (fun w3 ha hk3 hs3 => ?_)
    have hk3 := hk3.of_drew
    have hB := hB.keep hk3 (by first | (intro b _ h1 h2; first | exact h2.elim | omega | (have h2 := h2; subst h2; omega) | (have := hlab b (by omega); omega)) | (intro h2; first | exact h2.elim | omega | (subst h2; omega) | (have := hlab p (by omega); omega))); have hl := hl.keep hk3 (by first | (intro b _ h1 h2; first | exact h2.elim | omega | (have h2 := h2; subst h2; omega) | (have := hlab b (by omega); omega)) | (intro h2; first | exact h2.elim | omega | (subst h2; omega) | (have := hlab p (by omega); omega))); have hb := hb.keep hk3 (by first | (intro b _ h1 h2; first | exact h2.elim | omega | (have h2 := h2; subst h2; omega) | (have := hlab b (by omega); omega)) | (intro h2; first | exact h2.elim | omega | (subst h2; omega) | (have := hlab p (by omega); omega))); have hg := hg.keep hk3 (by first | (intro b _ h1 h2; first | exact h2.elim | omega | (have h2 := h2; subst h2; omega) | (have := hlab b (by omega); omega)) | (intro h2; first | exact h2.elim | omega | (subst h2; omega) | (have := hlab p (by omega); omega))); have he := he.keep hk3 (by first | (intro b _ h1 h2; first | exact h2.elim | omega | (have h2 := h2; subst h2; omega) | (have := hlab b (by omega); omega)) | (intro h2; first | exact h2.elim | omega | (subst h2; omega) | (have := hlab p (by omega); omega))); have hr := hr.keep hk3 (by first | (intro b _ h1 h2; first | exact h2.elim | omega | (have h2 := h2; subst h2; omega) | (have := hlab b (by omega); omega)) | (intro h2; first | exact h2.elim | omega | (subst h2; omega) | (have := hlab p (by omega); omega)))
    refine M.idxStore_i he (by omega) (by omega) (fun w4 he hk4 hs4 => ?_)
    have hB := hB.keep hk4 (by first | (intro b _ h1 h2; first | exact h2.elim | omega | (have h2 := h2; subst h2; omega) | (have := hlab b (by omega); omega)) | (intro h2; first | exact h2.elim | omega | (subst h2; omega) | (have := hlab p (by omega); omega))); have hl := hl.keep hk4 (by first | (intro b _ h1 h2; first | exact h2.elim | omega | (have h2 := h2; subst h2; omega) | (have := hlab b (by omega); omega)) | (intro h2; first | exact h2.elim | omega | (subst h2; omega) | (have := hlab p (by omega); omega))); have hb := hb.keep hk4 (by first | (intro b _ h1 h2; first | exact h2.elim | omega | (have h2 := h2; subst h2; omega) | (have := hlab b (by omega); omega)) | (intro h2; first | exact h2.elim | omega | (subst h2; omega) | (have := hlab p (by omega); omega))); have hg := hg.keep hk4 (by first | (intro b _ h1 h2; first | exact h2.elim | omega | (have h2 := h2; subst h2; omega) | (have := hlab b (by omega); omega)) | (intro h2; first | exact h2.elim | omega | (subst h2; omega) | (have := hlab p (by omega); omega))); have ha := ha.keep hk4 (by first | (intro b _ h1 h2; first | exact h2.elim | omega | (have h2 := h2; subst h2; omega) | (have := hlab b (by omega); omega)) | (intro h2; first | exact h2.elim | omega | (subst h2; omega) | (have := hlab p (by omega); omega))); have hr := hr.keep hk4 (by first | (intro b _ h1 h2; first | exact h2.elim | omega | (have h2 := h2; subst h2; omega) | (have := hlab b (by omega); omega)) | (intro h2; first | exact h2.elim | omega | (subst h2; omega) | (have := hlab p (by omega); omega)))
    refine M.idxStore_i hr (by omega) (by omega) (fun w5 hr hk5 hs5 => ?_)
    have hB := hB.keep hk5 (by first | (intro b _ h1 h2; first | exact h2.elim | omega | (have h2 := h2; subst h2; omega) | (have := hlab b (by omega); omega)) | (intro h2; first | exact h2.elim | omega | (subst h2; omega) | (have := hlab p (by omega); omega))); have hl := hl.keep hk5 (by first | (intro b _ h1 h2; first | exact h2.elim | omega | (have h2 := h2; subst h2; omega) | (have := hlab b (by omega); omega)) | (intro h2; first | exact h2.elim | omega | (subst h2; omega) | (have := hlab p (by omega); omega))); have hb := hb.keep hk5 (by first | (intro b _ h1 h2; first | exact h2.elim | omega | (have h2 := h2; subst h2; omega) | (have := hlab b (by omega); omega)) | (intro h2; first | exact h2.elim | omega | (subst h2; omega) | (have := hlab p (by omega); omega))); have hg := hg.keep hk5 (by first | (intro b _ h1 h2; first | exact h2.elim | omega | (have h2 := h2; subst h2; omega) | (have := hlab b (by omega); omega)) | (intro h2; first | exact h2.elim | omega | (subst h2; omega) | (have := hlab p (by omega); omega))); have ha := ha.keep hk5 (by first | (intro b _ h1 h2; first | exact h2.elim | omega | (have h2 := h2; subst h2; omega) | (have := hlab b (by omega); omega)) | (intro h2; first | exact h2.elim | omega | (subst h2; omega) | (have := hlab p (by omega); omega))); have he := he.keep hk5 (by first | (intro b _ h1 h2; first | exact h2.elim | omega | (have h2 := h2; subst h2; omega) | (have := hlab b (by omega); omega)) | (intro h2; first | exact h2.elim | omega | (subst h2; omega) | (have := hlab p (by omega); omega)))
    (repeat (first|refine ja ?_|refine jb ?_|refine jc ?_|refine jd ?_|refine je ?_|refine jf ?_|refine jg ?_|refine jh ?_|refine ji ?_|refine jj ?_|refine jk ?_|refine jl ?_|refine jm ?_|refine jn ?_|refine jo ?_|refine jp ?_|refine jq ?_|refine jr ?_|refine js ?_|refine jt ?_|refine ju ?_|refine jv ?_|refine jw ?_|refine jx ?_|refine jy ?_|refine jz ?_|refine jA ?_|refine jB ?_|refine jC ?_|refine jD ?_|refine jE ?_|refine jF ?_|refine jG ?_|refine jH ?_|refine jI ?_|refine jJ ?_|refine jK ?_|refine jL ?_|refine jM (by assumption) ?_|refine jN (by assumption) rfl ?_|refine jO (by assumption) ?_|refine jP (by assumption) rfl ?_|refine jQ ?_|refine jR ?_|refine jS ?_|refine jT ?_|refine jU (by assumption) rfl ?_))
    refine M.buildSlice_i [vi l] (by kernel_rfl) (fun w6 hn hk6 hs6 => ?_)
    have hB := hB.keep hk6 (by first | (intro b _ h1 h2; first | exact h2.elim | omega | (have h2 := h2; subst h2; omega) | (have := hlab b (by omega); omega)) | (intro h2; first | exact h2.elim | omega | (subst h2; omega) | (have := hlab p (by omega); omega))); have hl := hl.keep hk6 (by first | (intro b _ h1 h2; first | exact h2.elim | omega | (have h2 := h2; subst h2; omega) | (have := hlab b (by omega); omega)) | (intro h2; first | exact h2.elim | omega | (subst h2; omega) | (have := hlab p (by omega); omega))); have hb := hb.keep hk6 (by first | (intro b _ h1 h2; first | exact h2.elim | omega | (have h2 := h2; subst h2; omega) | (have := hlab b (by omega); omega)) | (intro h2; first | exact h2.elim | omega | (subst h2; omega) | (have := hlab p (by omega); omega))); have hg := hg.keep hk6 (by first | (intro b _ h1 h2; first | exact h2.elim | omega | (have h2 := h2; subst h2; omega) | (have := hlab b (by omega); omega)) | (intro h2; first | exact h2.elim | omega | (subst h2; omega) | (have := hlab p (by omega); omega))); have ha := ha.keep hk6 (by first | (intro b _ h1 h2; first | exact h2.elim | omega | (have h2 := h2; subst h2; omega) | (have := hlab b (by omega); omega)) | (intro h2; first | exact h2.elim | omega | (subst h2; omega) | (have := hlab p (by omega); omega))); have he := he.keep hk6 (by first | (intro b _ h1 h2; first | exact h2.elim | omega | (have h2 := h2; subst h2; omega) | (have := hlab b (by omega); omega)) | (intro h2; first | exact h2.elim | omega | (subst h2; omega) | (have := hlab p (by omega); omega))); have hr := hr.keep hk6 (by first | (intro b _ h1 h2; first | exact h2.elim | omega | (have h2 := h2; subst h2; omega) | (have := hlab b (by omega); omega)) | (intro h2; first | exact h2.elim | omega | (subst h2; omega) | (have := hlab p (by omega); omega)))
    refine M.append1_i hl (Row.of_blk' (D := fun _ => True) hn trivial) rfl (by simp; omega) (fun vl' w7 hl hk7 => ?_)
    have hB := hB.keep hk7 (by first | (intro b _ h1 h2; first | exact h2.elim | omega | (have h2 := h2; subst h2; omega) | (have := hlab b (by omega); omega)) | (intro h2; first | exact h2.elim | omega | (subst h2; omega) | (have := hlab p (by omega); omega))); have hb := hb.keep hk7 (by first | (intro b _ h1 h2; first | exact h2.elim | omega | (have h2 := h2; subst h2; omega) | (have := hlab b (by omega); omega)) | (intro h2; first | exact h2.elim | omega | (subst h2; omega) | (have := hlab p (by omega); omega))); have hg := hg.keep hk7 (by first | (intro b _ h1 h2; first | exact h2.elim | omega | (have h2 := h2; subst h2; omega) | (have := hlab b (by omega); omega)) | (intro h2; first | exact h2.elim | omega | (subst h2; omega) | (have := hlab p (by omega); omega))); have ha := ha.keep hk7 (by first | (intro b _ h1 h2; first | exact h2.elim | omega | (have h2 := h2; subst h2; omega) | (have := hlab b (by omega); omega)) | (intro h2; first | exact h2.elim | omega | (subst h2; omega) | (have := hlab p (by omega); omega))); have he := he.keep hk7 (by first | (intro b _ h1 h2; first | exact h2.elim | omega | (have h2 := h2; subst h2; omega) | (have := hlab b (by omega); omega)) | (intro h2; first | exact h2.elim | omega | (subst h2; omega) | (have := hlab p (by omega); omega))); have hr := hr.keep hk7 (by first | (intro b _ h1 h2; first | exact h2.elim | omega | (have h2 := h2; subst h2; omega) | (have := hlab b (by omega); omega)) | (intro h2; first | exact h2.elim | omega | (subst h2; omega) | (have := hlab p (by omega); omega)))
    have q1 := hk12.size; have q2 := hk3.size; have q3 := hk4.size; have q4 := hk5.size; have q5 := hk6.size; have q6 := hk7.size
    have hk27 : Keep w2 w7 (fun b => lab b ≠ 0) :=
      (((hk3.mono (by intro b _ h1; first | exact h1.elim | omega | (have h1 := h1; subst h1; omega))).trans (hk4.mono (by intro b _ h1; first | exact h1.elim | omega | (have h1 := h1; subst h1; omega))) (fun _ _ h => h)).trans (hk5.mono (by intro b _ h1; first | exact h1.elim | omega | (have h1 := h1; subst h1; omega))) (fun _ _ h => h)).trans ((hk6.mono (by intro b _ h1; first | exact h1.elim | omega | (have h1 := h1; subst h1; omega))).trans (hk7.mono (by intro b _ h1; first | exact h1.elim | omega | (have h1 := h1; subst h1; omega))) (fun _ _ h => h)) (fun _ _ h => h)
    have hl := hl.relabNew hlab (by omega) (Nat.le_refl _) (by omega)
    have hb := hb.relab hlab w7.heap.size 2 (by omega)
    have hg := hg.relab hlab w7.heap.size 2 (by omega)
    have ha := ha.relab hlab w7.heap.size 2 (by omega)
    have he := he.relab hlab w7.heap.size 2 (by omega)
    have hr := hr.relab hlab w7.heap.size 2 (by omega)
    have hlab1 := relab_ne (j := 2) hlab (by omega : w2.heap.size ≤ w7.heap.size)
    have hp1 : relab lab w2.heap.size w7.heap.size 2 p = 1 := by rw [relab_lt (hlab p (by omega))]; exact hp
    have hlow : ∀ b, b < w2.heap.size → relab lab w2.heap.size w7.heap.size 2 b = lab b := fun b hb => relab_lt hb
    generalize hlabe : relab lab w2.heap.size w7.heap.size 2 = lab1 at *
    have hne : ∀ b, b < w2.heap.size → lab1 b ≠ 0 → lab b ≠ 0 := fun b hb h => by rw [← hlow b hb]; exact h
    clear hlab hlabe hp
    have hp := hp1
    have hlab := hlab1
    (repeat (first|refine ja ?_|refine jb ?_|refine jc ?_|refine jd ?_|refine je ?_|refine jf ?_|refine jg ?_|refine jh ?_|refine ji ?_|refine jj ?_|refine jk ?_|refine jl ?_|refine jm ?_|refine jn ?_|refine jo ?_|refine jp ?_|refine jq ?_|refine jr ?_|refine js ?_|refine jt ?_|refine ju ?_|refine jv ?_|refine jw ?_|refine jx ?_|refine jy ?_|refine jz ?_|refine jA ?_|refine jB ?_|refine jC ?_|refine jD ?_|refine jE ?_|refine jF ?_|refine jG ?_|refine jH ?_|refine jI ?_|refine jJ ?_|refine jK ?_|refine jL ?_|refine jM (by assumption) ?_|refine jN (by assumption) rfl ?_|refine jO (by assumption) ?_|refine jP (by assumption) rfl ?_|refine jQ ?_|refine jR ?_|refine jS ?_|refine jT ?_|refine jU (by assumption) rfl ?_))
    refine M.store_i hB (by simp) hl.one (fun w8 hB hk8 hs8 => ?_)
    have hl := hl.keep hk8 (by first | (intro b _ h1 h2; first | exact h2.elim | omega | (have h2 := h2; subst h2; omega) | (have := hlab b (by omega); omega)) | (intro h2; first | exact h2.elim | omega | (subst h2; omega) | (have := hlab p (by omega); omega))); have hb := hb.keep hk8 (by first | (intro b _ h1 h2; first | exact h2.elim | omega | (have h2 := h2; subst h2; omega) | (have := hlab b (by omega); omega)) | (intro h2; first | exact h2.elim | omega | (subst h2; omega) | (have := hlab p (by omega); omega))); have hg := hg.keep hk8 (by first | (intro b _ h1 h2; first | exact h2.elim | omega | (have h2 := h2; subst h2; omega) | (have := hlab b (by omega); omega)) | (intro h2; first | exact h2.elim | omega | (subst h2; omega) | (have := hlab p (by omega); omega))); have ha := ha.keep hk8 (by first | (intro b _ h1 h2; first | exact h2.elim | omega | (have h2 := h2; subst h2; omega) | (have := hlab b (by omega); omega)) | (intro h2; first | exact h2.elim | omega | (subst h2; omega) | (have := hlab p (by omega); omega))); have he := he.keep hk8 (by first | (intro b _ h1 h2; first | exact h2.elim | omega | (have h2 := h2; subst h2; omega) | (have := hlab b (by omega); omega)) | (intro h2; first | exact h2.elim | omega | (subst h2; omega) | (have := hlab p (by omega); omega))); have hr := hr.keep hk8 (by first | (intro b _ h1 h2; first | exact h2.elim | omega | (have h2 := h2; subst h2; omega) | (have := hlab b (by omega); omega)) | (intro h2; first | exact h2.elim | omega | (subst h2; omega) | (have := hlab p (by omega); omega)))
    (repeat (first|refine ja ?_|refine jb ?_|refine jc ?_|refine jd ?_|refine je ?_|refine jf ?_|refine jg ?_|refine jh ?_|refine ji ?_|refine jj ?_|refine jk ?_|refine jl ?_|refine jm ?_|refine jn ?_|refine jo ?_|refine jp ?_|refine jq ?_|refine jr ?_|refine js ?_|refine jt ?_|refine ju ?_|refine jv ?_|refine jw ?_|refine jx ?_|refine jy ?_|refine jz ?_|refine jA ?_|refine jB ?_|refine jC ?_|refine jD ?_|refine jE ?_|refine jF ?_|refine jG ?_|refine jH ?_|refine jI ?_|refine jJ ?_|refine jK ?_|refine jL ?_|refine jM (by assumption) ?_|refine jN (by assumption) rfl ?_|refine jO (by assumption) ?_|refine jP (by assumption) rfl ?_|refine jQ ?_|refine jR ?_|refine jS ?_|refine jT ?_|refine jU (by assumption) rfl ?_))
    refine M.bin_i rfl ?_
    (repeat (first|refine ja ?_|refine jb ?_|refine jc ?_|refine jd ?_|refine je ?_|refine jf ?_|refine jg ?_|refine jh ?_|refine ji ?_|refine jj ?_|refine jk ?_|refine jl ?_|refine jm ?_|refine jn ?_|refine jo ?_|refine jp ?_|refine jq ?_|refine jr ?_|refine js ?_|refine jt ?_|refine ju ?_|refine jv ?_|refine jw ?_|refine jx ?_|refine jy ?_|refine jz ?_|refine jA ?_|refine jB ?_|refine jC ?_|refine jD ?_|refine jE ?_|refine jF ?_|refine jG ?_|refine jH ?_|refine jI ?_|refine jJ ?_|refine jK ?_|refine jL ?_|refine jM (by assumption) ?_|refine jN (by assumption) rfl ?_|refine jO (by assumption) ?_|refine jP (by assumption) rfl ?_|refine jQ ?_|refine jR ?_|refine jS ?_|refine jT ?_|refine jU (by assumption) rfl ?_))
    refine M.store_i hB (by simp) rfl (fun w9 hB hk9 hs9 => ?_)
    have hl := hl.keep hk9 (by first | (intro b _ h1 h2; first | exact h2.elim | omega | (have h2 := h2; subst h2; omega) | (have := hlab b (by omega); omega)) | (intro h2; first | exact h2.elim | omega | (subst h2; omega) | (have := hlab p (by omega); omega))); have hb := hb.keep hk9 (by first | (intro b _ h1 h2; first | exact h2.elim | omega | (have h2 := h2; subst h2; omega) | (have := hlab b (by omega); omega)) | (intro h2; first | exact h2.elim | omega | (subst h2; omega) | (have := hlab p (by omega); omega))); have hg := hg.keep hk9 (by first | (intro b _ h1 h2; first | exact h2.elim | omega | (have h2 := h2; subst h2; omega) | (have := hlab b (by omega); omega)) | (intro h2; first | exact h2.elim | omega | (subst h2; omega) | (have := hlab p (by omega); omega))); have ha := ha.keep hk9 (by first | (intro b _ h1 h2; first | exact h2.elim | omega | (have h2 := h2; subst h2; omega) | (have := hlab b (by omega); omega)) | (intro h2; first | exact h2.elim | omega | (subst h2; omega) | (have := hlab p (by omega); omega))); have he := he.keep hk9 (by first | (intro b _ h1 h2; first | exact h2.elim | omega | (have h2 := h2; subst h2; omega) | (have := hlab b (by omega); omega)) | (intro h2; first | exact h2.elim | omega | (subst h2; omega) | (have := hlab p (by omega); omega))); have hr := hr.keep hk9 (by first | (intro b _ h1 h2; first | exact h2.elim | omega | (have h2 := h2; subst h2; omega) | (have := hlab b (by omega); omega)) | (intro h2; first | exact h2.elim | omega | (subst h2; omega) | (have := hlab p (by omega); omega)))
    (repeat (first|refine ja ?_|refine jb ?_|refine jc ?_|refine jd ?_|refine je ?_|refine jf ?_|refine jg ?_|refine jh ?_|refine ji ?_|refine jj ?_|refine jk ?_|refine jl ?_|refine jm ?_|refine jn ?_|refine jo ?_|refine jp ?_|refine jq ?_|refine jr ?_|refine js ?_|refine jt ?_|refine ju ?_|refine jv ?_|refine jw ?_|refine jx ?_|refine jy ?_|refine jz ?_|refine jA ?_|refine jB ?_|refine jC ?_|refine jD ?_|refine jE ?_|refine jF ?_|refine jG ?_|refine jH ?_|refine jI ?_|refine jJ ?_|refine jK ?_|refine jL ?_|refine jM (by assumption) ?_|refine jN (by assumption) rfl ?_|refine jO (by assumption) ?_|refine jP (by assumption) rfl ?_|refine jQ ?_|refine jR ?_|refine jS ?_|refine jT ?_|refine jU (by assumption) rfl ?_))
    refine M.buildSlice_i [vi (bump t.count)] (by kernel_rfl) (fun w10 hn hk10 hs10 => ?_)
    have hk10 := hk10.of_drew
    have hB := hB.keep hk10 (by first | (intro b _ h1 h2; first | exact h2.elim | omega | (have h2 := h2; subst h2; omega) | (have := hlab b (by omega); omega)) | (intro h2; first | exact h2.elim | omega | (subst h2; omega) | (have := hlab p (by omega); omega))); have hl := hl.keep hk10 (by first | (intro b _ h1 h2; first | exact h2.elim | omega | (have h2 := h2; subst h2; omega) | (have := hlab b (by omega); omega)) | (intro h2; first | exact h2.elim | omega | (subst h2; omega) | (have := hlab p (by omega); omega))); have hb := hb.keep hk10 (by first | (intro b _ h1 h2; first | exact h2.elim | omega | (have h2 := h2; subst h2; omega) | (have := hlab b (by omega); omega)) | (intro h2; first | exact h2.elim | omega | (subst h2; omega) | (have := hlab p (by omega); omega))); have hg := hg.keep hk10 (by first | (intro b _ h1 h2; first | exact h2.elim | omega | (have h2 := h2; subst h2; omega) | (have := hlab b (by omega); omega)) | (intro h2; first | exact h2.elim | omega | (subst h2; omega) | (have := hlab p (by omega); omega))); have ha := ha.keep hk10 (by first | (intro b _ h1 h2; first | exact h2.elim | omega | (have h2 := h2; subst h2; omega) | (have := hlab b (by omega); omega)) | (intro h2; first | exact h2.elim | omega | (subst h2; omega) | (have := hlab p (by omega); omega))); have he := he.keep hk10 (by first | (intro b _ h1 h2; first | exact h2.elim | omega | (have h2 := h2; subst h2; omega) | (have := hlab b (by omega); omega)) | (intro h2; first | exact h2.elim | omega | (subst h2; omega) | (have := hlab p (by omega); omega))); have hr := hr.keep hk10 (by first | (intro b _ h1 h2; first | exact h2.elim | omega | (have h2 := h2; subst h2; omega) | (have := hlab b (by omega); omega)) | (intro h2; first | exact h2.elim | omega | (subst h2; omega) | (have := hlab p (by omega); omega)))
    (repeat (first|refine ja ?_|refine jb ?_|refine jc ?_|refine jd ?_|refine je ?_|refine jf ?_|refine jg ?_|refine jh ?_|refine ji ?_|refine jj ?_|refine jk ?_|refine jl ?_|refine jm ?_|refine jn ?_|refine jo ?_|refine jp ?_|refine jq ?_|refine jr ?_|refine js ?_|refine jt ?_|refine ju ?_|refine jv ?_|refine jw ?_|refine jx ?_|refine jy ?_|refine jz ?_|refine jA ?_|refine jB ?_|refine jC ?_|refine jD ?_|refine jE ?_|refine jF ?_|refine jG ?_|refine jH ?_|refine jI ?_|refine jJ ?_|refine jK ?_|refine jL ?_|refine jM (by assumption) ?_|refine jN (by assumption) rfl ?_|refine jO (by assumption) ?_|refine jP (by assumption) rfl ?_|refine jQ ?_|refine jR ?_|refine jS ?_|refine jT ?_|refine jU (by assumption) rfl ?_))
    refine M.append1_i hb (Row.of_blk' (D := fun _ => True) hn trivial) rfl (by omega) (fun vb' w11 hb hk11 => ?_)
    have hB := hB.keep hk11 (by first | (intro b _ h1 h2; first | exact h2.elim | omega | (have h2 := h2; subst h2; omega) | (have := hlab b (by omega); omega)) | (intro h2; first | exact h2.elim | omega | (subst h2; omega) | (have := hlab p (by omega); omega))); have hl := hl.keep hk11 (by first | (intro b _ h1 h2; first | exact h2.elim | omega | (have h2 := h2; subst h2; omega) | (have := hlab b (by omega); omega)) | (intro h2; first | exact h2.elim | omega | (subst h2; omega) | (have := hlab p (by omega); omega))); have hg := hg.keep hk11 (by first | (intro b _ h1 h2; first | exact h2.elim | omega | (have h2 := h2; subst h2; omega) | (have := hlab b (by omega); omega)) | (intro h2; first | exact h2.elim | omega | (subst h2; omega) | (have := hlab p (by omega); omega))); have ha := ha.keep hk11 (by first | (intro b _ h1 h2; first | exact h2.elim | omega | (have h2 := h2; subst h2; omega) | (have := hlab b (by omega); omega)) | (intro h2; first | exact h2.elim | omega | (subst h2; omega) | (have := hlab p (by omega); omega))); have he := he.keep hk11 (by first | (intro b _ h1 h2; first | exact h2.elim | omega | (have h2 := h2; subst h2; omega) | (have := hlab b (by omega); omega)) | (intro h2; first | exact h2.elim | omega | (subst h2; omega) | (have := hlab p (by omega); omega))); have hr := hr.keep hk11 (by first | (intro b _ h1 h2; first | exact h2.elim | omega | (have h2 := h2; subst h2; omega) | (have := hlab b (by omega); omega)) | (intro h2; first | exact h2.elim | omega | (subst h2; omega) | (have := hlab p (by omega); omega)))
    have q7 := hk8.size; have q8 := hk9.size; have q9 := hk10.size; have q10 := hk11.size
    have hk711 : Keep w7 w11 (fun b => lab1 b ≠ 0) :=
      ((hk8.mono (by intro b _ h1; first | exact h1.elim | omega | (have h1 := h1; subst h1; omega))).trans (hk9.mono (by intro b _ h1; first | exact h1.elim | omega | (have h1 := h1; subst h1; omega))) (fun _ _ h => h)).trans ((hk10.mono (by intro b _ h1; first | exact h1.elim | omega | (have h1 := h1; subst h1; omega))).trans (hk11.mono (by intro b _ h1; first | exact h1.elim | omega | (have h1 := h1; subst h1; omega))) (fun _ _ h => h)) (fun _ _ h => h)
    have hb := hb.relabNew hlab (by omega) (Nat.le_refl _) (by omega)
    have hl := hl.relab hlab w11.heap.size 3 (by omega)
    have hg := hg.relab hlab w11.heap.size 3 (by omega)
    have ha := ha.relab hlab w11.heap.size 3 (by omega)
    have he := he.relab hlab w11.heap.size 3 (by omega)
    have hr := hr.relab hlab w11.heap.size 3 (by omega)
    have hlab2 := relab_ne (j := 3) hlab (by omega : w7.heap.size ≤ w11.heap.size)
    have hp2 : relab lab1 w7.heap.size w11.heap.size 3 p = 1 := by rw [relab_lt (hlab p (by omega))]; exact hp
    have hlow2 : ∀ b, b < w7.heap.size → relab lab1 w7.heap.size w11.heap.size 3 b = lab1 b := fun b hb => relab_lt hb
    generalize hlabe : relab lab1 w7.heap.size w11.heap.size 3 = lab2 at *
    clear hlab hlabe hp
    (repeat (first|refine ja ?_|refine jb ?_|refine jc ?_|refine jd ?_|refine je ?_|refine jf ?_|refine jg ?_|refine jh ?_|refine ji ?_|refine jj ?_|refine jk ?_|refine jl ?_|refine jm ?_|refine jn ?_|refine jo ?_|refine jp ?_|refine jq ?_|refine jr ?_|refine js ?_|refine jt ?_|refine ju ?_|refine jv ?_|refine jw ?_|refine jx ?_|refine jy ?_|refine jz ?_|refine jA ?_|refine jB ?_|refine jC ?_|refine jD ?_|refine jE ?_|refine jF ?_|refine jG ?_|refine jH ?_|refine jI ?_|refine jJ ?_|refine jK ?_|refine jL ?_|refine jM (by assumption) ?_|refine jN (by assumption) rfl ?_|refine jO (by assumption) ?_|refine jP (by assumption) rfl ?_|refine jQ ?_|refine jR ?_|refine jS ?_|refine jT ?_|refine jU (by assumption) rfl ?_))
    refine M.store_i hB (by simp) hb.one (fun w12 hB hk12' hs12 => ?_)
    have hp := hp2
    have hl := hl.keep hk12' (by first | (intro b _ h1 h2; first | exact h2.elim | omega | (have h2 := h2; subst h2; omega) | (have := hlab b (by omega); omega)) | (intro h2; first | exact h2.elim | omega | (subst h2; omega) | (have := hlab p (by omega); omega))); have hb := hb.keep hk12' (by first | (intro b _ h1 h2; first | exact h2.elim | omega | (have h2 := h2; subst h2; omega) | (have := hlab b (by omega); omega)) | (intro h2; first | exact h2.elim | omega | (subst h2; omega) | (have := hlab p (by omega); omega))); have hg := hg.keep hk12' (by first | (intro b _ h1 h2; first | exact h2.elim | omega | (have h2 := h2; subst h2; omega) | (have := hlab b (by omega); omega)) | (intro h2; first | exact h2.elim | omega | (subst h2; omega) | (have := hlab p (by omega); omega))); have ha := ha.keep hk12' (by first | (intro b _ h1 h2; first | exact h2.elim | omega | (have h2 := h2; subst h2; omega) | (have := hlab b (by omega); omega)) | (intro h2; first | exact h2.elim | omega | (subst h2; omega) | (have := hlab p (by omega); omega))); have he := he.keep hk12' (by first | (intro b _ h1 h2; first | exact h2.elim | omega | (have h2 := h2; subst h2; omega) | (have := hlab b (by omega); omega)) | (intro h2; first | exact h2.elim | omega | (subst h2; omega) | (have := hlab p (by omega); omega))); have hr := hr.keep hk12' (by first | (intro b _ h1 h2; first | exact h2.elim | omega | (have h2 := h2; subst h2; omega) | (have := hlab b (by omega); omega)) | (intro h2; first | exact h2.elim | omega | (subst h2; omega) | (have := hlab p (by omega); omega)))
    have ea : t.assign l r = t.push l r := by simp [Tr.assign, hm]
    rw [ea]
    refine ⟨rfl, lab2, ⟨vl', vb', _, _, _, _, _, _, _, hB, ?_, ?_, hg, ha, he, hr, hp, fun b hb => Nat.lt_of_lt_of_le (hlab2 b hb) hk12'.size, ?_⟩, ?_, fun b hb => ?_⟩
    · simpa [GI, Tr.push] using hl
    · simpa [GI, Tr.push] using hb
    · have := ok.push (r := r) hm
      simpa using this
    · have a1 : Keep w w7 (fun b => lab b ≠ 0) := (hk12.mono (by intro b _ h1; first | exact h1.elim | omega | (have h1 := h1; subst h1; omega))).trans hk27 (fun _ _ h => h)
      have a2 : Keep w w11 (fun b => lab b ≠ 0) := a1.trans hk711 (fun b hb h => hne b (by omega) h)
      refine a2.trans hk12' (fun b hb h => ?_)
      have h := h
      subst h
      refine hne _ (by omega) ?_
      rw [← hlow2 _ (by omega)]
      omega
    · rw [hlow2 b (by omega), hlow b (by omega)]

theorem decide_nil (l : Int) (w : World) : Ret Try.prog 13 #[nilp, vi l] w (fun v w' => v = .bool false ∧ Keep w w' No) := by
  refine ok13 _ _ _ _ ?_
  unfold sh13
  refine M.call_i (may_nil _ w) ?_
  rintro v w2 ⟨rfl, hk2⟩
  (repeat (first|refine ja ?_|refine jb ?_|refine jc ?_|refine jd ?_|refine je ?_|refine jf ?_|refine jg ?_|refine jh ?_|refine ji ?_|refine jj ?_|refine jk ?_|refine jl ?_|refine jm ?_|refine jn ?_|refine jo ?_|refine jp ?_|refine jq ?_|refine jr ?_|refine js ?_|refine jt ?_|refine ju ?_|refine jv ?_|refine jw ?_|refine jx ?_|refine jy ?_|refine jz ?_|refine jA ?_|refine jB ?_|refine jC ?_|refine jD ?_|refine jE ?_|refine jF ?_|refine jG ?_|refine jH ?_|refine jI ?_|refine jJ ?_|refine jK ?_|refine jL ?_|refine jM (by assumption) ?_|refine jN (by assumption) rfl ?_|refine jO (by assumption) ?_|refine jP (by assumption) rfl ?_|refine jQ ?_|refine jR ?_|refine jS ?_|refine jT ?_|refine jU (by assumption) rfl ?_))
  exact ⟨rfl, hk2⟩

def Tr.up (t : Tr) : Tr := { t with begins := t.begins ++ [(t.L.length : Int)] }
def Tr.dec (t : Tr) (l : Int) : Tr := if t.may l then t.up.push l (-1) else t
theorem Tr.Ok.up {t : Tr} {at1 levels reasons : List Int} (ok : t.Ok at1 levels reasons) (wf : t.Wf) : t.up.Ok at1 levels reasons := by
  have hle : t.begins.length ≤ t.L.length := by
    rcases Nat.eq_zero_or_pos t.begins.length with h | h
    · omega
    · have h1 := ok.beg (t.begins.length - 1) _ (List.getElem?_eq_getElem (by omega))
      have h2 := wf _ (List.getElem_mem (by omega : t.begins.length - 1 < t.begins.length))
      omega
  refine ⟨ok.vars, ok.lat, ok.llev, ok.lrea, ok.lborn, ok.at1, ok.lits, ?_, ?_, ok.llen⟩
  · intro i x hx
    simp only [Tr.up, List.getElem?_append] at hx ⊢
    split at hx
    · exact ok.beg i x hx
    · have := (List.getElem?_eq_some_iff.1 hx).1
      have hi : i - t.begins.length = 0 := by simpa using this
      rw [hi] at hx
      simp at hx
      omega
  · intro i j x y hij hx hy
    simp only [Tr.up, List.getElem?_append] at hx hy
    split at hy
    · rw [if_pos (by omega)] at hx
      exact ok.mono i j x y hij hx hy
    · have := (List.getElem?_eq_some_iff.1 hy).1
      have hj : j - t.begins.length = 0 := by simpa using this
      rw [hj] at hy
      simp at hy
      rw [if_pos (by omega)] at hx
      have := wf x (List.mem_of_getElem? hx)
      omega
theorem Tr.may_up (t : Tr) (l : Int) : t.up.may l = t.may l := rfl
theorem Tr.Wf.push {t : Tr} (wf : ∀ x ∈ t.begins, x ≤ t.L.length) (l r : Int) : (t.push l r).Wf := by
  intro x hx
  have := wf x hx
  simp [Tr.push]; omega

theorem decide_ret {w : World} {p : Nat} {lab : Nat → Nat} {t : Tr} (h : TRep w p lab t) (wf : t.Wf) (l : Int) :
    Ret Try.prog 13 #[ptr p, vi l] w (fun v w' => v = .bool (t.may l) ∧ ∃ lab', TRep w' p lab' (t.dec l) ∧ TMod w w' lab lab') := by
  refine ok13 _ _ _ _ ?_
  unfold sh13
  refine M.call_i (may_ret h l) ?_
  rintro v w1 ⟨rfl, hk1⟩
  have h := h.keep hk1 (fun _ _ _ h => h)
  cases hm : t.may l with
  | false =>
    (repeat (first|refine ja ?_|refine jb ?_|refine jc ?_|refine jd ?_|refine je ?_|refine jf ?_|refine jg ?_|refine jh ?_|refine ji ?_|refine jj ?_|refine jk ?_|refine jl ?_|refine jm ?_|refine jn ?_|refine jo ?_|refine jp ?_|refine jq ?_|refine jr ?_|refine js ?_|refine jt ?_|refine ju ?_|refine jv ?_|refine jw ?_|refine jx ?_|refine jy ?_|refine jz ?_|refine jA ?_|refine jB ?_|refine jC ?_|refine jD ?_|refine jE ?_|refine jF ?_|refine jG ?_|refine jH ?_|refine jI ?_|refine jJ ?_|refine jK ?_|refine jL ?_|refine jM (by assumption) ?_|refine jN (by assumption) rfl ?_|refine jO (by assumption) ?_|refine jP (by assumption) rfl ?_|refine jQ ?_|refine jR ?_|refine jS ?_|refine jT ?_|refine jU (by assumption) rfl ?_))
    exact ⟨rfl, lab, by simpa [Tr.dec, hm] using h, hk1.mono (fun _ _ h => h.elim), fun _ _ => rfl⟩
  | true =>
    (repeat (first|refine ja ?_|refine jb ?_|refine jc ?_|refine jd ?_|refine je ?_|refine jf ?_|refine jg ?_|refine jh ?_|refine ji ?_|refine jj ?_|refine jk ?_|refine jl ?_|refine jm ?_|refine jn ?_|refine jo ?_|refine jp ?_|refine jq ?_|refine jr ?_|refine js ?_|refine jt ?_|refine ju ?_|refine jv ?_|refine jw ?_|refine jx ?_|refine jy ?_|refine jz ?_|refine jA ?_|refine jB ?_|refine jC ?_|refine jD ?_|refine jE ?_|refine jF ?_|refine jG ?_|refine jH ?_|refine jI ?_|refine jJ ?_|refine jK ?_|refine jL ?_|refine jM (by assumption) ?_|refine jN (by assumption) rfl ?_|refine jO (by assumption) ?_|refine jP (by assumption) rfl ?_|refine jQ ?_|refine jR ?_|refine jS ?_|refine jT ?_|refine jU (by assumption) rfl ?_))
    obtain ⟨vl, vb, vg, va, ve, vr, at1, levels, reasons, hB, hl, hb, hg, ha, he, hr, hp, hlab, ok⟩ := h
    obtain ⟨Al, cl, rfl, rl⟩ := hl.row
    have hlen := ok.llen
    have hvars := ok.vars
    have hbe := ok.lbeg
    (repeat (first|refine ja ?_|refine jb ?_|refine jc ?_|refine jd ?_|refine je ?_|refine jf ?_|refine jg ?_|refine jh ?_|refine ji ?_|refine jj ?_|refine jk ?_|refine jl ?_|refine jm ?_|refine jn ?_|refine jo ?_|refine jp ?_|refine jq ?_|refine jr ?_|refine js ?_|refine jt ?_|refine ju ?_|refine jv ?_|refine jw ?_|refine jx ?_|refine jy ?_|refine jz ?_|refine jA ?_|refine jB ?_|refine jC ?_|refine jD ?_|refine jE ?_|refine jF ?_|refine jG ?_|refine jH ?_|refine jI ?_|refine jJ ?_|refine jK ?_|refine jL ?_|refine jM (by assumption) ?_|refine jN (by assumption) rfl ?_|refine jO (by assumption) ?_|refine jP (by assumption) rfl ?_|refine jQ ?_|refine jR ?_|refine jS ?_|refine jT ?_|refine jU (by assumption) rfl ?_))
    refine M.buildSlice_i [vi ((t.L.map (·.lit)).length : Nat)] (by kernel_rfl) (fun w6 hn hk6 hs6 => ?_)
    have hk6 := hk6.of_drew
    have hB := hB.keep hk6 (by first | (intro b _ h1 h2; first | exact h2.elim | omega | (have h2 := h2; subst h2; omega) | (have := hlab b (by omega); omega)) | (intro h2; first | exact h2.elim | omega | (subst h2; omega) | (have := hlab p (by omega); omega))); have hl := hl.keep hk6 (by first | (intro b _ h1 h2; first | exact h2.elim | omega | (have h2 := h2; subst h2; omega) | (have := hlab b (by omega); omega)) | (intro h2; first | exact h2.elim | omega | (subst h2; omega) | (have := hlab p (by omega); omega))); have hb := hb.keep hk6 (by first | (intro b _ h1 h2; first | exact h2.elim | omega | (have h2 := h2; subst h2; omega) | (have := hlab b (by omega); omega)) | (intro h2; first | exact h2.elim | omega | (subst h2; omega) | (have := hlab p (by omega); omega))); have hg := hg.keep hk6 (by first | (intro b _ h1 h2; first | exact h2.elim | omega | (have h2 := h2; subst h2; omega) | (have := hlab b (by omega); omega)) | (intro h2; first | exact h2.elim | omega | (subst h2; omega) | (have := hlab p (by omega); omega))); have ha := ha.keep hk6 (by first | (intro b _ h1 h2; first | exact h2.elim | omega | (have h2 := h2; subst h2; omega) | (have := hlab b (by omega); omega)) | (intro h2; first | exact h2.elim | omega | (subst h2; omega) | (have := hlab p (by omega); omega))); have he := he.keep hk6 (by first | (intro b _ h1 h2; first | exact h2.elim | omega | (have h2 := h2; subst h2; omega) | (have := hlab b (by omega); omega)) | (intro h2; first | exact h2.elim | omega | (subst h2; omega) | (have := hlab p (by omega); omega))); have hr := hr.keep hk6 (by first | (intro b _ h1 h2; first | exact h2.elim | omega | (have h2 := h2; subst h2; omega) | (have := hlab b (by omega); omega)) | (intro h2; first | exact h2.elim | omega | (subst h2; omega) | (have := hlab p (by omega); omega)))
    (repeat (first|refine ja ?_|refine jb ?_|refine jc ?_|refine jd ?_|refine je ?_|refine jf ?_|refine jg ?_|refine jh ?_|refine ji ?_|refine jj ?_|refine jk ?_|refine jl ?_|refine jm ?_|refine jn ?_|refine jo ?_|refine jp ?_|refine jq ?_|refine jr ?_|refine js ?_|refine jt ?_|refine ju ?_|refine jv ?_|refine jw ?_|refine jx ?_|refine jy ?_|refine jz ?_|refine jA ?_|refine jB ?_|refine jC ?_|refine jD ?_|refine jE ?_|refine jF ?_|refine jG ?_|refine jH ?_|refine jI ?_|refine jJ ?_|refine jK ?_|refine jL ?_|refine jM (by assumption) ?_|refine jN (by assumption) rfl ?_|refine jO (by assumption) ?_|refine jP (by assumption) rfl ?_|refine jQ ?_|refine jR ?_|refine jS ?_|refine jT ?_|refine jU (by assumption) rfl ?_))
    refine M.append1_i hg (Row.of_blk' (D := fun _ => True) hn trivial) rfl (by omega) (fun vg' w7 hg hk7 => ?_)
    have hB := hB.keep hk7 (by first | (intro b _ h1 h2; first | exact h2.elim | omega | (have h2 := h2; subst h2; omega) | (have := hlab b (by omega); omega)) | (intro h2; first | exact h2.elim | omega | (subst h2; omega) | (have := hlab p (by omega); omega))); have hl := hl.keep hk7 (by first | (intro b _ h1 h2; first | exact h2.elim | omega | (have h2 := h2; subst h2; omega) | (have := hlab b (by omega); omega)) | (intro h2; first | exact h2.elim | omega | (subst h2; omega) | (have := hlab p (by omega); omega))); have hb := hb.keep hk7 (by first | (intro b _ h1 h2; first | exact h2.elim | omega | (have h2 := h2; subst h2; omega) | (have := hlab b (by omega); omega)) | (intro h2; first | exact h2.elim | omega | (subst h2; omega) | (have := hlab p (by omega); omega))); have ha := ha.keep hk7 (by first | (intro b _ h1 h2; first | exact h2.elim | omega | (have h2 := h2; subst h2; omega) | (have := hlab b (by omega); omega)) | (intro h2; first | exact h2.elim | omega | (subst h2; omega) | (have := hlab p (by omega); omega))); have he := he.keep hk7 (by first | (intro b _ h1 h2; first | exact h2.elim | omega | (have h2 := h2; subst h2; omega) | (have := hlab b (by omega); omega)) | (intro h2; first | exact h2.elim | omega | (subst h2; omega) | (have := hlab p (by omega); omega))); have hr := hr.keep hk7 (by first | (intro b _ h1 h2; first | exact h2.elim | omega | (have h2 := h2; subst h2; omega) | (have := hlab b (by omega); omega)) | (intro h2; first | exact h2.elim | omega | (subst h2; omega) | (have := hlab p (by omega); omega)))
    have q5 := hk6.size; have q6 := hk7.size
    have hk17 : Keep w1 w7 (fun b => lab b ≠ 0) := (hk6.mono (by intro b _ h1; first | exact h1.elim | omega | (have h1 := h1; subst h1; omega))).trans (hk7.mono (by intro b _ h1; first | exact h1.elim | omega | (have h1 := h1; subst h1; omega))) (fun _ _ h => h)
    have hg := hg.relabNew hlab (by omega) (Nat.le_refl _) (by omega)
    have hb := hb.relab hlab w7.heap.size 4 (by omega)
    have hl := hl.relab hlab w7.heap.size 4 (by omega)
    have ha := ha.relab hlab w7.heap.size 4 (by omega)
    have he := he.relab hlab w7.heap.size 4 (by omega)
    have hr := hr.relab hlab w7.heap.size 4 (by omega)
    have hlab1 := relab_ne (j := 4) hlab (by omega : w1.heap.size ≤ w7.heap.size)
    have hp1 : relab lab w1.heap.size w7.heap.size 4 p = 1 := by rw [relab_lt (hlab p (by omega))]; exact hp
    have hlow : ∀ b, b < w1.heap.size → relab lab w1.heap.size w7.heap.size 4 b = lab b := fun b hb => relab_lt hb
    generalize hlabe : relab lab w1.heap.size w7.heap.size 4 = lab1 at *
    have hne : ∀ b, b < w1.heap.size → lab1 b ≠ 0 → lab b ≠ 0 := fun b hb h => by rw [← hlow b hb]; exact h
    clear hlab hlabe hp
    have hp := hp1
    have hlab := hlab1
    (repeat (first|refine ja ?_|refine jb ?_|refine jc ?_|refine jd ?_|refine je ?_|refine jf ?_|refine jg ?_|refine jh ?_|refine ji ?_|refine jj ?_|refine jk ?_|refine jl ?_|refine jm ?_|refine jn ?_|refine jo ?_|refine jp ?_|refine jq ?_|refine jr ?_|refine js ?_|refine jt ?_|refine ju ?_|refine jv ?_|refine jw ?_|refine jx ?_|refine jy ?_|refine jz ?_|refine jA ?_|refine jB ?_|refine jC ?_|refine jD ?_|refine jE ?_|refine jF ?_|refine jG ?_|refine jH ?_|refine jI ?_|refine jJ ?_|refine jK ?_|refine jL ?_|refine jM (by assumption) ?_|refine jN (by assumption) rfl ?_|refine jO (by assumption) ?_|refine jP (by assumption) rfl ?_|refine jQ ?_|refine jR ?_|refine jS ?_|refine jT ?_|refine jU (by assumption) rfl ?_))
    refine M.store_i hB (by simp) hg.one (fun w8 hB hk8 hs8 => ?_)
    have hl := hl.keep hk8 (by first | (intro b _ h1 h2; first | exact h2.elim | omega | (have h2 := h2; subst h2; omega) | (have := hlab b (by omega); omega)) | (intro h2; first | exact h2.elim | omega | (subst h2; omega) | (have := hlab p (by omega); omega))); have hb := hb.keep hk8 (by first | (intro b _ h1 h2; first | exact h2.elim | omega | (have h2 := h2; subst h2; omega) | (have := hlab b (by omega); omega)) | (intro h2; first | exact h2.elim | omega | (subst h2; omega) | (have := hlab p (by omega); omega))); have hg := hg.keep hk8 (by first | (intro b _ h1 h2; first | exact h2.elim | omega | (have h2 := h2; subst h2; omega) | (have := hlab b (by omega); omega)) | (intro h2; first | exact h2.elim | omega | (subst h2; omega) | (have := hlab p (by omega); omega))); have ha := ha.keep hk8 (by first | (intro b _ h1 h2; first | exact h2.elim | omega | (have h2 := h2; subst h2; omega) | (have := hlab b (by omega); omega)) | (intro h2; first | exact h2.elim | omega | (subst h2; omega) | (have := hlab p (by omega); omega))); have he := he.keep hk8 (by first | (intro b _ h1 h2; first | exact h2.elim | omega | (have h2 := h2; subst h2; omega) | (have := hlab b (by omega); omega)) | (intro h2; first | exact h2.elim | omega | (subst h2; omega) | (have := hlab p (by omega); omega))); have hr := hr.keep hk8 (by first | (intro b _ h1 h2; first | exact h2.elim | omega | (have h2 := h2; subst h2; omega) | (have := hlab b (by omega); omega)) | (intro h2; first | exact h2.elim | omega | (subst h2; omega) | (have := hlab p (by omega); omega)))
    have hup : TRep w8 p lab1 t.up := by
      refine ⟨_, _, vg', _, _, _, _, _, _, hB, hl, hb, ?_, ha, he, hr, hp, fun b hb => Nat.lt_of_lt_of_le (hlab b hb) hk8.size, ok.up wf⟩
      simpa [GI, Tr.up] using hg
    refine M.call_i (assign_ret hup l (-1)) ?_
    rintro v w9 ⟨rfl, lab2, hT, hk9, hl9⟩
    have hm2 : t.up.may l = true := by rw [Tr.may_up]; exact hm
    refine ⟨by rw [hm2], lab2, ?_, ?_, fun b hb => ?_⟩
    · simpa [Tr.assign, Tr.dec, hm, hm2] using hT
    · have a1 := (hk1.mono (T := fun b => lab b ≠ 0) (by intro b _ h1; first | exact h1.elim | omega | (have h1 := h1; subst h1; omega))).trans hk17 (fun _ _ h => h)
      have a2 := a1.trans hk8 (fun b hb h => by
        have h := h
        subst h
        exact hne _ (by have := hk1.size; omega) (by omega))
      exact a2.trans hk9 (fun b hb h => hne b (by have := hk1.size; omega) h)
    · have := hk1.size
      rw [hl9 b (by have := hk8.size; omega), hlow b (by omega)]

def Tr.back (t : Tr) (level : Int) : Tr × List Int :=
  if level < 0 then (t, []) else match t.begins[level.toNat]? with
  | none => (t, [])
  | some fr => ({ t with L := t.L.take fr.toNat, born := t.born.take fr.toNat, begins := t.begins.take level.toNat }, ((t.L.drop fr.toNat).map fun e => e.lit / 2).reverse)

theorem Tr.idx_take {t : Tr} {n : Nat} {v : Int} : ({ t with L := t.L.take n } : Tr).idx v = match t.idx v with | some i => if i < n then some i else none | none => none := by
  unfold Tr.idx
  rw [List.findIdx?_take]
  cases List.findIdx? (fun e => decide (e.lit / 2 = v)) t.L with
  | none => rfl
  | some i => simp [Option.bind, Option.guard]

theorem Tr.Ok.cut {t : Tr} {at1 levels reasons at2 : List Int} (ok : t.Ok at1 levels reasons) {lv n : Nat} (hb : t.begins[lv]? = some (n : Int))
    (h1 : at2.length = t.vars) (h2 : ∀ v, v < t.vars → at2[v]? = some (match t.idx v with | some i => if n ≤ i then -1 else (i : Int) | none => -1)) :
    ({ t with L := t.L.take n, born := t.born.take n, begins := t.begins.take lv } : Tr).Ok at2 levels reasons := by
  have hn : n ≤ t.L.length := by have := ok.beg lv _ hb; omega
  have hidx : ∀ v, ({ t with L := t.L.take n, born := t.born.take n, begins := t.begins.take lv } : Tr).idx v = match t.idx v with | some i => if i < n then some i else none | none => none :=
    fun v => Tr.idx_take
  refine ⟨ok.vars, h1, ok.llev, ok.lrea, by simp [ok.lborn], ?_, ?_, ?_, ?_, ?_⟩
  · intro v hv
    rw [h2 v hv]
    unfold Tr.at1
    rw [hidx]
    cases t.idx v with
    | none => rfl
    | some i =>
      by_cases h : i < n
      · have : ¬ n ≤ i := by omega
        simp [h, this]
      · have : n ≤ i := by omega
        simp [h, this]
  · intro i e hi
    simp only [List.getElem?_take] at hi
    split at hi
    · rename_i hlt
      obtain ⟨a1, a2, a3, a4, a5⟩ := ok.lits i e hi
      refine ⟨a1, a2, a3, a4, ?_⟩
      rw [hidx, a5]
      simp [hlt]
    · cases hi
  · intro i x hx
    simp only [List.getElem?_take] at hx
    split at hx
    · rename_i hlt
      have := ok.beg i x hx
      have := ok.mono i lv x n hlt hx hb
      simp
      omega
    · cases hx
  · intro i j x y hij hx hy
    simp only [List.getElem?_take] at hx hy
    split at hy
    · rw [if_pos (by omega)] at hx
      exact ok.mono i j x y hij hx hy
    · cases hy
  · have := ok.llen
    simp
    omega

/-! (*breakwater/trail.Trail).Back: function 39 -/
def sh39 (x0 x1 : Value) (R : Kt) (w : World) : Prop :=
  M.eqNil 0 false x0 (fun t10 w =>
  M.gd t10 false (fun k w => k x1 w) (fun t12 w =>
  M.gd t10 false (fun k w => M.bin .lss t12 (Value.int IntKind.i64 0) k w) (fun t13 w =>
  M.pick t10 (Value.bool true) t13 (fun t14 w =>
  M.gd t14 false (fun k w => k x1 w) (fun t16 w =>
  M.gd t14 false (fun k w => k x0 w) (fun t17 w =>
  M.gd t14 false (fun k w => M.nilCheck t17 k w) (fun t18 w =>
  M.gd t14 false (fun k w => M.fieldAddr 3 t18 k w) (fun t19 w =>
  M.gd t14 false (fun k w => M.load1 t19 k w) (fun t20 w =>
  M.gd t14 false (fun k w => M.len t20 k w) (fun t21 w =>
  M.gd t14 false (fun k w => M.bin .geq t16 t21 k w) (fun t22 w =>
  M.pick t14 (Value.bool true) t22 (fun t23 w =>
  M.cond t23
  (R (Value.slice none 0 0) w)
  (M.nilCheck x0 (fun t25 w =>
  M.fieldAddr 3 t25 (fun t26 w =>
  M.load1 t26 (fun t27 w =>
  M.indexSl 1 t27 x1 (fun t29 w =>
  M.load1 t29 (fun t30 w =>
  M.nilCheck x0 (fun t32 w =>
  M.fieldAddr 0 t32 (fun t33 w =>
  M.load1 t33 (fun t34 w =>
  M.len t34 (fun t35 w =>
  M.bin .sub t35 (Value.int IntKind.i64 1) (fun t36 w =>
  M.loop [(Value.slice none 0 0), t36] (fun s1 K1 w => ∀ _ : List Value,
  M.bin .geq (s1.getD 1 undef) t30 (fun t39 w =>
  M.cond t39
  (M.nilCheck x0 (fun t43 w =>
  M.fieldAddr 0 t43 (fun t44 w =>
  M.load1 t44 (fun t45 w =>
  M.indexSl 1 t45 (s1.getD 1 undef) (fun t47 w =>
  M.load1 t47 (fun t48 w =>
  M.call Try.prog 22 #[t48] (fun t49 w =>
  M.nilCheck x0 (fun t51 w =>
  M.fieldAddr 4 t51 (fun t52 w =>
  M.load1 t52 (fun t53 w =>
  M.indexSl 1 t53 t49 (fun t55 w =>
  M.store 1 t55 (Value.int IntKind.i64 (-1)) (fun _ w =>
  M.buildSlice 3 1 #[.int .i64 0] 1 [(0, t49)] (fun t58 w =>
  M.append 3 1 8 #[.int .i64 0] (s1.getD 0 undef) t58 (fun t59 w =>
  M.bin .sub (s1.getD 1 undef) (Value.int IntKind.i64 1) (fun t41 w =>
  K1 [t59, t41] w) w) w) w) w) w) w) w) w) w) w) w) w) w) w)
  (M.draw (fun w =>
  M.nilCheck x0 (fun t64 w =>
  M.fieldAddr 0 t64 (fun t65 w =>
  M.load1 t65 (fun t66 w =>
  M.slice 1 t66 none (some t30) none (fun t68 w =>
  M.nilCheck x0 (fun t70 w =>
  M.fieldAddr 1 t70 (fun t71 w =>
  M.load1 t71 (fun t72 w =>
  M.slice 1 t72 none (some t30) none (fun t74 w =>
  M.nilCheck x0 (fun t76 w =>
  M.fieldAddr 3 t76 (fun t77 w =>
  M.load1 t77 (fun t78 w =>
  M.slice 1 t78 none (some x1) none (fun t80 w =>
  M.nilCheck x0 (fun t81 w =>
  M.fieldAddr 0 t81 (fun t82 w =>
  M.store 1 t82 t68 (fun _ w =>
  M.nilCheck x0 (fun t83 w =>
  M.fieldAddr 1 t83 (fun t84 w =>
  M.store 1 t84 t74 (fun _ w =>
  M.nilCheck x0 (fun t85 w =>
  M.fieldAddr 3 t85 (fun t86 w =>
  M.store 1 t86 t80 (fun _ w =>
  R (s1.getD 0 undef) w) w) w) w) w) w) w) w) w) w) w) w) w) w) w) w) w) w) w) w) w) w) w)) w) w) w) w) w) w) w) w) w) w) w) w)) w) w) w) w) w) w) w) w) w) w) w) w
theorem ok39 (x0 x1 : Value) (R : Kt) (w : World) (h : sh39 x0 x1 R w) : Ret Try.prog 39 #[x0, x1] w R :=
  ret_mk <| calls_of_comp mixed (c := Try.f39.body.getD .skip) (args := [x0, x1]) (rs := [(ResultVar.tmp 4)]) (Ann.seq Ann.text (Ann.seq (Ann.seq Ann.text (Ann.cond (Ann.seq Ann.text Ann.leaf) Ann.leaf)) (Ann.seq Ann.text (Ann.seq Ann.text (Ann.seq (Ann.seq Ann.text (Ann.block (Ann.loop [6, 7] [8, 37, 38, 39, 40, 41, 42, 43, 44, 45, 46, 47, 48, 49, 50, 51, 52, 53, 54, 55, 56, 57, 58, 59] (Ann.seq (Ann.seq Ann.text (Ann.cond Ann.leaf Ann.leaf)) (Ann.seq (Ann.block (Ann.seq Ann.text (Ann.seq Ann.text Ann.text))) Ann.text))))) (Ann.seq (Ann.draw (Sch.take 0 (Sch.take 1 (Sch.take 2 (Sch.take 3 (Sch.take 4 (Sch.take 5 (Sch.take 6 (Sch.take 7 (Sch.take 8 (Sch.take 9 (Sch.take 10 (Sch.take 11 (Sch.take 12 (Sch.take 13 (Sch.take 14 (Sch.take 15 (Sch.take 16 (Sch.take 17 (Sch.take 18 (Sch.take 19 (Sch.take 20 (Sch.take 21 (Sch.take 22 (Sch.one 23 (Sch.take 24 (Sch.take 25 (Sch.one 26 (Sch.take 27 (Sch.take 28 (Sch.one 29 Sch.done))))))))))))))))))))))))))))))) (Ann.seq Ann.text Ann.leaf)))))))
    Try.func39 (by kernel_rfl) (by kernel_rfl)
    (Eq.mp (by kernel_rfl) h)

theorem back_nil (l : Int) (w : World) : Ret Try.prog 39 #[nilp, vi l] w (fun v w' => GI w' (w.heap.size ≤ ·) v [] ∧ Keep w w' No) := by
  refine ok39 _ _ _ _ ?_
  unfold sh39
  (repeat (first|refine ja ?_|refine jb ?_|refine jc ?_|refine jd ?_|refine je ?_|refine jf ?_|refine jg ?_|refine jh ?_|refine ji ?_|refine jj ?_|refine jk ?_|refine jl ?_|refine jm ?_|refine jn ?_|refine jo ?_|refine jp ?_|refine jq ?_|refine jr ?_|refine js ?_|refine jt ?_|refine ju ?_|refine jv ?_|refine jw ?_|refine jx ?_|refine jy ?_|refine jz ?_|refine jA ?_|refine jB ?_|refine jC ?_|refine jD ?_|refine jE ?_|refine jF ?_|refine jG ?_|refine jH ?_|refine jI ?_|refine jJ ?_|refine jK ?_|refine jL ?_|refine jM (by assumption) ?_|refine jN (by assumption) rfl ?_|refine jO (by assumption) ?_|refine jP (by assumption) rfl ?_|refine jQ ?_|refine jR ?_|refine jS ?_|refine jT ?_|refine jU (by assumption) rfl ?_))
  exact ⟨GI.nil _ _, Keep.refl _ _⟩
set_option maxHeartbeats 1000000 in
theorem back_ret {w : World} {p : Nat} {lab : Nat → Nat} {t : Tr} (h : TRep w p lab t) (l : Int) :
    Ret Try.prog 39 #[ptr p, vi l] w (fun v w' => GI w' (w.heap.size ≤ ·) v (t.back l).2 ∧ TRep w' p lab (t.back l).1 ∧ Keep w w' (fun b => lab b ≠ 0)) := by
  obtain ⟨vl, vb, vg, va, ve, vr, at1, levels, reasons, hB, hl, hb, hg, ha, he, hr, hp, hlab, ok⟩ := id h
  obtain ⟨Al, cl, rfl, rl⟩ := hl.row
  obtain ⟨Ab, cb, rfl, rb⟩ := hb.row
  obtain ⟨Ag, cg, rfl, rg⟩ := hg.row
  refine ok39 _ _ _ _ ?_
  unfold sh39
  by_cases h0 : l < 0
  · (repeat (first|refine ja ?_|refine jb ?_|refine jc ?_|refine jd ?_|refine je ?_|refine jf ?_|refine jg ?_|refine jh ?_|refine ji ?_|refine jj ?_|refine jk ?_|refine jl ?_|refine jm ?_|refine jn ?_|refine jo ?_|refine jp ?_|refine jq ?_|refine jr ?_|refine js ?_|refine jt ?_|refine ju ?_|refine jv ?_|refine jw ?_|refine jx ?_|refine jy ?_|refine jz ?_|refine jA ?_|refine jB ?_|refine jC ?_|refine jD ?_|refine jE ?_|refine jF ?_|refine jG ?_|refine jH ?_|refine jI ?_|refine jJ ?_|refine jK ?_|refine jL ?_|refine jM (by assumption) ?_|refine jN (by assumption) rfl ?_|refine jO (by assumption) ?_|refine jP (by assumption) rfl ?_|refine jQ ?_|refine jR ?_|refine jS ?_|refine jT ?_|refine jU (by assumption) rfl ?_))
    have e : t.back l = (t, []) := by simp [Tr.back, h0]
    rw [e]
    exact ⟨GI.nil _ _, h, Keep.refl _ _⟩
  by_cases h1 : (t.begins.length : Int) ≤ l
  · (repeat (first|refine ja ?_|refine jb ?_|refine jc ?_|refine jd ?_|refine je ?_|refine jf ?_|refine jg ?_|refine jh ?_|refine ji ?_|refine jj ?_|refine jk ?_|refine jl ?_|refine jm ?_|refine jn ?_|refine jo ?_|refine jp ?_|refine jq ?_|refine jr ?_|refine js ?_|refine jt ?_|refine ju ?_|refine jv ?_|refine jw ?_|refine jx ?_|refine jy ?_|refine jz ?_|refine jA ?_|refine jB ?_|refine jC ?_|refine jD ?_|refine jE ?_|refine jF ?_|refine jG ?_|refine jH ?_|refine jI ?_|refine jJ ?_|refine jK ?_|refine jL ?_|refine jM (by assumption) ?_|refine jN (by assumption) rfl ?_|refine jO (by assumption) ?_|refine jP (by assumption) rfl ?_|refine jQ ?_|refine jR ?_|refine jS ?_|refine jT ?_|refine jU (by assumption) rfl ?_))
    have e : t.back l = (t, []) := by
      have : t.begins[l.toNat]? = none := List.getElem?_eq_none (by omega)
      simp [Tr.back, h0, this]
    rw [e]
    exact ⟨GI.nil _ _, h, Keep.refl _ _⟩
  have hlt : l.toNat < t.begins.length := by omega
  obtain ⟨fr, hfr⟩ : ∃ fr, t.begins[l.toNat]? = some fr := ⟨_, List.getElem?_eq_getElem hlt⟩
  have hbeg := ok.beg _ _ hfr
  obtain ⟨n, rfl⟩ : ∃ n : Nat, fr = n := ⟨fr.toNat, by omega⟩
  have hlen := ok.llen
  have hvars := ok.vars
  have hlb := ok.lborn
  have hlat := ok.lat
  (repeat (first|refine ja ?_|refine jb ?_|refine jc ?_|refine jd ?_|refine je ?_|refine jf ?_|refine jg ?_|refine jh ?_|refine ji ?_|refine jj ?_|refine jk ?_|refine jl ?_|refine jm ?_|refine jn ?_|refine jo ?_|refine jp ?_|refine jq ?_|refine jr ?_|refine js ?_|refine jt ?_|refine ju ?_|refine jv ?_|refine jw ?_|refine jx ?_|refine jy ?_|refine jz ?_|refine jA ?_|refine jB ?_|refine jC ?_|refine jD ?_|refine jE ?_|refine jF ?_|refine jG ?_|refine jH ?_|refine jI ?_|refine jJ ?_|refine jK ?_|refine jL ?_|refine jM (by assumption) ?_|refine jN (by assumption) rfl ?_|refine jO (by assumption) ?_|refine jP (by assumption) rfl ?_|refine jQ ?_|refine jR ?_|refine jS ?_|refine jT ?_|refine jU (by assumption) rfl ?_))
  refine M.idxRow_i rg (by simp) (by omega) (by omega) (fun b o hA hc => ?_)
  rw [List.getElem?_map, hfr] at hc
  simp only [Option.map_some] at hc
  have hll : (t.L.map (·.lit)).length = t.L.length := by simp
  (repeat (first|refine ja ?_|refine jb ?_|refine jc ?_|refine jd ?_|refine je ?_|refine jf ?_|refine jg ?_|refine jh ?_|refine ji ?_|refine jj ?_|refine jk ?_|refine jl ?_|refine jm ?_|refine jn ?_|refine jo ?_|refine jp ?_|refine jq ?_|refine jr ?_|refine js ?_|refine jt ?_|refine ju ?_|refine jv ?_|refine jw ?_|refine jx ?_|refine jy ?_|refine jz ?_|refine jA ?_|refine jB ?_|refine jC ?_|refine jD ?_|refine jE ?_|refine jF ?_|refine jG ?_|refine jH ?_|refine jI ?_|refine jJ ?_|refine jK ?_|refine jL ?_|refine jM (by assumption) ?_|refine jN (by assumption) rfl ?_|refine jO (by assumption) ?_|refine jP (by assumption) rfl ?_|refine jQ ?_|refine jR ?_|refine jS ?_|refine jT ?_|refine jU (by assumption) rfl ?_))
  refine M.loop_i (σ := Nat) (fun k vals w' => ∃ vo at2, vals = [vo, vi ((t.L.length : Int) - 1 - k)] ∧ k ≤ t.L.length - n ∧ GI w' (w.heap.size ≤ ·) vo (((t.L.drop (t.L.length - k)).map fun e => e.lit / 2).reverse) ∧
      GI w' (lab · = 5) va at2 ∧ at2.length = t.vars ∧ (∀ v, v < t.vars → at2[v]? = some (match t.idx v with | some i => if t.L.length - k ≤ i then -1 else (i : Int) | none => -1)) ∧
      Keep w w' (lab · = 5)) (fun k => t.L.length - k) 0 ⟨.slice none 0 0, at1, by simp, by omega, by simp; exact GI.nil _ _, ha, by omega, ?_, Keep.refl _ _⟩ ?_
  · intro v hv
    rw [ok.at1 v hv]
    unfold Tr.at1
    cases hi : t.idx v with
    | none => rfl
    | some i =>
      have := Tr.Ok.idx_lt hi
      have h2 : ¬ t.L.length ≤ i := by omega
      simp [h2]
  rintro k vals w1 K ⟨vo, at2, rfl, hk, ho, ha, hla, hat, hkeep⟩ hK _
  simp only [List.getD_cons_zero, List.getD_cons_succ]
  have q1 := hkeep.size
  have hB := hB.keep hkeep (by first | (intro b _ h1 h2; first | exact h2.elim | omega | (have h2 := h2; subst h2; omega) | (have := hlab b (by omega); omega)) | (intro h2; first | exact h2.elim | omega | (subst h2; omega) | (have := hlab p (by omega); omega))); have hl := hl.keep hkeep (by first | (intro b _ h1 h2; first | exact h2.elim | omega | (have h2 := h2; subst h2; omega) | (have := hlab b (by omega); omega)) | (intro h2; first | exact h2.elim | omega | (subst h2; omega) | (have := hlab p (by omega); omega))); have hb := hb.keep hkeep (by first | (intro b _ h1 h2; first | exact h2.elim | omega | (have h2 := h2; subst h2; omega) | (have := hlab b (by omega); omega)) | (intro h2; first | exact h2.elim | omega | (subst h2; omega) | (have := hlab p (by omega); omega))); have hg := hg.keep hkeep (by first | (intro b _ h1 h2; first | exact h2.elim | omega | (have h2 := h2; subst h2; omega) | (have := hlab b (by omega); omega)) | (intro h2; first | exact h2.elim | omega | (subst h2; omega) | (have := hlab p (by omega); omega))); have he := he.keep hkeep (by first | (intro b _ h1 h2; first | exact h2.elim | omega | (have h2 := h2; subst h2; omega) | (have := hlab b (by omega); omega)) | (intro h2; first | exact h2.elim | omega | (subst h2; omega) | (have := hlab p (by omega); omega))); have hr := hr.keep hkeep (by first | (intro b _ h1 h2; first | exact h2.elim | omega | (have h2 := h2; subst h2; omega) | (have := hlab b (by omega); omega)) | (intro h2; first | exact h2.elim | omega | (subst h2; omega) | (have := hlab p (by omega); omega))); have rl := rl.keep hkeep (by first | (intro b _ h1 h2; first | exact h2.elim | omega | (have h2 := h2; subst h2; omega) | (have := hlab b (by omega); omega)) | (intro h2; first | exact h2.elim | omega | (subst h2; omega) | (have := hlab p (by omega); omega)))
  by_cases hge : (n : Int) ≤ (t.L.length : Int) - 1 - k
  · (repeat (first|refine ja ?_|refine jb ?_|refine jc ?_|refine jd ?_|refine je ?_|refine jf ?_|refine jg ?_|refine jh ?_|refine ji ?_|refine jj ?_|refine jk ?_|refine jl ?_|refine jm ?_|refine jn ?_|refine jo ?_|refine jp ?_|refine jq ?_|refine jr ?_|refine js ?_|refine jt ?_|refine ju ?_|refine jv ?_|refine jw ?_|refine jx ?_|refine jy ?_|refine jz ?_|refine jA ?_|refine jB ?_|refine jC ?_|refine jD ?_|refine jE ?_|refine jF ?_|refine jG ?_|refine jH ?_|refine jI ?_|refine jJ ?_|refine jK ?_|refine jL ?_|refine jM (by assumption) ?_|refine jN (by assumption) rfl ?_|refine jO (by assumption) ?_|refine jP (by assumption) rfl ?_|refine jQ ?_|refine jR ?_|refine jS ?_|refine jT ?_|refine jU (by assumption) rfl ?_))
    refine M.idxRow_i rl (by simp) (by omega) (by omega) (fun b o hA hc => ?_)
    obtain ⟨e, hE⟩ : ∃ e, t.L[t.L.length - 1 - k]? = some e := ⟨_, List.getElem?_eq_getElem (by omega)⟩
    have hi : ((t.L.length : Int) - 1 - k).toNat = t.L.length - 1 - k := by omega
    simp only [List.map_map, List.getElem?_map, hi, hE, Option.map_some, Function.comp] at hc
    rw [← hi] at hc
    obtain ⟨a1, a2, a3, a4, a5⟩ := ok.lits _ e hE
    (repeat (first|refine ja ?_|refine jb ?_|refine jc ?_|refine jd ?_|refine je ?_|refine jf ?_|refine jg ?_|refine jh ?_|refine ji ?_|refine jj ?_|refine jk ?_|refine jl ?_|refine jm ?_|refine jn ?_|refine jo ?_|refine jp ?_|refine jq ?_|refine jr ?_|refine js ?_|refine jt ?_|refine ju ?_|refine jv ?_|refine jw ?_|refine jx ?_|refine jy ?_|refine jz ?_|refine jA ?_|refine jB ?_|refine jC ?_|refine jD ?_|refine jE ?_|refine jF ?_|refine jG ?_|refine jH ?_|refine jI ?_|refine jJ ?_|refine jK ?_|refine jL ?_|refine jM (by assumption) ?_|refine jN (by assumption) rfl ?_|refine jO (by assumption) ?_|refine jP (by assumption) rfl ?_|refine jQ ?_|refine jR ?_|refine jS ?_|refine jT ?_|refine jU (by assumption) rfl ?_))
    refine M.call_i (var_ret e.lit w1) ?_
    rintro v w2 ⟨rfl, hk2⟩
    have hv : varOf e.lit = e.lit / 2 := by unfold varOf; rw [if_neg (by omega)]
    rw [hv]
    have q2 := hk2.size
    have hB := hB.keep hk2 (by first | (intro b _ h1 h2; first | exact h2.elim | omega | (have h2 := h2; subst h2; omega) | (have := hlab b (by omega); omega)) | (intro h2; first | exact h2.elim | omega | (subst h2; omega) | (have := hlab p (by omega); omega))); have hl := hl.keep hk2 (by first | (intro b _ h1 h2; first | exact h2.elim | omega | (have h2 := h2; subst h2; omega) | (have := hlab b (by omega); omega)) | (intro h2; first | exact h2.elim | omega | (subst h2; omega) | (have := hlab p (by omega); omega))); have hb := hb.keep hk2 (by first | (intro b _ h1 h2; first | exact h2.elim | omega | (have h2 := h2; subst h2; omega) | (have := hlab b (by omega); omega)) | (intro h2; first | exact h2.elim | omega | (subst h2; omega) | (have := hlab p (by omega); omega))); have hg := hg.keep hk2 (by first | (intro b _ h1 h2; first | exact h2.elim | omega | (have h2 := h2; subst h2; omega) | (have := hlab b (by omega); omega)) | (intro h2; first | exact h2.elim | omega | (subst h2; omega) | (have := hlab p (by omega); omega))); have he := he.keep hk2 (by first | (intro b _ h1 h2; first | exact h2.elim | omega | (have h2 := h2; subst h2; omega) | (have := hlab b (by omega); omega)) | (intro h2; first | exact h2.elim | omega | (subst h2; omega) | (have := hlab p (by omega); omega))); have hr := hr.keep hk2 (by first | (intro b _ h1 h2; first | exact h2.elim | omega | (have h2 := h2; subst h2; omega) | (have := hlab b (by omega); omega)) | (intro h2; first | exact h2.elim | omega | (subst h2; omega) | (have := hlab p (by omega); omega))); have ha := ha.keep hk2 (by first | (intro b _ h1 h2; first | exact h2.elim | omega | (have h2 := h2; subst h2; omega) | (have := hlab b (by omega); omega)) | (intro h2; first | exact h2.elim | omega | (subst h2; omega) | (have := hlab p (by omega); omega))); have ho := ho.keep hk2 (by first | (intro b _ h1 h2; first | exact h2.elim | omega | (have h2 := h2; subst h2; omega) | (have := hlab b (by omega); omega)) | (intro h2; first | exact h2.elim | omega | (subst h2; omega) | (have := hlab p (by omega); omega)))
    (repeat (first|refine ja ?_|refine jb ?_|refine jc ?_|refine jd ?_|refine je ?_|refine jf ?_|refine jg ?_|refine jh ?_|refine ji ?_|refine jj ?_|refine jk ?_|refine jl ?_|refine jm ?_|refine jn ?_|refine jo ?_|refine jp ?_|refine jq ?_|refine jr ?_|refine js ?_|refine jt ?_|refine ju ?_|refine jv ?_|refine jw ?_|refine jx ?_|refine jy ?_|refine jz ?_|refine jA ?_|refine jB ?_|refine jC ?_|refine jD ?_|refine jE ?_|refine jF ?_|refine jG ?_|refine jH ?_|refine jI ?_|refine jJ ?_|refine jK ?_|refine jL ?_|refine jM (by assumption) ?_|refine jN (by assumption) rfl ?_|refine jO (by assumption) ?_|refine jP (by assumption) rfl ?_|refine jQ ?_|refine jR ?_|refine jS ?_|refine jT ?_|refine jU (by assumption) rfl ?_))
    refine M.idxStore_i ha (by omega) (by omega) (fun w3 ha hk3 hs3 => ?_)
    have hB := hB.keep hk3 (by first | (intro b _ h1 h2; first | exact h2.elim | omega | (have h2 := h2; subst h2; omega) | (have := hlab b (by omega); omega)) | (intro h2; first | exact h2.elim | omega | (subst h2; omega) | (have := hlab p (by omega); omega))); have hl := hl.keep hk3 (by first | (intro b _ h1 h2; first | exact h2.elim | omega | (have h2 := h2; subst h2; omega) | (have := hlab b (by omega); omega)) | (intro h2; first | exact h2.elim | omega | (subst h2; omega) | (have := hlab p (by omega); omega))); have hb := hb.keep hk3 (by first | (intro b _ h1 h2; first | exact h2.elim | omega | (have h2 := h2; subst h2; omega) | (have := hlab b (by omega); omega)) | (intro h2; first | exact h2.elim | omega | (subst h2; omega) | (have := hlab p (by omega); omega))); have hg := hg.keep hk3 (by first | (intro b _ h1 h2; first | exact h2.elim | omega | (have h2 := h2; subst h2; omega) | (have := hlab b (by omega); omega)) | (intro h2; first | exact h2.elim | omega | (subst h2; omega) | (have := hlab p (by omega); omega))); have he := he.keep hk3 (by first | (intro b _ h1 h2; first | exact h2.elim | omega | (have h2 := h2; subst h2; omega) | (have := hlab b (by omega); omega)) | (intro h2; first | exact h2.elim | omega | (subst h2; omega) | (have := hlab p (by omega); omega))); have hr := hr.keep hk3 (by first | (intro b _ h1 h2; first | exact h2.elim | omega | (have h2 := h2; subst h2; omega) | (have := hlab b (by omega); omega)) | (intro h2; first | exact h2.elim | omega | (subst h2; omega) | (have := hlab p (by omega); omega))); have ho := ho.keep hk3 (by first | (intro b _ h1 h2; first | exact h2.elim | omega | (have h2 := h2; subst h2; omega) | (have := hlab b (by omega); omega)) | (intro h2; first | exact h2.elim | omega | (subst h2; omega) | (have := hlab p (by omega); omega)))
    refine M.buildSlice_i [vi (e.lit / 2)] (by kernel_rfl) (fun w4 hn hk4 hs4 => ?_)
    have hB := hB.keep hk4 (by first | (intro b _ h1 h2; first | exact h2.elim | omega | (have h2 := h2; subst h2; omega) | (have := hlab b (by omega); omega)) | (intro h2; first | exact h2.elim | omega | (subst h2; omega) | (have := hlab p (by omega); omega))); have hl := hl.keep hk4 (by first | (intro b _ h1 h2; first | exact h2.elim | omega | (have h2 := h2; subst h2; omega) | (have := hlab b (by omega); omega)) | (intro h2; first | exact h2.elim | omega | (subst h2; omega) | (have := hlab p (by omega); omega))); have hb := hb.keep hk4 (by first | (intro b _ h1 h2; first | exact h2.elim | omega | (have h2 := h2; subst h2; omega) | (have := hlab b (by omega); omega)) | (intro h2; first | exact h2.elim | omega | (subst h2; omega) | (have := hlab p (by omega); omega))); have hg := hg.keep hk4 (by first | (intro b _ h1 h2; first | exact h2.elim | omega | (have h2 := h2; subst h2; omega) | (have := hlab b (by omega); omega)) | (intro h2; first | exact h2.elim | omega | (subst h2; omega) | (have := hlab p (by omega); omega))); have he := he.keep hk4 (by first | (intro b _ h1 h2; first | exact h2.elim | omega | (have h2 := h2; subst h2; omega) | (have := hlab b (by omega); omega)) | (intro h2; first | exact h2.elim | omega | (subst h2; omega) | (have := hlab p (by omega); omega))); have hr := hr.keep hk4 (by first | (intro b _ h1 h2; first | exact h2.elim | omega | (have h2 := h2; subst h2; omega) | (have := hlab b (by omega); omega)) | (intro h2; first | exact h2.elim | omega | (subst h2; omega) | (have := hlab p (by omega); omega))); have ha := ha.keep hk4 (by first | (intro b _ h1 h2; first | exact h2.elim | omega | (have h2 := h2; subst h2; omega) | (have := hlab b (by omega); omega)) | (intro h2; first | exact h2.elim | omega | (subst h2; omega) | (have := hlab p (by omega); omega))); have ho := ho.keep hk4 (by first | (intro b _ h1 h2; first | exact h2.elim | omega | (have h2 := h2; subst h2; omega) | (have := hlab b (by omega); omega)) | (intro h2; first | exact h2.elim | omega | (subst h2; omega) | (have := hlab p (by omega); omega)))
    refine M.append1_i ho (Row.of_blk' (D := fun _ => True) hn trivial) rfl (by simp; omega) (fun vo' w5 ho hk5 => ?_)
    have q3 := hk3.size; have q4 := hk4.size; have q5 := hk5.size
    have hB := hB.keep hk5 (by first | (intro b _ h1 h2; first | exact h2.elim | omega | (have h2 := h2; subst h2; omega) | (have := hlab b (by omega); omega)) | (intro h2; first | exact h2.elim | omega | (subst h2; omega) | (have := hlab p (by omega); omega))); have hl := hl.keep hk5 (by first | (intro b _ h1 h2; first | exact h2.elim | omega | (have h2 := h2; subst h2; omega) | (have := hlab b (by omega); omega)) | (intro h2; first | exact h2.elim | omega | (subst h2; omega) | (have := hlab p (by omega); omega))); have hb := hb.keep hk5 (by first | (intro b _ h1 h2; first | exact h2.elim | omega | (have h2 := h2; subst h2; omega) | (have := hlab b (by omega); omega)) | (intro h2; first | exact h2.elim | omega | (subst h2; omega) | (have := hlab p (by omega); omega))); have hg := hg.keep hk5 (by first | (intro b _ h1 h2; first | exact h2.elim | omega | (have h2 := h2; subst h2; omega) | (have := hlab b (by omega); omega)) | (intro h2; first | exact h2.elim | omega | (subst h2; omega) | (have := hlab p (by omega); omega))); have he := he.keep hk5 (by first | (intro b _ h1 h2; first | exact h2.elim | omega | (have h2 := h2; subst h2; omega) | (have := hlab b (by omega); omega)) | (intro h2; first | exact h2.elim | omega | (subst h2; omega) | (have := hlab p (by omega); omega))); have hr := hr.keep hk5 (by first | (intro b _ h1 h2; first | exact h2.elim | omega | (have h2 := h2; subst h2; omega) | (have := hlab b (by omega); omega)) | (intro h2; first | exact h2.elim | omega | (subst h2; omega) | (have := hlab p (by omega); omega))); have ha := ha.keep hk5 (by first | (intro b _ h1 h2; first | exact h2.elim | omega | (have h2 := h2; subst h2; omega) | (have := hlab b (by omega); omega)) | (intro h2; first | exact h2.elim | omega | (subst h2; omega) | (have := hlab p (by omega); omega)))
    (repeat (first|refine ja ?_|refine jb ?_|refine jc ?_|refine jd ?_|refine je ?_|refine jf ?_|refine jg ?_|refine jh ?_|refine ji ?_|refine jj ?_|refine jk ?_|refine jl ?_|refine jm ?_|refine jn ?_|refine jo ?_|refine jp ?_|refine jq ?_|refine jr ?_|refine js ?_|refine jt ?_|refine ju ?_|refine jv ?_|refine jw ?_|refine jx ?_|refine jy ?_|refine jz ?_|refine jA ?_|refine jB ?_|refine jC ?_|refine jD ?_|refine jE ?_|refine jF ?_|refine jG ?_|refine jH ?_|refine jI ?_|refine jJ ?_|refine jK ?_|refine jL ?_|refine jM (by assumption) ?_|refine jN (by assumption) rfl ?_|refine jO (by assumption) ?_|refine jP (by assumption) rfl ?_|refine jQ ?_|refine jR ?_|refine jS ?_|refine jT ?_|refine jU (by assumption) rfl ?_))
    refine hK (k + 1) _ _ (by omega) ⟨vo', _, by simp; omega, by omega, ?_, ha, by simp; omega, ?_, ?_⟩
    · have e1 : t.L.drop (t.L.length - (k + 1)) = e :: t.L.drop (t.L.length - k) := by
        have h2 : t.L.length - 1 - k = t.L.length - (k + 1) := by omega
        rw [h2] at hE
        obtain ⟨h3, h4⟩ := List.getElem?_eq_some_iff.1 hE
        rw [List.drop_eq_getElem_cons h3, h4]
        congr 2
        omega
      rw [e1]
      simp only [List.map_cons, List.reverse_cons]
      exact ho.mono fun b _ hb => by omega
    · intro v hv2
      by_cases hve : (e.lit / 2).toNat = v
      · subst hve
        rw [List.getElem?_set_self (by omega)]
        have h2 : (((e.lit / 2).toNat : Nat) : Int) = e.lit / 2 := by omega
        rw [h2, a5]
        have h3 : t.L.length - (k + 1) ≤ t.L.length - 1 - k := by omega
        simp [h3]
      · rw [List.getElem?_set_ne hve, hat v hv2]
        cases hi2 : t.idx v with
        | none => rfl
        | some i =>
          have hne : i ≠ t.L.length - 1 - k := by
            intro hh
            subst hh
            obtain ⟨e', he1, he2⟩ := Tr.idx_some hi2
            rw [hE] at he1
            obtain rfl := Option.some.inj he1
            omega
          have h4 : (t.L.length - k ≤ i) = (t.L.length - (k + 1) ≤ i) := by
            apply propext
            constructor <;> intro h5 <;> omega
          simp only [h4]
    · have b1 := hkeep.trans (hk2.mono (by intro b _ h1; first | exact h1.elim | omega | (have h1 := h1; subst h1; omega))) (fun _ _ h => h)
      have b2 := b1.trans hk3 (fun _ _ h => h)
      have b3 := b2.trans (hk4.mono (by intro b _ h1; first | exact h1.elim | omega | (have h1 := h1; subst h1; omega))) (fun _ _ h => h)
      exact b3.trans hk5 (fun b hb h => by omega)
  · have hkk : k = t.L.length - n := by omega
    subst hkk
    have e1 : t.L.length - (t.L.length - n) = n := by omega
    rw [e1] at ho
    simp only [e1] at hat
    have ok2 := ok.cut hfr hla hat
    have c1 := GI.cap_le hl
    have c2 := GI.cap_le hb
    have c3 := GI.cap_le hg
    (repeat (first|refine ja ?_|refine jb ?_|refine jc ?_|refine jd ?_|refine je ?_|refine jf ?_|refine jg ?_|refine jh ?_|refine ji ?_|refine jj ?_|refine jk ?_|refine jl ?_|refine jm ?_|refine jn ?_|refine jo ?_|refine jp ?_|refine jq ?_|refine jr ?_|refine js ?_|refine jt ?_|refine ju ?_|refine jv ?_|refine jw ?_|refine jx ?_|refine jy ?_|refine jz ?_|refine jA ?_|refine jB ?_|refine jC ?_|refine jD ?_|refine jE ?_|refine jF ?_|refine jG ?_|refine jH ?_|refine jI ?_|refine jJ ?_|refine jK ?_|refine jL ?_|refine jM (by assumption) ?_|refine jN (by assumption) rfl ?_|refine jO (by assumption) ?_|refine jP (by assumption) rfl ?_|refine jQ ?_|refine jR ?_|refine jS ?_|refine jT ?_|refine jU (by assumption) rfl ?_))
    refine M.slice_i 0 n cl (sl3_h (by omega)) ?_
    (repeat (first|refine ja ?_|refine jb ?_|refine jc ?_|refine jd ?_|refine je ?_|refine jf ?_|refine jg ?_|refine jh ?_|refine ji ?_|refine jj ?_|refine jk ?_|refine jl ?_|refine jm ?_|refine jn ?_|refine jo ?_|refine jp ?_|refine jq ?_|refine jr ?_|refine js ?_|refine jt ?_|refine ju ?_|refine jv ?_|refine jw ?_|refine jx ?_|refine jy ?_|refine jz ?_|refine jA ?_|refine jB ?_|refine jC ?_|refine jD ?_|refine jE ?_|refine jF ?_|refine jG ?_|refine jH ?_|refine jI ?_|refine jJ ?_|refine jK ?_|refine jL ?_|refine jM (by assumption) ?_|refine jN (by assumption) rfl ?_|refine jO (by assumption) ?_|refine jP (by assumption) rfl ?_|refine jQ ?_|refine jR ?_|refine jS ?_|refine jT ?_|refine jU (by assumption) rfl ?_))
    refine M.slice_i 0 n cb (sl3_h (by omega)) ?_
    (repeat (first|refine ja ?_|refine jb ?_|refine jc ?_|refine jd ?_|refine je ?_|refine jf ?_|refine jg ?_|refine jh ?_|refine ji ?_|refine jj ?_|refine jk ?_|refine jl ?_|refine jm ?_|refine jn ?_|refine jo ?_|refine jp ?_|refine jq ?_|refine jr ?_|refine js ?_|refine jt ?_|refine ju ?_|refine jv ?_|refine jw ?_|refine jx ?_|refine jy ?_|refine jz ?_|refine jA ?_|refine jB ?_|refine jC ?_|refine jD ?_|refine jE ?_|refine jF ?_|refine jG ?_|refine jH ?_|refine jI ?_|refine jJ ?_|refine jK ?_|refine jL ?_|refine jM (by assumption) ?_|refine jN (by assumption) rfl ?_|refine jO (by assumption) ?_|refine jP (by assumption) rfl ?_|refine jQ ?_|refine jR ?_|refine jS ?_|refine jT ?_|refine jU (by assumption) rfl ?_))
    obtain ⟨m, rfl⟩ : ∃ m : Nat, l = m := ⟨l.toNat, by omega⟩
    refine M.slice_i 0 m cg (sl3_h (by omega)) ?_
    have hl := GI.cut hl (m := n) (by simp; omega)
    have hb := GI.cut hb (m := n) (by omega)
    have hg := GI.cut hg (m := m) (by omega)
    (repeat (first|refine ja ?_|refine jb ?_|refine jc ?_|refine jd ?_|refine je ?_|refine jf ?_|refine jg ?_|refine jh ?_|refine ji ?_|refine jj ?_|refine jk ?_|refine jl ?_|refine jm ?_|refine jn ?_|refine jo ?_|refine jp ?_|refine jq ?_|refine jr ?_|refine js ?_|refine jt ?_|refine ju ?_|refine jv ?_|refine jw ?_|refine jx ?_|refine jy ?_|refine jz ?_|refine jA ?_|refine jB ?_|refine jC ?_|refine jD ?_|refine jE ?_|refine jF ?_|refine jG ?_|refine jH ?_|refine jI ?_|refine jJ ?_|refine jK ?_|refine jL ?_|refine jM (by assumption) ?_|refine jN (by assumption) rfl ?_|refine jO (by assumption) ?_|refine jP (by assumption) rfl ?_|refine jQ ?_|refine jR ?_|refine jS ?_|refine jT ?_|refine jU (by assumption) rfl ?_))
    refine M.store_i hB.drew (by simp) hl.one (fun w6 hB hk6 hs6 => ?_)
    have hk6 := hk6.of_drew
    have hl := hl.keep hk6 (by first | (intro b _ h1 h2; first | exact h2.elim | omega | (have h2 := h2; subst h2; omega) | (have := hlab b (by omega); omega)) | (intro h2; first | exact h2.elim | omega | (subst h2; omega) | (have := hlab p (by omega); omega))); have hb := hb.keep hk6 (by first | (intro b _ h1 h2; first | exact h2.elim | omega | (have h2 := h2; subst h2; omega) | (have := hlab b (by omega); omega)) | (intro h2; first | exact h2.elim | omega | (subst h2; omega) | (have := hlab p (by omega); omega))); have hg := hg.keep hk6 (by first | (intro b _ h1 h2; first | exact h2.elim | omega | (have h2 := h2; subst h2; omega) | (have := hlab b (by omega); omega)) | (intro h2; first | exact h2.elim | omega | (subst h2; omega) | (have := hlab p (by omega); omega))); have ha := ha.keep hk6 (by first | (intro b _ h1 h2; first | exact h2.elim | omega | (have h2 := h2; subst h2; omega) | (have := hlab b (by omega); omega)) | (intro h2; first | exact h2.elim | omega | (subst h2; omega) | (have := hlab p (by omega); omega))); have he := he.keep hk6 (by first | (intro b _ h1 h2; first | exact h2.elim | omega | (have h2 := h2; subst h2; omega) | (have := hlab b (by omega); omega)) | (intro h2; first | exact h2.elim | omega | (subst h2; omega) | (have := hlab p (by omega); omega))); have hr := hr.keep hk6 (by first | (intro b _ h1 h2; first | exact h2.elim | omega | (have h2 := h2; subst h2; omega) | (have := hlab b (by omega); omega)) | (intro h2; first | exact h2.elim | omega | (subst h2; omega) | (have := hlab p (by omega); omega))); have ho := ho.keep hk6 (by first | (intro b _ h1 h2; first | exact h2.elim | omega | (have h2 := h2; subst h2; omega) | (have := hlab b (by omega); omega)) | (intro h2; first | exact h2.elim | omega | (subst h2; omega) | (have := hlab p (by omega); omega)))
    (repeat (first|refine ja ?_|refine jb ?_|refine jc ?_|refine jd ?_|refine je ?_|refine jf ?_|refine jg ?_|refine jh ?_|refine ji ?_|refine jj ?_|refine jk ?_|refine jl ?_|refine jm ?_|refine jn ?_|refine jo ?_|refine jp ?_|refine jq ?_|refine jr ?_|refine js ?_|refine jt ?_|refine ju ?_|refine jv ?_|refine jw ?_|refine jx ?_|refine jy ?_|refine jz ?_|refine jA ?_|refine jB ?_|refine jC ?_|refine jD ?_|refine jE ?_|refine jF ?_|refine jG ?_|refine jH ?_|refine jI ?_|refine jJ ?_|refine jK ?_|refine jL ?_|refine jM (by assumption) ?_|refine jN (by assumption) rfl ?_|refine jO (by assumption) ?_|refine jP (by assumption) rfl ?_|refine jQ ?_|refine jR ?_|refine jS ?_|refine jT ?_|refine jU (by assumption) rfl ?_))
    refine M.store_i hB (by simp) hb.one (fun w7 hB hk7 hs7 => ?_)
    have hl := hl.keep hk7 (by first | (intro b _ h1 h2; first | exact h2.elim | omega | (have h2 := h2; subst h2; omega) | (have := hlab b (by omega); omega)) | (intro h2; first | exact h2.elim | omega | (subst h2; omega) | (have := hlab p (by omega); omega))); have hb := hb.keep hk7 (by first | (intro b _ h1 h2; first | exact h2.elim | omega | (have h2 := h2; subst h2; omega) | (have := hlab b (by omega); omega)) | (intro h2; first | exact h2.elim | omega | (subst h2; omega) | (have := hlab p (by omega); omega))); have hg := hg.keep hk7 (by first | (intro b _ h1 h2; first | exact h2.elim | omega | (have h2 := h2; subst h2; omega) | (have := hlab b (by omega); omega)) | (intro h2; first | exact h2.elim | omega | (subst h2; omega) | (have := hlab p (by omega); omega))); have ha := ha.keep hk7 (by first | (intro b _ h1 h2; first | exact h2.elim | omega | (have h2 := h2; subst h2; omega) | (have := hlab b (by omega); omega)) | (intro h2; first | exact h2.elim | omega | (subst h2; omega) | (have := hlab p (by omega); omega))); have he := he.keep hk7 (by first | (intro b _ h1 h2; first | exact h2.elim | omega | (have h2 := h2; subst h2; omega) | (have := hlab b (by omega); omega)) | (intro h2; first | exact h2.elim | omega | (subst h2; omega) | (have := hlab p (by omega); omega))); have hr := hr.keep hk7 (by first | (intro b _ h1 h2; first | exact h2.elim | omega | (have h2 := h2; subst h2; omega) | (have := hlab b (by omega); omega)) | (intro h2; first | exact h2.elim | omega | (subst h2; omega) | (have := hlab p (by omega); omega))); have ho := ho.keep hk7 (by first | (intro b _ h1 h2; first | exact h2.elim | omega | (have h2 := h2; subst h2; omega) | (have := hlab b (by omega); omega)) | (intro h2; first | exact h2.elim | omega | (subst h2; omega) | (have := hlab p (by omega); omega)))
    (repeat (first|refine ja ?_|refine jb ?_|refine jc ?_|refine jd ?_|refine je ?_|refine jf ?_|refine jg ?_|refine jh ?_|refine ji ?_|refine jj ?_|refine jk ?_|refine jl ?_|refine jm ?_|refine jn ?_|refine jo ?_|refine jp ?_|refine jq ?_|refine jr ?_|refine js ?_|refine jt ?_|refine ju ?_|refine jv ?_|refine jw ?_|refine jx ?_|refine jy ?_|refine jz ?_|refine jA ?_|refine jB ?_|refine jC ?_|refine jD ?_|refine jE ?_|refine jF ?_|refine jG ?_|refine jH ?_|refine jI ?_|refine jJ ?_|refine jK ?_|refine jL ?_|refine jM (by assumption) ?_|refine jN (by assumption) rfl ?_|refine jO (by assumption) ?_|refine jP (by assumption) rfl ?_|refine jQ ?_|refine jR ?_|refine jS ?_|refine jT ?_|refine jU (by assumption) rfl ?_))
    refine M.store_i hB (by simp) hg.one (fun w8 hB hk8 hs8 => ?_)
    have hl := hl.keep hk8 (by first | (intro b _ h1 h2; first | exact h2.elim | omega | (have h2 := h2; subst h2; omega) | (have := hlab b (by omega); omega)) | (intro h2; first | exact h2.elim | omega | (subst h2; omega) | (have := hlab p (by omega); omega))); have hb := hb.keep hk8 (by first | (intro b _ h1 h2; first | exact h2.elim | omega | (have h2 := h2; subst h2; omega) | (have := hlab b (by omega); omega)) | (intro h2; first | exact h2.elim | omega | (subst h2; omega) | (have := hlab p (by omega); omega))); have hg := hg.keep hk8 (by first | (intro b _ h1 h2; first | exact h2.elim | omega | (have h2 := h2; subst h2; omega) | (have := hlab b (by omega); omega)) | (intro h2; first | exact h2.elim | omega | (subst h2; omega) | (have := hlab p (by omega); omega))); have ha := ha.keep hk8 (by first | (intro b _ h1 h2; first | exact h2.elim | omega | (have h2 := h2; subst h2; omega) | (have := hlab b (by omega); omega)) | (intro h2; first | exact h2.elim | omega | (subst h2; omega) | (have := hlab p (by omega); omega))); have he := he.keep hk8 (by first | (intro b _ h1 h2; first | exact h2.elim | omega | (have h2 := h2; subst h2; omega) | (have := hlab b (by omega); omega)) | (intro h2; first | exact h2.elim | omega | (subst h2; omega) | (have := hlab p (by omega); omega))); have hr := hr.keep hk8 (by first | (intro b _ h1 h2; first | exact h2.elim | omega | (have h2 := h2; subst h2; omega) | (have := hlab b (by omega); omega)) | (intro h2; first | exact h2.elim | omega | (subst h2; omega) | (have := hlab p (by omega); omega))); have ho := ho.keep hk8 (by first | (intro b _ h1 h2; first | exact h2.elim | omega | (have h2 := h2; subst h2; omega) | (have := hlab b (by omega); omega)) | (intro h2; first | exact h2.elim | omega | (subst h2; omega) | (have := hlab p (by omega); omega)))
    have e2 : t.back m = ({ t with L := t.L.take n, born := t.born.take n, begins := t.begins.take m }, ((t.L.drop n).map fun e => e.lit / 2).reverse) := by
      simp only [Int.toNat_natCast] at hfr
      simp [Tr.back, h0, hfr]
    rw [e2]
    refine ⟨ho, ⟨_, _, _, _, _, _, _, _, _, hB, ?_, ?_, ?_, ha, he, hr, hp, fun b hb => ?_, by simpa using ok2⟩, ?_⟩
    · simpa [GI, List.map_take] using hl
    · simpa [GI] using hb
    · simpa [GI] using hg
    · have := hlab b hb; have := hk6.size; have := hk7.size; have := hk8.size
      omega
    · have b1 := (hkeep.mono (T := fun b => lab b ≠ 0) (by intro b _ h1; first | exact h1.elim | omega | (have h1 := h1; subst h1; omega))).trans (hk6.mono (T := fun b => lab b ≠ 0) (by intro b _ h1; first | exact h1.elim | omega | (have h1 := h1; subst h1; omega))) (fun _ _ h => h)
      exact (b1.trans (hk7.mono (T := fun b => lab b ≠ 0) (by intro b _ h1; first | exact h1.elim | omega | (have h1 := h1; subst h1; omega))) (fun _ _ h => h)).trans (hk8.mono (T := fun b => lab b ≠ 0) (by intro b _ h1; first | exact h1.elim | omega | (have h1 := h1; subst h1; omega))) (fun _ _ h => h)

def Tr.new (vars : Int) : Tr := { vars := if vars < 0 ∨ 1048576 < vars then 0 else vars.toNat, L := [], begins := [], born := [], count := 0 }
/-! breakwater/trail.New: function 9 -/
def sh9 (x0 : Value) (R : Kt) (w : World) : Prop :=
  M.share (fun K1 w =>
  M.bin .lss x0 (Value.int IntKind.i64 0) (fun t6 w =>
  M.gd t6 false (fun k w => k x0 w) (fun t8 w =>
  M.gd t6 false (fun k w => M.bin .gtr t8 (Value.int IntKind.i64 1048576) k w) (fun t9 w =>
  M.pick t6 (Value.bool true) t9 (fun t10 w =>
  M.cond t10
  (K1 [(Value.int IntKind.i64 0)] w)
  (K1 [x0] w)) w) w) w) w) (fun s1 w => ∀ _ : List Value,
  M.share (fun K2 w =>
  M.draw (fun w =>
  ((M.makeSlice 3 1 8 #[.int .i64 0] (s1.getD 0 undef) (s1.getD 0 undef) (fun t12 w =>
  ((M.makeSlice 3 1 8 #[.int .i64 0] (s1.getD 0 undef) (s1.getD 0 undef) (fun t14 w =>
  M.makeSlice 3 1 8 #[.int .i64 0] (s1.getD 0 undef) (s1.getD 0 undef) (fun t16 w =>
  pureW Try.prog (Instr.build 60 #[(4, t12), (5, t14), (6, t16)]) (fun t17 w =>
  M.new 60 (Value.cells t17) (fun t18 w =>
  K2 [t18] w) w) w) w) w) ∧
   (M.makeSlice 3 1 8 #[.int .i64 0] (s1.getD 0 undef) (s1.getD 0 undef) (fun t16_2 w =>
  M.makeSlice 3 1 8 #[.int .i64 0] (s1.getD 0 undef) (s1.getD 0 undef) (fun t14_2 w =>
  pureW Try.prog (Instr.build 60 #[(4, t12), (5, t14_2), (6, t16_2)]) (fun t17_2 w =>
  M.new 60 (Value.cells t17_2) (fun t18_2 w =>
  K2 [t18_2] w) w) w) w) w))) w) ∧
   (M.makeSlice 3 1 8 #[.int .i64 0] (s1.getD 0 undef) (s1.getD 0 undef) (fun t14_3 w =>
  ((M.makeSlice 3 1 8 #[.int .i64 0] (s1.getD 0 undef) (s1.getD 0 undef) (fun t12_2 w =>
  M.makeSlice 3 1 8 #[.int .i64 0] (s1.getD 0 undef) (s1.getD 0 undef) (fun t16_3 w =>
  pureW Try.prog (Instr.build 60 #[(4, t12_2), (5, t14_3), (6, t16_3)]) (fun t17_3 w =>
  M.new 60 (Value.cells t17_3) (fun t18_3 w =>
  K2 [t18_3] w) w) w) w) w) ∧
   (M.makeSlice 3 1 8 #[.int .i64 0] (s1.getD 0 undef) (s1.getD 0 undef) (fun t16_4 w =>
  M.makeSlice 3 1 8 #[.int .i64 0] (s1.getD 0 undef) (s1.getD 0 undef) (fun t12_3 w =>
  pureW Try.prog (Instr.build 60 #[(4, t12_3), (5, t14_3), (6, t16_4)]) (fun t17_4 w =>
  M.new 60 (Value.cells t17_4) (fun t18_4 w =>
  K2 [t18_4] w) w) w) w) w))) w) ∧
   (M.makeSlice 3 1 8 #[.int .i64 0] (s1.getD 0 undef) (s1.getD 0 undef) (fun t16_5 w =>
  ((M.makeSlice 3 1 8 #[.int .i64 0] (s1.getD 0 undef) (s1.getD 0 undef) (fun t12_4 w =>
  M.makeSlice 3 1 8 #[.int .i64 0] (s1.getD 0 undef) (s1.getD 0 undef) (fun t14_4 w =>
  pureW Try.prog (Instr.build 60 #[(4, t12_4), (5, t14_4), (6, t16_5)]) (fun t17_5 w =>
  M.new 60 (Value.cells t17_5) (fun t18_5 w =>
  K2 [t18_5] w) w) w) w) w) ∧
   (M.makeSlice 3 1 8 #[.int .i64 0] (s1.getD 0 undef) (s1.getD 0 undef) (fun t14_5 w =>
  M.makeSlice 3 1 8 #[.int .i64 0] (s1.getD 0 undef) (s1.getD 0 undef) (fun t12_5 w =>
  pureW Try.prog (Instr.build 60 #[(4, t12_5), (5, t14_5), (6, t16_5)]) (fun t17_6 w =>
  M.new 60 (Value.cells t17_6) (fun t18_6 w =>
  K2 [t18_6] w) w) w) w) w))) w))) w) (fun s2 w => ∀ _ : List Value,
  M.nilCheck (s2.getD 0 undef) (fun t20 w =>
  M.fieldAddr 4 t20 (fun t21 w =>
  M.load1 t21 (fun t22 w =>
  M.len t22 (fun t23 w =>
  M.loop [(Value.int IntKind.i64 0)] (fun s3 K3 w => ∀ _ : List Value,
  M.bin .lss (s3.getD 0 undef) t23 (fun t25 w =>
  M.cond t25
  (M.nilCheck (s2.getD 0 undef) (fun t28 w =>
  M.fieldAddr 4 t28 (fun t29 w =>
  M.load1 t29 (fun t30 w =>
  M.indexSl 1 t30 (s3.getD 0 undef) (fun t32 w =>
  M.store 1 t32 (Value.int IntKind.i64 (-1)) (fun _ w =>
  M.bin .add (s3.getD 0 undef) (Value.int IntKind.i64 1) (fun t33 w =>
  K3 [t33] w) w) w) w) w) w) w)
  (R (s2.getD 0 undef) w)) w) w) w) w) w) w) w) w
theorem ok9 (x0 : Value) (R : Kt) (w : World) (h : sh9 x0 R w) : Ret Try.prog 9 #[x0] w R :=
  ret_mk <| calls_of_comp mixed (c := Try.f9.body.getD .skip) (args := [x0]) (rs := [(ResultVar.tmp 2)]) (Ann.seq Ann.text (Ann.join [0] [5, 6, 7, 8, 9, 10] (Ann.seq Ann.text (Ann.cond Ann.text Ann.leaf)) (Ann.join [3] [11, 12, 13, 14, 15, 16, 17, 18] (Ann.draw (Sch.take 0 (Sch.take 2 (Sch.take 4 (Sch.three 1 3 5 (Sch.two 3 5 (Sch.one 5 (Sch.take 6 (Sch.one 7 (Sch.take 8 Sch.done)))) (Sch.one 3 (Sch.take 6 (Sch.one 7 (Sch.take 8 Sch.done))))) (Sch.two 1 5 (Sch.one 5 (Sch.take 6 (Sch.one 7 (Sch.take 8 Sch.done)))) (Sch.one 1 (Sch.take 6 (Sch.one 7 (Sch.take 8 Sch.done))))) (Sch.two 1 3 (Sch.one 3 (Sch.take 6 (Sch.one 7 (Sch.take 8 Sch.done)))) (Sch.one 1 (Sch.take 6 (Sch.one 7 (Sch.take 8 Sch.done)))))))))) (Ann.seq (Ann.seq Ann.text (Ann.block (Ann.loop [24] [4, 25, 26, 27, 28, 29, 30, 31, 32, 33] (Ann.seq Ann.text (Ann.seq (Ann.cond Ann.leaf Ann.leaf) (Ann.seq (Ann.block (Ann.seq Ann.text Ann.text)) Ann.text)))))) (Ann.seq Ann.text Ann.leaf)))))
    Try.func9 (by kernel_rfl) (by kernel_rfl)
    (Eq.mp (by kernel_rfl) h)
/-! (*breakwater/trail.Trail).Born: function 34 -/
def sh34 (x0 x1 : Value) (R : Kt) (w : World) : Prop :=
  M.eqNil 0 false x0 (fun t6 w =>
  M.gd t6 false (fun k w => k x1 w) (fun t8 w =>
  M.gd t6 false (fun k w => M.bin .lss t8 (Value.int IntKind.i64 0) k w) (fun t9 w =>
  M.pick t6 (Value.bool true) t9 (fun t10 w =>
  M.gd t10 false (fun k w => k x1 w) (fun t12 w =>
  M.gd t10 false (fun k w => k x0 w) (fun t13 w =>
  M.gd t10 false (fun k w => M.nilCheck t13 k w) (fun t14 w =>
  M.gd t10 false (fun k w => M.fieldAddr 1 t14 k w) (fun t15 w =>
  M.gd t10 false (fun k w => M.load1 t15 k w) (fun t16 w =>
  M.gd t10 false (fun k w => M.len t16 k w) (fun t17 w =>
  M.gd t10 false (fun k w => M.bin .geq t12 t17 k w) (fun t18 w =>
  M.pick t10 (Value.bool true) t18 (fun t19 w =>
  M.cond t19
  (R (Value.int IntKind.i64 0) w)
  (M.nilCheck x0 (fun t21 w =>
  M.fieldAddr 1 t21 (fun t22 w =>
  M.load1 t22 (fun t23 w =>
  M.indexSl 1 t23 x1 (fun t25 w =>
  M.load1 t25 (fun t26 w =>
  R t26 w) w) w) w) w) w)) w) w) w) w) w) w) w) w) w) w) w) w
theorem ok34 (x0 x1 : Value) (R : Kt) (w : World) (h : sh34 x0 x1 R w) : Ret Try.prog 34 #[x0, x1] w R :=
  ret_mk <| calls_of_comp mixed (c := Try.f34.body.getD .skip) (args := [x0, x1]) (rs := [(ResultVar.tmp 4)]) (Ann.seq Ann.text (Ann.seq (Ann.seq Ann.text (Ann.cond (Ann.seq Ann.text Ann.leaf) Ann.leaf)) (Ann.seq Ann.text Ann.leaf)))
    Try.func34 (by kernel_rfl) (by kernel_rfl)
    (Eq.mp (by kernel_rfl) h)

theorem born_nil (l : Int) (w : World) : Ret Try.prog 34 #[nilp, vi l] w (fun v w' => v = vi 0 ∧ Keep w w' No) := by
  refine ok34 _ _ _ _ ?_
  unfold sh34
  (repeat (first|refine ja ?_|refine jb ?_|refine jc ?_|refine jd ?_|refine je ?_|refine jf ?_|refine jg ?_|refine jh ?_|refine ji ?_|refine jj ?_|refine jk ?_|refine jl ?_|refine jm ?_|refine jn ?_|refine jo ?_|refine jp ?_|refine jq ?_|refine jr ?_|refine js ?_|refine jt ?_|refine ju ?_|refine jv ?_|refine jw ?_|refine jx ?_|refine jy ?_|refine jz ?_|refine jA ?_|refine jB ?_|refine jC ?_|refine jD ?_|refine jE ?_|refine jF ?_|refine jG ?_|refine jH ?_|refine jI ?_|refine jJ ?_|refine jK ?_|refine jL ?_|refine jM (by assumption) ?_|refine jN (by assumption) rfl ?_|refine jO (by assumption) ?_|refine jP (by assumption) rfl ?_|refine jQ ?_|refine jR ?_|refine jS ?_|refine jT ?_|refine jU (by assumption) rfl ?_))
  exact ⟨rfl, Keep.refl _ _⟩
def Tr.bornAt (t : Tr) (i : Int) : Int := if i < 0 then 0 else match t.born[i.toNat]? with
  | some x => x
  | none => 0
theorem born_ret {w : World} {p : Nat} {lab : Nat → Nat} {t : Tr} (h : TRep w p lab t) (l : Int) :
    Ret Try.prog 34 #[ptr p, vi l] w (fun v w' => v = vi (t.bornAt l) ∧ Keep w w' No) := by
  obtain ⟨vl, vb, vg, va, ve, vr, at1, levels, reasons, hB, hl, hb, hg, ha, he, hr, hp, hlab, ok⟩ := id h
  obtain ⟨Ab, cb, rfl, rb⟩ := hb.row
  refine ok34 _ _ _ _ ?_
  unfold sh34
  by_cases h0 : l < 0
  · (repeat (first|refine ja ?_|refine jb ?_|refine jc ?_|refine jd ?_|refine je ?_|refine jf ?_|refine jg ?_|refine jh ?_|refine ji ?_|refine jj ?_|refine jk ?_|refine jl ?_|refine jm ?_|refine jn ?_|refine jo ?_|refine jp ?_|refine jq ?_|refine jr ?_|refine js ?_|refine jt ?_|refine ju ?_|refine jv ?_|refine jw ?_|refine jx ?_|refine jy ?_|refine jz ?_|refine jA ?_|refine jB ?_|refine jC ?_|refine jD ?_|refine jE ?_|refine jF ?_|refine jG ?_|refine jH ?_|refine jI ?_|refine jJ ?_|refine jK ?_|refine jL ?_|refine jM (by assumption) ?_|refine jN (by assumption) rfl ?_|refine jO (by assumption) ?_|refine jP (by assumption) rfl ?_|refine jQ ?_|refine jR ?_|refine jS ?_|refine jT ?_|refine jU (by assumption) rfl ?_))
    exact ⟨by simp [Tr.bornAt, h0], Keep.refl _ _⟩
  by_cases h1 : (t.born.length : Int) ≤ l
  · (repeat (first|refine ja ?_|refine jb ?_|refine jc ?_|refine jd ?_|refine je ?_|refine jf ?_|refine jg ?_|refine jh ?_|refine ji ?_|refine jj ?_|refine jk ?_|refine jl ?_|refine jm ?_|refine jn ?_|refine jo ?_|refine jp ?_|refine jq ?_|refine jr ?_|refine js ?_|refine jt ?_|refine ju ?_|refine jv ?_|refine jw ?_|refine jx ?_|refine jy ?_|refine jz ?_|refine jA ?_|refine jB ?_|refine jC ?_|refine jD ?_|refine jE ?_|refine jF ?_|refine jG ?_|refine jH ?_|refine jI ?_|refine jJ ?_|refine jK ?_|refine jL ?_|refine jM (by assumption) ?_|refine jN (by assumption) rfl ?_|refine jO (by assumption) ?_|refine jP (by assumption) rfl ?_|refine jQ ?_|refine jR ?_|refine jS ?_|refine jT ?_|refine jU (by assumption) rfl ?_))
    have : t.born[l.toNat]? = none := List.getElem?_eq_none (by omega)
    exact ⟨by simp [Tr.bornAt, h0, this], Keep.refl _ _⟩
  (repeat (first|refine ja ?_|refine jb ?_|refine jc ?_|refine jd ?_|refine je ?_|refine jf ?_|refine jg ?_|refine jh ?_|refine ji ?_|refine jj ?_|refine jk ?_|refine jl ?_|refine jm ?_|refine jn ?_|refine jo ?_|refine jp ?_|refine jq ?_|refine jr ?_|refine js ?_|refine jt ?_|refine ju ?_|refine jv ?_|refine jw ?_|refine jx ?_|refine jy ?_|refine jz ?_|refine jA ?_|refine jB ?_|refine jC ?_|refine jD ?_|refine jE ?_|refine jF ?_|refine jG ?_|refine jH ?_|refine jI ?_|refine jJ ?_|refine jK ?_|refine jL ?_|refine jM (by assumption) ?_|refine jN (by assumption) rfl ?_|refine jO (by assumption) ?_|refine jP (by assumption) rfl ?_|refine jQ ?_|refine jR ?_|refine jS ?_|refine jT ?_|refine jU (by assumption) rfl ?_))
  refine M.idxRow_i rb (by simp) (by omega) (by omega) (fun b o hA hc => ?_)
  obtain ⟨x, hx⟩ : ∃ x, t.born[l.toNat]? = some x := ⟨_, List.getElem?_eq_getElem (by omega)⟩
  rw [List.getElem?_map, hx] at hc
  simp only [Option.map_some] at hc
  (repeat (first|refine ja ?_|refine jb ?_|refine jc ?_|refine jd ?_|refine je ?_|refine jf ?_|refine jg ?_|refine jh ?_|refine ji ?_|refine jj ?_|refine jk ?_|refine jl ?_|refine jm ?_|refine jn ?_|refine jo ?_|refine jp ?_|refine jq ?_|refine jr ?_|refine js ?_|refine jt ?_|refine ju ?_|refine jv ?_|refine jw ?_|refine jx ?_|refine jy ?_|refine jz ?_|refine jA ?_|refine jB ?_|refine jC ?_|refine jD ?_|refine jE ?_|refine jF ?_|refine jG ?_|refine jH ?_|refine jI ?_|refine jJ ?_|refine jK ?_|refine jL ?_|refine jM (by assumption) ?_|refine jN (by assumption) rfl ?_|refine jO (by assumption) ?_|refine jP (by assumption) rfl ?_|refine jQ ?_|refine jR ?_|refine jS ?_|refine jT ?_|refine jU (by assumption) rfl ?_))
  exact ⟨by simp [Tr.bornAt, h0, hx], Keep.refl _ _⟩

/-- A trail's memory, as it is made. -/
def NewMem (w0 w : World) (n p ba be br : Nat) : Prop :=
  Blk w p [.slice none 0 0, .slice none 0 0, vi 0, .slice none 0 0, .slice (some ⟨ba, 0, none⟩) n n, .slice (some ⟨be, 0, none⟩) n n, .slice (some ⟨br, 0, none⟩) n n] ∧
  Blk w ba (List.replicate n (vi 0)) ∧ Blk w be (List.replicate n (vi 0)) ∧ Blk w br (List.replicate n (vi 0)) ∧
  p ≠ ba ∧ p ≠ be ∧ p ≠ br ∧ ba ≠ be ∧ ba ≠ br ∧ be ≠ br ∧ w0.heap.size ≤ p ∧ w0.heap.size ≤ ba ∧ w0.heap.size ≤ be ∧ w0.heap.size ≤ br ∧ Keep w0 w No
set_option maxHeartbeats 1000000 in
theorem new_ret (vars : Int) (w : World) : Ret Try.prog 9 #[vi vars] w (fun v w' => ∃ p lab, v = ptr p ∧ TRep w' p lab (Tr.new vars) ∧ Keep w w' No ∧ ∀ b, lab b ≠ 0 → w.heap.size ≤ b) := by
  refine ok9 _ _ _ ?_
  unfold sh9
  refine M.share_j (fun vals w' => ∃ n : Nat, vals = [vi n] ∧ n = (Tr.new vars).vars ∧ w' = w) ?_ ?_
  case refine_2 =>
    intro K hK
    by_cases h0 : vars < 0
    · (repeat (first|refine ja ?_|refine jb ?_|refine jc ?_|refine jd ?_|refine je ?_|refine jf ?_|refine jg ?_|refine jh ?_|refine ji ?_|refine jj ?_|refine jk ?_|refine jl ?_|refine jm ?_|refine jn ?_|refine jo ?_|refine jp ?_|refine jq ?_|refine jr ?_|refine js ?_|refine jt ?_|refine ju ?_|refine jv ?_|refine jw ?_|refine jx ?_|refine jy ?_|refine jz ?_|refine jA ?_|refine jB ?_|refine jC ?_|refine jD ?_|refine jE ?_|refine jF ?_|refine jG ?_|refine jH ?_|refine jI ?_|refine jJ ?_|refine jK ?_|refine jL ?_|refine jM (by assumption) ?_|refine jN (by assumption) rfl ?_|refine jO (by assumption) ?_|refine jP (by assumption) rfl ?_|refine jQ ?_|refine jR ?_|refine jS ?_|refine jT ?_|refine jU (by assumption) rfl ?_))
      exact hK _ _ ⟨0, rfl, by simp [Tr.new, h0], rfl⟩
    by_cases h1 : 1048576 < vars
    · (repeat (first|refine ja ?_|refine jb ?_|refine jc ?_|refine jd ?_|refine je ?_|refine jf ?_|refine jg ?_|refine jh ?_|refine ji ?_|refine jj ?_|refine jk ?_|refine jl ?_|refine jm ?_|refine jn ?_|refine jo ?_|refine jp ?_|refine jq ?_|refine jr ?_|refine js ?_|refine jt ?_|refine ju ?_|refine jv ?_|refine jw ?_|refine jx ?_|refine jy ?_|refine jz ?_|refine jA ?_|refine jB ?_|refine jC ?_|refine jD ?_|refine jE ?_|refine jF ?_|refine jG ?_|refine jH ?_|refine jI ?_|refine jJ ?_|refine jK ?_|refine jL ?_|refine jM (by assumption) ?_|refine jN (by assumption) rfl ?_|refine jO (by assumption) ?_|refine jP (by assumption) rfl ?_|refine jQ ?_|refine jR ?_|refine jS ?_|refine jT ?_|refine jU (by assumption) rfl ?_))
      exact hK _ _ ⟨0, rfl, by simp [Tr.new, h1], rfl⟩
    · (repeat (first|refine ja ?_|refine jb ?_|refine jc ?_|refine jd ?_|refine je ?_|refine jf ?_|refine jg ?_|refine jh ?_|refine ji ?_|refine jj ?_|refine jk ?_|refine jl ?_|refine jm ?_|refine jn ?_|refine jo ?_|refine jp ?_|refine jq ?_|refine jr ?_|refine js ?_|refine jt ?_|refine ju ?_|refine jv ?_|refine jw ?_|refine jx ?_|refine jy ?_|refine jz ?_|refine jA ?_|refine jB ?_|refine jC ?_|refine jD ?_|refine jE ?_|refine jF ?_|refine jG ?_|refine jH ?_|refine jI ?_|refine jJ ?_|refine jK ?_|refine jL ?_|refine jM (by assumption) ?_|refine jN (by assumption) rfl ?_|refine jO (by assumption) ?_|refine jP (by assumption) rfl ?_|refine jQ ?_|refine jR ?_|refine jS ?_|refine jT ?_|refine jU (by assumption) rfl ?_))
      have e : ((vars.toNat : Nat) : Int) = vars := by omega
      refine hK _ _ ⟨vars.toNat, by rw [e], by simp [Tr.new, h0, h1], rfl⟩
  rintro vals w' ⟨n, rfl, hn, rfl⟩ _
  have hnv : n ≤ 1048576 := by
    rw [hn]
    unfold Tr.new
    simp only
    split <;> omega
  simp only [List.getD_cons_zero, List.getD_cons_succ]
  refine M.share_j (fun vals w1 => ∃ p ba be br, vals = [ptr p] ∧ NewMem w' w1 n p ba be br) ?_ ?_
  case refine_2 =>
    intro K hK
    refine M.draw_i ?_
    have step : ∀ (k : Kt) (w1 : World), (∀ w2, Blk w2 w1.heap.size (List.replicate n (vi 0)) → Keep w1 w2 No → w2.heap.size = w1.heap.size + 1 → k (.slice (some ⟨w1.heap.size, 0, none⟩) n n) w2) →
        M.makeSlice 3 1 8 #[.int .i64 0] (vi n) (vi n) k w1 := fun k w1 h => M.makeSlice_i rfl rfl (by omega) (by omega) h
    have bld : ∀ (x y z : Nat) (k : Kt) (w3 : World), k (.agg ⟨[.slice none 0 0, .slice none 0 0, vi 0, .slice none 0 0, .slice (some ⟨x, 0, none⟩) n n, .slice (some ⟨y, 0, none⟩) n n, .slice (some ⟨z, 0, none⟩) n n]⟩) w3 →
        pureW Try.prog (Instr.build 60 #[(4, .slice (some ⟨x, 0, none⟩) n n), (5, .slice (some ⟨y, 0, none⟩) n n), (6, .slice (some ⟨z, 0, none⟩) n n)]) k w3 :=
      fun x y z k w3 h => M.pure_i _ (fun _ => by kernel_rfl) h
    have q0 : Keep w' w'.drew No := Keep.drew _ _
    have qq : w'.drew.heap.size = w'.heap.size := rfl
    refine ⟨step _ _ fun w1 b1 k1 s1 => ⟨step _ _ fun w2 b2 k2 s2 => step _ _ fun w3 b3 k3 s3 => ?_, step _ _ fun w2 b2 k2 s2 => step _ _ fun w3 b3 k3 s3 => ?_⟩,
      step _ _ fun w1 b1 k1 s1 => ⟨step _ _ fun w2 b2 k2 s2 => step _ _ fun w3 b3 k3 s3 => ?_, step _ _ fun w2 b2 k2 s2 => step _ _ fun w3 b3 k3 s3 => ?_⟩,
      step _ _ fun w1 b1 k1 s1 => ⟨step _ _ fun w2 b2 k2 s2 => step _ _ fun w3 b3 k3 s3 => ?_, step _ _ fun w2 b2 k2 s2 => step _ _ fun w3 b3 k3 s3 => ?_⟩⟩
    all_goals
      refine bld _ _ _ _ _ ?_
      refine M.new_i (fun w4 b4 k4 s4 => ?_)
      have b1 := ((b1.keep k2 (fun h => h)).keep k3 (fun h => h)).keep k4 (fun h => h)
      have b2 := (b2.keep k3 (fun h => h)).keep k4 (fun h => h)
      have b3 := b3.keep k4 (fun h => h)
      refine hK _ _ ⟨_, _, _, _, rfl, b4, by assumption, by assumption, by assumption, by omega, by omega, by omega, by omega, by omega, by omega, by omega, by omega, by omega, by omega, ?_⟩
      exact (((q0.trans k1 (fun _ _ h => h)).trans k2 (fun _ _ h => h)).trans k3 (fun _ _ h => h)).trans k4 (fun _ _ h => h)
  rintro vals w1 ⟨p, ba, be, br, rfl, hB, ha, he, hr, n1, n2, n3, n4, n5, n6, s1, s2, s3, s4, hk⟩ _
  simp only [List.getD_cons_zero, List.getD_cons_succ]
  (repeat (first|refine ja ?_|refine jb ?_|refine jc ?_|refine jd ?_|refine je ?_|refine jf ?_|refine jg ?_|refine jh ?_|refine ji ?_|refine jj ?_|refine jk ?_|refine jl ?_|refine jm ?_|refine jn ?_|refine jo ?_|refine jp ?_|refine jq ?_|refine jr ?_|refine js ?_|refine jt ?_|refine ju ?_|refine jv ?_|refine jw ?_|refine jx ?_|refine jy ?_|refine jz ?_|refine jA ?_|refine jB ?_|refine jC ?_|refine jD ?_|refine jE ?_|refine jF ?_|refine jG ?_|refine jH ?_|refine jI ?_|refine jJ ?_|refine jK ?_|refine jL ?_|refine jM (by assumption) ?_|refine jN (by assumption) rfl ?_|refine jO (by assumption) ?_|refine jP (by assumption) rfl ?_|refine jQ ?_|refine jR ?_|refine jS ?_|refine jT ?_|refine jU (by assumption) rfl ?_))
  refine M.loop_i (σ := Nat) (fun i vals w2 => vals = [vi i] ∧ i ≤ n ∧ Blk w2 ba (List.replicate i (vi (-1)) ++ List.replicate (n - i) (vi 0)) ∧ Keep w1 w2 (· = ba)) (fun i => n - i) 0
    ⟨rfl, by omega, by simpa using ha, Keep.refl _ _⟩ ?_
  rintro i vals w2 K ⟨rfl, hi, ha, hk2⟩ hK _
  simp only [List.getD_cons_zero, List.getD_cons_succ]
  have hB := hB.keep hk2 n1
  by_cases hlt : i < n
  · (repeat (first|refine ja ?_|refine jb ?_|refine jc ?_|refine jd ?_|refine je ?_|refine jf ?_|refine jg ?_|refine jh ?_|refine ji ?_|refine jj ?_|refine jk ?_|refine jl ?_|refine jm ?_|refine jn ?_|refine jo ?_|refine jp ?_|refine jq ?_|refine jr ?_|refine js ?_|refine jt ?_|refine ju ?_|refine jv ?_|refine jw ?_|refine jx ?_|refine jy ?_|refine jz ?_|refine jA ?_|refine jB ?_|refine jC ?_|refine jD ?_|refine jE ?_|refine jF ?_|refine jG ?_|refine jH ?_|refine jI ?_|refine jJ ?_|refine jK ?_|refine jL ?_|refine jM (by assumption) ?_|refine jN (by assumption) rfl ?_|refine jO (by assumption) ?_|refine jP (by assumption) rfl ?_|refine jQ ?_|refine jR ?_|refine jS ?_|refine jT ?_|refine jU (by assumption) rfl ?_))
    refine M.idx_i (by omega) (by omega) ?_
    refine M.store_i ha (by simp; omega) rfl (fun w3 ha3 hk3 hs3 => ?_)
    (repeat (first|refine ja ?_|refine jb ?_|refine jc ?_|refine jd ?_|refine je ?_|refine jf ?_|refine jg ?_|refine jh ?_|refine ji ?_|refine jj ?_|refine jk ?_|refine jl ?_|refine jm ?_|refine jn ?_|refine jo ?_|refine jp ?_|refine jq ?_|refine jr ?_|refine js ?_|refine jt ?_|refine ju ?_|refine jv ?_|refine jw ?_|refine jx ?_|refine jy ?_|refine jz ?_|refine jA ?_|refine jB ?_|refine jC ?_|refine jD ?_|refine jE ?_|refine jF ?_|refine jG ?_|refine jH ?_|refine jI ?_|refine jJ ?_|refine jK ?_|refine jL ?_|refine jM (by assumption) ?_|refine jN (by assumption) rfl ?_|refine jO (by assumption) ?_|refine jP (by assumption) rfl ?_|refine jQ ?_|refine jR ?_|refine jS ?_|refine jT ?_|refine jU (by assumption) rfl ?_))
    refine hK (i + 1) _ _ (by omega) ⟨by simp, by omega, ?_, hk2.trans hk3 (fun _ _ h => h)⟩
    have e : (List.replicate i (vi (-1)) ++ List.replicate (n - i) (vi 0)).set (0 + (i : Int).toNat * 1) (vi (-1)) = List.replicate (i + 1) (vi (-1)) ++ List.replicate (n - (i + 1)) (vi 0) := by
      have e1 : n - i = (n - (i + 1)) + 1 := by omega
      rw [e1, List.replicate_succ, List.replicate_succ']
      have e2 : 0 + (i : Int).toNat * 1 = i := by omega
      rw [e2, List.set_append_right _ _ (by simp)]
      simp
    rw [← e]; exact ha3
  · (repeat (first|refine ja ?_|refine jb ?_|refine jc ?_|refine jd ?_|refine je ?_|refine jf ?_|refine jg ?_|refine jh ?_|refine ji ?_|refine jj ?_|refine jk ?_|refine jl ?_|refine jm ?_|refine jn ?_|refine jo ?_|refine jp ?_|refine jq ?_|refine jr ?_|refine js ?_|refine jt ?_|refine ju ?_|refine jv ?_|refine jw ?_|refine jx ?_|refine jy ?_|refine jz ?_|refine jA ?_|refine jB ?_|refine jC ?_|refine jD ?_|refine jE ?_|refine jF ?_|refine jG ?_|refine jH ?_|refine jI ?_|refine jJ ?_|refine jK ?_|refine jL ?_|refine jM (by assumption) ?_|refine jN (by assumption) rfl ?_|refine jO (by assumption) ?_|refine jP (by assumption) rfl ?_|refine jQ ?_|refine jR ?_|refine jS ?_|refine jT ?_|refine jU (by assumption) rfl ?_))
    have : i = n := by omega
    subst this
    simp only [Nat.sub_self, List.replicate_zero, List.append_nil] at ha
    have he := he.keep hk2 (fun h => n4 h.symm)
    have hr := hr.keep hk2 (fun h => n5 h.symm)
    have q1 := hB.lt; have q2 := ha.lt; have q3 := he.lt; have q4 := hr.lt
    refine ⟨p, fun b => if b = p then 1 else if b = ba then 5 else if b = be then 6 else if b = br then 7 else 0, rfl, ⟨_, _, _, _, _, _, _, _, _, hB, GI.nil _ _, GI.nil _ _, GI.nil _ _,
      GI.of_rep (x := -1) ha ?_, GI.of_rep (x := 0) he ?_, GI.of_rep (x := 0) hr ?_, by simp, ?_, ?_⟩, ?_, ?_⟩
    · simp [n1.symm]
    · simp [n2.symm, n4.symm]
    · simp [n3.symm, n5.symm, n6.symm]
    · intro b hb
      simp only at hb
      repeat' split at hb
      all_goals first | omega | exact absurd rfl hb
    · rw [hn] at hnv
      refine ⟨hnv, by simp [← hn], by simp [← hn], by simp [← hn], rfl, ?_, ?_, ?_, ?_, by simp [Tr.new]⟩
      · intro v hv
        have hv : v < i := by rw [hn]; exact hv
        simp [Tr.at1, Tr.idx, Tr.new, hv]
      · intro i e h; simp [Tr.new] at h
      · intro i e h; simp [Tr.new] at h
      · intro i j x y h1 h; simp [Tr.new] at h
    · exact hk.trans hk2 (fun b hb h => by omega)
    · intro b hb
      simp only at hb
      repeat' split at hb
      all_goals first | omega | exact absurd rfl hb
end Go.Proofs.Ytnmbgfonlpjicaa
