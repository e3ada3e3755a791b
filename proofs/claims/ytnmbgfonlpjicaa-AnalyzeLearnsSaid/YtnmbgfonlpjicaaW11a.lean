import Derived.Test.YtnmbgfonlpjicaaW11h
namespace Go.Proofs.Ytnmbgfonlpjicaa
open Go.Mw Go.MapKept
set_option linter.unusedVariables false
set_option linter.unusedSimpArgs false
set_option maxRecDepth 100000
attribute [local irreducible] M.val M.unit M.next M.pick M.new M.nilCheck M.load1 M.loadA M.store M.fieldAddr M.indexSl M.indexArr M.slice M.makeSlice M.buildSlice M.len M.lenS M.cap M.append M.extract M.conv M.not M.neg M.bin M.shift M.eqB M.eqNil M.call M.callv M.gd M.share M.cond M.loop M.draw pureW readW Ret
/-! (*breakwater/watch.Watch).look: function 53 -/
def sh53 (x0 x1 : Value) (R : Kt) (w : World) : Prop :=
  M.nilCheck x0 (fun t6 w =>
  M.fieldAddr 2 t6 (fun t7 w =>
  M.load1 t7 (fun t8 w =>
  readW Try.prog (Instr.lookup 61 t8 x1 false) (fun t10 w =>
  M.nilCheck t10 (fun t12 w =>
  M.fieldAddr 1 t12 (fun t13 w =>
  M.load1 t13 (fun t14 w =>
  M.not t14 (fun t15 w =>
  M.cond t15
  (M.nilCheck t10 (fun t17 w =>
  M.fieldAddr 1 t17 (fun t18 w =>
  M.store 1 t18 (Value.bool true) (fun _ w =>
  M.nilCheck x0 (fun t21 w =>
  M.fieldAddr 4 t21 (fun t22 w =>
  M.load1 t22 (fun t23 w =>
  M.buildSlice 3 1 #[.int .i64 0] 1 [(0, x1)] (fun t25 w =>
  M.append 3 1 8 #[.int .i64 0] t23 t25 (fun t26 w =>
  M.nilCheck x0 (fun t27 w =>
  M.fieldAddr 4 t27 (fun t28 w =>
  M.store 1 t28 t26 (fun _ w =>
  R (.tuple #[]) w) w) w) w) w) w) w) w) w) w) w) w)
  (R (.tuple #[]) w)) w) w) w) w) w) w) w) w
theorem ok53 (x0 x1 : Value) (R : Kt) (w : World) (h : sh53 x0 x1 R w) : Ret Try.prog 53 #[x0, x1] w R :=
  ret_mk <| calls_of_comp mixed (c := Try.f53.body.getD .skip) (args := [x0, x1]) (rs := []) (Ann.seq Ann.text (Ann.seq Ann.text (Ann.cond (Ann.seq Ann.text Ann.text) Ann.leaf)))
    Try.func53 (by kernel_rfl) (by kernel_rfl)
    (Eq.mp (by kernel_rfl) h)

def OMod (w w' : World) (O O' : Nat → Prop) : Prop := Keep w w' O ∧ ∀ b, b < w.heap.size → O' b → O b
theorem OMod.trans {a b c : World} {O O' O'' : Nat → Prop} (h : OMod a b O O') (k : OMod b c O' O'') : OMod a c O O'' :=
  ⟨h.1.trans k.1 (fun i hi e => h.2 i hi e), fun i hi e => h.2 i hi (k.2 i (Nat.lt_of_lt_of_le hi h.1.size) e)⟩
theorem OMod.of {a b : World} {O : Nat → Prop} (h : Keep a b No) : OMod a b O O := ⟨h.mono (fun _ _ e => e.elim), fun _ _ e => e⟩
theorem OMod.refl (a : World) (O : Nat → Prop) : OMod a a O O := ⟨Keep.refl _ _, fun _ _ e => e⟩
/-- A trail and a watch, apart from one another; O: their blocks. -/
structure TW (w : World) (p q : Nat) (lab ow bk : Nat → Nat) (cv : Nat → Value) (t : Tr) (s : Wt) (r : Nat) (vb vw1 vd : Value) (bvs : List Value) (O : Nat → Prop) : Prop where
  tr : TRep w p lab t
  wb : WB w q ow bk cv s r vb vw1 vd bvs
  ap : ∀ b, lab b ≠ 0 → ow b = 0
  iff : ∀ b, O b ↔ lab b ≠ 0 ∨ ow b ≠ 0
def TWR (w : World) (p q : Nat) (O : Nat → Prop) (bk : Nat → Nat) (cv : Nat → Value) (wv : Value) (t : Tr) (s : Wt) : Prop := ∃ lab ow r vb vd bvs, TW w p q lab ow bk cv t s r vb wv vd bvs O
theorem tr_lt {w : World} {p : Nat} {lab : Nat → Nat} {t : Tr} (h : TRep w p lab t) {b : Nat} (hb : lab b ≠ 0) : b < w.heap.size := by
  obtain ⟨_, _, _, _, _, _, _, _, _, _, _, _, _, _, _, _, _, hlab, _⟩ := h
  exact hlab b hb
section
variable {w w1 : World} {p q r : Nat} {lab ow bk : Nat → Nat} {cv : Nat → Value} {wv : Value} {t : Tr} {s : Wt} {vb vw1 vd : Value} {bvs : List Value} {O : Nat → Prop}
theorem TW.keep (h : TW w p q lab ow bk cv t s r vb vw1 vd bvs O) (k : Keep w w1 No) : TW w1 p q lab ow bk cv t s r vb vw1 vd bvs O :=
  ⟨h.tr.keep k (fun _ _ _ e => e), h.wb.keep k (fun _ _ e => e), h.ap, h.iff⟩
theorem TWR.keep {S : Nat → Prop} (h : TWR w p q O bk cv wv t s) (k : Keep w w1 S) (hs : ∀ b, b < w.heap.size → O b → ¬ S b) : TWR w1 p q O bk cv wv t s := by
  obtain ⟨lab, ow, r, vb, vd, bvs, h⟩ := h
  exact ⟨lab, ow, r, vb, vd, bvs, h.tr.keep k (fun b hb e => hs b hb ((h.iff b).2 (.inl e))), h.wb.keep k (fun b e => hs b (h.wb.lt b e) ((h.iff b).2 (.inr e))), h.ap, h.iff⟩
theorem TWR.keepN (h : TWR w p q O bk cv wv t s) (k : Keep w w1 No) : TWR w1 p q O bk cv wv t s := h.keep k (fun _ _ _ e => e)
theorem TWR.lt (h : TWR w p q O bk cv wv t s) {b : Nat} (hb : O b) : b < w.heap.size := by
  obtain ⟨lab, ow, r, vb, vd, bvs, h⟩ := h
  rcases (h.iff b).1 hb with e | e
  · exact tr_lt h.tr e
  · exact h.wb.lt b e
/-- The watch alone was changed. -/
theorem TW.setW {ow' : Nat → Nat} {s' : Wt} {r' : Nat} {vb' vw' vd' : Value} {bvs' : List Value} {bk' : Nat → Nat} {cv' : Nat → Value} (h : TW w p q lab ow bk cv t s r vb vw1 vd bvs O) (k : Keep w w1 (fun b => ow b ≠ 0)) (hw : WB w1 q ow' bk' cv' s' r' vb' vw' vd' bvs') (hl : ∀ b, b < w.heap.size → ow' b ≠ 0 → ow b ≠ 0) :
    ∃ O', TW w1 p q lab ow' bk' cv' t s' r' vb' vw' vd' bvs' O' ∧ OMod w w1 O O' := by
  refine ⟨fun b => lab b ≠ 0 ∨ ow' b ≠ 0, ⟨h.tr.keep k (fun b _ e e2 => e2 (h.ap b e)), hw, fun b e => ?_, fun b => Iff.rfl⟩, k.mono (fun b _ e => (h.iff b).2 (.inr e)), fun b hb e => ?_⟩
  · have hb := tr_lt h.tr e
    have e0 := h.ap b e
    by_cases e1 : ow' b = 0
    · exact e1
    · exact absurd e0 (hl b hb e1)
  · rcases e with e | e
    · exact (h.iff b).2 (.inl e)
    · exact (h.iff b).2 (.inr (hl b hb e))
theorem TW.setT {lab' : Nat → Nat} {t' : Tr} (h : TW w p q lab ow bk cv t s r vb vw1 vd bvs O) (k : Keep w w1 (fun b => lab b ≠ 0)) (ht : TRep w1 p lab' t') (hl : ∀ b, b < w.heap.size → lab' b ≠ 0 → lab b ≠ 0) :
    ∃ O', TW w1 p q lab' ow bk cv t' s r vb vw1 vd bvs O' ∧ OMod w w1 O O' := by
  refine ⟨fun b => lab' b ≠ 0 ∨ ow b ≠ 0, ⟨ht, h.wb.keep k (fun b e e2 => e (h.ap b e2)), fun b e => ?_, fun b => Iff.rfl⟩, k.mono (fun b _ e => (h.iff b).2 (.inl e)), fun b hb e => ?_⟩
  · by_cases e1 : ow b = 0
    · exact e1
    · exact absurd (h.ap b (hl b (h.wb.lt b e1) e)) e1
  · rcases e with e | e
    · exact (h.iff b).2 (.inl (hl b hb e))
    · exact (h.iff b).2 (.inr e)
/-! ### the trail's -/
theorem val_tw (h : TWR w p q O bk cv wv t s) (l : Int) : Ret Try.prog 38 #[ptr p, vi l] w (fun v w' => v = vi (t.val l) ∧ Keep w w' No) := by
  obtain ⟨lab, ow, r, vb, vd, bvs, h⟩ := h
  exact value_ret h.tr l
theorem lev_tw (h : TWR w p q O bk cv wv t s) (v : Int) : Ret Try.prog 21 #[ptr p, vi v] w (fun r w' => r = vi (t.lev v) ∧ Keep w w' No) := by
  obtain ⟨lab, ow, r, vb, vd, bvs, h⟩ := h
  exact level_ret h.tr v
theorem asg_tw (h : TWR w p q O bk cv wv t s) (l rr : Int) : Ret Try.prog 16 #[ptr p, vi l, vi rr] w (fun v w' => v = .bool (t.may l) ∧ ∃ O', TWR w' p q O' bk cv wv (t.assign l rr) s ∧ OMod w w' O O') := by
  obtain ⟨lab, ow, r, vb, vd, bvs, h⟩ := h
  refine (assign_ret h.tr l rr).mono (fun v w' ⟨h1, lab', h2, h3, h4⟩ => ⟨h1, ?_⟩)
  obtain ⟨O', h5, h6⟩ := h.setT h3 h2 (fun b hb e => by rw [← h4 b hb]; exact e)
  exact ⟨O', ⟨lab', ow, r, vb, vd, bvs, h5⟩, h6⟩
theorem dec_tw (h : TWR w p q O bk cv wv t s) (wf : t.Wf) (l : Int) : Ret Try.prog 13 #[ptr p, vi l] w (fun v w' => v = .bool (t.may l) ∧ ∃ O', TWR w' p q O' bk cv wv (t.dec l) s ∧ OMod w w' O O') := by
  obtain ⟨lab, ow, r, vb, vd, bvs, h⟩ := h
  refine (decide_ret h.tr wf l).mono (fun v w' ⟨h1, lab', h2, h3, h4⟩ => ⟨h1, ?_⟩)
  obtain ⟨O', h5, h6⟩ := h.setT h3 h2 (fun b hb e => by rw [← h4 b hb]; exact e)
  exact ⟨O', ⟨lab', ow, r, vb, vd, bvs, h5⟩, h6⟩
theorem back_tw (h : TWR w p q O bk cv wv t s) (l : Int) : Ret Try.prog 39 #[ptr p, vi l] w (fun v w' => GI w' (w.heap.size ≤ ·) v (t.back l).2 ∧ TWR w' p q O bk cv wv (t.back l).1 s ∧ Keep w w' O) := by
  obtain ⟨lab, ow, r, vb, vd, bvs, h⟩ := h
  refine (back_ret h.tr l).mono (fun v w' ⟨h1, h2, h3⟩ => ?_)
  exact ⟨h1, ⟨lab, ow, r, vb, vd, bvs, h2, h.wb.keep h3 (fun b e e2 => e (h.ap b e2)), h.ap, h.iff⟩, h3.mono (fun b _ e => (h.iff b).2 (.inl e))⟩
theorem lits_tw (h : TWR w p q O bk cv wv t s) : Ret Try.prog 32 #[ptr p] w (fun v w' => GI w' (w.heap.size ≤ ·) v (t.L.map (·.lit)) ∧ Keep w w' No) := by
  obtain ⟨lab, ow, r, vb, vd, bvs, h⟩ := h
  exact lits_ret h.tr
theorem born_tw (h : TWR w p q O bk cv wv t s) (l : Int) : Ret Try.prog 34 #[ptr p, vi l] w (fun v w' => v = vi (t.bornAt l) ∧ Keep w w' No) := by
  obtain ⟨lab, ow, r, vb, vd, bvs, h⟩ := h
  exact born_ret h.tr l
theorem lvs_tw (h : TWR w p q O bk cv wv t s) : Ret Try.prog 14 #[ptr p] w (fun v w' => v = vi t.begins.length ∧ Keep w w' No) := by
  obtain ⟨lab, ow, r, vb, vd, bvs, h⟩ := h
  exact levels_ret h.tr
theorem rea_tw (h : TWR w p q O bk cv wv t s) (v : Int) : Ret Try.prog 57 #[ptr p, vi v] w (fun r w' => r = vi (t.rea v) ∧ Keep w w' No) := by
  obtain ⟨lab, ow, r, vb, vd, bvs, h⟩ := h
  exact reason_ret h.tr v
/-! ### look -/
def Wt.putC (s : Wt) (n : Nat) (L : List Int) (b : Bool) : Wt := { s with cls := setC s.cls n (fun c => { c with lits := L, whole := b }) }
theorem find_setC {n : Nat} {f : Wc → Wc} (hf : ∀ c, (f c).n = c.n) (i : Int) : ∀ cls : List Wc, (setC cls n f).find? (fun c => decide ((c.n : Int) = i)) = (cls.find? (fun c => decide ((c.n : Int) = i))).map (fun c => if c.n = n then f c else c)
  | [] => rfl
  | c :: cls => by
    have ih := find_setC (n := n) hf i cls
    unfold setC at ih ⊢
    rw [List.map_cons, List.find?_cons, List.find?_cons]
    have e : (if c.n = n then f c else c).n = c.n := by split <;> simp [hf]
    rw [e]
    split
    · rfl
    · exact ih
theorem get_putC {s : Wt} {n : Nat} {L : List Int} {b : Bool} (i : Int) : (s.putC n L b).get i = (s.get i).map (fun c => if c.n = n then { c with lits := L, whole := b } else c) :=
  find_setC (f := fun c => { c with lits := L, whole := b }) (fun c => rfl) i s.cls
theorem get_put {s : Wt} {c : Wc} {L : List Int} {b : Bool} (h : s.get c.n = some c) : (s.putC c.n L b).get c.n = some ⟨c.n, L, b⟩ := by
  rw [get_putC, h]; simp
def Wt.look (s : Wt) (c : Wc) : Wt := if c.whole then s else { s.putC c.n c.lits true with whole := s.whole ++ [(c.n : Int)] }
def Wt.sz (s : Wt) : Nat := (s.by1.map List.length).sum + s.whole.length
theorem le_sum {l : List Nat} {n : Nat} (h : n ∈ l) : n ≤ l.sum := by
  induction l with
  | nil => simp at h
  | cons a l ih =>
    rw [List.sum_cons]
    rcases List.mem_cons.1 h with e | e
    · omega
    · have := ih e; omega
theorem sz_by {x : Nat} {l : List Int} (h : s.by1[x]? = some l) : l.length + s.whole.length ≤ s.sz := by
  have : l.length ≤ (s.by1.map List.length).sum := le_sum (List.mem_map.2 ⟨l, List.mem_of_getElem? h, rfl⟩)
  unfold Wt.sz; omega
theorem relX_lt {ow : Nat → Nat} {v : Value} {j b n : Nat} {L : Nat → Prop} {xs : List Int} {w : World} (g : GI w L v xs) (hL : ∀ b, L b → ow b = j ∨ n ≤ b) (h0 : j ≠ 0) (hb : b < n) (h : relX ow v j b ≠ 0) : ow b ≠ 0 := by
  rcases relX_le h with h | h
  · exact h
  · have := hL b (GC.blkOf g h).1; omega
theorem look_ret (h : TWR w p q O bk cv wv t s) {c : Wc} (hg : s.get c.n = some c) (hz : s.sz ≤ 1000000000) :
    Ret Try.prog 53 #[ptr q, vi c.n] w (fun v w' => ∃ O' wv', TWR w' p q O' bk cv wv' t (s.look c) ∧ OMod w w' O O') := by
  obtain ⟨lab, ow, r, vb, vd, bvs, h⟩ := h
  have hB := h.wb.st
  obtain ⟨hc, _⟩ := get_some hg
  obtain ⟨ho, hb, hl⟩ := h.wb.one c hc
  refine ok53 _ _ _ _ ?_
  unfold sh53
  (repeat (first|refine ja ?_|refine jb ?_|refine jc ?_|refine jd ?_|refine je ?_|refine jf ?_|refine jg ?_|refine jh ?_|refine ji ?_|refine jj ?_|refine jk ?_|refine jl ?_|refine jm ?_|refine jn ?_|refine jo ?_|refine jp ?_|refine jq ?_|refine jr ?_|refine js ?_|refine jt ?_|refine ju ?_|refine jv ?_|refine jw ?_|refine jx ?_|refine jy ?_|refine jz ?_|refine jA ?_|refine jB ?_|refine jC ?_|refine jD ?_|refine jE ?_|refine jF ?_|refine jG ?_|refine jH ?_|refine jI ?_|refine jJ ?_|refine jK ?_|refine jL ?_|refine jM (by assumption) ?_|refine jN (by assumption) rfl ?_|refine jO (by assumption) ?_|refine jP (by assumption) rfl ?_|refine jQ ?_|refine jR ?_|refine jS ?_|refine jT ?_|refine jU (by assumption) rfl ?_))
  refine h.wb.all_i _ ?_
  rw [hg]
  (repeat (first|refine ja ?_|refine jb ?_|refine jc ?_|refine jd ?_|refine je ?_|refine jf ?_|refine jg ?_|refine jh ?_|refine ji ?_|refine jj ?_|refine jk ?_|refine jl ?_|refine jm ?_|refine jn ?_|refine jo ?_|refine jp ?_|refine jq ?_|refine jr ?_|refine js ?_|refine jt ?_|refine ju ?_|refine jv ?_|refine jw ?_|refine jx ?_|refine jy ?_|refine jz ?_|refine jA ?_|refine jB ?_|refine jC ?_|refine jD ?_|refine jE ?_|refine jF ?_|refine jG ?_|refine jH ?_|refine jI ?_|refine jJ ?_|refine jK ?_|refine jL ?_|refine jM (by assumption) ?_|refine jN (by assumption) rfl ?_|refine jO (by assumption) ?_|refine jP (by assumption) rfl ?_|refine jQ ?_|refine jR ?_|refine jS ?_|refine jT ?_|refine jU (by assumption) rfl ?_))
  by_cases hw : c.whole = true
  · rw [hw]
    (repeat (first|refine ja ?_|refine jb ?_|refine jc ?_|refine jd ?_|refine je ?_|refine jf ?_|refine jg ?_|refine jh ?_|refine ji ?_|refine jj ?_|refine jk ?_|refine jl ?_|refine jm ?_|refine jn ?_|refine jo ?_|refine jp ?_|refine jq ?_|refine jr ?_|refine js ?_|refine jt ?_|refine ju ?_|refine jv ?_|refine jw ?_|refine jx ?_|refine jy ?_|refine jz ?_|refine jA ?_|refine jB ?_|refine jC ?_|refine jD ?_|refine jE ?_|refine jF ?_|refine jG ?_|refine jH ?_|refine jI ?_|refine jJ ?_|refine jK ?_|refine jL ?_|refine jM (by assumption) ?_|refine jN (by assumption) rfl ?_|refine jO (by assumption) ?_|refine jP (by assumption) rfl ?_|refine jQ ?_|refine jR ?_|refine jS ?_|refine jT ?_|refine jU (by assumption) rfl ?_))
    refine ⟨O, wv, ⟨lab, ow, r, vb, vd, bvs, ?_⟩, OMod.refl _ _⟩
    unfold Wt.look
    rw [if_pos hw]
    exact h
  · have hw : c.whole = false := by simpa using hw
    rw [hw]
    (repeat (first|refine ja ?_|refine jb ?_|refine jc ?_|refine jd ?_|refine je ?_|refine jf ?_|refine jg ?_|refine jh ?_|refine ji ?_|refine jj ?_|refine jk ?_|refine jl ?_|refine jm ?_|refine jn ?_|refine jo ?_|refine jp ?_|refine jq ?_|refine jr ?_|refine js ?_|refine jt ?_|refine ju ?_|refine jv ?_|refine jw ?_|refine jx ?_|refine jy ?_|refine jz ?_|refine jA ?_|refine jB ?_|refine jC ?_|refine jD ?_|refine jE ?_|refine jF ?_|refine jG ?_|refine jH ?_|refine jI ?_|refine jJ ?_|refine jK ?_|refine jL ?_|refine jM (by assumption) ?_|refine jN (by assumption) rfl ?_|refine jO (by assumption) ?_|refine jP (by assumption) rfl ?_|refine jQ ?_|refine jR ?_|refine jS ?_|refine jT ?_|refine jU (by assumption) rfl ?_))
    have hq := h.wb.oq
    refine M.store_i hb (by simp) rfl (fun w1 b1 k1 s1 => ?_)
    have hB1 := hB.keep k1 (fun e => by have e : q = bk c.n := e; rw [e] at hq; omega)
    have wb1 := h.wb.setOne (w1 := w1) (n := c.n) (lits := c.lits) (wh := true) (k1.mono (fun _ _ e => .inl e)) ho b1 (hl.keep k1 (fun b _ e e2 => by have e2 : b = bk c.n := e2; rw [e2] at e; omega))
    (repeat (first|refine ja ?_|refine jb ?_|refine jc ?_|refine jd ?_|refine je ?_|refine jf ?_|refine jg ?_|refine jh ?_|refine ji ?_|refine jj ?_|refine jk ?_|refine jl ?_|refine jm ?_|refine jn ?_|refine jo ?_|refine jp ?_|refine jq ?_|refine jr ?_|refine js ?_|refine jt ?_|refine ju ?_|refine jv ?_|refine jw ?_|refine jx ?_|refine jy ?_|refine jz ?_|refine jA ?_|refine jB ?_|refine jC ?_|refine jD ?_|refine jE ?_|refine jF ?_|refine jG ?_|refine jH ?_|refine jI ?_|refine jJ ?_|refine jK ?_|refine jL ?_|refine jM (by assumption) ?_|refine jN (by assumption) rfl ?_|refine jO (by assumption) ?_|refine jP (by assumption) rfl ?_|refine jQ ?_|refine jR ?_|refine jS ?_|refine jT ?_|refine jU (by assumption) rfl ?_))
    refine M.buildSlice_i [vi c.n] (by kernel_rfl) (fun w2 b2 k2 s2 => ?_)
    have wb2 := wb1.keep k2 (fun _ _ e => e)
    have hwl : s.whole.length ≤ s.sz := by unfold Wt.sz; omega
    refine M.append1_i wb2.wh (Row.of_blk' (D := fun _ => True) b2 trivial) rfl (by show s.whole.length ≤ _; omega) (fun v3 w3 g3 k3 => ?_)
    have hB3 := wb2.st.keep k3 (by show ¬ ow q = 4; omega)
    (repeat (first|refine ja ?_|refine jb ?_|refine jc ?_|refine jd ?_|refine je ?_|refine jf ?_|refine jg ?_|refine jh ?_|refine ji ?_|refine jj ?_|refine jk ?_|refine jl ?_|refine jm ?_|refine jn ?_|refine jo ?_|refine jp ?_|refine jq ?_|refine jr ?_|refine js ?_|refine jt ?_|refine ju ?_|refine jv ?_|refine jw ?_|refine jx ?_|refine jy ?_|refine jz ?_|refine jA ?_|refine jB ?_|refine jC ?_|refine jD ?_|refine jE ?_|refine jF ?_|refine jG ?_|refine jH ?_|refine jI ?_|refine jJ ?_|refine jK ?_|refine jL ?_|refine jM (by assumption) ?_|refine jN (by assumption) rfl ?_|refine jO (by assumption) ?_|refine jP (by assumption) rfl ?_|refine jQ ?_|refine jR ?_|refine jS ?_|refine jT ?_|refine jU (by assumption) rfl ?_))
    refine M.store_i hB3 (by simp) (GC.one g3) (fun w4 b4 k4 s4 => ?_)
    have q1 := k1.size; have q2 := k2.size; have q3 := k3.size
    have own2 : ∀ b, w2.heap.size ≤ b → ow b = 0 := fun b hb => by
      by_cases e : ow b = 0
      · exact e
      · have := h.wb.lt b e; omega
    have own4 : ∀ b, w4.heap.size ≤ b → ow b = 0 := fun b hb => own2 b (by omega)
    have g4 := g3.keep k4 (fun b hb e e2 => by
      have e2 : b = q := e2
      subst e2
      rcases e with e | e
      · omega
      · have := own2 b e; omega)
    have wb4 := wb2.setWh (w1 := w4) g4 (fun b e => by
      rcases e with e | e
      · exact .inl e
      · exact .inr (own2 b e)) ((k3.mono (fun _ _ e => .inr e)).trans (k4.mono (fun _ _ e => .inl e)) (fun _ _ e => e)) (by simpa using b4)
    have kk : Keep w w4 (fun b => ow b ≠ 0) := ((k1.trans k2 (fun _ _ e => e.elim)).mono (fun b _ e => by have e : b = bk c.n := e; show ow b ≠ 0; rw [e]; omega)).trans ((k3.mono (fun b _ e => by show ow b ≠ 0; have e : ow b = 4 := e; omega)).trans (k4.mono (fun b _ e => by have e : b = q := e; show ow b ≠ 0; rw [e]; omega)) (fun _ _ e => e)) (fun _ _ e => e)
    obtain ⟨O', h5, h6⟩ := h.setW kk wb4 (fun b hb e => relX_lt (n := w2.heap.size) g4 (fun b e => e) (by omega) (by omega) e)
    have e : s.look c = { s.putC c.n c.lits true with whole := s.whole ++ [(c.n : Int)] } := by unfold Wt.look; rw [hw]; rfl
    rw [e]
    exact ⟨O', _, ⟨_, _, _, _, _, _, h5⟩, h6⟩
end
end Go.Proofs.Ytnmbgfonlpjicaa
