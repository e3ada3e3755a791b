import Derived.Test.YtnmbgfonlpjicaaAn12e
namespace Go.Proofs.Ytnmbgfonlpjicaa
open Go.Mw Go.Shelf Go.Sort Go.Lib
set_option linter.unusedVariables false
set_option linter.unusedSimpArgs false
set_option maxRecDepth 100000
attribute [local irreducible] M.val M.unit M.next M.pick M.new M.nilCheck M.load1 M.loadA M.store M.fieldAddr M.indexSl M.indexArr M.slice M.makeSlice M.buildSlice M.len M.lenS M.cap M.append M.extract M.conv M.not M.neg M.bin M.shift M.eqB M.eqNil M.call M.callv M.gd M.share M.cond M.loop M.draw pureW readW Ret
/-! breakwater/analyze.Learn$1: function 20 -/
def sh20 (x0 x1 : Value) (R : Kt) (w : World) : Prop :=
  M.draw (fun w =>
  M.load1 x1 (fun t4 w =>
  M.call Try.prog 22 #[x0] (fun t6 w =>
  ((M.load1 x1 (fun v' _ => v' = t4) w) ∧ M.call Try.prog 21 #[t4, t6] (fun t7 w =>
  R t7 w) w)) w) w) w
theorem ok20 (x0 x1 : Value) (R : Kt) (w : World) (h : sh20 x0 x1 R w) : Ret Try.prog 20 #[x0, x1] w R :=
  ret_mk <| calls_of_comp mixed (c := Try.f20.body.getD .skip) (args := [x0, x1]) (rs := [(ResultVar.tmp 3)]) (Ann.seq Ann.text (Ann.seq (Ann.draw (Sch.take 0 (Sch.take 1 (Sch.one 2 (Sch.one 3 (Sch.take 4 Sch.done)))))) Ann.leaf))
    Try.func20 (by kernel_rfl) (by kernel_rfl)
    (Eq.mp (by kernel_rfl) h)
/-! breakwater/analyze.Learn$2: function 24 -/
def sh24 (x0 x1 x2 : Value) (R : Kt) (w : World) : Prop :=
  M.draw (fun w =>
  M.load1 x2 (fun t6 w =>
  M.load1 x2 (fun t9 w =>
  M.callv Try.prog t6 #[x1] (fun t8 w =>
  ((M.load1 x2 (fun v' _ => v' = t9) w) ∧ M.callv Try.prog t9 #[x0] (fun t11 w =>
  M.call Try.prog 26 #[t8, t11] (fun t12 w =>
  M.call Try.prog 26 #[x0, x1] (fun t15 w =>
  M.buildSlice 3 1 #[.int .i64 0] 2 [(0, t12), (1, t15)] (fun t16 w =>
  M.call Try.prog 25 #[t16] (fun t17 w =>
  R t17 w) w) w) w) w) w)) w) w) w) w
theorem ok24 (x0 x1 x2 : Value) (R : Kt) (w : World) (h : sh24 x0 x1 x2 R w) : Ret Try.prog 24 #[x0, x1, x2] w R :=
  ret_mk <| calls_of_comp mixed (c := Try.f24.body.getD .skip) (args := [x0, x1, x2]) (rs := [(ResultVar.tmp 5)]) (Ann.seq Ann.text (Ann.seq (Ann.draw (Sch.take 0 (Sch.take 1 (Sch.take 3 (Sch.take 4 (Sch.take 7 (Sch.take 8 (Sch.one 2 (Sch.one 5 (Sch.one 6 (Sch.one 9 (Sch.one 10 (Sch.one 11 (Sch.take 12 Sch.done)))))))))))))) Ann.leaf))
    Try.func24 (by kernel_rfl) (by kernel_rfl)
    (Eq.mp (by kernel_rfl) h)
/-! cmp.Or[int]: function 25 -/
def sh25 (x0 : Value) (R : Kt) (w : World) : Prop :=
  M.len x0 (fun t7 w =>
  M.loop [(Value.int IntKind.i64 0)] (fun s1 K1 w => ∀ _ : List Value,
  M.bin .lss (s1.getD 0 undef) t7 (fun t9 w =>
  M.cond t9
  (M.indexSl 1 x0 (s1.getD 0 undef) (fun t10 w =>
  M.load1 t10 (fun t11 w =>
  M.bin .neq t11 (Value.int IntKind.i64 0) (fun t14 w =>
  M.cond t14
  (R t11 w)
  (M.bin .add (s1.getD 0 undef) (Value.int IntKind.i64 1) (fun t16 w =>
  K1 [t16] w) w)) w) w) w)
  (R (Value.int IntKind.i64 0) w)) w) w) w
theorem ok25 (x0 : Value) (R : Kt) (w : World) (h : sh25 x0 R w) : Ret Try.prog 25 #[x0] w R :=
  ret_mk <| calls_of_comp mixed (c := Try.f25.body.getD .skip) (args := [x0]) (rs := [(ResultVar.tmp 2)]) (Ann.seq Ann.text (Ann.seq Ann.text (Ann.seq (Ann.seq Ann.text (Ann.block (Ann.loop [8] [2, 5, 9, 10, 11, 12, 13, 14, 15, 16] (Ann.seq Ann.text (Ann.seq (Ann.cond Ann.leaf Ann.leaf) (Ann.seq (Ann.block (Ann.seq Ann.text (Ann.seq Ann.text (Ann.cond (Ann.seq Ann.text Ann.leaf) Ann.leaf)))) Ann.text)))))) (Ann.seq Ann.text Ann.leaf))))
    Try.func25 (by kernel_rfl) (by kernel_rfl)
    (Eq.mp (by kernel_rfl) h)
/-! cmp.Compare[int]: function 26 -/
def sh26 (x0 x1 : Value) (R : Kt) (w : World) : Prop :=
  M.call Try.prog 48 #[x0] (fun t8 w =>
  M.call Try.prog 48 #[x1] (fun t10 w =>
  M.cond t8
  (M.cond t10
  (R (Value.int IntKind.i64 0) w)
  (R (Value.int IntKind.i64 (-1)) w))
  (M.cond t10
  (R (Value.int IntKind.i64 1) w)
  (M.bin .lss x0 x1 (fun t16 w =>
  M.cond t16
  (R (Value.int IntKind.i64 (-1)) w)
  (M.bin .gtr x0 x1 (fun t19 w =>
  M.cond t19
  (R (Value.int IntKind.i64 1) w)
  (R (Value.int IntKind.i64 0) w)) w)) w))) w) w
theorem ok26 (x0 x1 : Value) (R : Kt) (w : World) (h : sh26 x0 x1 R w) : Ret Try.prog 26 #[x0, x1] w R :=
  ret_mk <| calls_of_comp mixed (c := Try.f26.body.getD .skip) (args := [x0, x1]) (rs := [(ResultVar.tmp 4)]) (Ann.seq Ann.text (Ann.seq Ann.text (Ann.seq Ann.text (Ann.seq (Ann.seq Ann.text (Ann.cond (Ann.seq (Ann.seq Ann.text (Ann.cond (Ann.seq Ann.text Ann.leaf) Ann.leaf)) (Ann.seq Ann.text Ann.leaf)) Ann.leaf)) (Ann.seq (Ann.seq Ann.text (Ann.cond (Ann.seq Ann.text Ann.leaf) Ann.leaf)) (Ann.seq (Ann.seq Ann.text (Ann.cond (Ann.seq Ann.text Ann.leaf) Ann.leaf)) (Ann.seq (Ann.seq Ann.text (Ann.cond (Ann.seq Ann.text Ann.leaf) Ann.leaf)) (Ann.seq Ann.text Ann.leaf))))))))
    Try.func26 (by kernel_rfl) (by kernel_rfl)
    (Eq.mp (by kernel_rfl) h)
/-! cmp.isNaN[int]: function 48 -/
def sh48 (x0 : Value) (R : Kt) (w : World) : Prop :=
  M.bin .neq x0 x0 (fun t5 w =>
  R t5 w) w
theorem ok48 (x0 : Value) (R : Kt) (w : World) (h : sh48 x0 R w) : Ret Try.prog 48 #[x0] w R :=
  ret_mk <| calls_of_comp mixed (c := Try.f48.body.getD .skip) (args := [x0]) (rs := [(ResultVar.tmp 2)]) (Ann.seq Ann.text (Ann.seq Ann.text Ann.leaf))
    Try.func48 (by kernel_rfl) (by kernel_rfl)
    (Eq.mp (by kernel_rfl) h)

/-- Nothing that was is changed, and what was drawn stays drawn. -/
def KD (w w' : World) : Prop := Keep w w' No ∧ w.drawn ≤ w'.drawn
theorem KD.refl (w : World) : KD w w := ⟨Keep.refl _ _, Nat.le_refl _⟩
theorem KD.trans {a b c : World} (h : KD a b) (k : KD b c) : KD a c := ⟨h.1.trans k.1 (fun _ _ h => h), Nat.le_trans h.2 k.2⟩
theorem KD.drew (w : World) : KD w w.drew := ⟨Keep.drew _ _, by show w.drawn ≤ w.drawn + 1; omega⟩
theorem KD.alloc (w : World) (o : Obj) : KD w (w.alloc o) := ⟨Keep.alloc _ _ _, Nat.le_refl _⟩
theorem KD.gd {w w' : World} (h : KD w w') : ∃ q os, w' = grow (w.drewN q) os := by
  obtain ⟨k, d⟩ := h
  refine ⟨w'.drawn - w.drawn, w'.heap.extract w.heap.size w'.heap.size, ?_⟩
  have h1 := k.os
  have h2 := k.tape
  have h3 := k.output
  have h4 := k.size
  have h5 := k.blk
  have hh : w'.heap = w.heap ++ w'.heap.extract w.heap.size w'.heap.size := by
    refine Array.ext_getElem? fun i => ?_
    rw [Array.getElem?_append]
    split
    · rename_i hi; exact h5 i hi (fun h => h)
    · rename_i hi
      rw [Array.getElem?_extract]
      split
      · congr 1; omega
      · rw [Array.getElem?_eq_none (by omega)]
  cases w with
  | mk heap tape drawn os output =>
    cases w' with
    | mk heap' tape' drawn' os' output' =>
      simp only at h1 h2 h3 h4 hh d
      unfold grow World.drewN
      simp only
      subst h1 h2 h3
      congr 1
      omega
theorem wrL_drawn {ad : Addr} : ∀ (vs : List Value) (i : Nat) (w w' : World), wrL ad vs i w = some w' → w'.drawn = w.drawn
  | [], i, w, w', h => by
    simp only [wrL, Option.some.injEq] at h
    rw [h]
  | v :: vs, i, w, w', h => by
    unfold wrL at h
    split at h
    · split at h
      · split at h
        · cases h
        · have := wrL_drawn vs (i + 1) _ w' h
          rw [this]; rfl
      · cases h
    · cases h
theorem M.storeAll_d {k : Kt} {w : World} {b n : Nat} {l : List Value} {vs : List Value} (hb : Blk w b l) (hn : vs.length = n) (hl : l.length = n) (hv : ∀ v ∈ vs, v.oneCell' = true)
    (h : ∀ w', Blk w' b vs → Keep w w' (· = b) → w'.heap.size = w.heap.size → w'.drawn = w.drawn → k undef w') : M.store n (.pointer (some ⟨b, 0, none⟩)) (.agg ⟨vs⟩) k w := by
  obtain ⟨w', h1, h2, h3, h4⟩ := wrL_blk vs 0 0 w l hb (by omega) hv
  unfold M.store
  simp only [Value.cells, h1]
  refine ⟨by simpa using hn, h w' ?_ h3 h4 (wrL_drawn _ _ _ _ h1)⟩
  rw [Nat.add_zero, splice_zero (by omega)] at h2; exact h2
theorem M.new_d {k : Kt} {w : World} {T : TypeId} {l : List Value} (h : ∀ w', Blk w' w.heap.size l → KD w w' → w'.heap.size = w.heap.size + 1 → k (.pointer (some ⟨w.heap.size, 0, none⟩)) w') :
    M.new T ⟨l⟩ k w := by
  unfold M.new
  exact h _ (Blk.alloc w l T) (KD.alloc w _) (by simp)
theorem M.buildSlice_d {k : Kt} {w : World} {el sz : Nat} {zero : Array Value} {len : Nat} {parts : List (Nat × Value)} (l : List Value)
    (hf : Instr.fill (fun i => some (i * sz, sz)) (mkCells zero (len * sz)) parts = some ⟨l⟩)
    (h : ∀ w', Blk w' w.heap.size l → KD w w' → w'.heap.size = w.heap.size + 1 → k (.slice (some ⟨w.heap.size, 0, none⟩) len len) w') :
    M.buildSlice el sz zero len parts k w := by
  unfold M.buildSlice
  simp only [hf]
  exact h _ (Blk.alloc w _ _) (KD.alloc w _) (by simp)
theorem is_d {w : World} {p : Nat} {lab : Nat → Nat} {t : Tr} (h : TRep w p lab t) (v : Int) :
    Ret Try.prog 44 #[ptr p, vi v] w (fun r w' => r = .bool (t.idx v).isSome ∧ w' = w) := by
  obtain ⟨vl, vb, vg, va, ve, vr, at1, levels, reasons, hB, hl, hb, hg, ha, he, hr, hp, hlab, ok⟩ := h
  obtain ⟨Aa, ca, rfl, ra⟩ := ha.row
  refine ok44 _ _ _ _ ?_
  unfold sh44
  have hlat := ok.lat
  by_cases h0 : v < 0
  · (repeat (first|refine ja ?_|refine jb ?_|refine jc ?_|refine jd ?_|refine je ?_|refine jf ?_|refine jg ?_|refine jh ?_|refine ji ?_|refine jj ?_|refine jk ?_|refine jl ?_|refine jm ?_|refine jn ?_|refine jo ?_|refine jp ?_|refine jq ?_|refine jr ?_|refine js ?_|refine jt ?_|refine ju ?_|refine jv ?_|refine jw ?_|refine jx ?_|refine jy ?_|refine jz ?_|refine jA ?_|refine jB ?_|refine jC ?_|refine jD ?_|refine jE ?_|refine jF ?_|refine jG ?_|refine jH ?_|refine jI ?_|refine jJ ?_|refine jK ?_|refine jL ?_|refine jM (by assumption) ?_|refine jN (by assumption) rfl ?_|refine jO (by assumption) ?_|refine jP (by assumption) rfl ?_|refine jQ ?_|refine jR ?_|refine jS ?_|refine jT ?_|refine jU (by assumption) rfl ?_))
    exact ⟨by rw [ok.none_of (.inl h0)]; rfl, rfl⟩
  by_cases h1 : v < t.vars
  · (repeat (first|refine ja ?_|refine jb ?_|refine jc ?_|refine jd ?_|refine je ?_|refine jf ?_|refine jg ?_|refine jh ?_|refine ji ?_|refine jj ?_|refine jk ?_|refine jl ?_|refine jm ?_|refine jn ?_|refine jo ?_|refine jp ?_|refine jq ?_|refine jr ?_|refine js ?_|refine jt ?_|refine ju ?_|refine jv ?_|refine jw ?_|refine jx ?_|refine jy ?_|refine jz ?_|refine jA ?_|refine jB ?_|refine jC ?_|refine jD ?_|refine jE ?_|refine jF ?_|refine jG ?_|refine jH ?_|refine jI ?_|refine jJ ?_|refine jK ?_|refine jL ?_|refine jM (by assumption) ?_|refine jN (by assumption) rfl ?_|refine jO (by assumption) ?_|refine jP (by assumption) rfl ?_|refine jQ ?_|refine jR ?_|refine jS ?_|refine jT ?_|refine jU (by assumption) rfl ?_))
    refine M.idxRow_i ra (by simp) (by omega) (by omega) (fun b o hA hc => ?_)
    have hat := ok.at1 v.toNat (by omega)
    rw [List.getElem?_map, hat] at hc
    have hv : ((v.toNat : Nat) : Int) = v := by omega
    rw [hv] at hc
    simp only [Option.map_some] at hc
    (repeat (first|refine ja ?_|refine jb ?_|refine jc ?_|refine jd ?_|refine je ?_|refine jf ?_|refine jg ?_|refine jh ?_|refine ji ?_|refine jj ?_|refine jk ?_|refine jl ?_|refine jm ?_|refine jn ?_|refine jo ?_|refine jp ?_|refine jq ?_|refine jr ?_|refine js ?_|refine jt ?_|refine ju ?_|refine jv ?_|refine jw ?_|refine jx ?_|refine jy ?_|refine jz ?_|refine jA ?_|refine jB ?_|refine jC ?_|refine jD ?_|refine jE ?_|refine jF ?_|refine jG ?_|refine jH ?_|refine jI ?_|refine jJ ?_|refine jK ?_|refine jL ?_|refine jM (by assumption) ?_|refine jN (by assumption) rfl ?_|refine jO (by assumption) ?_|refine jP (by assumption) rfl ?_|refine jQ ?_|refine jR ?_|refine jS ?_|refine jT ?_|refine jU (by assumption) rfl ?_))
    refine M.geq_i ?_
    (repeat (first|refine ja ?_|refine jb ?_|refine jc ?_|refine jd ?_|refine je ?_|refine jf ?_|refine jg ?_|refine jh ?_|refine ji ?_|refine jj ?_|refine jk ?_|refine jl ?_|refine jm ?_|refine jn ?_|refine jo ?_|refine jp ?_|refine jq ?_|refine jr ?_|refine js ?_|refine jt ?_|refine ju ?_|refine jv ?_|refine jw ?_|refine jx ?_|refine jy ?_|refine jz ?_|refine jA ?_|refine jB ?_|refine jC ?_|refine jD ?_|refine jE ?_|refine jF ?_|refine jG ?_|refine jH ?_|refine jI ?_|refine jJ ?_|refine jK ?_|refine jL ?_|refine jM (by assumption) ?_|refine jN (by assumption) rfl ?_|refine jO (by assumption) ?_|refine jP (by assumption) rfl ?_|refine jQ ?_|refine jR ?_|refine jS ?_|refine jT ?_|refine jU (by assumption) rfl ?_))
    refine ⟨?_, rfl⟩
    unfold Tr.at1
    cases t.idx v with
    | none => simp
    | some i => simp
  · (repeat (first|refine ja ?_|refine jb ?_|refine jc ?_|refine jd ?_|refine je ?_|refine jf ?_|refine jg ?_|refine jh ?_|refine ji ?_|refine jj ?_|refine jk ?_|refine jl ?_|refine jm ?_|refine jn ?_|refine jo ?_|refine jp ?_|refine jq ?_|refine jr ?_|refine js ?_|refine jt ?_|refine ju ?_|refine jv ?_|refine jw ?_|refine jx ?_|refine jy ?_|refine jz ?_|refine jA ?_|refine jB ?_|refine jC ?_|refine jD ?_|refine jE ?_|refine jF ?_|refine jG ?_|refine jH ?_|refine jI ?_|refine jJ ?_|refine jK ?_|refine jL ?_|refine jM (by assumption) ?_|refine jN (by assumption) rfl ?_|refine jO (by assumption) ?_|refine jP (by assumption) rfl ?_|refine jQ ?_|refine jR ?_|refine jS ?_|refine jT ?_|refine jU (by assumption) rfl ?_))
    exact ⟨by rw [ok.none_of (.inr (by omega))]; rfl, rfl⟩
theorem level_d {w : World} {p : Nat} {lab : Nat → Nat} {t : Tr} (h : TRep w p lab t) (v : Int) :
    Ret Try.prog 21 #[ptr p, vi v] w (fun r w' => r = vi (t.lev v) ∧ w' = w) := by
  refine ok21 _ _ _ _ ?_
  unfold sh21
  refine M.call_i (is_d h _) ?_
  rintro r w2 ⟨rfl, rfl⟩
  obtain ⟨vl, vb, vg, va, ve, vr, at1, levels, reasons, hB, hl, hb, hg, ha, he, hr, hp, hlab, ok⟩ := h
  obtain ⟨Aa, ca, rfl, ra⟩ := he.row
  have hlat := ok.llev
  cases hi : t.idx v with
  | none =>
    simp only [Option.isSome_none]
    (repeat (first|refine ja ?_|refine jb ?_|refine jc ?_|refine jd ?_|refine je ?_|refine jf ?_|refine jg ?_|refine jh ?_|refine ji ?_|refine jj ?_|refine jk ?_|refine jl ?_|refine jm ?_|refine jn ?_|refine jo ?_|refine jp ?_|refine jq ?_|refine jr ?_|refine js ?_|refine jt ?_|refine ju ?_|refine jv ?_|refine jw ?_|refine jx ?_|refine jy ?_|refine jz ?_|refine jA ?_|refine jB ?_|refine jC ?_|refine jD ?_|refine jE ?_|refine jF ?_|refine jG ?_|refine jH ?_|refine jI ?_|refine jJ ?_|refine jK ?_|refine jL ?_|refine jM (by assumption) ?_|refine jN (by assumption) rfl ?_|refine jO (by assumption) ?_|refine jP (by assumption) rfl ?_|refine jQ ?_|refine jR ?_|refine jS ?_|refine jT ?_|refine jU (by assumption) rfl ?_))
    exact ⟨by simp [Tr.lev, Tr.ent, hi], rfl⟩
  | some i =>
    simp only [Option.isSome_some]
    obtain ⟨e, he1, he2⟩ := Tr.idx_some hi
    obtain ⟨hl0, hl1, hl2, hl3, _⟩ := ok.lits i e he1
    (repeat (first|refine ja ?_|refine jb ?_|refine jc ?_|refine jd ?_|refine je ?_|refine jf ?_|refine jg ?_|refine jh ?_|refine ji ?_|refine jj ?_|refine jk ?_|refine jl ?_|refine jm ?_|refine jn ?_|refine jo ?_|refine jp ?_|refine jq ?_|refine jr ?_|refine js ?_|refine jt ?_|refine ju ?_|refine jv ?_|refine jw ?_|refine jx ?_|refine jy ?_|refine jz ?_|refine jA ?_|refine jB ?_|refine jC ?_|refine jD ?_|refine jE ?_|refine jF ?_|refine jG ?_|refine jH ?_|refine jI ?_|refine jJ ?_|refine jK ?_|refine jL ?_|refine jM (by assumption) ?_|refine jN (by assumption) rfl ?_|refine jO (by assumption) ?_|refine jP (by assumption) rfl ?_|refine jQ ?_|refine jR ?_|refine jS ?_|refine jT ?_|refine jU (by assumption) rfl ?_))
    refine M.idxRow_i ra (by simp) (by omega) (by omega) (fun b o hA hc => ?_)
    rw [List.getElem?_map, ← he2, hl2] at hc
    simp only [Option.map_some] at hc
    rw [he2] at hc
    (repeat (first|refine ja ?_|refine jb ?_|refine jc ?_|refine jd ?_|refine je ?_|refine jf ?_|refine jg ?_|refine jh ?_|refine ji ?_|refine jj ?_|refine jk ?_|refine jl ?_|refine jm ?_|refine jn ?_|refine jo ?_|refine jp ?_|refine jq ?_|refine jr ?_|refine js ?_|refine jt ?_|refine ju ?_|refine jv ?_|refine jw ?_|refine jx ?_|refine jy ?_|refine jz ?_|refine jA ?_|refine jB ?_|refine jC ?_|refine jD ?_|refine jE ?_|refine jF ?_|refine jG ?_|refine jH ?_|refine jI ?_|refine jJ ?_|refine jK ?_|refine jL ?_|refine jM (by assumption) ?_|refine jN (by assumption) rfl ?_|refine jO (by assumption) ?_|refine jP (by assumption) rfl ?_|refine jQ ?_|refine jR ?_|refine jS ?_|refine jT ?_|refine jU (by assumption) rfl ?_))
    exact ⟨by simp [Tr.lev, Tr.ent_of hi he1], rfl⟩
theorem of_d (l : Int) (w : World) : Ret Try.prog 45 #[vi l] w (fun v w' => v = .agg #[vi (varOf l), .bool (decide (0 ≤ l ∧ l % 2 = 1))] ∧ KD w w') := by
  refine ok45 _ _ _ ?_
  unfold sh45
  refine M.new_d (fun w1 hb hk hs => ?_)
  by_cases h : l < 0
  · (repeat (first|refine ja ?_|refine jb ?_|refine jc ?_|refine jd ?_|refine je ?_|refine jf ?_|refine jg ?_|refine jh ?_|refine ji ?_|refine jj ?_|refine jk ?_|refine jl ?_|refine jm ?_|refine jn ?_|refine jo ?_|refine jp ?_|refine jq ?_|refine jr ?_|refine js ?_|refine jt ?_|refine ju ?_|refine jv ?_|refine jw ?_|refine jx ?_|refine jy ?_|refine jz ?_|refine jA ?_|refine jB ?_|refine jC ?_|refine jD ?_|refine jE ?_|refine jF ?_|refine jG ?_|refine jH ?_|refine jI ?_|refine jJ ?_|refine jK ?_|refine jL ?_|refine jM (by assumption) ?_|refine jN (by assumption) rfl ?_|refine jO (by assumption) ?_|refine jP (by assumption) rfl ?_|refine jQ ?_|refine jR ?_|refine jS ?_|refine jT ?_|refine jU (by assumption) rfl ?_))
    refine M.pure_i (.agg #[vi (-1), .bool false]) (fun _ => by kernel_rfl) ?_
    refine M.storeAll_d hb rfl rfl (by simp; exact ⟨rfl, rfl⟩) (fun w2 hb2 hk2 hs2 hd2 => ?_)
    refine M.loadAll_i hb2 rfl ⟨?_, hk.1.trans hk2 (by intro i hi e; omega), by rw [hd2]; exact hk.2⟩
    have : ¬ (0 ≤ l ∧ l % 2 = 1) := by omega
    simp [varOf, h, this]
  · (repeat (first|refine ja ?_|refine jb ?_|refine jc ?_|refine jd ?_|refine je ?_|refine jf ?_|refine jg ?_|refine jh ?_|refine ji ?_|refine jj ?_|refine jk ?_|refine jl ?_|refine jm ?_|refine jn ?_|refine jo ?_|refine jp ?_|refine jq ?_|refine jr ?_|refine js ?_|refine jt ?_|refine ju ?_|refine jv ?_|refine jw ?_|refine jx ?_|refine jy ?_|refine jz ?_|refine jA ?_|refine jB ?_|refine jC ?_|refine jD ?_|refine jE ?_|refine jF ?_|refine jG ?_|refine jH ?_|refine jI ?_|refine jJ ?_|refine jK ?_|refine jL ?_|refine jM (by assumption) ?_|refine jN (by assumption) rfl ?_|refine jO (by assumption) ?_|refine jP (by assumption) rfl ?_|refine jQ ?_|refine jR ?_|refine jS ?_|refine jT ?_|refine jU (by assumption) rfl ?_))
    refine M.shift_i (shr_one l) ?_
    refine M.bin_i (and_one l) ?_
    refine M.eql_i ?_
    refine M.pure_i (.agg #[vi (l / 2), .bool (decide (l % 2 = 1))]) (fun _ => by kernel_rfl) ?_
    refine M.storeAll_d hb rfl rfl (by simp; exact ⟨rfl, rfl⟩) (fun w2 hb2 hk2 hs2 hd2 => ?_)
    refine M.loadAll_i hb2 rfl ⟨?_, hk.1.trans hk2 (by intro i hi e; omega), by rw [hd2]; exact hk.2⟩
    have : 0 ≤ l := by omega
    simp [varOf, h, this]
theorem var_d (l : Int) (w : World) : Ret Try.prog 22 #[vi l] w (fun v w' => v = vi (varOf l) ∧ KD w w') := by
  refine ok22 _ _ _ ?_
  unfold sh22
  refine M.call_i (of_d l w) ?_
  rintro v w1 ⟨rfl, hk⟩
  refine M.pure_i (vi (varOf l)) (fun _ => by kernel_rfl) ?_
  exact ⟨rfl, hk⟩
section
variable {w : World} {p b3 b13 : Nat} {lab : Nat → Nat} {t : Tr}
theorem lvl_d (h : TRep w p lab t) (hb : Blk w b3 [ptr p]) (y : Int) : Ret Try.prog 20 #[vi y, ptr b3] w (fun r w' => r = vi (t.lev (varOf y)) ∧ KD w w') := by
  refine ok20 _ _ _ _ ?_
  unfold sh20
  have hb1 := hb.keep (Keep.drew w No) (fun h => h)
  have h1 := h.keep (Keep.drew w No) (fun _ _ _ h => h)
  (repeat (first|refine ja ?_|refine jb ?_|refine jc ?_|refine jd ?_|refine je ?_|refine jf ?_|refine jg ?_|refine jh ?_|refine ji ?_|refine jj ?_|refine jk ?_|refine jl ?_|refine jm ?_|refine jn ?_|refine jo ?_|refine jp ?_|refine jq ?_|refine jr ?_|refine js ?_|refine jt ?_|refine ju ?_|refine jv ?_|refine jw ?_|refine jx ?_|refine jy ?_|refine jz ?_|refine jA ?_|refine jB ?_|refine jC ?_|refine jD ?_|refine jE ?_|refine jF ?_|refine jG ?_|refine jH ?_|refine jI ?_|refine jJ ?_|refine jK ?_|refine jL ?_|refine jM (by assumption) ?_|refine jN (by assumption) rfl ?_|refine jO (by assumption) ?_|refine jP (by assumption) rfl ?_|refine jQ ?_|refine jR ?_|refine jS ?_|refine jT ?_|refine jU (by assumption) rfl ?_))
  refine M.call_i (var_d y w.drew) ?_; rintro _ w2 ⟨rfl, k2⟩
  have hb2 := hb1.keep k2.1 (fun h => h)
  have h2 := h1.keep k2.1 (fun _ _ _ h => h)
  (repeat (first|refine ja ?_|refine jb ?_|refine jc ?_|refine jd ?_|refine je ?_|refine jf ?_|refine jg ?_|refine jh ?_|refine ji ?_|refine jj ?_|refine jk ?_|refine jl ?_|refine jm ?_|refine jn ?_|refine jo ?_|refine jp ?_|refine jq ?_|refine jr ?_|refine js ?_|refine jt ?_|refine ju ?_|refine jv ?_|refine jw ?_|refine jx ?_|refine jy ?_|refine jz ?_|refine jA ?_|refine jB ?_|refine jC ?_|refine jD ?_|refine jE ?_|refine jF ?_|refine jG ?_|refine jH ?_|refine jI ?_|refine jJ ?_|refine jK ?_|refine jL ?_|refine jM (by assumption) ?_|refine jN (by assumption) rfl ?_|refine jO (by assumption) ?_|refine jP (by assumption) rfl ?_|refine jQ ?_|refine jR ?_|refine jS ?_|refine jT ?_|refine jU (by assumption) rfl ?_))
  refine M.call_i (level_d h2 (varOf y)) ?_; rintro _ w3 ⟨rfl, rfl⟩
  exact ⟨rfl, (KD.drew w).trans k2⟩
theorem nan_d (x : Int) (w : World) : Ret Try.prog 48 #[vi x] w (fun r w' => r = .bool false ∧ w' = w) := by
  refine ok48 _ _ _ ?_
  unfold sh48
  (repeat (first|refine ja ?_|refine jb ?_|refine jc ?_|refine jd ?_|refine je ?_|refine jf ?_|refine jg ?_|refine jh ?_|refine ji ?_|refine jj ?_|refine jk ?_|refine jl ?_|refine jm ?_|refine jn ?_|refine jo ?_|refine jp ?_|refine jq ?_|refine jr ?_|refine js ?_|refine jt ?_|refine ju ?_|refine jv ?_|refine jw ?_|refine jx ?_|refine jy ?_|refine jz ?_|refine jA ?_|refine jB ?_|refine jC ?_|refine jD ?_|refine jE ?_|refine jF ?_|refine jG ?_|refine jH ?_|refine jI ?_|refine jJ ?_|refine jK ?_|refine jL ?_|refine jM (by assumption) ?_|refine jN (by assumption) rfl ?_|refine jO (by assumption) ?_|refine jP (by assumption) rfl ?_|refine jQ ?_|refine jR ?_|refine jS ?_|refine jT ?_|refine jU (by assumption) rfl ?_))
  exact ⟨rfl, rfl⟩
def cmpI (x y : Int) : Int := if x < y then -1 else if y < x then 1 else 0
theorem compare_d (x y : Int) (w : World) : Ret Try.prog 26 #[vi x, vi y] w (fun r w' => r = vi (cmpI x y) ∧ w' = w) := by
  refine ok26 _ _ _ _ ?_
  unfold sh26
  refine M.call_i (nan_d x w) ?_; rintro _ w1 ⟨rfl, rfl⟩
  refine M.call_i (nan_d y w1) ?_; rintro _ w2 ⟨rfl, rfl⟩
  unfold cmpI
  by_cases h1 : x < y
  · rw [if_pos h1]
    (repeat (first|refine ja ?_|refine jb ?_|refine jc ?_|refine jd ?_|refine je ?_|refine jf ?_|refine jg ?_|refine jh ?_|refine ji ?_|refine jj ?_|refine jk ?_|refine jl ?_|refine jm ?_|refine jn ?_|refine jo ?_|refine jp ?_|refine jq ?_|refine jr ?_|refine js ?_|refine jt ?_|refine ju ?_|refine jv ?_|refine jw ?_|refine jx ?_|refine jy ?_|refine jz ?_|refine jA ?_|refine jB ?_|refine jC ?_|refine jD ?_|refine jE ?_|refine jF ?_|refine jG ?_|refine jH ?_|refine jI ?_|refine jJ ?_|refine jK ?_|refine jL ?_|refine jM (by assumption) ?_|refine jN (by assumption) rfl ?_|refine jO (by assumption) ?_|refine jP (by assumption) rfl ?_|refine jQ ?_|refine jR ?_|refine jS ?_|refine jT ?_|refine jU (by assumption) rfl ?_))
    exact ⟨rfl, rfl⟩
  · rw [if_neg h1]
    by_cases h2 : y < x
    · rw [if_pos h2]
      (repeat (first|refine ja ?_|refine jb ?_|refine jc ?_|refine jd ?_|refine je ?_|refine jf ?_|refine jg ?_|refine jh ?_|refine ji ?_|refine jj ?_|refine jk ?_|refine jl ?_|refine jm ?_|refine jn ?_|refine jo ?_|refine jp ?_|refine jq ?_|refine jr ?_|refine js ?_|refine jt ?_|refine ju ?_|refine jv ?_|refine jw ?_|refine jx ?_|refine jy ?_|refine jz ?_|refine jA ?_|refine jB ?_|refine jC ?_|refine jD ?_|refine jE ?_|refine jF ?_|refine jG ?_|refine jH ?_|refine jI ?_|refine jJ ?_|refine jK ?_|refine jL ?_|refine jM (by assumption) ?_|refine jN (by assumption) rfl ?_|refine jO (by assumption) ?_|refine jP (by assumption) rfl ?_|refine jQ ?_|refine jR ?_|refine jS ?_|refine jT ?_|refine jU (by assumption) rfl ?_))
      exact ⟨rfl, rfl⟩
    · rw [if_neg h2]
      (repeat (first|refine ja ?_|refine jb ?_|refine jc ?_|refine jd ?_|refine je ?_|refine jf ?_|refine jg ?_|refine jh ?_|refine ji ?_|refine jj ?_|refine jk ?_|refine jl ?_|refine jm ?_|refine jn ?_|refine jo ?_|refine jp ?_|refine jq ?_|refine jr ?_|refine js ?_|refine jt ?_|refine ju ?_|refine jv ?_|refine jw ?_|refine jx ?_|refine jy ?_|refine jz ?_|refine jA ?_|refine jB ?_|refine jC ?_|refine jD ?_|refine jE ?_|refine jF ?_|refine jG ?_|refine jH ?_|refine jI ?_|refine jJ ?_|refine jK ?_|refine jL ?_|refine jM (by assumption) ?_|refine jN (by assumption) rfl ?_|refine jO (by assumption) ?_|refine jP (by assumption) rfl ?_|refine jQ ?_|refine jR ?_|refine jS ?_|refine jT ?_|refine jU (by assumption) rfl ?_))
      exact ⟨rfl, rfl⟩
theorem or_d {b : Nat} (x y : Int) (hb : Blk w b [vi x, vi y]) : Ret Try.prog 25 #[.slice (some ⟨b, 0, none⟩) 2 2] w (fun r w' => r = vi (if x ≠ 0 then x else y) ∧ w' = w) := by
  refine ok25 _ _ _ ?_
  unfold sh25
  (repeat (first|refine ja ?_|refine jb ?_|refine jc ?_|refine jd ?_|refine je ?_|refine jf ?_|refine jg ?_|refine jh ?_|refine ji ?_|refine jj ?_|refine jk ?_|refine jl ?_|refine jm ?_|refine jn ?_|refine jo ?_|refine jp ?_|refine jq ?_|refine jr ?_|refine js ?_|refine jt ?_|refine ju ?_|refine jv ?_|refine jw ?_|refine jx ?_|refine jy ?_|refine jz ?_|refine jA ?_|refine jB ?_|refine jC ?_|refine jD ?_|refine jE ?_|refine jF ?_|refine jG ?_|refine jH ?_|refine jI ?_|refine jJ ?_|refine jK ?_|refine jL ?_|refine jM (by assumption) ?_|refine jN (by assumption) rfl ?_|refine jO (by assumption) ?_|refine jP (by assumption) rfl ?_|refine jQ ?_|refine jR ?_|refine jS ?_|refine jT ?_|refine jU (by assumption) rfl ?_))
  refine M.loop_i (σ := Nat) (fun i vals w' => vals = [vi i] ∧ i ≤ 2 ∧ (0 < i → x = 0) ∧ (1 < i → y = 0) ∧ w' = w) (fun i => 2 - i) 0 ⟨rfl, by omega, by omega, by omega, rfl⟩ ?_
  rintro i vals w1 K ⟨rfl, hi, h1, h2, rfl⟩ hK _
  simp only [List.getD_cons_zero, List.getD_cons_succ]
  have hr : Row w1 (fun _ => True) (some ⟨b, 0, none⟩) ([x, y].map vi) := Row.of_blk' hb trivial
  rcases (show i = 0 ∨ i = 1 ∨ i = 2 by omega) with rfl | rfl | rfl
  · (repeat (first|refine ja ?_|refine jb ?_|refine jc ?_|refine jd ?_|refine je ?_|refine jf ?_|refine jg ?_|refine jh ?_|refine ji ?_|refine jj ?_|refine jk ?_|refine jl ?_|refine jm ?_|refine jn ?_|refine jo ?_|refine jp ?_|refine jq ?_|refine jr ?_|refine js ?_|refine jt ?_|refine ju ?_|refine jv ?_|refine jw ?_|refine jx ?_|refine jy ?_|refine jz ?_|refine jA ?_|refine jB ?_|refine jC ?_|refine jD ?_|refine jE ?_|refine jF ?_|refine jG ?_|refine jH ?_|refine jI ?_|refine jJ ?_|refine jK ?_|refine jL ?_|refine jM (by assumption) ?_|refine jN (by assumption) rfl ?_|refine jO (by assumption) ?_|refine jP (by assumption) rfl ?_|refine jQ ?_|refine jR ?_|refine jS ?_|refine jT ?_|refine jU (by assumption) rfl ?_|refine jG ?_ (by decide)|refine jH ?_ (by decide)|refine jI ?_ (by decide)|refine jJ ?_ (by decide)|refine jC ?_ (by decide)|refine jy ?_ (by decide)))
    refine M.idxLV_i hr rfl (by decide) (by decide) (x := x) rfl (fun bb oo hA hcc => ?_)
    (repeat (first|refine ja ?_|refine jb ?_|refine jc ?_|refine jd ?_|refine je ?_|refine jf ?_|refine jg ?_|refine jh ?_|refine ji ?_|refine jj ?_|refine jk ?_|refine jl ?_|refine jm ?_|refine jn ?_|refine jo ?_|refine jp ?_|refine jq ?_|refine jr ?_|refine js ?_|refine jt ?_|refine ju ?_|refine jv ?_|refine jw ?_|refine jx ?_|refine jy ?_|refine jz ?_|refine jA ?_|refine jB ?_|refine jC ?_|refine jD ?_|refine jE ?_|refine jF ?_|refine jG ?_|refine jH ?_|refine jI ?_|refine jJ ?_|refine jK ?_|refine jL ?_|refine jM (by assumption) ?_|refine jN (by assumption) rfl ?_|refine jO (by assumption) ?_|refine jP (by assumption) rfl ?_|refine jQ ?_|refine jR ?_|refine jS ?_|refine jT ?_|refine jU (by assumption) rfl ?_))
    by_cases hx : x = 0
    · (repeat (first|refine ja ?_|refine jb ?_|refine jc ?_|refine jd ?_|refine je ?_|refine jf ?_|refine jg ?_|refine jh ?_|refine ji ?_|refine jj ?_|refine jk ?_|refine jl ?_|refine jm ?_|refine jn ?_|refine jo ?_|refine jp ?_|refine jq ?_|refine jr ?_|refine js ?_|refine jt ?_|refine ju ?_|refine jv ?_|refine jw ?_|refine jx ?_|refine jy ?_|refine jz ?_|refine jA ?_|refine jB ?_|refine jC ?_|refine jD ?_|refine jE ?_|refine jF ?_|refine jG ?_|refine jH ?_|refine jI ?_|refine jJ ?_|refine jK ?_|refine jL ?_|refine jM (by assumption) ?_|refine jN (by assumption) rfl ?_|refine jO (by assumption) ?_|refine jP (by assumption) rfl ?_|refine jQ ?_|refine jR ?_|refine jS ?_|refine jT ?_|refine jU (by assumption) rfl ?_))
      exact hK 1 _ _ (by omega) ⟨rfl, by omega, fun _ => hx, by omega, rfl⟩
    · (repeat (first|refine ja ?_|refine jb ?_|refine jc ?_|refine jd ?_|refine je ?_|refine jf ?_|refine jg ?_|refine jh ?_|refine ji ?_|refine jj ?_|refine jk ?_|refine jl ?_|refine jm ?_|refine jn ?_|refine jo ?_|refine jp ?_|refine jq ?_|refine jr ?_|refine js ?_|refine jt ?_|refine ju ?_|refine jv ?_|refine jw ?_|refine jx ?_|refine jy ?_|refine jz ?_|refine jA ?_|refine jB ?_|refine jC ?_|refine jD ?_|refine jE ?_|refine jF ?_|refine jG ?_|refine jH ?_|refine jI ?_|refine jJ ?_|refine jK ?_|refine jL ?_|refine jM (by assumption) ?_|refine jN (by assumption) rfl ?_|refine jO (by assumption) ?_|refine jP (by assumption) rfl ?_|refine jQ ?_|refine jR ?_|refine jS ?_|refine jT ?_|refine jU (by assumption) rfl ?_))
      exact ⟨by rw [if_pos hx], rfl⟩
  · have hx := h1 (by omega)
    (repeat (first|refine ja ?_|refine jb ?_|refine jc ?_|refine jd ?_|refine je ?_|refine jf ?_|refine jg ?_|refine jh ?_|refine ji ?_|refine jj ?_|refine jk ?_|refine jl ?_|refine jm ?_|refine jn ?_|refine jo ?_|refine jp ?_|refine jq ?_|refine jr ?_|refine js ?_|refine jt ?_|refine ju ?_|refine jv ?_|refine jw ?_|refine jx ?_|refine jy ?_|refine jz ?_|refine jA ?_|refine jB ?_|refine jC ?_|refine jD ?_|refine jE ?_|refine jF ?_|refine jG ?_|refine jH ?_|refine jI ?_|refine jJ ?_|refine jK ?_|refine jL ?_|refine jM (by assumption) ?_|refine jN (by assumption) rfl ?_|refine jO (by assumption) ?_|refine jP (by assumption) rfl ?_|refine jQ ?_|refine jR ?_|refine jS ?_|refine jT ?_|refine jU (by assumption) rfl ?_|refine jG ?_ (by decide)|refine jH ?_ (by decide)|refine jI ?_ (by decide)|refine jJ ?_ (by decide)|refine jC ?_ (by decide)|refine jy ?_ (by decide)))
    refine M.idxLV_i hr rfl (by decide) (by decide) (x := y) rfl (fun bb oo hA hcc => ?_)
    (repeat (first|refine ja ?_|refine jb ?_|refine jc ?_|refine jd ?_|refine je ?_|refine jf ?_|refine jg ?_|refine jh ?_|refine ji ?_|refine jj ?_|refine jk ?_|refine jl ?_|refine jm ?_|refine jn ?_|refine jo ?_|refine jp ?_|refine jq ?_|refine jr ?_|refine js ?_|refine jt ?_|refine ju ?_|refine jv ?_|refine jw ?_|refine jx ?_|refine jy ?_|refine jz ?_|refine jA ?_|refine jB ?_|refine jC ?_|refine jD ?_|refine jE ?_|refine jF ?_|refine jG ?_|refine jH ?_|refine jI ?_|refine jJ ?_|refine jK ?_|refine jL ?_|refine jM (by assumption) ?_|refine jN (by assumption) rfl ?_|refine jO (by assumption) ?_|refine jP (by assumption) rfl ?_|refine jQ ?_|refine jR ?_|refine jS ?_|refine jT ?_|refine jU (by assumption) rfl ?_))
    by_cases hy : y = 0
    · (repeat (first|refine ja ?_|refine jb ?_|refine jc ?_|refine jd ?_|refine je ?_|refine jf ?_|refine jg ?_|refine jh ?_|refine ji ?_|refine jj ?_|refine jk ?_|refine jl ?_|refine jm ?_|refine jn ?_|refine jo ?_|refine jp ?_|refine jq ?_|refine jr ?_|refine js ?_|refine jt ?_|refine ju ?_|refine jv ?_|refine jw ?_|refine jx ?_|refine jy ?_|refine jz ?_|refine jA ?_|refine jB ?_|refine jC ?_|refine jD ?_|refine jE ?_|refine jF ?_|refine jG ?_|refine jH ?_|refine jI ?_|refine jJ ?_|refine jK ?_|refine jL ?_|refine jM (by assumption) ?_|refine jN (by assumption) rfl ?_|refine jO (by assumption) ?_|refine jP (by assumption) rfl ?_|refine jQ ?_|refine jR ?_|refine jS ?_|refine jT ?_|refine jU (by assumption) rfl ?_))
      exact hK 2 _ _ (by omega) ⟨rfl, by omega, fun _ => hx, fun _ => hy, rfl⟩
    · (repeat (first|refine ja ?_|refine jb ?_|refine jc ?_|refine jd ?_|refine je ?_|refine jf ?_|refine jg ?_|refine jh ?_|refine ji ?_|refine jj ?_|refine jk ?_|refine jl ?_|refine jm ?_|refine jn ?_|refine jo ?_|refine jp ?_|refine jq ?_|refine jr ?_|refine js ?_|refine jt ?_|refine ju ?_|refine jv ?_|refine jw ?_|refine jx ?_|refine jy ?_|refine jz ?_|refine jA ?_|refine jB ?_|refine jC ?_|refine jD ?_|refine jE ?_|refine jF ?_|refine jG ?_|refine jH ?_|refine jI ?_|refine jJ ?_|refine jK ?_|refine jL ?_|refine jM (by assumption) ?_|refine jN (by assumption) rfl ?_|refine jO (by assumption) ?_|refine jP (by assumption) rfl ?_|refine jQ ?_|refine jR ?_|refine jS ?_|refine jT ?_|refine jU (by assumption) rfl ?_))
      exact ⟨by rw [if_neg (by simpa using hx)], rfl⟩
  · have hx := h1 (by omega)
    have hy := h2 (by omega)
    (repeat (first|refine ja ?_|refine jb ?_|refine jc ?_|refine jd ?_|refine je ?_|refine jf ?_|refine jg ?_|refine jh ?_|refine ji ?_|refine jj ?_|refine jk ?_|refine jl ?_|refine jm ?_|refine jn ?_|refine jo ?_|refine jp ?_|refine jq ?_|refine jr ?_|refine js ?_|refine jt ?_|refine ju ?_|refine jv ?_|refine jw ?_|refine jx ?_|refine jy ?_|refine jz ?_|refine jA ?_|refine jB ?_|refine jC ?_|refine jD ?_|refine jE ?_|refine jF ?_|refine jG ?_|refine jH ?_|refine jI ?_|refine jJ ?_|refine jK ?_|refine jL ?_|refine jM (by assumption) ?_|refine jN (by assumption) rfl ?_|refine jO (by assumption) ?_|refine jP (by assumption) rfl ?_|refine jQ ?_|refine jR ?_|refine jS ?_|refine jT ?_|refine jU (by assumption) rfl ?_|refine jG ?_ (by decide)|refine jH ?_ (by decide)|refine jI ?_ (by decide)|refine jJ ?_ (by decide)|refine jC ?_ (by decide)|refine jy ?_ (by decide)))
    exact ⟨by rw [if_neg (by simpa using hx), hy], rfl⟩
def cfO (t : Tr) (x y : Int) : Int := if cmpI (t.lev (varOf y)) (t.lev (varOf x)) ≠ 0 then cmpI (t.lev (varOf y)) (t.lev (varOf x)) else cmpI x y
theorem lt_cfO (t : Tr) : ltOf (cfO t) = lessO t := by
  funext x y
  unfold ltOf cfO lessO cmpI
  generalize t.lev (varOf x) = a
  generalize t.lev (varOf y) = b
  rcases Int.lt_trichotomy a b with h | h | h
  · have h1 : ¬ b < a := by omega
    have h2 : ¬ a = b := by omega
    simp [h, h1, h2]
  · subst h
    rcases Int.lt_trichotomy x y with h | h | h
    · simp [h]
    · subst h; simp
    · have h1 : ¬ x < y := by omega
      simp [h, h1]
  · simp [h]
theorem swo_cfO (t : Tr) : SWO (ltOf (cfO t)) := by
  rw [lt_cfO]
  refine ⟨fun x => ?_, fun x y z h1 h2 => ?_, fun x y z h1 h2 => ?_⟩
  · unfold lessO; simp
  · unfold lessO at *
    simp only [Bool.or_eq_true, Bool.and_eq_true, decide_eq_true_eq] at *
    omega
  · unfold lessO at *
    simp only [Bool.or_eq_false_iff, Bool.and_eq_false_iff, decide_eq_false_iff_not] at *
    omega
theorem tot_cfO (t : Tr) (x y : Int) (h1 : ltOf (cfO t) x y = false) (h2 : ltOf (cfO t) y x = false) : x = y := by
  rw [lt_cfO] at *
  unfold lessO at *
  simp only [Bool.or_eq_false_iff, Bool.and_eq_false_iff, decide_eq_false_iff_not] at *
  omega
theorem enter20 : ∀ a w, (callFunc 20 a).run Try.prog w = .ok (.enter 20 a) w := enters_of Try.func20 (by kernel_rfl) rfl
theorem cmp_d (h : TRep w p lab t) (hb : Blk w b3 [ptr p]) (hc : Blk w b13 [.func (.func 20) #[] #[ptr b3]]) (x y : Int) : Ret Try.prog 24 #[vi x, vi y, ptr b13] w (fun r w' => r = vi (cfO t x y) ∧ KD w w') := by
  refine ok24 _ _ _ _ _ ?_
  unfold sh24
  have kd := KD.drew w
  have hb1 := hb.keep kd.1 (fun h => h)
  have hc1 := hc.keep kd.1 (fun h => h)
  have h1 := h.keep kd.1 (fun _ _ _ h => h)
  (repeat (first|refine ja ?_|refine jb ?_|refine jc ?_|refine jd ?_|refine je ?_|refine jf ?_|refine jg ?_|refine jh ?_|refine ji ?_|refine jj ?_|refine jk ?_|refine jl ?_|refine jm ?_|refine jn ?_|refine jo ?_|refine jp ?_|refine jq ?_|refine jr ?_|refine js ?_|refine jt ?_|refine ju ?_|refine jv ?_|refine jw ?_|refine jx ?_|refine jy ?_|refine jz ?_|refine jA ?_|refine jB ?_|refine jC ?_|refine jD ?_|refine jE ?_|refine jF ?_|refine jG ?_|refine jH ?_|refine jI ?_|refine jJ ?_|refine jK ?_|refine jL ?_|refine jM (by assumption) ?_|refine jN (by assumption) rfl ?_|refine jO (by assumption) ?_|refine jP (by assumption) rfl ?_|refine jQ ?_|refine jR ?_|refine jS ?_|refine jT ?_|refine jU (by assumption) rfl ?_))
  refine M.callv_i enter20 (lvl_d h1 hb1 y) ?_
  rintro _ w2 ⟨rfl, k2⟩
  have hb2 := hb1.keep k2.1 (fun h => h)
  have hc2 := hc1.keep k2.1 (fun h => h)
  have h2 := h1.keep k2.1 (fun _ _ _ h => h)
  (repeat (first|refine ja ?_|refine jb ?_|refine jc ?_|refine jd ?_|refine je ?_|refine jf ?_|refine jg ?_|refine jh ?_|refine ji ?_|refine jj ?_|refine jk ?_|refine jl ?_|refine jm ?_|refine jn ?_|refine jo ?_|refine jp ?_|refine jq ?_|refine jr ?_|refine js ?_|refine jt ?_|refine ju ?_|refine jv ?_|refine jw ?_|refine jx ?_|refine jy ?_|refine jz ?_|refine jA ?_|refine jB ?_|refine jC ?_|refine jD ?_|refine jE ?_|refine jF ?_|refine jG ?_|refine jH ?_|refine jI ?_|refine jJ ?_|refine jK ?_|refine jL ?_|refine jM (by assumption) ?_|refine jN (by assumption) rfl ?_|refine jO (by assumption) ?_|refine jP (by assumption) rfl ?_|refine jQ ?_|refine jR ?_|refine jS ?_|refine jT ?_|refine jU (by assumption) rfl ?_))
  refine M.callv_i enter20 (lvl_d h2 hb2 x) ?_
  rintro _ w3 ⟨rfl, k3⟩
  refine M.call_i (compare_d _ _ w3) ?_; rintro _ w4 ⟨rfl, rfl⟩
  refine M.call_i (compare_d x y w4) ?_; rintro _ w5 ⟨rfl, rfl⟩
  refine M.buildSlice_d [vi (cmpI (t.lev (varOf y)) (t.lev (varOf x))), vi (cmpI x y)] (by kernel_rfl) (fun w6 b6 k6 s6 => ?_)
  refine M.call_i (or_d _ _ b6) ?_; rintro _ w7 ⟨rfl, rfl⟩
  exact ⟨rfl, (((KD.drew w).trans k2).trans k3).trans k6⟩
theorem sortO_ret {L : Nat → Prop} {v : Value} {xs : List Int} (h : TRep w p lab t) (hb : Blk w b3 [ptr p]) (hc : Blk w b13 [.func (.func 20) #[] #[ptr b3]]) (g : GI w L v xs) (hf : xs.length < 4611686018427387904) (hL : ∀ y, L y → lab y = 0 ∧ y ≠ b3 ∧ y ≠ b13) :
    Ret Try.prog 23 #[v, .func (.func 24) #[] #[ptr b13]] w (fun r w' => r = .tuple #[] ∧ GI w' L v (sortO t xs) ∧ Keep w w' L) := by
  obtain ⟨h0, ⟨rfl, h2⟩ | ⟨b, c, rest, rfl, hLb, hB, hl⟩⟩ := g
  · have hx : xs = [] := List.length_eq_zero_iff.1 h2
    subst hx
    refine (sortF_none none 0 _ w).mono (fun r w' hr => ?_)
    obtain ⟨rfl, rfl⟩ := hr
    exact ⟨rfl, by simpa [sortO] using GI.nil _ _, Keep.refl _ _⟩
  · have hcell : ∀ j (hj : j < xs.length), w.cell? ⟨b, 0 + j, none⟩ = some (vi xs[j]) := fun j hj => by
      rw [Nat.zero_add]
      exact hB.cell (by rw [List.getElem?_append_left (by simpa using hj)]; simp [hj])
    have hH : Holds (Value.int .i64) w b 0 xs.toArray := by
      intro j hj
      have hj : j < xs.length := by simpa using hj
      refine ⟨?_, hB.frozen⟩
      rw [hcell j hj]
      simp [hj]
    have world : ∀ (q : Nat) (ys : List Int) (os : Array Obj), ys.length = xs.length → Keep w (grow (putRow (Value.int .i64) (Sort.ahead w q) b 0 ys.toArray) os) (· = b) ∧ Blk (grow (putRow (Value.int .i64) (Sort.ahead w q) b 0 ys.toArray) os) b (ys.map vi ++ rest) := fun q ys os hlen => by
      rw [sorted_world (Value.int .i64) w b 0 q xs.toArray ys os hH (by rw [hlen]; rfl)]
      have hB' : Blk (w.drewN q) b (xs.map vi ++ rest) := hB
      obtain ⟨g1, g2, g3⟩ := setCells_blk (ys.map vi) 0 (w.drewN q) (xs.map vi ++ rest) hB' (by simp; omega)
      have hlt : b < ((w.drewN q).setCells b 0 (ys.map vi)).heap.size := by rw [g3]; exact hB.lt
      refine ⟨⟨g2.os, g2.tape, g2.output, ?_, fun i hi hi2 => ?_⟩, ?_⟩
      · have : (grow ((w.drewN q).setCells b 0 (ys.map vi)) os).heap.size = ((w.drewN q).setCells b 0 (ys.map vi)).heap.size + os.size := by simp [grow]
        rw [this, g3]
        show w.heap.size ≤ w.heap.size + os.size
        omega
      · rw [heap_grow_old _ _ (by rw [g3]; exact hi)]
        exact g2.blk i hi hi2
      · have e1 : splice (xs.map vi ++ rest) 0 (ys.map vi) = ys.map vi ++ rest := by
          unfold splice
          simp [hlen]
        rw [e1] at g1
        obtain ⟨T, hT⟩ := g1
        exact ⟨T, by rw [heap_grow_old _ _ hlt]; exact hT⟩
    have hcmp : CmpLays1 Try.prog 24 #[ptr b13] (Value.int .i64) (cfO t) b 0 xs.toArray.size w := by
      intro m os dk hs x y
      obtain ⟨k1, _⟩ := world m dk.toList os (by simpa using hs)
      have k1 : Keep w (sortWorld (Value.int .i64) w b 0 m dk os) (· = b) := k1
      have hbb := hL b hLb
      refine (ret_of (cmp_d (h.keep k1 (fun y _ hy e => by have e : y = b := e; subst e; exact hy hbb.1)) (hb.keep k1 (fun e => hbb.2.1 e.symm)) (hc.keep k1 (fun e => hbb.2.2 e.symm)) x y)).mono ?_
      rintro e w' ⟨v, rfl, rfl, kd⟩
      exact ⟨rfl, kd.gd⟩
    have eg : ∀ args w, (callFunc 24 args).run Try.prog w = .ok (.enter 24 args) w := enters_of Try.func24 (by kernel_rfl) rfl
    have hS := Any.slices_SortFunc_total Try.sortF (Value.int .i64) (fun _ => rfl) (cfO t) (swo_cfO t) 24 #[ptr b13] b 0 c xs.toArray w eg hcmp hH hB.lt (by simpa using hf) (tot_cfO t)
    refine ret_mk (hS.mono ?_)
    rintro e w' ⟨rfl, q, os, rfl⟩
    have hlen : (sortO t xs).length = xs.length := List.length_mergeSort _
    have es : (xs.toArray.toList.mergeSort fun x y => !(ltOf (cfO t)) y x) = sortO t xs := by
      rw [lt_cfO]; rfl
    rw [es]
    obtain ⟨k1, hB1⟩ := world q (sortO t xs) os hlen
    refine ⟨_, rfl, rfl, ?_, k1.mono (fun y _ e => by have e : y = b := e; subst e; exact hLb)⟩
    refine ⟨by simp, .inr ⟨b, c, rest, by simp [hlen], hLb, hB1, by simp [hlen] at hl ⊢; omega⟩⟩
end
end Go.Proofs.Ytnmbgfonlpjicaa
