import Derived.Test.YtnmbgfonlpjicaaAn12b
import Derived.Test.YtnmbgfonlpjicaaAn12d
namespace Go.Proofs.Ytnmbgfonlpjicaa
open Go.Mw Go.RowKit Go.Shelf
set_option linter.unusedVariables false
set_option linter.unusedSimpArgs false
attribute [local go_sem] Oper.semAt_some
section
variable {n0 b p : Nat} {w w' : World} {cs : List Value} {lv mp vs os : Value} {m : LS} {t : Tr} {lab : Nat → Nat}
theorem LRn.keepS {S : Nat → Prop} (h : LRn n0 w b cs p lv mp vs os m) (k : Keep w w' S) (hs : ∀ y, (y = b ∨ blkOf vs y ∨ blkOf os y) → ¬ S y) : LRn n0 w' b cs p lv mp vs os m :=
  ⟨h.blk.keep k (hs b (.inl rfl)), h.lc, h.gv.keep k (fun y _ e => hs y (.inr (.inl e))), h.go.keep k (fun y _ e => hs y (.inr (.inr e))), h.dv, h.dd, h.b0⟩
theorem LMod.grown {vs' os' : Value} {X Y : World} {row : Option Nat} (h : LMod b vs os vs' os' w X) (hg : X.grownBy Y row) (hr : ∀ r, row = some r → w.heap.size ≤ r) : LMod b vs os vs' os' w Y :=
  ⟨h.1.trans (Keep.of_grown hg) (fun y hy e => by have := hr y e.symm; omega), h.2.1, h.2.2⟩
set_option maxRecDepth 100000 in
set_option maxHeartbeats 4000000 in
theorem last12_ret (hT : TRep w p lab t) (hlab : ∀ x, lab x ≠ 0 → x < n0) (hf : t.Fine) (hv : t.vars ≤ 64) (hR : LRn n0 w b cs p lv mp vs os m) (hm : LSok m) (h1 : 1 ≤ m.left) {l : List (List Int)} (hl : LL w (· < n0) lv l) (hlc : ∀ c ∈ l, c.length ≤ 1000) :
    Ret Try.prog 19 #[ptr b] w (fun r w' => ∃ cs' vs' os', LRn n0 w' b cs' p lv mp vs' os' (lastL t l (t.L.map (·.lit)).reverse m).1 ∧ LMod b vs os vs' os' w w' ∧ r = .tuple #[vi ((lastL t l (t.L.map (·.lit)).reverse m).2.getD 0), .bool (lastL t l (t.L.map (·.lit)).reverse m).2.isSome]) := by
  refine ret_mk ((callsIn_wide (n := 4)).1 ?_)
  refine callsIn_of_wp_marks Try.func19 rfl trivial ?_ rfl
  simp only [Try.ntmps19, List.size_toArray, List.length_cons, List.length_nil, Nat.reduceAdd, Nat.reduceSub, Array.replicate_succ, Array.replicate_zero, List.push_toArray, List.append_toArray, List.nil_append, List.cons_append]
  have B0 := Blk.alloc w [ptr b] 45
  have k0 : Keep w (w.alloc (.cells ⟨[ptr b]⟩ 45)) No := Keep.alloc _ _ _
  have B1 := Blk.alloc (w.alloc (.cells ⟨[ptr b]⟩ 45)) [vi 0] 3
  have k1 : Keep w ((w.alloc (.cells ⟨[ptr b]⟩ 45)).alloc (.cells ⟨[vi 0]⟩ 3)) No := k0.trans (Keep.alloc _ _ _) (fun _ _ h => h)
  have B2 := Blk.alloc ((w.alloc (.cells ⟨[ptr b]⟩ 45)).alloc (.cells ⟨[vi 0]⟩ 3)) [Value.bool false] 4
  have k2 : Keep w (((w.alloc (.cells ⟨[ptr b]⟩ 45)).alloc (.cells ⟨[vi 0]⟩ 3)).alloc (.cells ⟨[Value.bool false]⟩ 4)) No := k1.trans (Keep.alloc _ _ _) (fun _ _ h => h)
  simp only [World.size_alloc] at B1 B2
  have BX : LBox w.heap.size b (vi 0) (.bool false) (((w.alloc (.cells ⟨[ptr b]⟩ 45)).alloc (.cells ⟨[vi 0]⟩ 3)).alloc (.cells ⟨[Value.bool false]⟩ 4)) :=
    ⟨(B0.keep (Keep.alloc _ _ No) (fun h => h)).keep (Keep.alloc _ _ No) (fun h => h), B1.keep (Keep.alloc _ _ No) (fun h => h), B2⟩
  have s2 : (((w.alloc (.cells ⟨[ptr b]⟩ 45)).alloc (.cells ⟨[vi 0]⟩ 3)).alloc (.cells ⟨[Value.bool false]⟩ 4)).heap.size = w.heap.size + 3 := by simp
  obtain ⟨w3, hw3⟩ : ∃ w3, (((w.alloc (.cells ⟨[ptr b]⟩ 45)).alloc (.cells ⟨[vi 0]⟩ 3)).alloc (.cells ⟨[Value.bool false]⟩ 4)) = w3 := ⟨_, rfl⟩
  rw [hw3] at k2 BX s2
  have cw0 : w3.cell? ⟨w.heap.size, 0, none⟩ = some (ptr b) := BX.1.cell rfl
  have R3 := hR.keep k2
  have cb0 : w3.cell? ⟨b, 0, none⟩ = some (ptr p) := R3.blk.cell R3.lc.c0
  have hT3 := hT.keep k2 (fun _ _ _ h => h)
  gi_wp2_with (first | rw [hw3] | (refine ⟨trivial, ?_⟩; gi_at_call 32; refine (callsIn_wide.2 (ret_of (lits_ret hT3))).mono ?_; rintro e w4 ⟨v4, rfl, g4, k4⟩) | (refine ⟨trivial, ?_⟩; gi_at_call 42; refine (callsIn_wide.2 (ret_of (backward_ret _ (GC.one (by assumption)) _))).mono ?_; rintro e w5 ⟨v5, rfl, rfl, B5, k5, s5⟩))
  obtain ⟨A4, c4, rfl, _, hc4⟩ := GC.row2 g4 (by omega)
  have exl : (t.L.map (·.lit)).length = t.L.length := List.length_map _
  have hfl := hf.len
  have q3 := k2.size
  have q4 := k4.size
  have q5 := k5.size
  have hbw : b < w.heap.size := hR.blk.lt
  have hvw : ∀ y, blkOf vs y → y < w.heap.size := fun y e => (GC.blkOf hR.gv e).2
  have how : ∀ y, blkOf os y → y < w.heap.size := fun y e => (GC.blkOf hR.go e).2
  have k05 : Keep w w5 No := (k2.trans k4 (fun _ _ h => h)).trans k5 (fun _ _ h => h)
  have hX : ∀ (j : Nat) x, (t.L.map (·.lit))[j]? = some x → ∃ b0, A4 = some ⟨b0, 0, none⟩ ∧ b0 < w5.heap.size ∧ w5.cell? ⟨b0, j, none⟩ = some (vi x) ∧ ¬ (b0 = b ∨ blkOf vs b0 ∨ blkOf os b0 ∨ w5.heap.size ≤ b0) := fun j x hx => by
    have hj := (List.getElem?_eq_some_iff.1 hx).1
    obtain ⟨b0, c0, rest, hv0, hL0, hB0, _⟩ := GC.pos g4 (by omega)
    simp only [Value.slice.injEq] at hv0
    have hlt0 := hB0.lt
    refine ⟨b0, hv0.1, by omega, (hB0.keep k5 (fun h => h)).cell (by rw [List.getElem?_append_left (by rw [List.length_map]; exact hj), List.getElem?_map, hx]; rfl), ?_⟩
    rintro (e | e | e | e)
    · have : w3.heap.size ≤ b0 := hL0; omega
    · have := hvw _ e; have : w3.heap.size ≤ b0 := hL0; omega
    · have := how _ e; have : w3.heap.size ≤ b0 := hL0; omega
    · omega
  have hKt : ∀ {A B C : World}, Keep A B (fun y => y = b ∨ blkOf vs y ∨ blkOf os y ∨ w5.heap.size ≤ y) → Keep B C (fun y => y = b ∨ blkOf vs y ∨ blkOf os y ∨ w5.heap.size ≤ y) → Keep A C (fun y => y = b ∨ blkOf vs y ∨ blkOf os y ∨ w5.heap.size ≤ y) := fun h k => h.trans k (fun _ _ h => h)
  have hKb : ∀ (W : World) (l : Nat) (o o' : Obj), w5.heap.size ≤ l → W.heap[l]? = some o → o.isCells = false → o.isWalk = false → Keep W (W.putObj l o') (fun y => y = b ∨ blkOf vs y ∨ blkOf os y ∨ w5.heap.size ≤ y) := fun W l o o' hl _ _ _ =>
    (Keep.of_grown (grownBy_putObj' W l o')).mono (fun y _ e => by
      have e : y = l := by simpa using e
      exact .inr (.inr (.inr (by omega))))
  have hst := back1_stops w4.heap.size (S := fun y => y = b ∨ blkOf vs y ∨ blkOf os y ∨ w5.heap.size ≤ y) (xs := t.L.map (·.lit)) (A := A4) (cap := c4) (by omega) (by
    rintro (e | e | e | e)
    · omega
    · have := hvw _ e; omega
    · have := how _ e; omega
    · omega) B5 hX
  refine wpIn_rangeFunc_ownG (F := Fence.wide) (n := 4) rfl (by omega) (gf := 56) (lb := #[.pointer (some ⟨w4.heap.size, 0, none⟩)]) rfl trivial (enters_of Try.func56 (by kernel_rfl) rfl)
    hst hKt hKb (Below.refl _ _) (fun _ => rfl)
    (fun pre W => ∃ m1 cs1 vs1 os1, (∀ rest, lastL t l (bkl pre ++ rest) m = lastL t l rest m1) ∧ LSok m1 ∧ 1 ≤ m1.left ∧ LRn n0 W b cs1 p lv mp vs1 os1 m1 ∧ LMod b vs os vs1 os1 w5 W ∧ LBox w.heap.size b (vi 0) (.bool false) W)
    (fun c pre W => c = .ret ∧ ∃ m1 cs1 vs1 os1 res, (∀ rest, lastL t l (bkl pre ++ rest) m = (m1, res)) ∧ LRn n0 W b cs1 p lv mp vs1 os1 m1 ∧ LMod b vs os vs1 os1 w W ∧ LBox w.heap.size b (vi (res.getD 0)) (.bool res.isSome) W)
    ?own ?ownx
    ⟨m, cs, vs, os, fun rest => rfl, hm, h1, hR.keep k05, LMod.refl _ _ _ _, ⟨(BX.1.keep k4 (fun h => h)).keep k5 (fun h => h), (BX.2.1.keep k4 (fun h => h)).keep k5 (fun h => h), (BX.2.2.keep k4 (fun h => h)).keep k5 (fun h => h)⟩⟩
    (fun x => { tmps := #[ptr b, Value.pointer (some ⟨w.heap.size, 0, none⟩), Value.pointer (some ⟨w.heap.size + 1, 0, none⟩), Value.pointer (some ⟨w.heap.size + 1 + 1, 0, none⟩), undef, vi x.1.2, undef, undef, ptr b,
          Value.pointer (some ⟨b, 0, none⟩), Value.pointer (some ⟨b, 0, none⟩), ptr p, Value.slice A4 t.L.length c4, Value.func (Fn.func 56) #[] #[Value.pointer (some ⟨w4.heap.size, 0, none⟩)], vi x.1.1, vi x.1.2, undef, undef, undef, undef, undef, undef, undef, undef, undef, undef, undef, undef, undef, undef, undef, undef, undef, undef, undef, undef, undef, undef, undef, undef, undef, undef, undef, undef, undef, undef, undef, undef, undef, undef, undef, undef, undef, undef, undef, undef, undef, undef, undef, undef, undef, undef, undef], defers := [] }) ?assign ?body ?done ?stop
  case own =>
    rintro s X Y row ⟨m1, cs1, vs1, os1, g1, g2, g3, g4, g5, g6⟩ hg hrow
    have hr : ∀ r, row = some r → ∃ o : Obj, X.heap[r]? = some o ∧ o.isCells = false := fun r e => (hrow r e).2
    exact ⟨m1, cs1, vs1, os1, g1, g2, g3, g4.grown hg hr, g5.grown hg (fun r e => by have := (hrow r e).1; omega), blk_grown g6.1 hg hr, blk_grown g6.2.1 hg hr, blk_grown g6.2.2 hg hr⟩
  case ownx =>
    rintro c s X Y row ⟨hc, m1, cs1, vs1, os1, res, g1, g4, g5, g6⟩ hg hrow
    have hr : ∀ r, row = some r → ∃ o : Obj, X.heap[r]? = some o ∧ o.isCells = false := fun r e => (hrow r e).2
    exact ⟨hc, m1, cs1, vs1, os1, res, g1, g4.grown hg hr, g5.grown hg (fun r e => by have := (hrow r e).1; omega), blk_grown g6.1 hg hr, blk_grown g6.2.1 hg hr, blk_grown g6.2.2 hg hr⟩
  case assign =>
    intro l x W K hK
    gi_wp2
    exact hK
  case body =>
    rintro ll pre x W ⟨m1, cs1, vs1, os1, g1, g2, g3, hR1, hM1, hB1⟩ hpl
    have kW := hM1.keep (hR.keep k05)
    have hTW := (hT.keep k05 (fun _ _ _ h => h)).keep kW (fun y _ hy e => by have := hlab y hy; have e : n0 ≤ y := e; omega)
    have hlW := (hl.keep k05 (fun _ _ _ h => h)).keep kW (fun y _ hy e => by have hy : y < n0 := hy; have e : n0 ≤ y := e; omega)
    obtain ⟨e0, he0, hex⟩ := List.mem_map.1 x.2
    have hbx := hf.mem he0
    rw [hex] at hbx
    have hcons : ∀ rest m2, (∀ rest, lastL t l (x.1.2 :: rest) m1 = lastL t l rest m2) → lastL t l (bkl (pre ++ [x]) ++ rest) m = lastL t l rest m2 := fun rest m2 h => by
      have := g1 (x.1.2 :: rest)
      rw [h rest] at this
      unfold bkl at this ⊢
      rw [List.map_append, List.append_assoc]; exact this
    have hstopc : ∀ rest m2 res, (∀ rest, lastL t l (x.1.2 :: rest) m1 = (m2, res)) → lastL t l (bkl (pre ++ [x]) ++ rest) m = (m2, res) := fun rest m2 res h => by
      have := g1 (x.1.2 :: rest)
      rw [h rest] at this
      unfold bkl at this ⊢
      rw [List.map_append, List.append_assoc]; exact this
    have lt1 := hB1.1.lt
    have q0 := hM1.1.size
    have hown : ∀ y, (y = b ∨ blkOf vs1 y ∨ blkOf os1 y) → y < w.heap.size ∨ w5.heap.size ≤ y := fun y e => by
      rcases e with e | e | e
      · exact .inl (by omega)
      · rcases hM1.2.1 y e with e | e
        · exact .inl (hvw y e)
        · exact .inr e
      · rcases hM1.2.2 y e with e | e
        · exact .inl (how y e)
        · exact .inr e
    have hbox : ∀ y, y = w.heap.size ∨ y = w.heap.size + 1 ∨ y = w.heap.size + 1 + 1 → ¬ (y = b ∨ blkOf vs1 y ∨ blkOf os1 y) := fun y hy e => by
      have := hown y e
      omega
    have l1 := hB1.2.1.lt
    have l2 := hB1.2.2.lt
    have key := okB19 (l := ll) (n := 4 - 1 - 1) (ptr b) (Value.pointer (some ⟨w.heap.size, 0, none⟩)) (Value.pointer (some ⟨w.heap.size + 1, 0, none⟩)) (Value.pointer (some ⟨w.heap.size + 1 + 1, 0, none⟩)) undef (vi x.1.2) undef undef (ptr b)
          (Value.pointer (some ⟨b, 0, none⟩)) (Value.pointer (some ⟨b, 0, none⟩)) (ptr p) (Value.slice A4 t.L.length c4) (Value.func (Fn.func 56) #[] #[Value.pointer (some ⟨w4.heap.size, 0, none⟩)]) (vi x.1.1) (vi x.1.2) undef undef undef undef undef undef undef undef undef undef undef undef undef undef undef undef undef undef undef undef undef undef undef undef undef undef undef undef undef undef undef undef undef undef undef undef undef undef undef undef undef undef undef undef undef undef undef
      (fun W' => KeepsFrom w5.heap.size W W' ∧ Keep W W' (fun y => y = b ∨ blkOf vs y ∨ blkOf os y ∨ w5.heap.size ≤ y) ∧ ∃ m1 cs1 vs1 os1, (∀ rest, lastL t l (bkl (pre ++ [x]) ++ rest) m = lastL t l rest m1) ∧ LSok m1 ∧ 1 ≤ m1.left ∧ LRn n0 W' b cs1 p lv mp vs1 os1 m1 ∧ LMod b vs os vs1 os1 w5 W' ∧ LBox w.heap.size b (vi 0) (.bool false) W')
      (fun W' => KeepsFrom w5.heap.size W W' ∧ Code.ret = Code.ret ∧ ∃ m1 cs1 vs1 os1 res, (∀ rest, lastL t l (bkl (pre ++ [x]) ++ rest) m = (m1, res)) ∧ LRn n0 W' b cs1 p lv mp vs1 os1 m1 ∧ LMod b vs os vs1 os1 w W' ∧ LBox w.heap.size b (vi (res.getD 0)) (.bool res.isSome) W') W
      (lastbody_ok hTW hlab hf hv hR1 g2 g3 hlW hlc hbx.1 hbx.2 hB1 hbox (by have := hR.b0; omega) (fun W' m2 cs2 vs2 os2 a1 a2 a3 a4 a5 a6 => ⟨(a5.others hR1).from _, a5.1.mono (fun y _ e => by
          rcases e with e | e | e
          · exact .inl e
          · exact (hM1.2.1 y e).elim (fun e => .inr (.inl e)) (fun e => .inr (.inr (.inr e)))
          · exact (hM1.2.2 y e).elim (fun e => .inr (.inr (.inl e))) (fun e => .inr (.inr (.inr e)))), m2, cs2, vs2, os2, fun rest => hcons rest m2 a1, a2, a3, a4, hM1.trans a5, a6⟩)
        (fun W0 W' m2 cs2 vs2 os2 res a1 a2 a3 a4 a5 => by
          have lm := (LMod.of (b := b) (vs := vs) (os := os) k05).trans (hM1.trans a3)
          have q3 := a3.1.size
          have hb2 : ∀ y, (y = b ∨ blkOf vs2 y ∨ blkOf os2 y) → ¬ (y = w.heap.size + 1 ∨ y = w.heap.size + 1 + 1) := fun y e e2 => by
            have h2 : (y = b ∨ blkOf vs1 y ∨ blkOf os1 y) ∨ W.heap.size ≤ y := by
              rcases e with e | e | e
              · exact .inl (.inl e)
              · exact (a3.2.1 y e).imp (fun e => .inr (.inl e)) (fun e => e)
              · exact (a3.2.2 y e).imp (fun e => .inr (.inr e)) (fun e => e)
            rcases h2 with h2 | h2
            · have := hown y h2; omega
            · omega
          refine ⟨KeepsOthers.from ⟨Nat.le_trans q3 a4.size, fun k o hk ho => ?_⟩ _, rfl, m2, cs2, vs2, os2, res, fun rest => hstopc rest m2 res a1, a2.keepS a4 hb2, ⟨lm.1.trans a4 (fun y hy e => by omega), lm.2.1, lm.2.2⟩, a5⟩
          have h0 := (a3.others hR1).same k o hk ho
          have hk0 : k < W0.heap.size := (Array.getElem?_eq_some_iff.1 h0).1
          rw [a4.blk k hk0 (fun e => by
            rcases e with e | e
            · subst e; rw [blk_cells hB1.2.1 hk] at ho; cases ho
            · subst e; rw [blk_cells hB1.2.2 hk] at ho; cases ho)]
          exact h0))
    refine wpIn_mono key ?_
    intro ex a W' h
    cases ex with
    | normal =>
      obtain ⟨e', _, _, hq⟩ := h
      exact hq
    | ret =>
      obtain ⟨e', _, _, hq⟩ := h
      exact hq
    | exit id => obtain ⟨e', _, _, hq⟩ := h; exact hq.elim
    | goto id => obtain ⟨e', _, _, hq⟩ := h; exact hq.elim
    | panic c => exact h.elim
    | outgrown => exact h.elim
  case done =>
    rintro D2 ys W hD2 hys ⟨m1, cs1, vs1, os1, g1, _, _, g4, g5, g6⟩ hK
    have c1 : W.cell? ⟨w.heap.size + 1, 0, none⟩ = some (vi 0) := g6.2.1.cell rfl
    have c2 : W.cell? ⟨w.heap.size + 1 + 1, 0, none⟩ = some (.bool false) := g6.2.2.cell rfl
    have f1 := g6.2.1.frozen (o := 0)
    have f2 := g6.2.2.frozen (o := 0)
    have hres := g1 []
    rw [List.append_nil, hys] at hres
    have hres : lastL t l (t.L.map (·.lit)).reverse m = (m1, none) := hres
    gi_wp2
    have k1 := setCell_keep W (w.heap.size + 1) 0 (Value.int IntKind.i64 0)
    have k2 := setCell_keep (W.setCell ⟨w.heap.size + 1, 0, none⟩ (Value.int IntKind.i64 0)) (w.heap.size + 1 + 1) 0 (Value.bool false)
    have hK' := ((KeepsOthers.setCell W ⟨w.heap.size + 1, 0, none⟩ (Value.int IntKind.i64 0)).trans (KeepsOthers.setCell _ ⟨w.heap.size + 1 + 1, 0, none⟩ (Value.bool false))).same D2 _ hK rfl
    have d1 : (W.setCell ⟨w.heap.size + 1, 0, none⟩ (Value.int IntKind.i64 0)).cell? ⟨w.heap.size + 1, 0, none⟩ = some (vi 0) := World.cell?_setCell_same' _ _ _ (by rw [c1]; rfl)
    have d1 := k2.cell (by show ¬ _ = _; omega) d1
    have d2 := k1.cell (by show ¬ _ = _; omega) c2
    have d2 : ((W.setCell ⟨w.heap.size + 1, 0, none⟩ (Value.int IntKind.i64 0)).setCell ⟨w.heap.size + 1 + 1, 0, none⟩ (Value.bool false)).cell? ⟨w.heap.size + 1 + 1, 0, none⟩ = some (Value.bool false) := World.cell?_setCell_same' _ _ _ (by rw [d2]; rfl)
    have k12 : Keep W ((W.setCell ⟨w.heap.size + 1, 0, none⟩ (Value.int IntKind.i64 0)).setCell ⟨w.heap.size + 1 + 1, 0, none⟩ (Value.bool false)) (fun y => y = w.heap.size + 1 ∨ y = w.heap.size + 1 + 1) := (k1.mono (fun y _ e => .inl e)).trans k2 (fun y _ e => .inr e)
    generalize ((W.setCell ⟨w.heap.size + 1, 0, none⟩ (Value.int IntKind.i64 0)).setCell ⟨w.heap.size + 1 + 1, 0, none⟩ (Value.bool false)) = W2 at hK' d1 d2 k12 ⊢
    have lm := (LMod.of (b := b) (vs := vs) (os := os) k05).trans g5
    have hb2 : ∀ y, (y = b ∨ blkOf vs1 y ∨ blkOf os1 y) → ¬ (y = w.heap.size + 1 ∨ y = w.heap.size + 1 + 1) := fun y e e2 => by
      rcases e with e | e | e
      · omega
      · rcases g5.2.1 y e with e | e
        · have := hvw y e; omega
        · omega
      · rcases g5.2.2 y e with e | e
        · have := how y e; omega
        · omega
    have g4' := g4.keepS k12 hb2
    have g5' : LMod b vs os vs1 os1 w W2 := ⟨lm.1.trans k12 (fun y hy e => by omega), lm.2.1, lm.2.2⟩
    refine ⟨by simp, .inl ⟨_, _, rfl, run_takeDeferred hK', ?_⟩⟩
    have hk5 := cell_kept d1 (grownBy_putObj' _ D2 (.deferred none)) (fun r e => by cases e; exact ⟨_, hK', rfl⟩)
    have hb5 := cell_kept d2 (grownBy_putObj' _ D2 (.deferred none)) (fun r e => by cases e; exact ⟨_, hK', rfl⟩)
    have hrr : ∀ r, some D2 = some r → ∃ o : Obj, W2.heap[r]? = some o ∧ o.isCells = false := fun r e => by cases e; exact ⟨_, hK', rfl⟩
    have hg := grownBy_putObj' W2 D2 (.deferred none)
    refine ⟨.tuple #[vi 0, .bool false], ?_, ?_⟩
    · simp [results, Try.f19, go_sem, hk5, hb5]
    · rw [hres]
      exact ⟨_, rfl, cs1, vs1, os1, g4'.grown hg hrr, g5'.grown hg (fun r e => by cases e; omega), rfl⟩
  case stop =>
    rintro D2 c pre W hD2 ⟨rest, hrest⟩ ⟨rfl, m1, cs1, vs1, os1, res, g1, g4, g5, g6⟩ hK
    have c1 : W.cell? ⟨w.heap.size + 1, 0, none⟩ = some (vi (res.getD 0)) := g6.2.1.cell rfl
    have c2 : W.cell? ⟨w.heap.size + 1 + 1, 0, none⟩ = some (.bool res.isSome) := g6.2.2.cell rfl
    have hres := g1 rest
    rw [hrest] at hres
    gi_wp2
    refine ⟨by simp, .inl ⟨_, _, rfl, run_takeDeferred hK, ?_⟩⟩
    have hk5 := cell_kept c1 (grownBy_putObj' _ D2 (.deferred none)) (fun r e => by cases e; exact ⟨_, hK, rfl⟩)
    have hb5 := cell_kept c2 (grownBy_putObj' _ D2 (.deferred none)) (fun r e => by cases e; exact ⟨_, hK, rfl⟩)
    have hrr : ∀ r, some D2 = some r → ∃ o : Obj, W.heap[r]? = some o ∧ o.isCells = false := fun r e => by cases e; exact ⟨_, hK, rfl⟩
    have hg := grownBy_putObj' W D2 (.deferred none)
    refine ⟨.tuple #[vi (res.getD 0), .bool res.isSome], ?_, ?_⟩
    · simp [results, Try.f19, go_sem, hk5, hb5]
    · rw [hres]
      exact ⟨_, rfl, cs1, vs1, os1, g4.grown hg hrr, g5.grown hg (fun r e => by cases e; omega), rfl⟩
end
end Go.Proofs.Ytnmbgfonlpjicaa
