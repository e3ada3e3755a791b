import Derived.Test.YthkkjjbjpbgcpaaSmt54d
namespace Go.Proofs.Ythkkjjbjpbgcpaa
open Go.Mw Go.Lib
theorem setCell_type {w : World} {a : Addr} {v : Value} {b : Nat} {T : TypeId} {c : Array Value} {fz : Nat × Nat} (h : (w.setCell a v).heap[b]? = some (.cells c T fz)) : ∃ c fz, w.heap[b]? = some (.cells c T fz) := by
  simp only [World.setCell, Array.getElem?_modify] at h
  split at h
  · cases hb : w.heap[b]? with
    | none => rw [hb] at h; simp at h
    | some o =>
      rw [hb] at h
      cases o <;> simp only [Option.map_some, Option.some.injEq, Obj.cells.injEq, reduceCtorEq] at h
      obtain ⟨_, rfl, _⟩ := h
      exact ⟨_, _, rfl⟩
  · exact ⟨_, _, h⟩
theorem wrL_type {ad : Addr} : ∀ (vs : List Value) (i : Nat) (w w' : World), wrL ad vs i w = some w' → ∀ (b : Nat) (T : TypeId), (∃ c fz, w'.heap[b]? = some (.cells c T fz)) → ∃ c fz, w.heap[b]? = some (.cells c T fz)
  | [], i, w, w', h, b, T, hT => by
    simp only [wrL, Option.some.injEq] at h
    subst h; exact hT
  | v :: vs, i, w, w', h, b, T, hT => by
    simp only [wrL] at h
    split at h
    · split at h
      · split at h
        · cases h
        · obtain ⟨c, fz, h2⟩ := wrL_type vs (i + 1) _ w' h b T hT
          exact setCell_type h2
      · cases h
    · cases h
/-- 'append', with the type of the block that it lays. -/
theorem M.appendT_i {k : Kt} {w : World} {el sz bytes : Nat} {zero : Array Value} {L D : Nat → Prop} {v : Value} {n m c : Nat} {l ys : List Value} {B : Option Addr}
    (h : GC w L sz v n l) (hr : Row w D B ys) (hm : ys.length = m * sz) (hone : ∀ y ∈ ys, y.oneCell' = true) (hz : zero.size = sz) (hb0 : 0 < bytes)
    (hb : (2 * (n + m) + 512) * bytes ≤ 281474976710656)
    (hk : ∀ v' w', GC w' (fun b => (L b ∧ ∀ T, (∃ cs fz, w'.heap[b]? = some (.cells cs T fz)) → ∃ cs fz, w.heap[b]? = some (.cells cs T fz)) ∨ (w.heap.size ≤ b ∧ ∃ cs fz, w'.heap[b]? = some (.cells cs el fz))) sz v' (n + m) (l ++ ys) → Keep w w' L → k v' w') : M.append el sz bytes zero v (.slice B m c) k w := by
  obtain ⟨h0, h⟩ := h
  have hsrc := hr.srcL hm.symm
  have hlen : (l ++ ys).length = (n + m) * sz := by simp [h0, hm, Nat.add_mul]
  rcases h with ⟨rfl, rfl⟩ | ⟨b, cc, rest, rfl, hL, hB, hcc⟩
  · have hl0 : l = [] := by simpa using h0
    subst hl0
    refine ⟨ys, hsrc, ?_⟩
    by_cases hle : 0 + m ≤ 0
    · have hm0 : m = 0 := by omega
      subst hm0
      have hy0 : ys = [] := by simpa using hm
      subst hy0
      simp only [Nat.le_refl, if_true, Nat.add_zero]
      exact hk _ _ ⟨by simp, .inl ⟨rfl, by omega⟩⟩ (Keep.refl _ _)
    · simp only [hle, if_false]
      have hn := Go.Mw.nextslicecap_le (n := 0 + m) (c := 0) (by omega)
      refine ⟨⟨Nat.le_trans (Nat.mul_le_mul_right bytes hn) hb, hb0⟩, [], ?_, fun c' h1 h2 => ?_⟩
      · simp [srcL]
      · refine hk _ _ ⟨hlen, .inr ⟨_, c', (Builtin.zeroCells zero (c' - (0 + m))).toList, rfl, .inr ⟨Nat.le_refl _, _, _, alloc_new w.drew _⟩, ?_, ?_⟩⟩ ?_
        · have := Blk.alloc w.drew ([] ++ ys ++ (Builtin.zeroCells zero (c' - (0 + m))).toList) el
          simpa using this
        · have e1 : (Builtin.zeroCells zero (c' - (0 + m))).toList.length = (c' - (0 + m)) * sz := by simp [Builtin.zeroCells, hz]
          rw [e1, hlen, ← Nat.add_mul]
          congr 1; omega
        · exact ((Keep.drew w L).trans (Keep.alloc w.drew _ L) (fun _ _ h => h))
  · refine ⟨ys, hsrc, ?_⟩
    by_cases hle : n + m ≤ cc
    · simp only [hle, if_true]
      have hr2 : ys.length ≤ rest.length := by
        have h1 : (n + m) * sz ≤ cc * sz := Nat.mul_le_mul_right _ hle
        have h2 : (n + m) * sz = n * sz + m * sz := Nat.add_mul _ _ _
        omega
      obtain ⟨w', h1, h2, h3, h4⟩ := wrL_blk ys (n * sz) 0 w (l ++ rest) hB (by simp; omega) hone
      have e0 : (⟨b, 0, none⟩ : Addr).add (n * sz) = ⟨b, n * sz, none⟩ := by rw [add_mk, Nat.zero_add]
      rw [e0, h1]
      refine hk _ _ ⟨hlen, .inr ⟨b, cc, rest.drop ys.length, rfl, .inl ⟨hL, wrL_type _ _ _ _ h1 b⟩, ?_, ?_⟩⟩ (h3.mono fun i _ hi => hi ▸ hL)
      · rw [Nat.add_zero, ← h0, splice_end hr2] at h2
        exact h2
      · simp; omega
    · simp only [hle, if_false]
      have hn := Go.Mw.nextslicecap_le (n := n + m) (c := cc) (by omega)
      have hold : srcL w (some ⟨b, 0, none⟩) (n * sz) = some l := (Row.of_blk (D := fun _ => True) hB trivial).srcL h0.symm
      refine ⟨⟨Nat.le_trans (Nat.mul_le_mul_right bytes hn) hb, hb0⟩, l, hold, fun c' h1 h2 => ?_⟩
      refine hk _ _ ⟨hlen, .inr ⟨_, c', (Builtin.zeroCells zero (c' - (n + m))).toList, rfl, .inr ⟨Nat.le_refl _, _, _, alloc_new w.drew _⟩, ?_, ?_⟩⟩ ?_
      · have := Blk.alloc w.drew (l ++ ys ++ (Builtin.zeroCells zero (c' - (n + m))).toList) el
        simpa using this
      · have e1 : (Builtin.zeroCells zero (c' - (n + m))).toList.length = (c' - (n + m)) * sz := by simp [Builtin.zeroCells, hz]
        rw [e1, hlen, ← Nat.add_mul]
        congr 1; omega
      · exact ((Keep.drew w L).trans (Keep.alloc w.drew _ L) (fun _ _ h => h))
theorem M.buildSliceT_i {k : Kt} {w : World} {el sz : Nat} {zero : Array Value} {len : Nat} {parts : List (Nat × Value)} (l : List Value)
    (hf : Instr.fill (fun i => some (i * sz, sz)) (mkCells zero (len * sz)) parts = some ⟨l⟩)
    (h : ∀ w', BlkT el w' w.heap.size l → Keep w w' No → w'.heap.size = w.heap.size + 1 → k (.slice (some ⟨w.heap.size, 0, none⟩) len len) w') :
    M.buildSlice el sz zero len parts k w := by
  unfold M.buildSlice
  simp only [hf]
  exact h _ (alloc_new w _) (Keep.alloc w _ _) (by simp)
set_option linter.unusedVariables false
set_option linter.unusedSimpArgs false
set_option maxRecDepth 100000
attribute [local irreducible] M.val M.unit M.next M.pick M.new M.nilCheck M.load1 M.loadA M.store M.fieldAddr M.indexSl M.indexArr M.slice M.makeSlice M.buildSlice M.len M.lenS M.cap M.append M.extract M.conv M.not M.neg M.bin M.shift M.eqB M.eqNil M.scat M.call M.callv M.gd M.share M.cond M.loop M.draw pureW readW Ret
/-- What waits to be written. -/
def WL (X : Nat → Prop) (w : World) (b : Nat) (v : Value) (ps : List Pc) : Prop := GC w (fun i => b < i ∧ ¬ isU8 w i ∧ ¬ X i) 2 v ps.length (ps.flatMap Pc.cells)
theorem pcs_flen (ps : List Pc) : (ps.flatMap Pc.cells).length = ps.length * 2 := by
  induction ps with
  | nil => rfl
  | cons p ps ih => simp only [List.flatMap_cons, List.length_append, List.length_cons, ih, Pc.cells]; simp; omega
theorem WL.keep {X : Nat → Prop} {w w' : World} {b : Nat} {v : Value} {ps : List Pc} {S : Nat → Prop} (h : WL X w b v ps) (k : Keep w w' S) (hs : ∀ i, i < w.heap.size → b < i → ¬ isU8 w i → ¬ S i) : WL X w' b v ps := by
  obtain ⟨h0, h | ⟨g, c, rest, h1, ⟨h2, h3, hx⟩, h4, h5⟩⟩ := h
  · exact ⟨h0, .inl h⟩
  · have hg := hs g h4.lt h2 h3
    refine ⟨h0, .inr ⟨g, c, rest, h1, ⟨h2, fun ⟨cs, fz, e⟩ => h3 ⟨cs, fz, by rw [← k.blk g h4.lt hg]; exact e⟩, hx⟩, h4.keep k hg, h5⟩⟩
theorem WL.keepN {X : Nat → Prop} {w w' : World} {b : Nat} {v : Value} {ps : List Pc} (h : WL X w b v ps) (k : Keep w w' No) : WL X w' b v ps := h.keep k (fun _ _ _ _ h => h)
theorem WL.excl {X : Nat → Prop} {w w' : World} {b : Nat} {v : Value} {ps : List Pc} (h : WL No w b v ps) (k : Keep w w' No) (hX : ∀ i, X i → w.heap.size ≤ i) : WL X w' b v ps := by
  have hs := h.keepN k
  obtain ⟨h0, h | ⟨g, c, rest, h1, ⟨h2, h3, hx⟩, h4, h5⟩⟩ := h
  · exact ⟨h0, .inl h⟩
  · refine ⟨h0, .inr ⟨g, c, rest, h1, ⟨h2, fun ⟨cs, fz, e⟩ => h3 ⟨cs, fz, by rw [← k.blk g h4.lt (fun h => h)]; exact e⟩, fun e => by have := hX g e; have := h4.lt; omega⟩, h4.keep k (fun h => h), h5⟩⟩
theorem WL.incl {X : Nat → Prop} {w : World} {b : Nat} {v : Value} {ps : List Pc} (h : WL X w b v ps) : WL No w b v ps := GC.mono h (fun i _ e => ⟨e.1, e.2.1, fun h => h⟩)
theorem M.pushPc_i {X : Nat → Prop} {k : Kt} {w : World} {b : Nat} {v : Value} {ps : List Pc} (h : WL X w b v ps) (hX : ∀ i, X i → i < w.heap.size) (hb : b < w.heap.size) (hn : ps.length ≤ 1000000) (p : Pc)
    (hk : ∀ v' w', WL X w' b v' (ps ++ [p]) → Keep w w' (fun i => b < i ∧ ¬ isU8 w i ∧ ¬ X i) → k v' w') :
    M.buildSlice 63 2 #[.string ByteArray.empty, .int .i64 0] 1 [(0, .agg ⟨p.cells⟩)] (fun t w => M.append 63 2 24 #[.string ByteArray.empty, .int .i64 0] v t (fun t' w => k t' w) w) w := by
  refine M.buildSlice_i p.cells (by kernel_rfl) (fun w1 b1 k1 s1 => ?_)
  have h1 := h.keepN k1
  refine M.appendT_i h1 (Row.of_blk' (D := fun _ => True) b1 trivial) rfl (pcone _ _) rfl (by omega) (by omega) (fun v2 w2 g2 k2 => ?_)
  have q1 := k1.size
  have up : ∀ i, i < w.heap.size → (isU8 w1 i ↔ isU8 w i) := fun i hi => by
    unfold isU8
    rw [k1.blk i hi (fun h => h)]
  refine hk v2 w2 ?_ ((k1.mono (fun _ _ h => h.elim)).trans k2 (fun i hi e => ⟨e.1, fun hu => e.2.1 ((up i hi).2 hu), e.2.2⟩))
  unfold WL
  rw [List.flatMap_append]
  have e : [p].flatMap Pc.cells = p.cells := by simp
  rw [e, List.length_append]
  obtain ⟨g0, g | ⟨g, c, rest, e1, e2, e3, e4⟩⟩ := g2
  · exact ⟨g0, .inl g⟩
  · refine ⟨g0, .inr ⟨g, c, rest, e1, ?_, e3, e4⟩⟩
    rcases e2 with ⟨⟨e2, e5, ex⟩, e6⟩ | ⟨e2, cs, fz, e5⟩
    · exact ⟨e2, fun hu => e5 (e6 _ hu), ex⟩
    · refine ⟨by omega, ?_, fun e => by have := hX g e; omega⟩
      rintro ⟨cs', fz', hu⟩
      rw [e5] at hu
      simp only [Option.some.injEq, Obj.cells.injEq] at hu
      exact absurd hu.2.1 (by decide)
theorem WL.pop {X : Nat → Prop} {w : World} {b : Nat} {v : Value} {ps : List Pc} {p : Pc} (h : WL X w b v (ps ++ [p])) : ∃ g c, v = .slice (some ⟨g, 0, none⟩) (ps.length + 1) c ∧ c ≠ 0 ∧ w.cell? ⟨g, ps.length * 2, none⟩ = some (vs p.s) ∧ w.cell? ⟨g, ps.length * 2 + 1, none⟩ = some (vi p.id) ∧ WL X w b (.slice (some ⟨g, 0, none⟩) ps.length c) ps := by
  have hl := pcs_flen ps
  obtain ⟨h0, ⟨_, h⟩ | ⟨g, c, rest, h1, h2, h3, h4⟩⟩ := h
  · simp at h
  · rw [List.flatMap_append, List.append_assoc] at h3
    rw [pcs_flen, List.length_append] at h4
    simp only [List.length_singleton] at h4
    refine ⟨g, c, by rw [h1]; simp, by omega, h3.cell ?_, h3.cell ?_, hl, .inr ⟨g, c, p.cells ++ rest, rfl, h2, by simpa using h3, by rw [hl, List.length_append]; show _ + (2 + _) = _; omega⟩⟩
    · rw [List.getElem?_append_right (by omega), hl, Nat.sub_self]; rfl
    · rw [List.getElem?_append_right (by omega), hl, Nat.add_sub_cancel_left]; rfl
end Go.Proofs.Ythkkjjbjpbgcpaa
