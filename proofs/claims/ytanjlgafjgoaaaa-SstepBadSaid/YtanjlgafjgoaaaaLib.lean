import Derived.Test.YtanjlgafjgoaaaaCore
set_option linter.unusedVariables false
set_option linter.unusedSimpArgs false
namespace Go.Mw

/-! ### calls -/
def Ret (P : Program) (f : FuncId) (args : Array Value) (w : World) (Q : Kt) : Prop := Calls P f args w (fun e w' => ∃ v, e = .returned v ∧ Q v w')
theorem ret_mk {P : Program} {f : FuncId} {args : Array Value} {w : World} {Q : Kt} (h : Calls P f args w (fun e w' => ∃ v, e = .returned v ∧ Q v w')) : Ret P f args w Q := h
theorem ret_of {P : Program} {f : FuncId} {args : Array Value} {w : World} {Q : Kt} (h : Ret P f args w Q) : Calls P f args w (fun e w' => ∃ v, e = .returned v ∧ Q v w') := h
theorem Ret.mono {P : Program} {f : FuncId} {args : Array Value} {w : World} {Q Q' : Kt} (h : Ret P f args w Q) (hq : ∀ v w', Q v w' → Q' v w') : Ret P f args w Q' :=
  Calls.mono h fun e w' ⟨v, e1, e2⟩ => ⟨v, e1, hq v w' e2⟩
theorem M.call_i {P : Program} {f : FuncId} {args : Array Value} {w : World} {Q k : Kt} (h : Ret P f args w Q) (hk : ∀ v w', Q v w' → k v w') : M.call P f args k w :=
  h.mono hk

/-! ### worlds -/
structure Keep (w w' : World) (S : Nat → Prop) : Prop where
  os : w'.os = w.os
  tape : w'.tape = w.tape
  output : w'.output = w.output
  size : w.heap.size ≤ w'.heap.size
  blk : ∀ b, b < w.heap.size → ¬ S b → w'.heap[b]? = w.heap[b]?
abbrev No : Nat → Prop := fun _ => False
theorem Keep.refl (w : World) (S : Nat → Prop) : Keep w w S := ⟨rfl, rfl, rfl, Nat.le_refl _, fun _ _ _ => rfl⟩
theorem Keep.drew (w : World) (S : Nat → Prop) : Keep w w.drew S := ⟨rfl, rfl, rfl, Nat.le_refl _, fun _ _ _ => rfl⟩
theorem Keep.trans {a b c : World} {S T : Nat → Prop} (h : Keep a b S) (k : Keep b c T) (hs : ∀ i, i < a.heap.size → T i → S i) : Keep a c S :=
  ⟨k.os.trans h.os, k.tape.trans h.tape, k.output.trans h.output, Nat.le_trans h.size k.size, fun i hi hn =>
    (k.blk i (Nat.lt_of_lt_of_le hi h.size) (fun ht => hn (hs i hi ht))).trans (h.blk i hi hn)⟩
theorem Keep.mono {a b : World} {S T : Nat → Prop} (h : Keep a b S) (hs : ∀ i, i < a.heap.size → S i → T i) : Keep a b T :=
  ⟨h.os, h.tape, h.output, h.size, fun i hi hn => h.blk i hi (fun x => hn (hs i hi x))⟩
theorem Keep.of_drew {a b : World} {S : Nat → Prop} (h : Keep a.drew b S) : Keep a b S := ⟨h.os, h.tape, h.output, h.size, h.blk⟩
theorem Keep.to_drew {a b : World} {S : Nat → Prop} (h : Keep a b S) : Keep a b.drew S := ⟨h.os, h.tape, h.output, h.size, h.blk⟩
theorem Keep.alloc (w : World) (o : Obj) (S : Nat → Prop) : Keep w (w.alloc o) S :=
  ⟨rfl, rfl, rfl, by simp, fun b hb _ => by show (w.heap.push o)[b]? = _; rw [Array.getElem?_push, if_neg (by omega)]⟩
theorem alloc_new (w : World) (o : Obj) : (w.alloc o).heap[w.heap.size]? = some o := by
  show (w.heap.push o)[w.heap.size]? = _; simp
theorem lt_of_heap {w : World} {b : Nat} {o : Obj} (h : w.heap[b]? = some o) : b < w.heap.size := by
  rcases Nat.lt_or_ge b w.heap.size with h' | h'
  · exact h'
  · simp [Array.getElem?_eq_none h'] at h

/-- A block of cells, not frozen. -/
def Blk (w : World) (b : Nat) (l : List Value) : Prop := ∃ T, w.heap[b]? = some (.cells ⟨l⟩ T (0, 0))
theorem Blk.lt {w : World} {b : Nat} {l : List Value} (h : Blk w b l) : b < w.heap.size := lt_of_heap h.choose_spec
theorem Blk.keep {w w' : World} {b : Nat} {l : List Value} {S : Nat → Prop} (h : Blk w b l) (k : Keep w w' S) (hs : ¬ S b) : Blk w' b l := by
  obtain ⟨T, hT⟩ := h
  exact ⟨T, by rw [k.blk b (lt_of_heap hT) hs]; exact hT⟩
theorem Blk.drew {w : World} {b : Nat} {l : List Value} (h : Blk w b l) : Blk w.drew b l := h
theorem Blk.cell {w : World} {b o : Nat} {l : List Value} {v : Value} (h : Blk w b l) (hv : l[o]? = some v) : w.cell? ⟨b, o, none⟩ = some v := by
  obtain ⟨T, hT⟩ := h
  simp only [World.cell?, hT]
  simpa using hv
theorem Blk.frozen {w : World} {b o : Nat} {l : List Value} (h : Blk w b l) : w.frozen? ⟨b, o, none⟩ = false := by
  obtain ⟨T, hT⟩ := h
  simp [World.frozen?, hT]
theorem Blk.alloc (w : World) (l : List Value) (T : TypeId) : Blk (w.alloc (.cells ⟨l⟩ T)) w.heap.size l := ⟨T, alloc_new w _⟩
theorem Blk.eq {w : World} {b : Nat} {l l' : List Value} (h : Blk w b l) (h' : Blk w b l') : l = l' := by
  obtain ⟨T, hT⟩ := h
  obtain ⟨T', hT'⟩ := h'
  rw [hT] at hT'
  simpa using (Option.some.inj hT') |> fun h => (Obj.cells.inj h).1

theorem setCell_blk {w : World} {b o : Nat} {l : List Value} (h : Blk w b l) (v : Value) : Blk (w.setCell ⟨b, o, none⟩ v) b (l.set o v) := by
  obtain ⟨T, hT⟩ := h
  refine ⟨T, ?_⟩
  simp only [World.setCell, Array.getElem?_modify, hT]
  simp
theorem setCell_keep (w : World) (b o : Nat) (v : Value) : Keep w (w.setCell ⟨b, o, none⟩ v) (· = b) :=
  ⟨rfl, rfl, rfl, by simp, fun i hi hn => by
    simp only [World.setCell, Array.getElem?_modify]
    rw [if_neg (fun h => hn h.symm)]⟩

/-- What l is behind vs is written from place o on. -/
def splice (l : List Value) (o : Nat) (vs : List Value) : List Value := l.take o ++ vs ++ l.drop (o + vs.length)
theorem splice_nil (l : List Value) (o : Nat) : splice l o [] = l := by simp [splice]
theorem splice_length {l vs : List Value} {o : Nat} (h : o + vs.length ≤ l.length) : (splice l o vs).length = l.length := by
  simp only [splice, List.length_append, List.length_take, List.length_drop]; omega
theorem splice_cons {l vs : List Value} {o : Nat} {v : Value} (h : o < l.length) : splice (l.set o v) (o + 1) vs = splice l o (v :: vs) := by
  simp only [splice, List.length_cons]
  have e1 : (l.set o v).take (o + 1) = l.take o ++ [v] := by
    apply List.ext_getElem?
    intro i
    simp only [List.getElem?_take, List.getElem?_set, List.getElem?_append, List.length_take]
    by_cases h1 : i < o
    · have h2 : i < min o l.length := by omega
      have h3 : o ≠ i := by omega
      have h4 : i < o + 1 := by omega
      simp [h1, h2, h3, h4]
    · by_cases h2 : i = o
      · subst h2
        simp [h, Nat.min_eq_left (Nat.le_of_lt h)]
      · have h3 : ¬ i < min o l.length := by omega
        have h4 : ¬ i < o + 1 := by omega
        have h5 : ¬ (i - min o l.length = 0) := by omega
        simp only [h4, if_false, h3]
        rw [List.getElem?_eq_none (by simp; omega)]
  have e2 : (l.set o v).drop (o + 1 + vs.length) = l.drop (o + (vs.length + 1)) := by
    rw [List.drop_set_of_lt (by omega)]
    congr 1
    omega
  rw [e1, e2]
  simp
theorem splice_zero {l vs : List Value} (h : vs.length = l.length) : splice l 0 vs = vs := by simp [splice, ← h]
theorem splice_end {a b vs : List Value} (h : vs.length ≤ b.length) : splice (a ++ b) a.length vs = a ++ vs ++ b.drop vs.length := by
  simp [splice, List.drop_append]

theorem add_mk (b o n : Nat) : (⟨b, o, none⟩ : Addr).add n = ⟨b, o + n, none⟩ := by
  unfold Addr.add
  split
  · rename_i h; simp [h]
  · rfl

theorem wrL_blk {b : Nat} : ∀ (vs : List Value) (o i : Nat) (w : World) (l : List Value), Blk w b l → o + i + vs.length ≤ l.length → (∀ v ∈ vs, v.oneCell' = true) →
    ∃ w', wrL ⟨b, o, none⟩ vs i w = some w' ∧ Blk w' b (splice l (o + i) vs) ∧ Keep w w' (· = b) ∧ w'.heap.size = w.heap.size
  | [], o, i, w, l, h, _, _ => ⟨w, rfl, by rw [splice_nil]; exact h, Keep.refl _ _, rfl⟩
  | v :: vs, o, i, w, l, h, hl, hv => by
    have hlt : o + i < l.length := by simp at hl; omega
    have hc : w.cell? ⟨b, o + i, none⟩ = some l[o + i] := h.cell (List.getElem?_eq_getElem hlt)
    obtain ⟨w', h1, h2, h3, h4⟩ := wrL_blk vs o (i + 1) (w.setCell ⟨b, o + i, none⟩ v) (l.set (o + i) v) (setCell_blk h v) (by simp at hl ⊢; omega)
      (fun x hx => hv x (List.mem_cons_of_mem _ hx))
    refine ⟨w', ?_, ?_, (setCell_keep w b (o + i) v).trans h3 (fun _ _ h => h), by rw [h4]; simp⟩
    · simp only [wrL, hv v List.mem_cons_self, if_true, add_mk, hc, h.frozen]
      simpa using h1
    · rw [← splice_cons hlt]; exact h2

/-! ### a row of cells that is read -/
def Row (w : World) (D : Nat → Prop) (A : Option Addr) (l : List Value) : Prop :=
  l = [] ∨ ∃ b o c T fz, A = some ⟨b, o, none⟩ ∧ D b ∧ w.heap[b]? = some (.cells c T fz) ∧ ∀ i, i < l.length → c[o + i]? = l[i]?
theorem Row.keep {w w' : World} {D S : Nat → Prop} {A : Option Addr} {l : List Value} (h : Row w D A l) (k : Keep w w' S) (hs : ∀ b, b < w.heap.size → D b → ¬ S b) : Row w' D A l := by
  rcases h with h | ⟨b, o, c, T, fz, h1, h2, h3, h4⟩
  · exact .inl h
  · exact .inr ⟨b, o, c, T, fz, h1, h2, by rw [k.blk b (lt_of_heap h3) (hs b (lt_of_heap h3) h2)]; exact h3, h4⟩
theorem Row.mono {w : World} {D D' : Nat → Prop} {A : Option Addr} {l : List Value} (h : Row w D A l) (hd : ∀ b, b < w.heap.size → D b → D' b) : Row w D' A l := by
  rcases h with h | ⟨b, o, c, T, fz, h1, h2, h3, h4⟩
  · exact .inl h
  · exact .inr ⟨b, o, c, T, fz, h1, hd b (lt_of_heap h3) h2, h3, h4⟩
theorem Row.drew {w : World} {D : Nat → Prop} {A : Option Addr} {l : List Value} (h : Row w D A l) : Row w.drew D A l := h
theorem Row.nil (w : World) (D : Nat → Prop) (A : Option Addr) : Row w D A [] := .inl rfl
theorem Row.of_blk {w : World} {D : Nat → Prop} {b : Nat} {l r : List Value} (h : Blk w b (l ++ r)) (hd : D b) : Row w D (some ⟨b, 0, none⟩) l := by
  obtain ⟨T, hT⟩ := h
  refine .inr ⟨b, 0, _, T, _, rfl, hd, hT, fun i hi => ?_⟩
  simp [List.getElem?_append_left hi]
theorem Row.of_blk' {w : World} {D : Nat → Prop} {b : Nat} {l : List Value} (h : Blk w b l) (hd : D b) : Row w D (some ⟨b, 0, none⟩) l :=
  Row.of_blk (r := []) (by simpa using h) hd
/-- A part of a row. -/
theorem Row.take {w : World} {D : Nat → Prop} {A : Option Addr} {l : List Value} (h : Row w D A l) (n : Nat) : Row w D A (l.take n) := by
  rcases h with h | ⟨b, o, c, T, fz, h1, h2, h3, h4⟩
  · exact .inl (by simp [h])
  · refine .inr ⟨b, o, c, T, fz, h1, h2, h3, fun i hi => ?_⟩
    simp only [List.length_take] at hi
    rw [h4 i (by omega), List.getElem?_take, if_pos (by omega)]
theorem Row.drop {w : World} {D : Nat → Prop} {A : Option Addr} {l : List Value} (h : Row w D A l) (n : Nat) : Row w D (A.map (·.add n)) (l.drop n) := by
  rcases h with h | ⟨b, o, c, T, fz, h1, h2, h3, h4⟩
  · exact .inl (by simp [h])
  · refine .inr ⟨b, o + n, c, T, fz, by rw [h1]; simp [add_mk], h2, h3, fun i hi => ?_⟩
    simp only [List.length_drop] at hi
    rw [List.getElem?_drop, ← h4 (n + i) (by omega)]
    congr 1; omega
theorem Row.rd {w : World} {D : Nat → Prop} {ad : Addr} {l : List Value} (h : Row w D (some ad) l) : ∀ (n i : Nat), i + n ≤ l.length → rdL w ad n i = some ((l.drop i).take n)
  | 0, i, _ => by simp [rdL]
  | n + 1, i, hi => by
    have ih := Row.rd h n (i + 1) (by omega)
    rcases h with h | ⟨b, o, c, T, fz, h1, h2, h3, h4⟩
    · simp [h] at hi
    · obtain rfl := Option.some.inj h1
      have hc : w.cell? ⟨b, o + i, none⟩ = some l[i] := by
        simp only [World.cell?, h3]
        rw [← List.getElem?_eq_getElem (by omega), ← h4 i (by omega)]
        simp
      simp only [rdL, add_mk, hc, ih]
      simp only [Option.map_some]
      rw [List.drop_eq_getElem_cons (by omega : i < l.length), List.take_succ_cons]
theorem Row.src {w : World} {D : Nat → Prop} {A : Option Addr} {l : List Value} (h : Row w D A l) : srcL w A l.length = some l ∨ (l = [] ∧ ∀ A, srcL w A 0 = some []) := by
  rcases A with _ | ad
  · rcases h with h | ⟨b, o, c, T, fz, h1, _⟩
    · exact .inr ⟨h, fun A => by cases A <;> simp [srcL, rdL]⟩
    · cases h1
  · left
    have := h.rd l.length 0 (by omega)
    simpa [srcL] using this
theorem Row.srcL {w : World} {D : Nat → Prop} {A : Option Addr} {l : List Value} (h : Row w D A l) {n : Nat} (hn : n = l.length) : Mw.srcL w A n = some l := by
  subst hn
  rcases h.src with h1 | ⟨rfl, h1⟩
  · exact h1
  · exact h1 A

/-! ### steps -/
section
variable {k : Kt} {w : World}
theorem M.len_i {A : Option Addr} {n c : Nat} (h : k (.int .i64 n) w) : M.len (.slice A n c) k w := h
theorem M.cap_i {A : Option Addr} {n c : Nat} (h : k (.int .i64 c) w) : M.cap (.slice A n c) k w := h
theorem M.not_i {b : Bool} (h : k (.bool !b) w) : M.not (.bool b) k w := h
theorem M.nilCheck_i {a : Addr} (h : k (.pointer (some a)) w) : M.nilCheck (.pointer (some a)) k w := h
theorem M.field_i {b o off : Nat} (h : k (.pointer (some ⟨b, o + off, none⟩)) w) : M.fieldAddr off (.pointer (some ⟨b, o, none⟩)) k w := by
  unfold M.fieldAddr; simp only [add_mk]; exact h
theorem M.load_i {a : Addr} {v : Value} (hc : w.cell? a = some v) (h : k v w) : M.load1 (.pointer (some a)) k w := by
  unfold M.load1; simp only [hc]; exact h
theorem M.loadB_i {b o : Nat} {l : List Value} {v : Value} (hb : Blk w b l) (hv : l[o]? = some v) (h : k v w) : M.load1 (.pointer (some ⟨b, o, none⟩)) k w :=
  M.load_i (hb.cell hv) h
theorem M.loadA_i {b o n : Nat} {l : List Value} (hb : Blk w b l) (hn : o + n ≤ l.length) (h : k (.agg ⟨(l.drop o).take n⟩) w) : M.loadA n (.pointer (some ⟨b, o, none⟩)) k w := by
  have hr : Row w (fun _ => True) (some ⟨b, 0, none⟩) l := Row.of_blk' hb trivial
  have h2 := (hr.drop o)
  simp only [Option.map_some, add_mk, Nat.zero_add] at h2
  have h3 := h2.rd n 0 (by simp; omega)
  unfold M.loadA
  simp only [h3]
  simpa using h
theorem M.loadAll_i {b n : Nat} {l : List Value} (hb : Blk w b l) (hn : l.length = n) (h : k (.agg ⟨l⟩) w) : M.loadA n (.pointer (some ⟨b, 0, none⟩)) k w :=
  M.loadA_i hb (by omega) (by subst hn; simpa using h)
theorem M.store_i {b o : Nat} {l : List Value} {v : Value} (hb : Blk w b l) (ho : o < l.length) (hv : v.oneCell' = true)
    (h : ∀ w', Blk w' b (l.set o v) → Keep w w' (· = b) → w'.heap.size = w.heap.size → k undef w') : M.store 1 (.pointer (some ⟨b, o, none⟩)) v k w := by
  have hc : v.cells = #[v] := by cases v <;> simp_all [Value.cells, Value.oneCell']
  obtain ⟨w', h1, h2, h3, h4⟩ := wrL_blk [v] o 0 w l hb (by simp; omega) (by simpa using hv)
  unfold M.store
  simp only [hc, h1]
  refine ⟨rfl, h w' ?_ h3 h4⟩
  have : splice l o [v] = l.set o v := by rw [← splice_cons (by omega), splice_nil]
  rw [← this]; exact h2
theorem M.storeAll_i {b n : Nat} {l : List Value} {vs : List Value} (hb : Blk w b l) (hn : vs.length = n) (hl : l.length = n) (hv : ∀ v ∈ vs, v.oneCell' = true)
    (h : ∀ w', Blk w' b vs → Keep w w' (· = b) → w'.heap.size = w.heap.size → k undef w') : M.store n (.pointer (some ⟨b, 0, none⟩)) (.agg ⟨vs⟩) k w := by
  obtain ⟨w', h1, h2, h3, h4⟩ := wrL_blk vs 0 0 w l hb (by omega) hv
  unfold M.store
  simp only [Value.cells, h1]
  refine ⟨by simpa using hn, h w' ?_ h3 h4⟩
  rw [Nat.add_zero, splice_zero (by omega)] at h2; exact h2
theorem M.storePart_i {b o n : Nat} {l : List Value} {vs : List Value} (hb : Blk w b l) (hn : vs.length = n) (hl : o + n ≤ l.length) (hv : ∀ v ∈ vs, v.oneCell' = true)
    (h : ∀ w', Blk w' b (splice l o vs) → Keep w w' (· = b) → w'.heap.size = w.heap.size → k undef w') : M.store n (.pointer (some ⟨b, o, none⟩)) (.agg ⟨vs⟩) k w := by
  obtain ⟨w', h1, h2, h3, h4⟩ := wrL_blk vs o 0 w l hb (by omega) hv
  unfold M.store
  simp only [Value.cells, h1]
  exact ⟨by simpa using hn, h w' h2 h3 h4⟩
theorem M.new_i {T : TypeId} {l : List Value} (h : ∀ w', Blk w' w.heap.size l → Keep w w' No → w'.heap.size = w.heap.size + 1 → k (.pointer (some ⟨w.heap.size, 0, none⟩)) w') :
    M.new T ⟨l⟩ k w := h _ (Blk.alloc w l T) (Keep.alloc w _ _) (by simp)
theorem M.idx_i {sz n c : Nat} {d : IntKind} {i : Int} {b o : Nat} (h0 : 0 ≤ i) (h1 : i < n) (h : k (.pointer (some ⟨b, o + i.toNat * sz, none⟩)) w) :
    M.indexSl sz (.slice (some ⟨b, o, none⟩) n c) (.int d i) k w := by
  unfold M.indexSl; simp only [add_mk]; exact ⟨⟨h0, h1⟩, h⟩
theorem M.idxRow_i {D : Nat → Prop} {A : Option Addr} {l : List Value} {n c : Nat} {d : IntKind} {i : Int} (hr : Row w D A l) (hl : l.length = n) (h0 : 0 ≤ i) (h1 : i < n)
    (h : ∀ b o, A = some ⟨b, o, none⟩ → w.cell? ⟨b, o + i.toNat, none⟩ = l[i.toNat]? → k (.pointer (some ⟨b, o + i.toNat, none⟩)) w) :
    M.indexSl 1 (.slice A n c) (.int d i) k w := by
  rcases hr with hr | ⟨b, o, cc, T, fz, rfl, h2, h3, h4⟩
  · subst hr; simp at hl; omega
  · refine M.idx_i h0 h1 ?_
    have e : i.toNat * 1 = i.toNat := Nat.mul_one _
    rw [e]
    refine h b o rfl ?_
    rw [← h4 i.toNat (by omega)]
    simp [World.cell?, h3]
theorem M.idxRowN_i {sz : Nat} {D : Nat → Prop} {A : Option Addr} {l : List Value} {n c : Nat} {d : IntKind} {i : Int} (hr : Row w D A l) (hl : l.length = n * sz) (hs : 0 < sz) (h0 : 0 ≤ i) (h1 : i < n)
    (h : ∀ b o, A = some ⟨b, o, none⟩ → (∀ j, j < sz → w.cell? ⟨b, o + i.toNat * sz + j, none⟩ = l[i.toNat * sz + j]?) → k (.pointer (some ⟨b, o + i.toNat * sz, none⟩)) w) :
    M.indexSl sz (.slice A n c) (.int d i) k w := by
  have hm : ∀ j, j < sz → i.toNat * sz + j < l.length := fun j hj => by
    rw [hl]
    have : (i.toNat + 1) * sz ≤ n * sz := Nat.mul_le_mul_right _ (by omega)
    rw [Nat.add_mul] at this
    omega
  rcases hr with hr | ⟨b, o, cc, T, fz, rfl, h2, h3, h4⟩
  · have := hm 0 hs; subst hr; simp at this
  · refine M.idx_i h0 h1 (h b o rfl fun j hj => ?_)
    rw [← h4 _ (hm j hj)]
    simp [World.cell?, h3, Nat.add_assoc]
theorem M.cond_i {p : Prop} [Decidable p] {A B : Prop} (ht : p → A) (hf : ¬ p → B) : M.cond (.bool (decide p)) A B := by
  by_cases h : p
  · simp only [h, decide_true]; exact ht h
  · simp only [h, decide_false]; exact hf h
theorem M.condB_i {b : Bool} {A B : Prop} (ht : b = true → A) (hf : b = false → B) : M.cond (.bool b) A B := by
  cases b
  · exact hf rfl
  · exact ht rfl
theorem M.pickB_i {b : Bool} {x y : Value} (h : k (if b then x else y) w) : M.pick (.bool b) x y k w := by
  cases b <;> exact h
theorem M.gd_i {b want : Bool} {A : Kt → World → Prop} (ht : b = want → A k w) (hf : b ≠ want → k undef w) : M.gd (.bool b) want A k w := by
  unfold M.gd gw
  by_cases h : b = want
  · simp only [h, beq_self_eq_true, if_true]; exact ht h
  · have : (b == want) = false := by simpa using h
    simp only [this]; exact hf h
theorem M.eqNilP_i {neq : Bool} {a : Option Addr} (h : k (.bool (xor neq a.isNone)) w) : M.eqNil 0 neq (.pointer a) k w := h
theorem M.eqNilS_i {neq : Bool} {a : Option Addr} {n c : Nat} (h : k (.bool (xor neq a.isNone)) w) : M.eqNil 1 neq (.slice a n c) k w := h
theorem M.eqB_i {neq a b : Bool} (h : k (.bool (xor neq (a == b))) w) : M.eqB neq (.bool a) (.bool b) k w := h
theorem M.add_i {a b : Int} (h0 : -9223372036854775808 ≤ a + b) (h1 : a + b < 9223372036854775808) (h : k (.int .i64 (a + b)) w) : M.bin .add (.int .i64 a) (.int .i64 b) k w :=
  ⟨rfl, by simp only [ibin, wrap_i64 h0 h1]; exact h⟩
theorem M.sub_i {a b : Int} (h0 : -9223372036854775808 ≤ a - b) (h1 : a - b < 9223372036854775808) (h : k (.int .i64 (a - b)) w) : M.bin .sub (.int .i64 a) (.int .i64 b) k w :=
  ⟨rfl, by simp only [ibin, wrap_i64 h0 h1]; exact h⟩
theorem M.mul_i {a b : Int} (h0 : -9223372036854775808 ≤ a * b) (h1 : a * b < 9223372036854775808) (h : k (.int .i64 (a * b)) w) : M.bin .mul (.int .i64 a) (.int .i64 b) k w :=
  ⟨rfl, by simp only [ibin, wrap_i64 h0 h1]; exact h⟩
theorem M.lss_i {d : IntKind} {a b : Int} (h : k (.bool (decide (a < b))) w) : M.bin .lss (.int d a) (.int d b) k w := ⟨rfl, h⟩
theorem M.leq_i {d : IntKind} {a b : Int} (h : k (.bool (decide (a ≤ b))) w) : M.bin .leq (.int d a) (.int d b) k w := ⟨rfl, h⟩
theorem M.gtr_i {d : IntKind} {a b : Int} (h : k (.bool (decide (b < a))) w) : M.bin .gtr (.int d a) (.int d b) k w := ⟨rfl, h⟩
theorem M.geq_i {d : IntKind} {a b : Int} (h : k (.bool (decide (b ≤ a))) w) : M.bin .geq (.int d a) (.int d b) k w := ⟨rfl, h⟩
theorem M.eql_i {d : IntKind} {a b : Int} (h : k (.bool (decide (a = b))) w) : M.bin .eql (.int d a) (.int d b) k w := by
  refine ⟨rfl, ?_⟩
  simp only [ibin]
  have : (a == b) = decide (a = b) := by by_cases h : a = b <;> simp [h]
  rw [this]; exact h
theorem M.neq_i {d : IntKind} {a b : Int} (h : k (.bool (decide (a ≠ b))) w) : M.bin .neq (.int d a) (.int d b) k w := by
  refine ⟨rfl, ?_⟩
  simp only [ibin]
  have : (a != b) = decide (a ≠ b) := by by_cases h : a = b <;> simp [h]
  rw [this]; exact h
theorem M.bin_i {op : BinOp} {d : IntKind} {a b : Int} {v : Value} (hv : ibin op d a b = some v) (h : k v w) : M.bin op (.int d a) (.int d b) k w := by
  refine ⟨rfl, ?_⟩
  simp only [hv]; exact h
theorem M.shift_i {op : BinOp} {d d' : IntKind} {a b : Int} {v : Value} (hv : ishift op d a b = some v) (h : k v w) : M.shift op (.int d a) (.int d' b) k w := by
  unfold M.shift; simp only [hv]; exact h
theorem M.share_i {A : (List Value → World → Prop) → World → Prop} {R : List Value → World → Prop} (h : A R w) : M.share A R w := h
theorem M.draw_i {R : World → Prop} (h : R w.drew) : M.draw R w := h
theorem M.extract_i {i : Nat} {vs : Array Value} {v : Value} (hv : vs[i]? = some v) (h : k v w) : M.extract i (.tuple vs) k w := by
  unfold M.extract; simp only [hv]; exact h
theorem M.makeSlice_i {el sz bytes : Nat} {zero : Array Value} {n : Nat} {z : Value} (hz : zero = #[z]) (hs : sz = 1) (hb : bytes * n ≤ 281474976710656) (hn : n < 9223372036854775808)
    (h : ∀ w', Blk w' w.heap.size (List.replicate n z) → Keep w w' No → w'.heap.size = w.heap.size + 1 → k (.slice (some ⟨w.heap.size, 0, none⟩) n n) w') :
    M.makeSlice el sz bytes zero (.int .i64 n) (.int .i64 n) k w := by
  subst hz hs
  have e : mkCells #[z] (((n : Int).toNat) * 1) = ⟨List.replicate n z⟩ := by
    apply Array.ext'
    apply List.ext_getElem?
    intro i
    simp only [mkCells, Int.toNat_natCast, Nat.mul_one, Array.toList_map, List.getElem?_map]
    by_cases hi : i < n
    · simp [hi, Nat.mod_one]
    · simp [hi]
  refine ⟨⟨by omega, by omega, by omega, by omega⟩, ?_⟩
  rw [e, Int.toNat_natCast]
  exact h _ (Blk.alloc w _ _) (Keep.alloc w _ _) (by simp)
theorem M.buildSlice_i {el sz : Nat} {zero : Array Value} {len : Nat} {parts : List (Nat × Value)} (l : List Value)
    (hf : Instr.fill (fun i => some (i * sz, sz)) (mkCells zero (len * sz)) parts = some ⟨l⟩)
    (h : ∀ w', Blk w' w.heap.size l → Keep w w' No → w'.heap.size = w.heap.size + 1 → k (.slice (some ⟨w.heap.size, 0, none⟩) len len) w') :
    M.buildSlice el sz zero len parts k w := by
  unfold M.buildSlice
  simp only [hf]
  exact h _ (Blk.alloc w _ _) (Keep.alloc w _ _) (by simp)
end

theorem M.loop_i {σ : Type} {init : List Value} {body : List Value → (List Value → World → Prop) → World → Prop} {w : World} (J : σ → List Value → World → Prop) (μ : σ → Nat) (s0 : σ)
    (h0 : J s0 init w) (h : ∀ s vals w (K : List Value → World → Prop), J s vals w → (∀ s' vals' w', μ s' < μ s → J s' vals' w' → K vals' w') → body vals K w) : M.loop init body w := by
  refine ⟨fun n vals w => ∃ s, μ s = n ∧ J s vals w, μ s0, ⟨s0, rfl, h0⟩, ?_⟩
  rintro n vals w ⟨s, rfl, hs⟩
  exact h s vals w _ hs fun s' vals' w' hlt hs' => ⟨μ s', hlt, s', rfl, hs'⟩

/-! ### steps whose outcome is known -/
section
variable {k : Kt} {w : World}
theorem M.lss_t {d : IntKind} {a b : Int} (hc : a < b) (h : k (.bool true) w) : M.bin .lss (.int d a) (.int d b) k w := M.lss_i (by simpa [hc] using h)
theorem M.lss_f {d : IntKind} {a b : Int} (hc : ¬ a < b) (h : k (.bool false) w) : M.bin .lss (.int d a) (.int d b) k w := M.lss_i (by simpa [hc] using h)
theorem M.leq_t {d : IntKind} {a b : Int} (hc : a ≤ b) (h : k (.bool true) w) : M.bin .leq (.int d a) (.int d b) k w := M.leq_i (by simpa [hc] using h)
theorem M.leq_f {d : IntKind} {a b : Int} (hc : ¬ a ≤ b) (h : k (.bool false) w) : M.bin .leq (.int d a) (.int d b) k w := M.leq_i (by simpa [hc] using h)
theorem M.gtr_t {d : IntKind} {a b : Int} (hc : b < a) (h : k (.bool true) w) : M.bin .gtr (.int d a) (.int d b) k w := M.gtr_i (by simpa [hc] using h)
theorem M.gtr_f {d : IntKind} {a b : Int} (hc : ¬ b < a) (h : k (.bool false) w) : M.bin .gtr (.int d a) (.int d b) k w := M.gtr_i (by simpa [hc] using h)
theorem M.geq_t {d : IntKind} {a b : Int} (hc : b ≤ a) (h : k (.bool true) w) : M.bin .geq (.int d a) (.int d b) k w := M.geq_i (by simpa [hc] using h)
theorem M.geq_f {d : IntKind} {a b : Int} (hc : ¬ b ≤ a) (h : k (.bool false) w) : M.bin .geq (.int d a) (.int d b) k w := M.geq_i (by simpa [hc] using h)
theorem M.eql_t {d : IntKind} {a b : Int} (hc : a = b) (h : k (.bool true) w) : M.bin .eql (.int d a) (.int d b) k w := M.eql_i (by simpa [hc] using h)
theorem M.eql_f {d : IntKind} {a b : Int} (hc : ¬ a = b) (h : k (.bool false) w) : M.bin .eql (.int d a) (.int d b) k w := M.eql_i (by simpa [hc] using h)
theorem M.neq_t {d : IntKind} {a b : Int} (hc : ¬ a = b) (h : k (.bool true) w) : M.bin .neq (.int d a) (.int d b) k w := M.neq_i (by simpa [hc] using h)
theorem M.neq_f {d : IntKind} {a b : Int} (hc : a = b) (h : k (.bool false) w) : M.bin .neq (.int d a) (.int d b) k w := M.neq_i (by simpa [hc] using h)
theorem M.gd_tt {A : Kt → World → Prop} (h : A k w) : M.gd (.bool true) true A k w := h
theorem M.gd_ff {A : Kt → World → Prop} (h : A k w) : M.gd (.bool false) false A k w := h
theorem M.gd_ft {A : Kt → World → Prop} (h : k undef w) : M.gd (.bool false) true A k w := h
theorem M.gd_tf {A : Kt → World → Prop} (h : k undef w) : M.gd (.bool true) false A k w := h
theorem M.gd_u {want : Bool} {A : Kt → World → Prop} (h : k undef w) : M.gd undef want A k w := h
theorem M.pick_t {a b : Value} (h : k a w) : M.pick (.bool true) a b k w := h
theorem M.pick_f {a b : Value} (h : k b w) : M.pick (.bool false) a b k w := h
theorem M.not_t (h : k (.bool false) w) : M.not (.bool true) k w := h
theorem M.not_f (h : k (.bool true) w) : M.not (.bool false) k w := h
theorem M.cond_t {A B : Prop} (h : A) : M.cond (.bool true) A B := h
theorem M.cond_f {A B : Prop} (h : B) : M.cond (.bool false) A B := h
theorem M.eqNilP_tn (h : k (.bool false) w) : M.eqNil 0 true (.pointer none) k w := h
theorem M.eqNilP_ts {a : Addr} (h : k (.bool true) w) : M.eqNil 0 true (.pointer (some a)) k w := h
theorem M.eqNilP_fn (h : k (.bool true) w) : M.eqNil 0 false (.pointer none) k w := h
theorem M.eqNilP_fs {a : Addr} (h : k (.bool false) w) : M.eqNil 0 false (.pointer (some a)) k w := h
theorem M.eqNilS_tn {n c : Nat} (h : k (.bool false) w) : M.eqNil 1 true (.slice none n c) k w := h
theorem M.eqNilS_ts {a : Addr} {n c : Nat} (h : k (.bool true) w) : M.eqNil 1 true (.slice (some a) n c) k w := h
theorem M.eqNilS_fn {n c : Nat} (h : k (.bool true) w) : M.eqNil 1 false (.slice none n c) k w := h
theorem M.eqNilS_fs {a : Addr} {n c : Nat} (h : k (.bool false) w) : M.eqNil 1 false (.slice (some a) n c) k w := h
theorem M.pure_i {P : Program} {s : Sem Value} (v : Value) (hv : ∀ w', s.run P w' = .ok v w') (h : k v w) : pureW P s k w := ⟨v, hv, h⟩
theorem M.slice_i {sz n c : Nat} {A : Option Addr} {lo hi mx : Option Value} (l h m : Nat) (hs : sl3 n c lo hi mx = some (l, h, m))
    (hk : k (.slice (if m = l then A else A.map (·.add (l * sz))) (h - l) (m - l)) w) : M.slice sz (.slice A n c) lo hi mx k w := by
  unfold M.slice; simp only [hs]; exact hk
end

/-! ### a slice that grows -/
/-- 'v' is a slice of n elements whose cells are l; its array, if it has one, lies in a block of L and belongs to it alone. -/
def GC (w : World) (L : Nat → Prop) (sz : Nat) (v : Value) (n : Nat) (l : List Value) : Prop :=
  l.length = n * sz ∧ ((v = .slice none 0 0 ∧ n = 0) ∨ ∃ b c rest, v = .slice (some ⟨b, 0, none⟩) n c ∧ L b ∧ Blk w b (l ++ rest) ∧ l.length + rest.length = c * sz)
theorem GC.nil (w : World) (L : Nat → Prop) (sz : Nat) : GC w L sz (.slice none 0 0) 0 [] := ⟨by simp, .inl ⟨rfl, rfl⟩⟩
theorem GC.keep {w w' : World} {L S : Nat → Prop} {sz n : Nat} {v : Value} {l : List Value} (h : GC w L sz v n l) (k : Keep w w' S) (hs : ∀ b, b < w.heap.size → L b → ¬ S b) : GC w' L sz v n l := by
  obtain ⟨h0, h | ⟨b, c, rest, h1, h2, h3, h4⟩⟩ := h
  · exact ⟨h0, .inl h⟩
  · exact ⟨h0, .inr ⟨b, c, rest, h1, h2, h3.keep k (hs b h3.lt h2), h4⟩⟩
theorem GC.mono {w : World} {L L' : Nat → Prop} {sz n : Nat} {v : Value} {l : List Value} (h : GC w L sz v n l) (hl : ∀ b, b < w.heap.size → L b → L' b) : GC w L' sz v n l := by
  obtain ⟨h0, h | ⟨b, c, rest, h1, h2, h3, h4⟩⟩ := h
  · exact ⟨h0, .inl h⟩
  · exact ⟨h0, .inr ⟨b, c, rest, h1, hl b h3.lt h2, h3, h4⟩⟩
theorem GC.drew {w : World} {L : Nat → Prop} {sz n : Nat} {v : Value} {l : List Value} (h : GC w L sz v n l) : GC w.drew L sz v n l := h
theorem GC.row {w : World} {L : Nat → Prop} {sz n : Nat} {v : Value} {l : List Value} (h : GC w L sz v n l) : ∃ A c, v = .slice A n c ∧ Row w L A l := by
  obtain ⟨h0, ⟨h1, h2⟩ | ⟨b, c, rest, h1, h2, h3, h4⟩⟩ := h
  · subst h2
    exact ⟨none, 0, h1, .inl (by simpa using h0)⟩
  · exact ⟨_, c, h1, Row.of_blk h3 h2⟩
theorem GC.one {w : World} {L : Nat → Prop} {sz n : Nat} {v : Value} {l : List Value} (h : GC w L sz v n l) : v.oneCell' = true := by
  obtain ⟨h0, ⟨h1, _⟩ | ⟨b, c, rest, h1, _⟩⟩ := h <;> subst h1 <;> rfl
theorem GC.of_blk {w : World} {L : Nat → Prop} {sz n b : Nat} {l : List Value} (h : Blk w b l) (hl : L b) (hn : l.length = n * sz) : GC w L sz (.slice (some ⟨b, 0, none⟩) n n) n l :=
  ⟨hn, .inr ⟨b, n, [], rfl, hl, by simpa using h, by simpa using hn⟩⟩

theorem nextslicecap_le {n c : Nat} (h : c < n) : Builtin.nextslicecap n c ≤ 2 * n + 512 := by
  unfold Builtin.nextslicecap
  split
  · omega
  · split
    · omega
    · simp only [Builtin.growBy]
      repeat' split
      all_goals omega

theorem M.append_i {k : Kt} {w : World} {el sz bytes : Nat} {zero : Array Value} {L D : Nat → Prop} {v : Value} {n m c : Nat} {l ys : List Value} {B : Option Addr}
    (h : GC w L sz v n l) (hr : Row w D B ys) (hm : ys.length = m * sz) (hone : ∀ y ∈ ys, y.oneCell' = true) (hz : zero.size = sz) (hb0 : 0 < bytes)
    (hb : (2 * (n + m) + 512) * bytes ≤ 281474976710656)
    (hk : ∀ v' w', GC w' (fun b => L b ∨ w.heap.size ≤ b) sz v' (n + m) (l ++ ys) → Keep w w' L → k v' w') : M.append el sz bytes zero v (.slice B m c) k w := by
  obtain ⟨h0, h⟩ := h
  have hsrc := hr.srcL hm.symm
  have hlen : (l ++ ys).length = (n + m) * sz := by simp [h0, hm, Nat.add_mul]
  rcases h with ⟨rfl, rfl⟩ | ⟨b, cc, rest, rfl, hL, hB, hcc⟩
  · have hl0 : l = [] := by simpa using h0
    subst hl0
    refine ⟨ys, hsrc, ?_⟩
    by_cases hle : 0 + m ≤ 0
    · have hm0 : m = 0 := by omega
      subst hm0
      have hy0 : ys = [] := by simpa using hm
      subst hy0
      simp only [Nat.le_refl, if_true, Nat.add_zero]
      exact hk _ _ ⟨by simp, .inl ⟨rfl, by omega⟩⟩ (Keep.refl _ _)
    · simp only [hle, if_false]
      have hn := nextslicecap_le (n := 0 + m) (c := 0) (by omega)
      refine ⟨⟨Nat.le_trans (Nat.mul_le_mul_right bytes hn) hb, hb0⟩, [], ?_, fun c' h1 h2 => ?_⟩
      · simp [srcL]
      · refine hk _ _ ⟨hlen, .inr ⟨_, c', (Builtin.zeroCells zero (c' - (0 + m))).toList, rfl, .inr (Nat.le_refl _), ?_, ?_⟩⟩ ?_
        · have := Blk.alloc w.drew ([] ++ ys ++ (Builtin.zeroCells zero (c' - (0 + m))).toList) el
          simpa using this
        · have e1 : (Builtin.zeroCells zero (c' - (0 + m))).toList.length = (c' - (0 + m)) * sz := by simp [Builtin.zeroCells, hz]
          rw [e1, hlen, ← Nat.add_mul]
          congr 1; omega
        · exact ((Keep.drew w L).trans (Keep.alloc w.drew _ L) (fun _ _ h => h))
  · refine ⟨ys, hsrc, ?_⟩
    by_cases hle : n + m ≤ cc
    · simp only [hle, if_true]
      have hr2 : ys.length ≤ rest.length := by
        have h1 : (n + m) * sz ≤ cc * sz := Nat.mul_le_mul_right _ hle
        have h2 : (n + m) * sz = n * sz + m * sz := Nat.add_mul _ _ _
        omega
      obtain ⟨w', h1, h2, h3, h4⟩ := wrL_blk ys (n * sz) 0 w (l ++ rest) hB (by simp; omega) hone
      have e0 : (⟨b, 0, none⟩ : Addr).add (n * sz) = ⟨b, n * sz, none⟩ := by rw [add_mk, Nat.zero_add]
      rw [e0, h1]
      refine hk _ _ ⟨hlen, .inr ⟨b, cc, rest.drop ys.length, rfl, .inl hL, ?_, ?_⟩⟩ (h3.mono fun i _ hi => hi ▸ hL)
      · rw [Nat.add_zero, ← h0, splice_end hr2] at h2
        exact h2
      · simp; omega
    · simp only [hle, if_false]
      have hn := nextslicecap_le (n := n + m) (c := cc) (by omega)
      have hold : srcL w (some ⟨b, 0, none⟩) (n * sz) = some l := (Row.of_blk (D := fun _ => True) hB trivial).srcL h0.symm
      refine ⟨⟨Nat.le_trans (Nat.mul_le_mul_right bytes hn) hb, hb0⟩, l, hold, fun c' h1 h2 => ?_⟩
      refine hk _ _ ⟨hlen, .inr ⟨_, c', (Builtin.zeroCells zero (c' - (n + m))).toList, rfl, .inr (Nat.le_refl _), ?_, ?_⟩⟩ ?_
      · have := Blk.alloc w.drew (l ++ ys ++ (Builtin.zeroCells zero (c' - (n + m))).toList) el
        simpa using this
      · have e1 : (Builtin.zeroCells zero (c' - (n + m))).toList.length = (c' - (n + m)) * sz := by simp [Builtin.zeroCells, hz]
        rw [e1, hlen, ← Nat.add_mul]
        congr 1; omega
      · exact ((Keep.drew w L).trans (Keep.alloc w.drew _ L) (fun _ _ h => h))

/-! ### whole numbers -/
abbrev vi (x : Int) : Value := .int .i64 x
theorem vi_one (xs : List Int) : ∀ y ∈ xs.map vi, y.oneCell' = true := by
  intro y hy
  obtain ⟨x, _, rfl⟩ := List.mem_map.1 hy
  rfl
abbrev GI (w : World) (L : Nat → Prop) (v : Value) (xs : List Int) : Prop := GC w L 1 v xs.length (xs.map vi)
theorem GI.nil (w : World) (L : Nat → Prop) : GI w L (.slice none 0 0) [] := GC.nil w L 1
/-- 'append(v, x)': the new element's array comes first. -/
theorem M.append1_i {k : Kt} {w : World} {el : Nat} {zero : Array Value} {L D : Nat → Prop} {v : Value} {xs : List Int} {x : Int} {b c : Nat}
    (h : GI w L v xs) (hr : Row w D (some ⟨b, 0, none⟩) [vi x]) (hz : zero.size = 1) (hb : xs.length ≤ 1000000000000)
    (hk : ∀ v' w', GI w' (fun b => L b ∨ w.heap.size ≤ b) v' (xs ++ [x]) → Keep w w' L → k v' w') : M.append el 1 8 zero v (.slice (some ⟨b, 0, none⟩) 1 c) k w :=
  M.append_i h hr rfl (by simp; rfl) hz (by omega) (by omega) (fun v' w' h1 h2 => hk v' w' (by simpa [GI] using h1) h2)

theorem GC.pos {w : World} {L : Nat → Prop} {sz n : Nat} {v : Value} {l : List Value} (h : GC w L sz v n l) (hn : 0 < n) :
    ∃ b c rest, v = .slice (some ⟨b, 0, none⟩) n c ∧ L b ∧ Blk w b (l ++ rest) ∧ l.length + rest.length = c * sz := by
  obtain ⟨h0, ⟨h1, h2⟩ | h⟩ := h
  · omega
  · exact h
/-- 's[i] = x' for a slice that grows. -/
theorem M.idxStore_i {k : Kt} {w : World} {L : Nat → Prop} {v : Value} {xs : List Int} {d : IntKind} {i x : Int} (h : GI w L v xs) (h0 : 0 ≤ i) (h1 : i < xs.length)
    (hk : ∀ w', GI w' L v (xs.set i.toNat x) → Keep w w' L → w'.heap.size = w.heap.size → k undef w') :
    M.indexSl 1 v (.int d i) (fun t w => M.store 1 t (vi x) k w) w := by
  obtain ⟨b, c, rest, rfl, hL, hB, hl⟩ := h.pos (by omega)
  refine M.idx_i h0 h1 ?_
  simp only [Nat.zero_add, Nat.mul_one]
  have hlt : i.toNat < (xs.map vi).length := by simp; omega
  refine M.store_i hB (by simp; simp at hlt; omega) rfl fun w' hB' hk' hs => ?_
  refine hk w' ?_ (hk'.mono fun j _ hj => hj ▸ hL) hs
  rw [List.set_append_left _ _ hlt] at hB'
  have e : (xs.set i.toNat x).map vi = (xs.map vi).set i.toNat (vi x) := by rw [List.map_set]
  refine ⟨by simp, .inr ⟨b, c, rest, by simp, hL, by rw [e]; exact hB', by simpa using hl⟩⟩
theorem Row.same {w : World} {D : Nat → Prop} {A : Option Addr} {l : List Value} {p : Prop} [Decidable p] (h : Row w D A l) : Row w D (if p then A else A.map (·.add 0)) l := by
  split
  · exact h
  · simpa using h.drop 0

theorem sb_i {y n : Nat} (h : n ≤ y) : sb y (.int .i64 n) = some n := by
  unfold sb; simp [h]
theorem sl3_lhm {n c l h m : Nat} (h1 : l ≤ h) (h2 : h ≤ m) (h3 : m ≤ c) : sl3 n c (some (vi l)) (some (vi h)) (some (vi m)) = some (l, h, m) := by
  unfold sl3; simp only [sb_i h3, sb_i h2, sb_i h1]
theorem sl3_h {n c h : Nat} (h2 : h ≤ c) : sl3 n c none (some (vi h)) none = some (0, h, c) := by
  unfold sl3; simp only [sb_i h2]
theorem sl3_l {n c l : Nat} (h1 : l ≤ n) : sl3 n c (some (vi l)) none none = some (l, n, c) := by
  unfold sl3; simp only [sb_i h1]
theorem sl3_lh {n c l h : Nat} (h1 : l ≤ h) (h2 : h ≤ c) : sl3 n c (some (vi l)) (some (vi h)) none = some (l, h, c) := by
  unfold sl3; simp only [sb_i h2, sb_i h1]

/-! ### labels of blocks -/
def relab (lab : Nat → Nat) (n m j : Nat) : Nat → Nat := fun b => if b < n then lab b else if b < m then j else 0
theorem relab_lt {lab : Nat → Nat} {n m j b : Nat} (h : b < n) : relab lab n m j b = lab b := by simp [relab, h]
theorem relab_ne {lab : Nat → Nat} {n m j : Nat} (hl : ∀ b, lab b ≠ 0 → b < n) (hn : n ≤ m) : ∀ b, relab lab n m j b ≠ 0 → b < m := by
  intro b hb
  unfold relab at hb
  split at hb
  · have := hl b hb; omega
  · split at hb
    · assumption
    · exact absurd rfl hb
theorem GC.relab {w : World} {lab : Nat → Nat} {sz n i : Nat} {v : Value} {l : List Value} (h : GC w (lab · = i) sz v n l) {nn : Nat} (hl : ∀ b, lab b ≠ 0 → b < nn) (m j : Nat) (hi : i ≠ 0) :
    GC w (relab lab nn m j · = i) sz v n l := h.mono fun b _ hb => by
  have hb : lab b = i := hb
  show Mw.relab lab nn m j b = i
  rw [relab_lt (hl b (by omega))]; exact hb
theorem GC.relabNew {w : World} {lab : Nat → Nat} {sz n i n1 : Nat} {v : Value} {l : List Value} (h : GC w (fun b => lab b = i ∨ n1 ≤ b) sz v n l) {nn : Nat} (hl : ∀ b, lab b ≠ 0 → b < nn) {m : Nat}
    (hi : i ≠ 0) (hm : w.heap.size ≤ m) (hn1 : nn ≤ n1) : GC w (Mw.relab lab nn m i · = i) sz v n l := h.mono fun b hb hh => by
  show Mw.relab lab nn m i b = i
  rcases hh with hh | hh
  · have hh : lab b = i := hh
    rw [relab_lt (hl b (by omega))]; exact hh
  · unfold Mw.relab; rw [if_neg (by omega), if_pos (by omega)]

theorem M.st_i {w : World} {a : Addr} {v : Value} {R : Prop} (hc : w.cell? a = some v) (h : R) : M.load1 (.pointer (some a)) (fun v' _ => v' = v) w ∧ R := ⟨M.load_i hc rfl, h⟩
theorem M.stB_i {w : World} {b o : Nat} {l : List Value} {v : Value} {R : Prop} (hb : Blk w b l) (hv : l[o]? = some v) (h : R) :
    M.load1 (.pointer (some ⟨b, o, none⟩)) (fun v' _ => v' = v) w ∧ R := ⟨M.loadB_i hb hv rfl, h⟩

theorem M.share_j {A : (List Value → World → Prop) → World → Prop} {R : List Value → World → Prop} {w : World} (J : List Value → World → Prop)
    (hR : ∀ vals w', J vals w' → R vals w') (hA : ∀ K : List Value → World → Prop, (∀ vals w', J vals w' → K vals w') → A K w) : M.share A R w := hA R hR
/-- 's[:m]' of a slice that grows. -/
theorem GI.cut {w : World} {L : Nat → Prop} {A : Option Addr} {c : Nat} {xs : List Int} (h : GI w L (.slice A xs.length c) xs) {m : Nat} (hm : m ≤ xs.length) :
    GI w L (.slice (if c = 0 then A else A.map (·.add (0 * 1))) (m - 0) (c - 0)) (xs.take m) := by
  obtain ⟨h0, ⟨h1, h2⟩ | ⟨b, cc, rest, h1, h2, h3, h4⟩⟩ := h
  · have hx : xs = [] := List.length_eq_zero_iff.1 h2
    subst hx
    simp only [Value.slice.injEq] at h1
    obtain ⟨rfl, _, rfl⟩ := h1
    have : m = 0 := by simpa using hm
    subst this
    exact ⟨rfl, .inl ⟨rfl, rfl⟩⟩
  · simp only [Value.slice.injEq] at h1
    obtain ⟨rfl, _, rfl⟩ := h1
    have e : (if c = 0 then some (⟨b, 0, none⟩ : Addr) else (some (⟨b, 0, none⟩ : Addr)).map (·.add (0 * 1))) = some ⟨b, 0, none⟩ := by
      simp [add_mk]
    rw [e]
    refine ⟨by simp, .inr ⟨b, c, (xs.map vi).drop m ++ rest, ?_, h2, ?_, ?_⟩⟩
    · simp [Nat.min_eq_left hm]
    · rw [List.map_take, ← List.append_assoc, List.take_append_drop]; exact h3
    · simp at h4 ⊢; omega
theorem GI.cap_le {w : World} {L : Nat → Prop} {A : Option Addr} {c : Nat} {xs : List Int} (h : GI w L (.slice A xs.length c) xs) : xs.length ≤ c := by
  obtain ⟨h0, ⟨h1, h2⟩ | ⟨b, cc, rest, h1, h2, h3, h4⟩⟩ := h
  · omega
  · simp only [Value.slice.injEq] at h1
    obtain ⟨rfl, _, rfl⟩ := h1
    simp at h4; omega
theorem GI.of_rep {w : World} {L : Nat → Prop} {b n : Nat} {x : Int} (h : Blk w b (List.replicate n (vi x))) (hl : L b) : GI w L (.slice (some ⟨b, 0, none⟩) n n) (List.replicate n x) := by
  have := GC.of_blk (sz := 1) (n := n) h hl (by simp)
  simpa [GI] using this

theorem M.quo2_i {k : Kt} {w : World} {a : Int} (h0 : 0 ≤ a) (h1 : a < 9223372036854775808) (h : k (vi (a / 2)) w) : M.bin .quo (.int .i64 a) (.int .i64 2) k w := by
  refine M.bin_i (v := vi (a / 2)) ?_ h
  simp only [ibin]
  rw [if_neg (by omega), Int.tdiv_eq_ediv_of_nonneg h0, wrap_i64 (by omega) (by omega)]

theorem GC.row2 {w : World} {L : Nat → Prop} {sz n : Nat} {v : Value} {l : List Value} (h : GC w L sz v n l) (hs : 0 < sz) : ∃ A c, v = .slice A n c ∧ Row w L A l ∧ n ≤ c := by
  obtain ⟨h0, ⟨h1, h2⟩ | ⟨b, c, rest, h1, h2, h3, h4⟩⟩ := h
  · subst h2
    exact ⟨none, 0, h1, .inl (by simpa using h0), Nat.le_refl _⟩
  · refine ⟨_, c, h1, Row.of_blk h3 h2, ?_⟩
    exact Nat.le_of_mul_le_mul_right (by omega : n * sz ≤ c * sz) hs

theorem M.gs_ff {A : Kt → World → Prop} {R : Kt} {w : World} {X : Prop} (h : A R w ∧ X) : M.gd (.bool false) false A R w ∧ X := h
theorem M.gs_tt {A : Kt → World → Prop} {R : Kt} {w : World} {X : Prop} (h : A R w ∧ X) : M.gd (.bool true) true A R w ∧ X := h
theorem M.gs_ft {A : Kt → World → Prop} {w : World} {X : Prop} (h : X) : M.gd (.bool false) true A (fun v' _ => v' = undef) w ∧ X := ⟨rfl, h⟩
theorem M.gs_tf {A : Kt → World → Prop} {w : World} {X : Prop} (h : X) : M.gd (.bool true) false A (fun v' _ => v' = undef) w ∧ X := ⟨rfl, h⟩
theorem M.stAll_i {b n : Nat} {l : List Value} {w : World} {X : Prop} (hb : Blk w b l) (hn : l.length = n) (h : X) :
    M.loadA n (.pointer (some ⟨b, 0, none⟩)) (fun v' _ => v' = .agg ⟨l⟩) w ∧ X := ⟨M.loadAll_i hb hn rfl, h⟩
theorem rdL_cells {w : World} {b o : Nat} {cs : List Value} : ∀ (n i : Nat), (∀ j (hj : j < cs.length), w.cell? ⟨b, o + j, none⟩ = some cs[j]) → i + n = cs.length → rdL w ⟨b, o, none⟩ n i = some (cs.drop i)
  | 0, i, h, hn => by
    have : cs.length ≤ i := by omega
    simp [rdL, List.drop_eq_nil_of_le this]
  | n + 1, i, h, hn => by
    have h1 := h i (by omega)
    have ih := rdL_cells n (i + 1) h (by omega)
    simp only [rdL, add_mk, h1, ih, Option.map_some]
    rw [← List.drop_eq_getElem_cons (by omega)]
theorem M.load3_i {k : Kt} {w : World} {b o : Nat} {x y z : Value} (h0 : w.cell? ⟨b, o, none⟩ = some x) (h1 : w.cell? ⟨b, o + 1, none⟩ = some y) (h2 : w.cell? ⟨b, o + 2, none⟩ = some z)
    (h : k (.agg ⟨[x, y, z]⟩) w) : M.loadA 3 (.pointer (some ⟨b, o, none⟩)) k w := by
  have := rdL_cells (w := w) (b := b) (o := o) (cs := [x, y, z]) 3 0 (by
    intro j hj
    match j, hj with
    | 0, _ => exact h0
    | 1, _ => exact h1
    | 2, _ => exact h2) rfl
  unfold M.loadA
  simp only [this]
  exact h
theorem M.st3_i {w : World} {b o : Nat} {x y z : Value} {X : Prop} (h0 : w.cell? ⟨b, o, none⟩ = some x) (h1 : w.cell? ⟨b, o + 1, none⟩ = some y) (h2 : w.cell? ⟨b, o + 2, none⟩ = some z)
    (h : X) : M.loadA 3 (.pointer (some ⟨b, o, none⟩)) (fun v' _ => v' = .agg ⟨[x, y, z]⟩) w ∧ X := ⟨M.load3_i h0 h1 h2 rfl, h⟩
theorem takeWhile_len {α : Type} (p : α → Bool) : ∀ (l : List α) (k : Nat), (∀ (j : Nat) e, j < k → l[j]? = some e → p e = true) → (∀ e, l[k]? = some e → p e = false) → k ≤ l.length → (l.takeWhile p).length = k
  | [], k, _, _, h => by simp at h; simp [h]
  | x :: l, 0, _, h, _ => by
    have := h x rfl
    simp [List.takeWhile_cons, this]
  | x :: l, k + 1, h1, h2, h3 => by
    have h0 := h1 0 x (by omega) rfl
    simp only [List.takeWhile_cons, h0, if_true, List.length_cons]
    rw [takeWhile_len p l k (fun j e hj he => h1 (j + 1) e (by omega) (by simpa using he)) (fun e he => h2 e (by simpa using he)) (by simpa using h3)]

/-! ### short names of the steps -/
abbrev ja := @M.len_i
abbrev jb := @M.nilCheck_i
abbrev jc := @M.field_i
abbrev jd := @M.draw_i
abbrev je := @M.cap_i
abbrev jf := @M.gd_tt
abbrev jg := @M.gd_ff
abbrev jh := @M.gd_ft
abbrev ji := @M.gd_tf
abbrev jj := @M.gd_u
abbrev jk := @M.pick_t
abbrev jl := @M.pick_f
abbrev jm := @M.not_t
abbrev jn := @M.not_f
abbrev jo := @M.cond_t
abbrev jp := @M.cond_f
abbrev jq := @M.eqNilP_tn
abbrev jr := @M.eqNilP_ts
abbrev js := @M.eqNilP_fn
abbrev jt := @M.eqNilP_fs
abbrev ju := @M.eqNilS_tn
abbrev jv := @M.eqNilS_ts
abbrev jw := @M.eqNilS_fn
abbrev jx := @M.eqNilS_fs
theorem jy {k : Kt} {w : World} {d : IntKind} {a b : Int} (h : k (.bool true) w) (hc : a < b := by omega) : M.bin .lss (.int d a) (.int d b) k w := M.lss_t hc h
theorem jz {k : Kt} {w : World} {d : IntKind} {a b : Int} (h : k (.bool false) w) (hc : ¬ a < b := by omega) : M.bin .lss (.int d a) (.int d b) k w := M.lss_f hc h
theorem jA {k : Kt} {w : World} {d : IntKind} {a b : Int} (h : k (.bool true) w) (hc : a ≤ b := by omega) : M.bin .leq (.int d a) (.int d b) k w := M.leq_t hc h
theorem jB {k : Kt} {w : World} {d : IntKind} {a b : Int} (h : k (.bool false) w) (hc : ¬ a ≤ b := by omega) : M.bin .leq (.int d a) (.int d b) k w := M.leq_f hc h
theorem jC {k : Kt} {w : World} {d : IntKind} {a b : Int} (h : k (.bool true) w) (hc : b < a := by omega) : M.bin .gtr (.int d a) (.int d b) k w := M.gtr_t hc h
theorem jD {k : Kt} {w : World} {d : IntKind} {a b : Int} (h : k (.bool false) w) (hc : ¬ b < a := by omega) : M.bin .gtr (.int d a) (.int d b) k w := M.gtr_f hc h
theorem jE {k : Kt} {w : World} {d : IntKind} {a b : Int} (h : k (.bool true) w) (hc : b ≤ a := by omega) : M.bin .geq (.int d a) (.int d b) k w := M.geq_t hc h
theorem jF {k : Kt} {w : World} {d : IntKind} {a b : Int} (h : k (.bool false) w) (hc : ¬ b ≤ a := by omega) : M.bin .geq (.int d a) (.int d b) k w := M.geq_f hc h
theorem jG {k : Kt} {w : World} {d : IntKind} {a b : Int} (h : k (.bool true) w) (hc : a = b := by omega) : M.bin .eql (.int d a) (.int d b) k w := M.eql_t hc h
theorem jH {k : Kt} {w : World} {d : IntKind} {a b : Int} (h : k (.bool false) w) (hc : ¬ (a = b) := by omega) : M.bin .eql (.int d a) (.int d b) k w := M.eql_f hc h
theorem jI {k : Kt} {w : World} {d : IntKind} {a b : Int} (h : k (.bool true) w) (hc : ¬ (a = b) := by omega) : M.bin .neq (.int d a) (.int d b) k w := M.neq_t hc h
theorem jJ {k : Kt} {w : World} {d : IntKind} {a b : Int} (h : k (.bool false) w) (hc : a = b := by omega) : M.bin .neq (.int d a) (.int d b) k w := M.neq_f hc h
theorem jK {k : Kt} {w : World} {a b : Int} (h : k (.int .i64 (a + b)) w) (h0 : -9223372036854775808 ≤ a + b := by omega) (h1 : a + b < 9223372036854775808 := by omega) : M.bin .add (.int .i64 a) (.int .i64 b) k w := M.add_i h0 h1 h
theorem jL {k : Kt} {w : World} {a b : Int} (h : k (.int .i64 (a - b)) w) (h0 : -9223372036854775808 ≤ a - b := by omega) (h1 : a - b < 9223372036854775808 := by omega) : M.bin .sub (.int .i64 a) (.int .i64 b) k w := M.sub_i h0 h1 h
abbrev jM := @M.load_i
abbrev jN := @M.loadB_i
abbrev jO := @M.st_i
abbrev jP := @M.stB_i
abbrev jQ := @M.gs_ff
abbrev jR := @M.gs_tt
abbrev jS := @M.gs_ft
abbrev jT := @M.gs_tf
abbrev jU := @M.stAll_i

end Go.Mw
