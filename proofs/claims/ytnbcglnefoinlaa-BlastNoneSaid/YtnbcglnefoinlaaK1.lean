import Derived.Test.YtnbcglnefoinlaaCore
import Derived.Laws.IdiomCopy
import Derived.Test.YtnbcglnefoinlaaProg
import Derived.Maps.RangeRun
import Derived.MapKept
import Derived.Maps.Keyed
import Derived.DeepKeys4
import Derived.Laws.Strings
set_option linter.unusedVariables false
set_option linter.unusedSimpArgs false
namespace Go.Mw
def Ret (P : Program) (f : FuncId) (args : Array Value) (w : World) (Q : Kt) : Prop := Calls P f args w (fun e w' => ∃ v, e = .returned v ∧ Q v w')
theorem ret_mk {P : Program} {f : FuncId} {args : Array Value} {w : World} {Q : Kt} (h : Calls P f args w (fun e w' => ∃ v, e = .returned v ∧ Q v w')) : Ret P f args w Q := h
theorem ret_of {P : Program} {f : FuncId} {args : Array Value} {w : World} {Q : Kt} (h : Ret P f args w Q) : Calls P f args w (fun e w' => ∃ v, e = .returned v ∧ Q v w') := h
theorem Ret.mono {P : Program} {f : FuncId} {args : Array Value} {w : World} {Q Q' : Kt} (h : Ret P f args w Q) (hq : ∀ v w', Q v w' → Q' v w') : Ret P f args w Q' :=
  Calls.mono h fun e w' ⟨v, e1, e2⟩ => ⟨v, e1, hq v w' e2⟩
theorem M.call_i {P : Program} {f : FuncId} {args : Array Value} {w : World} {Q k : Kt} (h : Ret P f args w Q) (hk : ∀ v w', Q v w' → k v w') : M.call P f args k w :=
  h.mono hk
structure Keep (w w' : World) (S : Nat → Prop) : Prop where
  os : w'.os = w.os
  tape : w'.tape = w.tape
  output : w'.output = w.output
  size : w.heap.size ≤ w'.heap.size
  blk : ∀ b, b < w.heap.size → ¬ S b → w'.heap[b]? = w.heap[b]?
abbrev No : Nat → Prop := fun _ => False
theorem Keep.refl (w : World) (S : Nat → Prop) : Keep w w S := ⟨rfl, rfl, rfl, Nat.le_refl _, fun _ _ _ => rfl⟩
theorem Keep.drew (w : World) (S : Nat → Prop) : Keep w w.drew S := ⟨rfl, rfl, rfl, Nat.le_refl _, fun _ _ _ => rfl⟩
theorem Keep.trans {a b c : World} {S T : Nat → Prop} (h : Keep a b S) (k : Keep b c T) (hs : ∀ i, i < a.heap.size → T i → S i) : Keep a c S :=
  ⟨k.os.trans h.os, k.tape.trans h.tape, k.output.trans h.output, Nat.le_trans h.size k.size, fun i hi hn =>
    (k.blk i (Nat.lt_of_lt_of_le hi h.size) (fun ht => hn (hs i hi ht))).trans (h.blk i hi hn)⟩
theorem Keep.mono {a b : World} {S T : Nat → Prop} (h : Keep a b S) (hs : ∀ i, i < a.heap.size → S i → T i) : Keep a b T :=
  ⟨h.os, h.tape, h.output, h.size, fun i hi hn => h.blk i hi (fun x => hn (hs i hi x))⟩
theorem Keep.to_drew {a b : World} {S : Nat → Prop} (h : Keep a b S) : Keep a b.drew S := ⟨h.os, h.tape, h.output, h.size, h.blk⟩
theorem Keep.alloc (w : World) (o : Obj) (S : Nat → Prop) : Keep w (w.alloc o) S :=
  ⟨rfl, rfl, rfl, by simp, fun b hb _ => by show (w.heap.push o)[b]? = _; rw [Array.getElem?_push, if_neg (by omega)]⟩
theorem alloc_new (w : World) (o : Obj) : (w.alloc o).heap[w.heap.size]? = some o := by
  show (w.heap.push o)[w.heap.size]? = _; simp
theorem lt_of_heap {w : World} {b : Nat} {o : Obj} (h : w.heap[b]? = some o) : b < w.heap.size := by
  rcases Nat.lt_or_ge b w.heap.size with h' | h'
  · exact h'
  · simp [Array.getElem?_eq_none h'] at h
def Blk (w : World) (b : Nat) (l : List Value) : Prop := ∃ T, w.heap[b]? = some (.cells ⟨l⟩ T (0, 0))
theorem Blk.lt {w : World} {b : Nat} {l : List Value} (h : Blk w b l) : b < w.heap.size := lt_of_heap h.choose_spec
theorem Blk.keep {w w' : World} {b : Nat} {l : List Value} {S : Nat → Prop} (h : Blk w b l) (k : Keep w w' S) (hs : ¬ S b) : Blk w' b l := by
  obtain ⟨T, hT⟩ := h
  exact ⟨T, by rw [k.blk b (lt_of_heap hT) hs]; exact hT⟩
theorem Blk.drew {w : World} {b : Nat} {l : List Value} (h : Blk w b l) : Blk w.drew b l := h
theorem Blk.cell {w : World} {b o : Nat} {l : List Value} {v : Value} (h : Blk w b l) (hv : l[o]? = some v) : w.cell? ⟨b, o, none⟩ = some v := by
  obtain ⟨T, hT⟩ := h
  simp only [World.cell?, hT]
  simpa using hv
theorem Blk.frozen {w : World} {b o : Nat} {l : List Value} (h : Blk w b l) : w.frozen? ⟨b, o, none⟩ = false := by
  obtain ⟨T, hT⟩ := h
  simp [World.frozen?, hT]
theorem Blk.alloc (w : World) (l : List Value) (T : TypeId) : Blk (w.alloc (.cells ⟨l⟩ T)) w.heap.size l := ⟨T, alloc_new w _⟩
theorem setCell_blk {w : World} {b o : Nat} {l : List Value} (h : Blk w b l) (v : Value) : Blk (w.setCell ⟨b, o, none⟩ v) b (l.set o v) := by
  obtain ⟨T, hT⟩ := h
  refine ⟨T, ?_⟩
  simp only [World.setCell, Array.getElem?_modify, hT]
  simp
theorem setCell_keep (w : World) (b o : Nat) (v : Value) : Keep w (w.setCell ⟨b, o, none⟩ v) (· = b) :=
  ⟨rfl, rfl, rfl, by simp, fun i hi hn => by
    simp only [World.setCell, Array.getElem?_modify]
    rw [if_neg (fun h => hn h.symm)]⟩
def splice (l : List Value) (o : Nat) (vs : List Value) : List Value := l.take o ++ vs ++ l.drop (o + vs.length)
theorem splice_nil (l : List Value) (o : Nat) : splice l o [] = l := by simp [splice]
theorem splice_cons {l vs : List Value} {o : Nat} {v : Value} (h : o < l.length) : splice (l.set o v) (o + 1) vs = splice l o (v :: vs) := by
  simp only [splice, List.length_cons]
  have e1 : (l.set o v).take (o + 1) = l.take o ++ [v] := by
    apply List.ext_getElem?
    intro i
    simp only [List.getElem?_take, List.getElem?_set, List.getElem?_append, List.length_take]
    by_cases h1 : i < o
    · have h2 : i < min o l.length := by omega
      have h3 : o ≠ i := by omega
      have h4 : i < o + 1 := by omega
      simp [h1, h2, h3, h4]
    · by_cases h2 : i = o
      · subst h2
        simp [h, Nat.min_eq_left (Nat.le_of_lt h)]
      · have h3 : ¬ i < min o l.length := by omega
        have h4 : ¬ i < o + 1 := by omega
        have h5 : ¬ (i - min o l.length = 0) := by omega
        simp only [h4, if_false, h3]
        rw [List.getElem?_eq_none (by simp; omega)]
  have e2 : (l.set o v).drop (o + 1 + vs.length) = l.drop (o + (vs.length + 1)) := by
    rw [List.drop_set_of_lt (by omega)]
    congr 1
    omega
  rw [e1, e2]
  simp
theorem splice_zero {l vs : List Value} (h : vs.length = l.length) : splice l 0 vs = vs := by simp [splice, ← h]
theorem splice_end {a b vs : List Value} (h : vs.length ≤ b.length) : splice (a ++ b) a.length vs = a ++ vs ++ b.drop vs.length := by
  simp [splice, List.drop_append]
theorem add_mk (b o n : Nat) : (⟨b, o, none⟩ : Addr).add n = ⟨b, o + n, none⟩ := by
  unfold Addr.add
  split
  · rename_i h; simp [h]
  · rfl
theorem wrL_blk {b : Nat} : ∀ (vs : List Value) (o i : Nat) (w : World) (l : List Value), Blk w b l → o + i + vs.length ≤ l.length → (∀ v ∈ vs, v.oneCell' = true) →
    ∃ w', wrL ⟨b, o, none⟩ vs i w = some w' ∧ Blk w' b (splice l (o + i) vs) ∧ Keep w w' (· = b) ∧ w'.heap.size = w.heap.size
  | [], o, i, w, l, h, _, _ => ⟨w, rfl, by rw [splice_nil]; exact h, Keep.refl _ _, rfl⟩
  | v :: vs, o, i, w, l, h, hl, hv => by
    have hlt : o + i < l.length := by simp at hl; omega
    have hc : w.cell? ⟨b, o + i, none⟩ = some l[o + i] := h.cell (List.getElem?_eq_getElem hlt)
    obtain ⟨w', h1, h2, h3, h4⟩ := wrL_blk vs o (i + 1) (w.setCell ⟨b, o + i, none⟩ v) (l.set (o + i) v) (setCell_blk h v) (by simp at hl ⊢; omega)
      (fun x hx => hv x (List.mem_cons_of_mem _ hx))
    refine ⟨w', ?_, ?_, (setCell_keep w b (o + i) v).trans h3 (fun _ _ h => h), by rw [h4]; simp⟩
    · simp only [wrL, hv v List.mem_cons_self, if_true, add_mk, hc, h.frozen]
      simpa using h1
    · rw [← splice_cons hlt]; exact h2
def Row (w : World) (D : Nat → Prop) (A : Option Addr) (l : List Value) : Prop :=
  l = [] ∨ ∃ b o c T fz, A = some ⟨b, o, none⟩ ∧ D b ∧ w.heap[b]? = some (.cells c T fz) ∧ ∀ i, i < l.length → c[o + i]? = l[i]?
theorem Row.keep {w w' : World} {D S : Nat → Prop} {A : Option Addr} {l : List Value} (h : Row w D A l) (k : Keep w w' S) (hs : ∀ b, b < w.heap.size → D b → ¬ S b) : Row w' D A l := by
  rcases h with h | ⟨b, o, c, T, fz, h1, h2, h3, h4⟩
  · exact .inl h
  · exact .inr ⟨b, o, c, T, fz, h1, h2, by rw [k.blk b (lt_of_heap h3) (hs b (lt_of_heap h3) h2)]; exact h3, h4⟩
theorem Row.mono {w : World} {D D' : Nat → Prop} {A : Option Addr} {l : List Value} (h : Row w D A l) (hd : ∀ b, b < w.heap.size → D b → D' b) : Row w D' A l := by
  rcases h with h | ⟨b, o, c, T, fz, h1, h2, h3, h4⟩
  · exact .inl h
  · exact .inr ⟨b, o, c, T, fz, h1, hd b (lt_of_heap h3) h2, h3, h4⟩
theorem Row.drew {w : World} {D : Nat → Prop} {A : Option Addr} {l : List Value} (h : Row w D A l) : Row w.drew D A l := h
theorem Row.nil (w : World) (D : Nat → Prop) (A : Option Addr) : Row w D A [] := .inl rfl
theorem Row.of_blk {w : World} {D : Nat → Prop} {b : Nat} {l r : List Value} (h : Blk w b (l ++ r)) (hd : D b) : Row w D (some ⟨b, 0, none⟩) l := by
  obtain ⟨T, hT⟩ := h
  refine .inr ⟨b, 0, _, T, _, rfl, hd, hT, fun i hi => ?_⟩
  simp [List.getElem?_append_left hi]
theorem Row.of_blk' {w : World} {D : Nat → Prop} {b : Nat} {l : List Value} (h : Blk w b l) (hd : D b) : Row w D (some ⟨b, 0, none⟩) l :=
  Row.of_blk (r := []) (by simpa using h) hd
theorem Row.take {w : World} {D : Nat → Prop} {A : Option Addr} {l : List Value} (h : Row w D A l) (n : Nat) : Row w D A (l.take n) := by
  rcases h with h | ⟨b, o, c, T, fz, h1, h2, h3, h4⟩
  · exact .inl (by simp [h])
  · refine .inr ⟨b, o, c, T, fz, h1, h2, h3, fun i hi => ?_⟩
    simp only [List.length_take] at hi
    rw [h4 i (by omega), List.getElem?_take, if_pos (by omega)]
theorem Row.drop {w : World} {D : Nat → Prop} {A : Option Addr} {l : List Value} (h : Row w D A l) (n : Nat) : Row w D (A.map (·.add n)) (l.drop n) := by
  rcases h with h | ⟨b, o, c, T, fz, h1, h2, h3, h4⟩
  · exact .inl (by simp [h])
  · refine .inr ⟨b, o + n, c, T, fz, by rw [h1]; simp [add_mk], h2, h3, fun i hi => ?_⟩
    simp only [List.length_drop] at hi
    rw [List.getElem?_drop, ← h4 (n + i) (by omega)]
    congr 1; omega
theorem Row.rd {w : World} {D : Nat → Prop} {ad : Addr} {l : List Value} (h : Row w D (some ad) l) : ∀ (n i : Nat), i + n ≤ l.length → rdL w ad n i = some ((l.drop i).take n)
  | 0, i, _ => by simp [rdL]
  | n + 1, i, hi => by
    have ih := Row.rd h n (i + 1) (by omega)
    rcases h with h | ⟨b, o, c, T, fz, h1, h2, h3, h4⟩
    · simp [h] at hi
    · obtain rfl := Option.some.inj h1
      have hc : w.cell? ⟨b, o + i, none⟩ = some l[i] := by
        simp only [World.cell?, h3]
        rw [← List.getElem?_eq_getElem (by omega), ← h4 i (by omega)]
        simp
      simp only [rdL, add_mk, hc, ih]
      simp only [Option.map_some]
      rw [List.drop_eq_getElem_cons (by omega : i < l.length), List.take_succ_cons]
theorem Row.src {w : World} {D : Nat → Prop} {A : Option Addr} {l : List Value} (h : Row w D A l) : srcL w A l.length = some l ∨ (l = [] ∧ ∀ A, srcL w A 0 = some []) := by
  rcases A with _ | ad
  · rcases h with h | ⟨b, o, c, T, fz, h1, _⟩
    · exact .inr ⟨h, fun A => by cases A <;> simp [srcL, rdL]⟩
    · cases h1
  · left
    have := h.rd l.length 0 (by omega)
    simpa [srcL] using this
theorem Row.srcL {w : World} {D : Nat → Prop} {A : Option Addr} {l : List Value} (h : Row w D A l) {n : Nat} (hn : n = l.length) : Mw.srcL w A n = some l := by
  subst hn
  rcases h.src with h1 | ⟨rfl, h1⟩
  · exact h1
  · exact h1 A
section
variable {k : Kt} {w : World}
theorem M.len_i {A : Option Addr} {n c : Nat} (h : k (.int .i64 n) w) : M.len (.slice A n c) k w := h
theorem M.cap_i {A : Option Addr} {n c : Nat} (h : k (.int .i64 c) w) : M.cap (.slice A n c) k w := h
theorem M.not_i {b : Bool} (h : k (.bool !b) w) : M.not (.bool b) k w := h
theorem M.nilCheck_i {a : Addr} (h : k (.pointer (some a)) w) : M.nilCheck (.pointer (some a)) k w := h
theorem M.field_i {b o off : Nat} (h : k (.pointer (some ⟨b, o + off, none⟩)) w) : M.fieldAddr off (.pointer (some ⟨b, o, none⟩)) k w := by
  unfold M.fieldAddr; simp only [add_mk]; exact h
theorem M.load_i {a : Addr} {v : Value} (hc : w.cell? a = some v) (h : k v w) : M.load1 (.pointer (some a)) k w := by
  unfold M.load1; simp only [hc]; exact h
theorem M.loadB_i {b o : Nat} {l : List Value} {v : Value} (hb : Blk w b l) (hv : l[o]? = some v) (h : k v w) : M.load1 (.pointer (some ⟨b, o, none⟩)) k w :=
  M.load_i (hb.cell hv) h
theorem M.loadA_i {b o n : Nat} {l : List Value} (hb : Blk w b l) (hn : o + n ≤ l.length) (h : k (.agg ⟨(l.drop o).take n⟩) w) : M.loadA n (.pointer (some ⟨b, o, none⟩)) k w := by
  have hr : Row w (fun _ => True) (some ⟨b, 0, none⟩) l := Row.of_blk' hb trivial
  have h2 := (hr.drop o)
  simp only [Option.map_some, add_mk, Nat.zero_add] at h2
  have h3 := h2.rd n 0 (by simp; omega)
  unfold M.loadA
  simp only [h3]
  simpa using h
theorem M.loadAll_i {b n : Nat} {l : List Value} (hb : Blk w b l) (hn : l.length = n) (h : k (.agg ⟨l⟩) w) : M.loadA n (.pointer (some ⟨b, 0, none⟩)) k w :=
  M.loadA_i hb (by omega) (by subst hn; simpa using h)
theorem M.store_i {b o : Nat} {l : List Value} {v : Value} (hb : Blk w b l) (ho : o < l.length) (hv : v.oneCell' = true)
    (h : ∀ w', Blk w' b (l.set o v) → Keep w w' (· = b) → w'.heap.size = w.heap.size → k undef w') : M.store 1 (.pointer (some ⟨b, o, none⟩)) v k w := by
  have hc : v.cells = #[v] := by cases v <;> simp_all [Value.cells, Value.oneCell']
  obtain ⟨w', h1, h2, h3, h4⟩ := wrL_blk [v] o 0 w l hb (by simp; omega) (by simpa using hv)
  unfold M.store
  simp only [hc, h1]
  refine ⟨rfl, h w' ?_ h3 h4⟩
  have : splice l o [v] = l.set o v := by rw [← splice_cons (by omega), splice_nil]
  rw [← this]; exact h2
theorem M.storeAll_i {b n : Nat} {l : List Value} {vs : List Value} (hb : Blk w b l) (hn : vs.length = n) (hl : l.length = n) (hv : ∀ v ∈ vs, v.oneCell' = true)
    (h : ∀ w', Blk w' b vs → Keep w w' (· = b) → w'.heap.size = w.heap.size → k undef w') : M.store n (.pointer (some ⟨b, 0, none⟩)) (.agg ⟨vs⟩) k w := by
  obtain ⟨w', h1, h2, h3, h4⟩ := wrL_blk vs 0 0 w l hb (by omega) hv
  unfold M.store
  simp only [Value.cells, h1]
  refine ⟨by simpa using hn, h w' ?_ h3 h4⟩
  rw [Nat.add_zero, splice_zero (by omega)] at h2; exact h2
theorem M.new_i {T : TypeId} {l : List Value} (h : ∀ w', Blk w' w.heap.size l → Keep w w' No → w'.heap.size = w.heap.size + 1 → k (.pointer (some ⟨w.heap.size, 0, none⟩)) w') :
    M.new T ⟨l⟩ k w := h _ (Blk.alloc w l T) (Keep.alloc w _ _) (by simp)
theorem M.idx_i {sz n c : Nat} {d : IntKind} {i : Int} {b o : Nat} (h0 : 0 ≤ i) (h1 : i < n) (h : k (.pointer (some ⟨b, o + i.toNat * sz, none⟩)) w) :
    M.indexSl sz (.slice (some ⟨b, o, none⟩) n c) (.int d i) k w := by
  unfold M.indexSl; simp only [add_mk]; exact ⟨⟨h0, h1⟩, h⟩
theorem M.idxRow_i {D : Nat → Prop} {A : Option Addr} {l : List Value} {n c : Nat} {d : IntKind} {i : Int} (hr : Row w D A l) (hl : l.length = n) (h0 : 0 ≤ i) (h1 : i < n)
    (h : ∀ b o, A = some ⟨b, o, none⟩ → w.cell? ⟨b, o + i.toNat, none⟩ = l[i.toNat]? → k (.pointer (some ⟨b, o + i.toNat, none⟩)) w) :
    M.indexSl 1 (.slice A n c) (.int d i) k w := by
  rcases hr with hr | ⟨b, o, cc, T, fz, rfl, h2, h3, h4⟩
  · subst hr; simp at hl; omega
  · refine M.idx_i h0 h1 ?_
    have e : i.toNat * 1 = i.toNat := Nat.mul_one _
    rw [e]
    refine h b o rfl ?_
    rw [← h4 i.toNat (by omega)]
    simp [World.cell?, h3]
theorem M.idxRowN_i {sz : Nat} {D : Nat → Prop} {A : Option Addr} {l : List Value} {n c : Nat} {d : IntKind} {i : Int} (hr : Row w D A l) (hl : l.length = n * sz) (hs : 0 < sz) (h0 : 0 ≤ i) (h1 : i < n)
    (h : ∀ b o, A = some ⟨b, o, none⟩ → (∀ j, j < sz → w.cell? ⟨b, o + i.toNat * sz + j, none⟩ = l[i.toNat * sz + j]?) → k (.pointer (some ⟨b, o + i.toNat * sz, none⟩)) w) :
    M.indexSl sz (.slice A n c) (.int d i) k w := by
  have hm : ∀ j, j < sz → i.toNat * sz + j < l.length := fun j hj => by
    rw [hl]
    have : (i.toNat + 1) * sz ≤ n * sz := Nat.mul_le_mul_right _ (by omega)
    rw [Nat.add_mul] at this
    omega
  rcases hr with hr | ⟨b, o, cc, T, fz, rfl, h2, h3, h4⟩
  · have := hm 0 hs; subst hr; simp at this
  · refine M.idx_i h0 h1 (h b o rfl fun j hj => ?_)
    rw [← h4 _ (hm j hj)]
    simp [World.cell?, h3, Nat.add_assoc]
theorem M.cond_i {p : Prop} [Decidable p] {A B : Prop} (ht : p → A) (hf : ¬ p → B) : M.cond (.bool (decide p)) A B := by
  by_cases h : p
  · simp only [h, decide_true]; exact ht h
  · simp only [h, decide_false]; exact hf h
theorem M.eqB_i {neq a b : Bool} (h : k (.bool (xor neq (a == b))) w) : M.eqB neq (.bool a) (.bool b) k w := h
theorem M.add_i {a b : Int} (h0 : -9223372036854775808 ≤ a + b) (h1 : a + b < 9223372036854775808) (h : k (.int .i64 (a + b)) w) : M.bin .add (.int .i64 a) (.int .i64 b) k w :=
  ⟨rfl, by simp only [ibin, wrap_i64 h0 h1]; exact h⟩
theorem M.sub_i {a b : Int} (h0 : -9223372036854775808 ≤ a - b) (h1 : a - b < 9223372036854775808) (h : k (.int .i64 (a - b)) w) : M.bin .sub (.int .i64 a) (.int .i64 b) k w :=
  ⟨rfl, by simp only [ibin, wrap_i64 h0 h1]; exact h⟩
theorem M.lss_i {d : IntKind} {a b : Int} (h : k (.bool (decide (a < b))) w) : M.bin .lss (.int d a) (.int d b) k w := ⟨rfl, h⟩
theorem M.leq_i {d : IntKind} {a b : Int} (h : k (.bool (decide (a ≤ b))) w) : M.bin .leq (.int d a) (.int d b) k w := ⟨rfl, h⟩
theorem M.gtr_i {d : IntKind} {a b : Int} (h : k (.bool (decide (b < a))) w) : M.bin .gtr (.int d a) (.int d b) k w := ⟨rfl, h⟩
theorem M.geq_i {d : IntKind} {a b : Int} (h : k (.bool (decide (b ≤ a))) w) : M.bin .geq (.int d a) (.int d b) k w := ⟨rfl, h⟩
theorem M.eql_i {d : IntKind} {a b : Int} (h : k (.bool (decide (a = b))) w) : M.bin .eql (.int d a) (.int d b) k w := by
  refine ⟨rfl, ?_⟩
  simp only [ibin]
  have : (a == b) = decide (a = b) := by by_cases h : a = b <;> simp [h]
  rw [this]; exact h
theorem M.neq_i {d : IntKind} {a b : Int} (h : k (.bool (decide (a ≠ b))) w) : M.bin .neq (.int d a) (.int d b) k w := by
  refine ⟨rfl, ?_⟩
  simp only [ibin]
  have : (a != b) = decide (a ≠ b) := by by_cases h : a = b <;> simp [h]
  rw [this]; exact h
theorem M.bin_i {op : BinOp} {d : IntKind} {a b : Int} {v : Value} (hv : ibin op d a b = some v) (h : k v w) : M.bin op (.int d a) (.int d b) k w := by
  refine ⟨rfl, ?_⟩
  simp only [hv]; exact h
theorem M.shift_i {op : BinOp} {d d' : IntKind} {a b : Int} {v : Value} (hv : ishift op d a b = some v) (h : k v w) : M.shift op (.int d a) (.int d' b) k w := by
  unfold M.shift; simp only [hv]; exact h
theorem M.share_i {A : (List Value → World → Prop) → World → Prop} {R : List Value → World → Prop} (h : A R w) : M.share A R w := h
theorem M.draw_i {R : World → Prop} (h : R w.drew) : M.draw R w := h
theorem M.extract_i {i : Nat} {vs : Array Value} {v : Value} (hv : vs[i]? = some v) (h : k v w) : M.extract i (.tuple vs) k w := by
  unfold M.extract; simp only [hv]; exact h
theorem M.makeSlice_i {el sz bytes : Nat} {zero : Array Value} {n : Nat} {z : Value} (hz : zero = #[z]) (hs : sz = 1) (hb : bytes * n ≤ 281474976710656) (hn : n < 9223372036854775808)
    (h : ∀ w', Blk w' w.heap.size (List.replicate n z) → Keep w w' No → w'.heap.size = w.heap.size + 1 → k (.slice (some ⟨w.heap.size, 0, none⟩) n n) w') :
    M.makeSlice el sz bytes zero (.int .i64 n) (.int .i64 n) k w := by
  subst hz hs
  have e : mkCells #[z] (((n : Int).toNat) * 1) = ⟨List.replicate n z⟩ := by
    apply Array.ext'
    apply List.ext_getElem?
    intro i
    simp only [mkCells, Int.toNat_natCast, Nat.mul_one, Array.toList_map, List.getElem?_map]
    by_cases hi : i < n
    · simp [hi, Nat.mod_one]
    · simp [hi]
  refine ⟨⟨by omega, by omega, by omega, by omega⟩, ?_⟩
  rw [e, Int.toNat_natCast]
  exact h _ (Blk.alloc w _ _) (Keep.alloc w _ _) (by simp)
theorem M.buildSlice_i {el sz : Nat} {zero : Array Value} {len : Nat} {parts : List (Nat × Value)} (l : List Value)
    (hf : Instr.fill (fun i => some (i * sz, sz)) (mkCells zero (len * sz)) parts = some ⟨l⟩)
    (h : ∀ w', Blk w' w.heap.size l → Keep w w' No → w'.heap.size = w.heap.size + 1 → k (.slice (some ⟨w.heap.size, 0, none⟩) len len) w') :
    M.buildSlice el sz zero len parts k w := by
  unfold M.buildSlice
  simp only [hf]
  exact h _ (Blk.alloc w _ _) (Keep.alloc w _ _) (by simp)
end
theorem M.loop_i {σ : Type} {init : List Value} {body : List Value → (List Value → World → Prop) → World → Prop} {w : World} (J : σ → List Value → World → Prop) (μ : σ → Nat) (s0 : σ)
    (h0 : J s0 init w) (h : ∀ s vals w (K : List Value → World → Prop), J s vals w → (∀ s' vals' w', μ s' < μ s → J s' vals' w' → K vals' w') → body vals K w) : M.loop init body w := by
  refine ⟨fun n vals w => ∃ s, μ s = n ∧ J s vals w, μ s0, ⟨s0, rfl, h0⟩, ?_⟩
  rintro n vals w ⟨s, rfl, hs⟩
  exact h s vals w _ hs fun s' vals' w' hlt hs' => ⟨μ s', hlt, s', rfl, hs'⟩
section
variable {k : Kt} {w : World}
theorem M.lss_t {d : IntKind} {a b : Int} (hc : a < b) (h : k (.bool true) w) : M.bin .lss (.int d a) (.int d b) k w := M.lss_i (by simpa [hc] using h)
theorem M.lss_f {d : IntKind} {a b : Int} (hc : ¬ a < b) (h : k (.bool false) w) : M.bin .lss (.int d a) (.int d b) k w := M.lss_i (by simpa [hc] using h)
theorem M.leq_t {d : IntKind} {a b : Int} (hc : a ≤ b) (h : k (.bool true) w) : M.bin .leq (.int d a) (.int d b) k w := M.leq_i (by simpa [hc] using h)
theorem M.leq_f {d : IntKind} {a b : Int} (hc : ¬ a ≤ b) (h : k (.bool false) w) : M.bin .leq (.int d a) (.int d b) k w := M.leq_i (by simpa [hc] using h)
theorem M.gtr_t {d : IntKind} {a b : Int} (hc : b < a) (h : k (.bool true) w) : M.bin .gtr (.int d a) (.int d b) k w := M.gtr_i (by simpa [hc] using h)
theorem M.gtr_f {d : IntKind} {a b : Int} (hc : ¬ b < a) (h : k (.bool false) w) : M.bin .gtr (.int d a) (.int d b) k w := M.gtr_i (by simpa [hc] using h)
theorem M.geq_t {d : IntKind} {a b : Int} (hc : b ≤ a) (h : k (.bool true) w) : M.bin .geq (.int d a) (.int d b) k w := M.geq_i (by simpa [hc] using h)
theorem M.geq_f {d : IntKind} {a b : Int} (hc : ¬ b ≤ a) (h : k (.bool false) w) : M.bin .geq (.int d a) (.int d b) k w := M.geq_i (by simpa [hc] using h)
theorem M.eql_t {d : IntKind} {a b : Int} (hc : a = b) (h : k (.bool true) w) : M.bin .eql (.int d a) (.int d b) k w := M.eql_i (by simpa [hc] using h)
theorem M.eql_f {d : IntKind} {a b : Int} (hc : ¬ a = b) (h : k (.bool false) w) : M.bin .eql (.int d a) (.int d b) k w := M.eql_i (by simpa [hc] using h)
theorem M.neq_t {d : IntKind} {a b : Int} (hc : ¬ a = b) (h : k (.bool true) w) : M.bin .neq (.int d a) (.int d b) k w := M.neq_i (by simpa [hc] using h)
theorem M.neq_f {d : IntKind} {a b : Int} (hc : a = b) (h : k (.bool false) w) : M.bin .neq (.int d a) (.int d b) k w := M.neq_i (by simpa [hc] using h)
theorem M.gd_tt {A : Kt → World → Prop} (h : A k w) : M.gd (.bool true) true A k w := h
theorem M.gd_ff {A : Kt → World → Prop} (h : A k w) : M.gd (.bool false) false A k w := h
theorem M.gd_ft {A : Kt → World → Prop} (h : k undef w) : M.gd (.bool false) true A k w := h
theorem M.gd_tf {A : Kt → World → Prop} (h : k undef w) : M.gd (.bool true) false A k w := h
theorem M.gd_u {want : Bool} {A : Kt → World → Prop} (h : k undef w) : M.gd undef want A k w := h
theorem M.pick_t {a b : Value} (h : k a w) : M.pick (.bool true) a b k w := h
theorem M.pick_f {a b : Value} (h : k b w) : M.pick (.bool false) a b k w := h
theorem M.not_t (h : k (.bool false) w) : M.not (.bool true) k w := h
theorem M.not_f (h : k (.bool true) w) : M.not (.bool false) k w := h
theorem M.cond_t {A B : Prop} (h : A) : M.cond (.bool true) A B := h
theorem M.cond_f {A B : Prop} (h : B) : M.cond (.bool false) A B := h
theorem M.eqNilP_ts {a : Addr} (h : k (.bool true) w) : M.eqNil 0 true (.pointer (some a)) k w := h
theorem M.eqNilP_fn (h : k (.bool true) w) : M.eqNil 0 false (.pointer none) k w := h
theorem M.eqNilP_fs {a : Addr} (h : k (.bool false) w) : M.eqNil 0 false (.pointer (some a)) k w := h
theorem M.eqNilS_fn {n c : Nat} (h : k (.bool true) w) : M.eqNil 1 false (.slice none n c) k w := h
theorem M.eqNilS_fs {a : Addr} {n c : Nat} (h : k (.bool false) w) : M.eqNil 1 false (.slice (some a) n c) k w := h
theorem M.pure_i {P : Program} {s : Sem Value} (v : Value) (hv : ∀ w', s.run P w' = .ok v w') (h : k v w) : pureW P s k w := ⟨v, hv, h⟩
theorem M.slice_i {sz n c : Nat} {A : Option Addr} {lo hi mx : Option Value} (l h m : Nat) (hs : sl3 n c lo hi mx = some (l, h, m))
    (hk : k (.slice (if m = l then A else A.map (·.add (l * sz))) (h - l) (m - l)) w) : M.slice sz (.slice A n c) lo hi mx k w := by
  unfold M.slice; simp only [hs]; exact hk
end
def GC (w : World) (L : Nat → Prop) (sz : Nat) (v : Value) (n : Nat) (l : List Value) : Prop :=
  l.length = n * sz ∧ ((v = .slice none 0 0 ∧ n = 0) ∨ ∃ b c rest, v = .slice (some ⟨b, 0, none⟩) n c ∧ L b ∧ Blk w b (l ++ rest) ∧ l.length + rest.length = c * sz)
theorem GC.nil (w : World) (L : Nat → Prop) (sz : Nat) : GC w L sz (.slice none 0 0) 0 [] := ⟨by simp, .inl ⟨rfl, rfl⟩⟩
theorem GC.keep {w w' : World} {L S : Nat → Prop} {sz n : Nat} {v : Value} {l : List Value} (h : GC w L sz v n l) (k : Keep w w' S) (hs : ∀ b, b < w.heap.size → L b → ¬ S b) : GC w' L sz v n l := by
  obtain ⟨h0, h | ⟨b, c, rest, h1, h2, h3, h4⟩⟩ := h
  · exact ⟨h0, .inl h⟩
  · exact ⟨h0, .inr ⟨b, c, rest, h1, h2, h3.keep k (hs b h3.lt h2), h4⟩⟩
theorem GC.mono {w : World} {L L' : Nat → Prop} {sz n : Nat} {v : Value} {l : List Value} (h : GC w L sz v n l) (hl : ∀ b, b < w.heap.size → L b → L' b) : GC w L' sz v n l := by
  obtain ⟨h0, h | ⟨b, c, rest, h1, h2, h3, h4⟩⟩ := h
  · exact ⟨h0, .inl h⟩
  · exact ⟨h0, .inr ⟨b, c, rest, h1, hl b h3.lt h2, h3, h4⟩⟩
theorem GC.drew {w : World} {L : Nat → Prop} {sz n : Nat} {v : Value} {l : List Value} (h : GC w L sz v n l) : GC w.drew L sz v n l := h
theorem GC.row {w : World} {L : Nat → Prop} {sz n : Nat} {v : Value} {l : List Value} (h : GC w L sz v n l) : ∃ A c, v = .slice A n c ∧ Row w L A l := by
  obtain ⟨h0, ⟨h1, h2⟩ | ⟨b, c, rest, h1, h2, h3, h4⟩⟩ := h
  · subst h2
    exact ⟨none, 0, h1, .inl (by simpa using h0)⟩
  · exact ⟨_, c, h1, Row.of_blk h3 h2⟩
theorem GC.one {w : World} {L : Nat → Prop} {sz n : Nat} {v : Value} {l : List Value} (h : GC w L sz v n l) : v.oneCell' = true := by
  obtain ⟨h0, ⟨h1, _⟩ | ⟨b, c, rest, h1, _⟩⟩ := h <;> subst h1 <;> rfl
theorem GC.of_blk {w : World} {L : Nat → Prop} {sz n b : Nat} {l : List Value} (h : Blk w b l) (hl : L b) (hn : l.length = n * sz) : GC w L sz (.slice (some ⟨b, 0, none⟩) n n) n l :=
  ⟨hn, .inr ⟨b, n, [], rfl, hl, by simpa using h, by simpa using hn⟩⟩
theorem nextslicecap_le {n c : Nat} (h : c < n) : Builtin.nextslicecap n c ≤ 2 * n + 512 := by
  unfold Builtin.nextslicecap
  split
  · omega
  · split
    · omega
    · simp only [Builtin.growBy]
      repeat' split
      all_goals omega
theorem M.append_i {k : Kt} {w : World} {el sz bytes : Nat} {zero : Array Value} {L D : Nat → Prop} {v : Value} {n m c : Nat} {l ys : List Value} {B : Option Addr}
    (h : GC w L sz v n l) (hr : Row w D B ys) (hm : ys.length = m * sz) (hone : ∀ y ∈ ys, y.oneCell' = true) (hz : zero.size = sz) (hb0 : 0 < bytes)
    (hb : (2 * (n + m) + 512) * bytes ≤ 281474976710656)
    (hk : ∀ v' w', GC w' (fun b => L b ∨ w.heap.size ≤ b) sz v' (n + m) (l ++ ys) → Keep w w' L → k v' w') : M.append el sz bytes zero v (.slice B m c) k w := by
  obtain ⟨h0, h⟩ := h
  have hsrc := hr.srcL hm.symm
  have hlen : (l ++ ys).length = (n + m) * sz := by simp [h0, hm, Nat.add_mul]
  rcases h with ⟨rfl, rfl⟩ | ⟨b, cc, rest, rfl, hL, hB, hcc⟩
  · have hl0 : l = [] := by simpa using h0
    subst hl0
    refine ⟨ys, hsrc, ?_⟩
    by_cases hle : 0 + m ≤ 0
    · have hm0 : m = 0 := by omega
      subst hm0
      have hy0 : ys = [] := by simpa using hm
      subst hy0
      simp only [Nat.le_refl, if_true, Nat.add_zero]
      exact hk _ _ ⟨by simp, .inl ⟨rfl, by omega⟩⟩ (Keep.refl _ _)
    · simp only [hle, if_false]
      have hn := nextslicecap_le (n := 0 + m) (c := 0) (by omega)
      refine ⟨⟨Nat.le_trans (Nat.mul_le_mul_right bytes hn) hb, hb0⟩, [], ?_, fun c' h1 h2 => ?_⟩
      · simp [srcL]
      · refine hk _ _ ⟨hlen, .inr ⟨_, c', (Builtin.zeroCells zero (c' - (0 + m))).toList, rfl, .inr (Nat.le_refl _), ?_, ?_⟩⟩ ?_
        · have := Blk.alloc w.drew ([] ++ ys ++ (Builtin.zeroCells zero (c' - (0 + m))).toList) el
          simpa using this
        · have e1 : (Builtin.zeroCells zero (c' - (0 + m))).toList.length = (c' - (0 + m)) * sz := by simp [Builtin.zeroCells, hz]
          rw [e1, hlen, ← Nat.add_mul]
          congr 1; omega
        · exact ((Keep.drew w L).trans (Keep.alloc w.drew _ L) (fun _ _ h => h))
  · refine ⟨ys, hsrc, ?_⟩
    by_cases hle : n + m ≤ cc
    · simp only [hle, if_true]
      have hr2 : ys.length ≤ rest.length := by
        have h1 : (n + m) * sz ≤ cc * sz := Nat.mul_le_mul_right _ hle
        have h2 : (n + m) * sz = n * sz + m * sz := Nat.add_mul _ _ _
        omega
      obtain ⟨w', h1, h2, h3, h4⟩ := wrL_blk ys (n * sz) 0 w (l ++ rest) hB (by simp; omega) hone
      have e0 : (⟨b, 0, none⟩ : Addr).add (n * sz) = ⟨b, n * sz, none⟩ := by rw [add_mk, Nat.zero_add]
      rw [e0, h1]
      refine hk _ _ ⟨hlen, .inr ⟨b, cc, rest.drop ys.length, rfl, .inl hL, ?_, ?_⟩⟩ (h3.mono fun i _ hi => hi ▸ hL)
      · rw [Nat.add_zero, ← h0, splice_end hr2] at h2
        exact h2
      · simp; omega
    · simp only [hle, if_false]
      have hn := nextslicecap_le (n := n + m) (c := cc) (by omega)
      have hold : srcL w (some ⟨b, 0, none⟩) (n * sz) = some l := (Row.of_blk (D := fun _ => True) hB trivial).srcL h0.symm
      refine ⟨⟨Nat.le_trans (Nat.mul_le_mul_right bytes hn) hb, hb0⟩, l, hold, fun c' h1 h2 => ?_⟩
      refine hk _ _ ⟨hlen, .inr ⟨_, c', (Builtin.zeroCells zero (c' - (n + m))).toList, rfl, .inr (Nat.le_refl _), ?_, ?_⟩⟩ ?_
      · have := Blk.alloc w.drew (l ++ ys ++ (Builtin.zeroCells zero (c' - (n + m))).toList) el
        simpa using this
      · have e1 : (Builtin.zeroCells zero (c' - (n + m))).toList.length = (c' - (n + m)) * sz := by simp [Builtin.zeroCells, hz]
        rw [e1, hlen, ← Nat.add_mul]
        congr 1; omega
      · exact ((Keep.drew w L).trans (Keep.alloc w.drew _ L) (fun _ _ h => h))
abbrev vi (x : Int) : Value := .int .i64 x
theorem vi_one (xs : List Int) : ∀ y ∈ xs.map vi, y.oneCell' = true := by
  intro y hy
  obtain ⟨x, _, rfl⟩ := List.mem_map.1 hy
  rfl
abbrev GI (w : World) (L : Nat → Prop) (v : Value) (xs : List Int) : Prop := GC w L 1 v xs.length (xs.map vi)
theorem GI.nil (w : World) (L : Nat → Prop) : GI w L (.slice none 0 0) [] := GC.nil w L 1
theorem M.append1_i {k : Kt} {w : World} {el : Nat} {zero : Array Value} {L D : Nat → Prop} {v : Value} {xs : List Int} {x : Int} {b c : Nat}
    (h : GI w L v xs) (hr : Row w D (some ⟨b, 0, none⟩) [vi x]) (hz : zero.size = 1) (hb : xs.length ≤ 1000000000000)
    (hk : ∀ v' w', GI w' (fun b => L b ∨ w.heap.size ≤ b) v' (xs ++ [x]) → Keep w w' L → k v' w') : M.append el 1 8 zero v (.slice (some ⟨b, 0, none⟩) 1 c) k w :=
  M.append_i h hr rfl (by simp; rfl) hz (by omega) (by omega) (fun v' w' h1 h2 => hk v' w' (by simpa [GI] using h1) h2)
theorem GC.pos {w : World} {L : Nat → Prop} {sz n : Nat} {v : Value} {l : List Value} (h : GC w L sz v n l) (hn : 0 < n) :
    ∃ b c rest, v = .slice (some ⟨b, 0, none⟩) n c ∧ L b ∧ Blk w b (l ++ rest) ∧ l.length + rest.length = c * sz := by
  obtain ⟨h0, ⟨h1, h2⟩ | h⟩ := h
  · omega
  · exact h
theorem M.idxStore_i {k : Kt} {w : World} {L : Nat → Prop} {v : Value} {xs : List Int} {d : IntKind} {i x : Int} (h : GI w L v xs) (h0 : 0 ≤ i) (h1 : i < xs.length)
    (hk : ∀ w', GI w' L v (xs.set i.toNat x) → Keep w w' L → w'.heap.size = w.heap.size → k undef w') :
    M.indexSl 1 v (.int d i) (fun t w => M.store 1 t (vi x) k w) w := by
  obtain ⟨b, c, rest, rfl, hL, hB, hl⟩ := h.pos (by omega)
  refine M.idx_i h0 h1 ?_
  simp only [Nat.zero_add, Nat.mul_one]
  have hlt : i.toNat < (xs.map vi).length := by simp; omega
  refine M.store_i hB (by simp; simp at hlt; omega) rfl fun w' hB' hk' hs => ?_
  refine hk w' ?_ (hk'.mono fun j _ hj => hj ▸ hL) hs
  rw [List.set_append_left _ _ hlt] at hB'
  have e : (xs.set i.toNat x).map vi = (xs.map vi).set i.toNat (vi x) := by rw [List.map_set]
  refine ⟨by simp, .inr ⟨b, c, rest, by simp, hL, by rw [e]; exact hB', by simpa using hl⟩⟩
theorem Row.same {w : World} {D : Nat → Prop} {A : Option Addr} {l : List Value} {p : Prop} [Decidable p] (h : Row w D A l) : Row w D (if p then A else A.map (·.add 0)) l := by
  split
  · exact h
  · simpa using h.drop 0
theorem sb_i {y n : Nat} (h : n ≤ y) : sb y (.int .i64 n) = some n := by
  unfold sb; simp [h]
theorem sl3_lhm {n c l h m : Nat} (h1 : l ≤ h) (h2 : h ≤ m) (h3 : m ≤ c) : sl3 n c (some (vi l)) (some (vi h)) (some (vi m)) = some (l, h, m) := by
  unfold sl3; simp only [sb_i h3, sb_i h2, sb_i h1]
theorem sl3_h {n c h : Nat} (h2 : h ≤ c) : sl3 n c none (some (vi h)) none = some (0, h, c) := by
  unfold sl3; simp only [sb_i h2]
theorem sl3_lh {n c l h : Nat} (h1 : l ≤ h) (h2 : h ≤ c) : sl3 n c (some (vi l)) (some (vi h)) none = some (l, h, c) := by
  unfold sl3; simp only [sb_i h2, sb_i h1]
theorem M.stB_i {w : World} {b o : Nat} {l : List Value} {v : Value} {R : Prop} (hb : Blk w b l) (hv : l[o]? = some v) (h : R) :
    M.load1 (.pointer (some ⟨b, o, none⟩)) (fun v' _ => v' = v) w ∧ R := ⟨M.loadB_i hb hv rfl, h⟩
theorem M.share_j {A : (List Value → World → Prop) → World → Prop} {R : List Value → World → Prop} {w : World} (J : List Value → World → Prop)
    (hR : ∀ vals w', J vals w' → R vals w') (hA : ∀ K : List Value → World → Prop, (∀ vals w', J vals w' → K vals w') → A K w) : M.share A R w := hA R hR
theorem GI.cut {w : World} {L : Nat → Prop} {A : Option Addr} {c : Nat} {xs : List Int} (h : GI w L (.slice A xs.length c) xs) {m : Nat} (hm : m ≤ xs.length) :
    GI w L (.slice (if c = 0 then A else A.map (·.add (0 * 1))) (m - 0) (c - 0)) (xs.take m) := by
  obtain ⟨h0, ⟨h1, h2⟩ | ⟨b, cc, rest, h1, h2, h3, h4⟩⟩ := h
  · have hx : xs = [] := List.length_eq_zero_iff.1 h2
    subst hx
    simp only [Value.slice.injEq] at h1
    obtain ⟨rfl, _, rfl⟩ := h1
    have : m = 0 := by simpa using hm
    subst this
    exact ⟨rfl, .inl ⟨rfl, rfl⟩⟩
  · simp only [Value.slice.injEq] at h1
    obtain ⟨rfl, _, rfl⟩ := h1
    have e : (if c = 0 then some (⟨b, 0, none⟩ : Addr) else (some (⟨b, 0, none⟩ : Addr)).map (·.add (0 * 1))) = some ⟨b, 0, none⟩ := by
      simp [add_mk]
    rw [e]
    refine ⟨by simp, .inr ⟨b, c, (xs.map vi).drop m ++ rest, ?_, h2, ?_, ?_⟩⟩
    · simp [Nat.min_eq_left hm]
    · rw [List.map_take, ← List.append_assoc, List.take_append_drop]; exact h3
    · simp at h4 ⊢; omega
theorem M.quo2_i {k : Kt} {w : World} {a : Int} (h0 : 0 ≤ a) (h1 : a < 9223372036854775808) (h : k (vi (a / 2)) w) : M.bin .quo (.int .i64 a) (.int .i64 2) k w := by
  refine M.bin_i (v := vi (a / 2)) ?_ h
  simp only [ibin]
  rw [if_neg (by omega), Int.tdiv_eq_ediv_of_nonneg h0, wrap_i64 (by omega) (by omega)]
theorem GC.row2 {w : World} {L : Nat → Prop} {sz n : Nat} {v : Value} {l : List Value} (h : GC w L sz v n l) (hs : 0 < sz) : ∃ A c, v = .slice A n c ∧ Row w L A l ∧ n ≤ c := by
  obtain ⟨h0, ⟨h1, h2⟩ | ⟨b, c, rest, h1, h2, h3, h4⟩⟩ := h
  · subst h2
    exact ⟨none, 0, h1, .inl (by simpa using h0), Nat.le_refl _⟩
  · refine ⟨_, c, h1, Row.of_blk h3 h2, ?_⟩
    exact Nat.le_of_mul_le_mul_right (by omega : n * sz ≤ c * sz) hs
theorem M.gs_tf {A : Kt → World → Prop} {w : World} {X : Prop} (h : X) : M.gd (.bool true) false A (fun v' _ => v' = undef) w ∧ X := ⟨rfl, h⟩
theorem rdL_cells {w : World} {b o : Nat} {cs : List Value} : ∀ (n i : Nat), (∀ j (hj : j < cs.length), w.cell? ⟨b, o + j, none⟩ = some cs[j]) → i + n = cs.length → rdL w ⟨b, o, none⟩ n i = some (cs.drop i)
  | 0, i, h, hn => by
    have : cs.length ≤ i := by omega
    simp [rdL, List.drop_eq_nil_of_le this]
  | n + 1, i, h, hn => by
    have h1 := h i (by omega)
    have ih := rdL_cells n (i + 1) h (by omega)
    simp only [rdL, add_mk, h1, ih, Option.map_some]
    rw [← List.drop_eq_getElem_cons (by omega)]
abbrev ja := @M.len_i
abbrev jb := @M.nilCheck_i
abbrev jc := @M.field_i
abbrev jd := @M.draw_i
abbrev je := @M.cap_i
abbrev jf := @M.gd_tt
abbrev jg := @M.gd_ff
abbrev jh := @M.gd_ft
abbrev ji := @M.gd_tf
abbrev jj := @M.gd_u
abbrev jk := @M.pick_t
abbrev jl := @M.pick_f
abbrev jm := @M.not_t
abbrev jn := @M.not_f
abbrev jo := @M.cond_t
abbrev jp := @M.cond_f
abbrev jr := @M.eqNilP_ts
abbrev js := @M.eqNilP_fn
abbrev jt := @M.eqNilP_fs
abbrev jw := @M.eqNilS_fn
abbrev jx := @M.eqNilS_fs
theorem jy {k : Kt} {w : World} {d : IntKind} {a b : Int} (h : k (.bool true) w) (hc : a < b := by omega) : M.bin .lss (.int d a) (.int d b) k w := M.lss_t hc h
theorem jz {k : Kt} {w : World} {d : IntKind} {a b : Int} (h : k (.bool false) w) (hc : ¬ a < b := by omega) : M.bin .lss (.int d a) (.int d b) k w := M.lss_f hc h
theorem jA {k : Kt} {w : World} {d : IntKind} {a b : Int} (h : k (.bool true) w) (hc : a ≤ b := by omega) : M.bin .leq (.int d a) (.int d b) k w := M.leq_t hc h
theorem jB {k : Kt} {w : World} {d : IntKind} {a b : Int} (h : k (.bool false) w) (hc : ¬ a ≤ b := by omega) : M.bin .leq (.int d a) (.int d b) k w := M.leq_f hc h
theorem jC {k : Kt} {w : World} {d : IntKind} {a b : Int} (h : k (.bool true) w) (hc : b < a := by omega) : M.bin .gtr (.int d a) (.int d b) k w := M.gtr_t hc h
theorem jD {k : Kt} {w : World} {d : IntKind} {a b : Int} (h : k (.bool false) w) (hc : ¬ b < a := by omega) : M.bin .gtr (.int d a) (.int d b) k w := M.gtr_f hc h
theorem jE {k : Kt} {w : World} {d : IntKind} {a b : Int} (h : k (.bool true) w) (hc : b ≤ a := by omega) : M.bin .geq (.int d a) (.int d b) k w := M.geq_t hc h
theorem jF {k : Kt} {w : World} {d : IntKind} {a b : Int} (h : k (.bool false) w) (hc : ¬ b ≤ a := by omega) : M.bin .geq (.int d a) (.int d b) k w := M.geq_f hc h
theorem jG {k : Kt} {w : World} {d : IntKind} {a b : Int} (h : k (.bool true) w) (hc : a = b := by omega) : M.bin .eql (.int d a) (.int d b) k w := M.eql_t hc h
theorem jH {k : Kt} {w : World} {d : IntKind} {a b : Int} (h : k (.bool false) w) (hc : ¬ (a = b) := by omega) : M.bin .eql (.int d a) (.int d b) k w := M.eql_f hc h
theorem jI {k : Kt} {w : World} {d : IntKind} {a b : Int} (h : k (.bool true) w) (hc : ¬ (a = b) := by omega) : M.bin .neq (.int d a) (.int d b) k w := M.neq_t hc h
theorem jJ {k : Kt} {w : World} {d : IntKind} {a b : Int} (h : k (.bool false) w) (hc : a = b := by omega) : M.bin .neq (.int d a) (.int d b) k w := M.neq_f hc h
theorem jK {k : Kt} {w : World} {a b : Int} (h : k (.int .i64 (a + b)) w) (h0 : -9223372036854775808 ≤ a + b := by omega) (h1 : a + b < 9223372036854775808 := by omega) : M.bin .add (.int .i64 a) (.int .i64 b) k w := M.add_i h0 h1 h
theorem jL {k : Kt} {w : World} {a b : Int} (h : k (.int .i64 (a - b)) w) (h0 : -9223372036854775808 ≤ a - b := by omega) (h1 : a - b < 9223372036854775808 := by omega) : M.bin .sub (.int .i64 a) (.int .i64 b) k w := M.sub_i h0 h1 h
abbrev jM := @M.load_i
abbrev jN := @M.loadB_i
abbrev jP := @M.stB_i
abbrev jT := @M.gs_tf
end Go.Mw
namespace Go.Mw
set_option linter.unusedVariables false
set_option linter.unusedSimpArgs false
theorem setCells_blk {b : Nat} : ∀ (vs : List Value) (o : Nat) (w : World) (l : List Value), Blk w b l → o + vs.length ≤ l.length →
    Blk (w.setCells b o vs) b (splice l o vs) ∧ Keep w (w.setCells b o vs) (· = b) ∧ (w.setCells b o vs).heap.size = w.heap.size
  | [], o, w, l, h, _ => ⟨by rw [splice_nil]; exact h, Keep.refl _ _, rfl⟩
  | v :: vs, o, w, l, h, hl => by
    have hlt : o < l.length := by simp at hl; omega
    obtain ⟨h1, h2, h3⟩ := setCells_blk vs (o + 1) (w.setCell ⟨b, o, none⟩ v) (l.set o v) (setCell_blk h v) (by simp at hl ⊢; omega)
    refine ⟨?_, (setCell_keep w b o v).trans h2 (fun _ _ h => h), ?_⟩
    · rw [← splice_cons hlt]; exact h1
    · show ((w.setCell ⟨b, o, none⟩ v).setCells b (o + 1) vs).heap.size = _
      rw [h3]; simp
theorem M.next_i {P : Program} {s : Sem Value} {v : Value} {w w' : World} {k : Kt} (h : s.run P w = .ok v w') (hk : k v w') : M.next P (do pure (.value (← s))) k w := execW_value h hk
theorem M.callv_i {P : Program} {f : FuncId} {first cap args : Array Value} {w : World} {Q k : Kt} (hf : ∀ a w, (callFunc f a).run P w = .ok (.enter f a) w) (h : Ret P f ((first ++ args) ++ cap) w Q) (hk : ∀ v w', Q v w' → k v w') :
    M.callv P (.func (.func f) first cap) args k w := by
  unfold M.callv execW
  have : (do let d ← Deferred.ofValue (.func (.func f) first cap) args; invoke d.target d.args : Sem Next).run P w = .ok (.enter f ((first ++ args) ++ cap)) w := by
    simp [Deferred.ofValue, invoke, hf]
  rw [this]
  exact h.mono hk
theorem Keep.cell {w w' : World} {S : Nat → Prop} (k : Keep w w' S) {b o : Nat} {v : Value} (hs : ¬ S b) (h : w.cell? ⟨b, o, none⟩ = some v) : w'.cell? ⟨b, o, none⟩ = some v := by
  have hb : b < w.heap.size := by
    apply Classical.byContradiction
    intro hn
    have : w.heap[b]? = none := by simp; omega
    simp [World.cell?, this] at h
  have e : w'.heap[b]? = w.heap[b]? := k.blk b hb hs
  simpa [World.cell?, e] using h
def LV {α : Type} (f : α → Value) (w : World) (D : Nat → Prop) (v : Value) (xs : List α) : Prop := ∃ A c, v = .slice A xs.length c ∧ Row w D A (xs.map f) ∧ xs.length ≤ c
theorem LV.keep {α : Type} {f : α → Value} {w w' : World} {D S : Nat → Prop} {v : Value} {xs : List α} (h : LV f w D v xs) (k : Keep w w' S) (hs : ∀ b, b < w.heap.size → D b → ¬ S b) : LV f w' D v xs := by
  obtain ⟨A, c, h1, h2, h3⟩ := h
  exact ⟨A, c, h1, h2.keep k hs, h3⟩
theorem LV.mono {α : Type} {f : α → Value} {w : World} {D D' : Nat → Prop} {v : Value} {xs : List α} (h : LV f w D v xs) (hd : ∀ b, b < w.heap.size → D b → D' b) : LV f w D' v xs := by
  obtain ⟨A, c, h1, h2, h3⟩ := h
  exact ⟨A, c, h1, h2.mono hd, h3⟩
theorem LV.nil {α : Type} (f : α → Value) (w : World) (D : Nat → Prop) : LV f w D (.slice none 0 0) ([] : List α) := ⟨none, 0, rfl, .inl rfl, Nat.le_refl _⟩
theorem GI.lv {w : World} {L : Nat → Prop} {v : Value} {xs : List Int} (h : GI w L v xs) : LV vi w L v xs := by
  obtain ⟨A, c, rfl, h2, h3⟩ := GC.row2 h (by omega)
  exact ⟨A, c, by simp, h2, by simpa using h3⟩
theorem Row.tail {w : World} {D : Nat → Prop} {A : Option Addr} {l : List Value} {n c : Nat} (h : Row w D A l) (hc : l.length ≤ c) : Row w D (if c = n then A else A.map (·.add (n * 1))) (l.drop n) := by
  split
  · rename_i h1
    exact .inl (List.drop_eq_nil_of_le (by omega))
  · rw [Nat.mul_one]; exact h.drop n
theorem M.appendI_i {k : Kt} {w : World} {el : Nat} {zero : Array Value} {L D : Nat → Prop} {v : Value} {xs ys : List Int} {B : Option Addr} {n c : Nat} (hn : n = ys.length)
    (h : GI w L v xs) (hr : Row w D B (ys.map vi)) (hz : zero.size = 1) (hb : xs.length + ys.length ≤ 1000000000000)
    (hk : ∀ v' w', GI w' (fun b => L b ∨ w.heap.size ≤ b) v' (xs ++ ys) → Keep w w' L → k v' w') : M.append el 1 8 zero v (.slice B n c) k w := by
  subst hn
  exact M.append_i h hr (by simp) (vi_one _) hz (by omega) (by omega) (fun v' w' h1 h2 => hk v' w' (by simpa [GI] using h1) h2)
theorem M.idxLV_i {α : Type} {f : α → Value} {k : Kt} {w : World} {D : Nat → Prop} {A : Option Addr} {xs : List α} {n c : Nat} {d : IntKind} {i : Int} (hr : Row w D A (xs.map f)) (hn : xs.length = n) (h0 : 0 ≤ i) (h1 : i < n) {x : α} (hx : xs[i.toNat]? = some x)
    (h : ∀ b o, A = some ⟨b, o, none⟩ → w.cell? ⟨b, o + i.toNat, none⟩ = some (f x) → k (.pointer (some ⟨b, o + i.toNat, none⟩)) w) : M.indexSl 1 (.slice A n c) (.int d i) k w := by
  refine M.idxRow_i hr (by simpa using hn) h0 h1 (fun b o hA hc => h b o hA ?_)
  rw [hc, List.getElem?_map, hx]; rfl
end Go.Mw
namespace Go.Proofs.Ytnbcglnefoinlaa
open Go.Mw
set_option linter.unusedVariables false
set_option linter.unusedSimpArgs false
set_option maxRecDepth 100000
attribute [local irreducible] M.val M.unit M.next M.pick M.new M.nilCheck M.load1 M.loadA M.store M.fieldAddr M.indexSl M.indexArr M.slice M.makeSlice M.buildSlice M.len M.lenS M.cap M.append M.extract M.conv M.not M.neg M.bin M.shift M.eqB M.eqNil M.scat M.call M.callv M.gd M.share M.cond M.loop M.draw pureW readW Ret
theorem mixed : Try.prog.follows .mixedOrders = true := by kernel_rfl
def sh97 (x0 : Value) (R : Kt) (w : World) : Prop :=
  M.new 130 #[.int .i64 0, .bool false] (fun t2 w =>
  M.bin .lss x0 (Value.int IntKind.i64 0) (fun t4 w =>
  M.cond t4
  (pureW Try.prog (Instr.build 130 #[(0, (Value.int IntKind.i64 (-1)))]) (fun t5 w =>
  M.store 2 t2 t5 (fun _ w =>
  M.loadA 2 t2 (fun r0 w => R r0 w) w) w) w)
  (M.shift .shr x0 (Value.int IntKind.u64 1) (fun t7 w =>
  M.bin .and x0 (Value.int IntKind.i64 1) (fun t9 w =>
  M.bin .eql t9 (Value.int IntKind.i64 1) (fun t10 w =>
  pureW Try.prog (Instr.build 130 #[(0, t7), (1, t10)]) (fun t11 w =>
  M.store 2 t2 t11 (fun _ w =>
  M.loadA 2 t2 (fun r0 w => R r0 w) w) w) w) w) w) w)) w) w
theorem ok97 (x0 : Value) (R : Kt) (w : World) (h : sh97 x0 R w) : Ret Try.prog 97 #[x0] w R :=
  ret_mk <| calls_of_comp mixed (c := Try.f97.body.getD .skip) (args := [x0]) (rs := [(ResultVar.cell 2 130)]) (Ann.seq Ann.text (Ann.seq (Ann.seq Ann.text (Ann.cond (Ann.seq Ann.text Ann.leaf) Ann.leaf)) (Ann.seq Ann.text Ann.leaf)))
    Try.func97 (by kernel_rfl) (by kernel_rfl)
    (Eq.mp (by kernel_rfl) h)
def sh96 (x0 : Value) (R : Kt) (w : World) : Prop :=
  M.call Try.prog 97 #[x0] (fun t4 w =>
  pureW Try.prog (Instr.field 130 t4 0) (fun t5 w =>
  R t5 w) w) w
theorem ok96 (x0 : Value) (R : Kt) (w : World) (h : sh96 x0 R w) : Ret Try.prog 96 #[x0] w R :=
  ret_mk <| calls_of_comp mixed (c := Try.f96.body.getD .skip) (args := [x0]) (rs := [(ResultVar.tmp 2)]) (Ann.seq Ann.text (Ann.seq Ann.text Ann.leaf))
    Try.func96 (by kernel_rfl) (by kernel_rfl)
    (Eq.mp (by kernel_rfl) h)
def sh85 (x0 : Value) (R : Kt) (w : World) : Prop :=
  M.call Try.prog 97 #[x0] (fun t4 w =>
  pureW Try.prog (Instr.field 130 t4 1) (fun t5 w =>
  R t5 w) w) w
theorem ok85 (x0 : Value) (R : Kt) (w : World) (h : sh85 x0 R w) : Ret Try.prog 85 #[x0] w R :=
  ret_mk <| calls_of_comp mixed (c := Try.f85.body.getD .skip) (args := [x0]) (rs := [(ResultVar.tmp 2)]) (Ann.seq Ann.text (Ann.seq Ann.text Ann.leaf))
    Try.func85 (by kernel_rfl) (by kernel_rfl)
    (Eq.mp (by kernel_rfl) h)
def sh26 (x0 : Value) (R : Kt) (w : World) : Prop :=
  M.bin .lss x0 (Value.int IntKind.i64 0) (fun t4 w =>
  M.cond t4
  (R x0 w)
  (M.bin .xor x0 (Value.int IntKind.i64 1) (fun t7 w =>
  R t7 w) w)) w
theorem ok26 (x0 : Value) (R : Kt) (w : World) (h : sh26 x0 R w) : Ret Try.prog 26 #[x0] w R :=
  ret_mk <| calls_of_comp mixed (c := Try.f26.body.getD .skip) (args := [x0]) (rs := [(ResultVar.tmp 2)]) (Ann.seq Ann.text (Ann.seq (Ann.seq Ann.text (Ann.cond (Ann.seq Ann.text Ann.leaf) Ann.leaf)) (Ann.seq Ann.text Ann.leaf)))
    Try.func26 (by kernel_rfl) (by kernel_rfl)
    (Eq.mp (by kernel_rfl) h)
def sh75 (x0 : Value) (R : Kt) (w : World) : Prop :=
  M.bin .geq x0 (Value.int IntKind.i64 0) (fun t4 w =>
  M.gd t4 true (fun k w => k x0 w) (fun t6 w =>
  M.gd t4 true (fun k w => M.bin .rem t6 (Value.int IntKind.i64 2) k w) (fun t7 w =>
  M.gd t4 true (fun k w => M.bin .eql t7 (Value.int IntKind.i64 1) k w) (fun t8 w =>
  M.pick t4 t8 (Value.bool false) (fun t9 w =>
  R t9 w) w) w) w) w) w
theorem ok75 (x0 : Value) (R : Kt) (w : World) (h : sh75 x0 R w) : Ret Try.prog 75 #[x0] w R :=
  ret_mk <| calls_of_comp mixed (c := Try.f75.body.getD .skip) (args := [x0]) (rs := [(ResultVar.tmp 2)]) (Ann.seq Ann.text (Ann.seq Ann.text Ann.leaf))
    Try.func75 (by kernel_rfl) (by kernel_rfl)
    (Eq.mp (by kernel_rfl) h)
abbrev I64 (l : Int) : Prop := -9223372036854775808 ≤ l ∧ l < 9223372036854775808
theorem and_one_nat (l : Int) : (BitVec.ofInt 64 l &&& BitVec.ofInt 64 1).toNat = (l % 2).toNat := by
  simp only [BitVec.toNat_and, BitVec.toNat_ofInt]
  have h1 : ((1 : Int) % ((2 ^ 64 : Nat) : Int)).toNat = 1 := by decide
  rw [h1, Nat.and_one_is_mod]
  omega
theorem and_one (l : Int) : ibin .and .i64 l 1 = some (vi (l % 2)) := by
  simp only [ibin]
  have e : (BitVec.ofInt IntKind.i64.bits l &&& BitVec.ofInt IntKind.i64.bits 1).toNat = (l % 2).toNat := and_one_nat l
  rw [e]
  have h2 : ((l % 2).toNat : Int) = l % 2 := by omega
  rw [h2, wrap_i64 (by omega) (by omega)]
theorem shr_one (l : Int) : ishift .shr .i64 l 1 = some (vi (l / 2)) := by
  simp only [ishift]
  rw [if_neg (by omega)]
  have : min (1 : Int).toNat IntKind.i64.bits = 1 := by decide
  rw [this]
  simp [Int.fdiv_eq_ediv]
def varOf (l : Int) : Int := if l < 0 then -1 else l / 2
theorem of_ret (l : Int) (w : World) : Ret Try.prog 97 #[vi l] w (fun v w' => v = .agg #[vi (varOf l), .bool (decide (0 ≤ l ∧ l % 2 = 1))] ∧ Keep w w' No) := by
  refine ok97 _ _ _ ?_
  unfold sh97
  refine M.new_i (fun w1 hb hk hs => ?_)
  by_cases h : l < 0
  · (repeat (first|refine jo ?_|refine jy ?_))
    refine M.pure_i (.agg #[vi (-1), .bool false]) (fun _ => by kernel_rfl) ?_
    refine M.storeAll_i hb rfl rfl (by simp; exact ⟨rfl, rfl⟩) (fun w2 hb2 hk2 hs2 => ?_)
    refine M.loadAll_i hb2 rfl ⟨?_, hk.trans hk2 (by intro i hi e; omega)⟩
    have : ¬ (0 ≤ l ∧ l % 2 = 1) := by omega
    simp [varOf, h, this]
  · (repeat (first|refine jp ?_|refine jz ?_))
    refine M.shift_i (shr_one l) ?_
    refine M.bin_i (and_one l) ?_
    refine M.eql_i ?_
    refine M.pure_i (.agg #[vi (l / 2), .bool (decide (l % 2 = 1))]) (fun _ => by kernel_rfl) ?_
    refine M.storeAll_i hb rfl rfl (by simp; exact ⟨rfl, rfl⟩) (fun w2 hb2 hk2 hs2 => ?_)
    refine M.loadAll_i hb2 rfl ⟨?_, hk.trans hk2 (by intro i hi e; omega)⟩
    have : 0 ≤ l := by omega
    simp [varOf, h, this]
theorem var_ret (l : Int) (w : World) : Ret Try.prog 96 #[vi l] w (fun v w' => v = vi (varOf l) ∧ Keep w w' No) := by
  refine ok96 _ _ _ ?_
  unfold sh96
  refine M.call_i (of_ret l w) ?_
  rintro v w1 ⟨rfl, hk⟩
  refine M.pure_i (vi (varOf l)) (fun _ => by kernel_rfl) ?_
  exact ⟨rfl, hk⟩
def flip1 (l : Int) : Int := if l % 2 = 0 then l + 1 else l - 1
theorem xor_one_nat (l : Int) (h0 : 0 ≤ l) (h1 : l < 9223372036854775808) : (BitVec.ofInt 64 l ^^^ BitVec.ofInt 64 1).toNat = (flip1 l).toNat := by
  obtain ⟨n, rfl⟩ : ∃ n : Nat, l = n := ⟨l.toNat, by omega⟩
  simp only [BitVec.toNat_xor, BitVec.toNat_ofInt]
  have h2 : ((1 : Int) % ((2 ^ 64 : Nat) : Int)).toNat = 1 := by decide
  have h3 : ((n : Int) % ((2 ^ 64 : Nat) : Int)).toNat = n := by omega
  rw [h2, h3]
  unfold flip1
  have e1 : (n ^^^ 1) / 2 = n / 2 := by rw [Nat.xor_div_two]; simp
  have e2 := Nat.xor_mod_two_eq_one (a := n) (b := 1)
  have e : n ^^^ 1 = if n % 2 = 0 then n + 1 else n - 1 := by
    split <;> omega
  rw [e]
  split <;> split <;> omega
theorem xor_one {l : Int} (h0 : 0 ≤ l) (h1 : l < 9223372036854775808) : ibin .xor .i64 l 1 = some (vi (flip1 l)) := by
  simp only [ibin]
  have e : (BitVec.ofInt IntKind.i64.bits l ^^^ BitVec.ofInt IntKind.i64.bits 1).toNat = (flip1 l).toNat := xor_one_nat l h0 h1
  rw [e]
  have h2 : ((flip1 l).toNat : Int) = flip1 l := by unfold flip1; split <;> omega
  rw [h2, wrap_i64 (by unfold flip1; split <;> omega) (by unfold flip1; split <;> omega)]
theorem xor_one' {l : Int} (hl : I64 l) (h0 : 0 ≤ l) : ibin .xor .i64 l 1 = some (vi (flip1 l)) := xor_one h0 hl.2
abbrev vb (b : Bool) : Value := .bool b
def negOf (l : Int) : Bool := decide (0 ≤ l ∧ l % 2 = 1)
def notOf (l : Int) : Int := if l < 0 then l else flip1 l
theorem neg_ret (l : Int) (w : World) : Ret Try.prog 85 #[vi l] w (fun v w' => v = .bool (negOf l) ∧ Keep w w' No) := by
  refine ok85 _ _ _ ?_
  unfold sh85
  refine M.call_i (of_ret l w) ?_
  rintro v w1 ⟨rfl, hk⟩
  refine M.pure_i (.bool (negOf l)) (fun _ => by kernel_rfl) ?_
  exact ⟨rfl, hk⟩
theorem not_ret {l : Int} (hl : I64 l) (w : World) : Ret Try.prog 26 #[vi l] w (fun v w' => v = vi (notOf l) ∧ Keep w w' No) := by
  refine ok26 _ _ _ ?_
  unfold sh26
  by_cases h : l < 0
  · (repeat (first|refine jo ?_|refine jy ?_))
    exact ⟨by simp [notOf, h], Keep.refl _ _⟩
  · (repeat (first|refine jp ?_|refine jz ?_))
    refine M.bin_i (xor_one' hl (by omega)) ?_
    exact ⟨by simp [notOf, h], Keep.refl _ _⟩
theorem rem_two {l : Int} (h0 : 0 ≤ l) : ibin .rem .i64 l 2 = some (vi (l % 2)) := by
  simp only [ibin]
  rw [if_neg (by omega), Int.tmod_eq_emod_of_nonneg h0]
theorem rneg_ret (l : Int) (w : World) : Ret Try.prog 75 #[vi l] w (fun v w' => v = .bool (negOf l) ∧ Keep w w' No) := by
  refine ok75 _ _ _ ?_
  unfold sh75
  by_cases h : 0 ≤ l
  · (repeat (first|refine jf ?_|refine jE ?_))
    refine M.bin_i (rem_two h) ?_
    (repeat (refine jf ?_))
    refine M.eql_i ?_
    (repeat (refine jk ?_))
    exact ⟨by simp [negOf, h], Keep.refl _ _⟩
  · (repeat (first|refine jh ?_|refine jl ?_|refine jF ?_))
    exact ⟨by simp [negOf, h], Keep.refl _ _⟩
end Go.Proofs.Ytnbcglnefoinlaa
namespace Go.Proofs.Ytnbcglnefoinlaa
open Go.Mw
set_option linter.unusedVariables false
set_option linter.unusedSimpArgs false
set_option maxRecDepth 100000
attribute [local irreducible] M.val M.unit M.next M.pick M.new M.nilCheck M.load1 M.loadA M.store M.fieldAddr M.indexSl M.indexArr M.slice M.makeSlice M.buildSlice M.len M.lenS M.cap M.append M.extract M.conv M.not M.neg M.bin M.shift M.eqB M.eqNil M.scat M.call M.callv M.gd M.share M.cond M.loop M.draw pureW readW Ret
def sh22 (x0 x1 : Value) (R : Kt) (w : World) : Prop :=
  M.len x0 (fun t7 w =>
  M.len x1 (fun t9 w =>
  M.bin .neq t7 t9 (fun t10 w =>
  M.cond t10
  (R (Value.bool false) w)
  (M.loop [(Value.int IntKind.i64 0)] (fun s1 K1 w => ∀ _ : List Value,
  M.len x0 (fun t13 w =>
  M.bin .lss (s1.getD 0 undef) t13 (fun t14 w =>
  M.cond t14
  (M.draw (fun w =>
  M.indexSl 1 x0 (s1.getD 0 undef) (fun t19 w =>
  M.load1 t19 (fun t20 w =>
  M.indexSl 1 x1 (s1.getD 0 undef) (fun t23 w =>
  M.load1 t23 (fun t24 w =>
  M.bin .neq t20 t24 (fun t25 w =>
  M.cond t25
  (R (Value.bool false) w)
  (M.bin .add (s1.getD 0 undef) (Value.int IntKind.i64 1) (fun t16 w =>
  K1 [t16] w) w)) w) w) w) w) w) w)
  (R (Value.bool true) w)) w) w) w)) w) w) w
theorem ok22 (x0 x1 : Value) (R : Kt) (w : World) (h : sh22 x0 x1 R w) : Ret Try.prog 22 #[x0, x1] w R :=
  ret_mk <| calls_of_comp mixed (c := Try.f22.body.getD .skip) (args := [x0, x1]) (rs := [(ResultVar.tmp 4)]) (Ann.seq Ann.text (Ann.seq (Ann.seq Ann.text (Ann.cond (Ann.seq Ann.text Ann.leaf) Ann.leaf)) (Ann.seq (Ann.seq Ann.text (Ann.block (Ann.loop [5] [4, 11, 12, 13, 14, 15, 16, 17, 18, 19, 20, 21, 22, 23, 24, 25] (Ann.seq (Ann.seq Ann.text (Ann.cond Ann.leaf Ann.leaf)) (Ann.seq (Ann.block (Ann.seq (Ann.draw (Sch.take 0 (Sch.take 1 (Sch.take 2 (Sch.take 3 (Sch.take 4 (Sch.take 5 (Sch.take 6 (Sch.take 7 (Sch.take 8 Sch.done)))))))))) (Ann.cond (Ann.seq Ann.text Ann.leaf) Ann.leaf))) Ann.text))))) (Ann.seq Ann.text Ann.leaf))))
    Try.func22 (by kernel_rfl) (by kernel_rfl)
    (Eq.mp (by kernel_rfl) h)
def insU (x : Int) : List Int → List Int
  | [] => [x]
  | y :: l => if x < y then x :: y :: l else if x = y then y :: l else y :: insU x l
def srt (xs : List Int) : List Int := xs.foldr insU []
theorem mem_insU (x y : Int) : ∀ l : List Int, y ∈ insU x l ↔ y = x ∨ y ∈ l
  | [] => by simp [insU]
  | z :: l => by
    unfold insU
    split
    · simp
    · split
      · rename_i h; subst h; simp
      · simp [mem_insU x y l]; constructor <;> (intro h; rcases h with h | h | h <;> simp [h])
theorem insU_lt (x : Int) : ∀ l : List Int, l.Pairwise (· < ·) → (insU x l).Pairwise (· < ·)
  | [], _ => by simp [insU]
  | z :: l, h => by
    obtain ⟨h1, h2⟩ := List.pairwise_cons.1 h
    unfold insU
    split
    · rename_i hx
      refine List.pairwise_cons.2 ⟨fun y hy => ?_, h⟩
      rcases List.mem_cons.1 hy with rfl | hy
      · exact hx
      · have := h1 y hy; omega
    · split
      · exact h
      · refine List.pairwise_cons.2 ⟨fun y hy => ?_, insU_lt x l h2⟩
        rcases (mem_insU x y l).1 hy with rfl | hy
        · omega
        · exact h1 y hy
theorem srt_lt (xs : List Int) : (srt xs).Pairwise (· < ·) := by
  induction xs with
  | nil => simp [srt]
  | cons x xs ih => exact insU_lt x _ ih
theorem mem_srt (xs : List Int) (y : Int) : y ∈ srt xs ↔ y ∈ xs := by
  induction xs with
  | nil => simp [srt]
  | cons x xs ih =>
    show y ∈ insU x (srt xs) ↔ _
    rw [mem_insU, ih]
    simp
theorem mem_take_succ {α : Type} {l : List α} {i : Nat} {e y : α} (he : l[i]? = some e) : y ∈ l.take (i + 1) ↔ y ∈ l.take i ∨ y = e := by
  have e1 : l.take (i + 1) = l.take i ++ [e] := by rw [List.take_add_one, he]; rfl
  rw [e1]; simp
abbrev Few (n : Nat) : Prop := n ≤ 100000000000
theorem same_ret {w : World} {D D' : Nat → Prop} {u v : Value} {xs ys : List Int} (h1 : LV vi w D u xs) (h2 : LV vi w D' v ys) (hf : Few xs.length) :
    Ret Try.prog 22 #[u, v] w (fun r w' => r = .bool (decide (xs = ys)) ∧ Keep w w' No) := by
  obtain ⟨A, c, rfl, h1, hc1⟩ := h1
  obtain ⟨B, c', rfl, h2, hc2⟩ := h2
  refine ok22 _ _ _ _ ?_
  unfold sh22
  refine M.len_i ?_
  refine M.len_i ?_
  refine M.neq_i ?_
  refine M.cond_i (fun hne => ?_) (fun heq => ?_)
  · refine ⟨?_, Keep.refl _ _⟩
    have : xs ≠ ys := fun h => hne (by rw [h])
    simp [this]
  · have hl : xs.length = ys.length := by omega
    refine M.loop_i (σ := Nat) (fun i vals w' => vals = [vi i] ∧ i ≤ xs.length ∧ xs.take i = ys.take i ∧ Keep w w' No) (fun i => xs.length - i) 0 ⟨rfl, by omega, by simp, Keep.refl _ _⟩ ?_
    rintro i vals w1 K ⟨rfl, hi, ht, hk⟩ hK _
    simp only [List.getD_cons_zero, List.getD_cons_succ]
    by_cases hlt' : i < xs.length
    · have h1' := h1.keep hk (fun _ _ _ h => h)
      have h2' := h2.keep hk (fun _ _ _ h => h)
      (repeat (first|refine ja ?_|refine jd ?_|refine jo ?_|refine jy ?_))
      refine M.idxRow_i h1' (by simp) (by omega) (by omega) (fun b o hA hc => ?_)
      simp [hlt'] at hc
      (repeat (refine jM (by assumption) ?_))
      refine M.idxRow_i h2' (by simp) (by omega) (by omega) (fun b' o' hB hc' => ?_)
      simp [hl ▸ hlt'] at hc'
      (repeat (refine jM (by assumption) ?_))
      refine M.neq_i ?_
      refine M.cond_i (fun hne => ?_) (fun heq => ?_)
      · refine ⟨?_, hk.to_drew⟩
        have : xs ≠ ys := fun h => hne (by subst h; rfl)
        simp [this]
      · (repeat (refine jK ?_))
        refine hK (i + 1) _ _ (by omega) ⟨by simp, by omega, ?_, hk.to_drew⟩
        rw [List.take_succ_eq_append_getElem hlt', List.take_succ_eq_append_getElem (hl ▸ hlt'), ht]
        simp at heq
        rw [heq]
    · (repeat (first|refine ja ?_|refine jp ?_|refine jz ?_))
      refine ⟨?_, hk⟩
      have : i = xs.length := by omega
      subst this
      have : xs = ys := by rw [List.take_length] at ht; rw [ht, hl, List.take_length]
      simp [this]
end Go.Proofs.Ytnbcglnefoinlaa
namespace Go.Mw
open Go.MapKept Go.ChangeMaps
set_option linter.unusedVariables false
set_option linter.unusedSimpArgs false
def MapO (w : World) (r : Nat) (kv : List (Int × Value)) : Prop :=
  ∃ es clock, w.heap[r]? = some (.map es clock) ∧ Stamped es clock ∧ es.toList.map (fun e => (e.key, e.val)) = kv.map (fun p => (vi p.1, p.2))
theorem MapO.keep {w w' : World} {r : Nat} {kv : List (Int × Value)} {S : Nat → Prop} (h : MapO w r kv) (k : Keep w w' S) (hs : ¬ S r) : MapO w' r kv := by
  obtain ⟨es, c, h1, h2⟩ := h
  exact ⟨es, c, by rw [k.blk r (lt_of_heap h1) hs]; exact h1, h2⟩
theorem MapO.lt {w : World} {r : Nat} {kv : List (Int × Value)} (h : MapO w r kv) : r < w.heap.size := by
  obtain ⟨es, c, h1, h2⟩ := h
  exact lt_of_heap h1
def lkp (kv : List (Int × Value)) (x : Int) : Option Value := (kv.find? (fun p => decide (p.1 = x))).map (·.2)
def upd (kv : List (Int × Value)) (x : Int) (v : Value) : List (Int × Value) := if kv.any (fun p => decide (p.1 = x)) then kv.map (fun p => if p.1 = x then (x, v) else p) else kv ++ [(x, v)]
theorem keys_of {es : List MapEntry} {kv : List (Int × Value)} (h : es.map (fun e => (e.key, e.val)) = kv.map (fun p => (vi p.1, p.2))) : es.map (·.key) = kv.map (fun p => vi p.1) := by
  have := congrArg (List.map Prod.fst) h
  simpa [List.map_map, Function.comp_def] using this
theorem ent_of {es : List MapEntry} {kv : List (Int × Value)} (h : es.map (fun e => (e.key, e.val)) = kv.map (fun p => (vi p.1, p.2))) {j : Nat} {e : MapEntry} (he : es[j]? = some e) : ∃ p, kv[j]? = some p ∧ e.key = vi p.1 ∧ e.val = p.2 := by
  have := congrArg (fun l => l[j]?) h
  simp only [List.getElem?_map, he, Option.map_some] at this
  cases hk : kv[j]? with
  | none => rw [hk] at this; simp at this
  | some p =>
    rw [hk] at this
    simp only [Option.map_some, Option.some.injEq, Prod.mk.injEq] at this
    exact ⟨p, rfl, this.1, this.2⟩
theorem find_spec {es : List MapEntry} {kv : List (Int × Value)} (h : es.map (fun e => (e.key, e.val)) = kv.map (fun p => (vi p.1, p.2))) (hn : (es.map (·.key)).Nodup) (x : Int) :
    (Instr.findNow (.int .i64) (vi x) es 0 = some none ∧ lkp kv x = none ∧ kv.any (fun p => decide (p.1 = x)) = false) ∨
    ∃ j e, Instr.findNow (.int .i64) (vi x) es 0 = some (some (j, e.val)) ∧ es[j]? = some e ∧ e.key = vi x ∧ lkp kv x = some e.val ∧ kv.any (fun p => decide (p.1 = x)) = true := by
  have hk : ∀ e ∈ es, IsKey (.int .i64) e.key := fun e he => by
    obtain ⟨j, hj⟩ := List.mem_iff_getElem?.1 he
    obtain ⟨p, _, h1, _⟩ := ent_of h hj
    rw [h1]; rfl
  rcases findNow_spec (d := .int .i64) (k := vi x) rfl es 0 hk with ⟨h1, h2⟩ | ⟨j, e, h1, h2, h3⟩
  · left
    have hno : ∀ p ∈ kv, p.1 ≠ x := fun p hp hx => by
      have : vi p.1 ∈ es.map (·.key) := by rw [keys_of h]; exact List.mem_map.2 ⟨p, hp, rfl⟩
      obtain ⟨e, he, hek⟩ := List.mem_map.1 this
      exact h2 e he (by rw [hek, hx])
    refine ⟨h1, ?_, ?_⟩
    · unfold lkp
      rw [List.find?_eq_none.2 (fun p hp => by simpa using hno p hp)]; rfl
    · rw [List.any_eq_false]
      intro p hp; simpa using hno p hp
  · right
    obtain ⟨p, hp, e1, e2⟩ := ent_of h h2
    rw [h3] at e1
    simp only [Value.int.injEq, true_and] at e1
    have hnk : (kv.map (fun p => vi p.1)).Nodup := by rw [← keys_of h]; exact hn
    refine ⟨j, e, by simpa using h1, h2, h3, ?_, List.any_eq_true.2 ⟨p, List.mem_of_getElem? hp, by simp [e1]⟩⟩
    unfold lkp
    have : kv.find? (fun p => decide (p.1 = x)) = some p := by
      rw [List.find?_eq_some_iff_getElem]
      obtain ⟨hlt, hpe⟩ := List.getElem?_eq_some_iff.1 hp
      refine ⟨by simp [e1], j, hlt, hpe, fun i hi => ?_⟩
      have := List.pairwise_iff_getElem.1 hnk i j (by simp; omega) (by simpa using hlt) hi
      simp only [List.getElem_map, hpe, ne_eq, Value.int.injEq, true_and] at this
      simp only [Bool.not_eq_true', decide_eq_false_iff_not]
      intro hh; exact this (by rw [hh, ← e1])
    rw [this, Option.map_some, e2]
theorem map_modify {α β : Type} {g : α → β} {f : α → α} (h : ∀ a, g (f a) = g a) {l : List α} {j : Nat} : (l.modify j f).map g = l.map g := by
  apply List.ext_getElem?
  intro i
  simp only [List.getElem?_map, List.getElem?_modify]
  cases l[i]? with
  | none => simp
  | some a => by_cases hj : j = i <;> simp [hj, h]
theorem map_modify_at {α β : Type} {g : α → β} {f : α → α} {l : List α} {j : Nat} (h : ∀ a, l[j]? = some a → g (f a) = g a) : (l.modify j f).map g = l.map g := by
  apply List.ext_getElem?
  intro i
  simp only [List.getElem?_map, List.getElem?_modify]
  cases hi : l[i]? with
  | none => simp
  | some a =>
    by_cases hj : j = i
    · subst hj; simp [h a hi]
    · simp [hj]
theorem nodup_idx {α : Type} {l : List α} (h : l.Nodup) {i j : Nat} {a : α} (hi : l[i]? = some a) (hj : l[j]? = some a) : i = j := by
  obtain ⟨a1, a2⟩ := List.getElem?_eq_some_iff.1 hi
  obtain ⟨b1, b2⟩ := List.getElem?_eq_some_iff.1 hj
  have hh := List.pairwise_iff_getElem.1 h
  rcases Nat.lt_trichotomy i j with h1 | h1 | h1
  · exact absurd (a2.trans b2.symm) (hh i j a1 b1 h1)
  · exact h1
  · exact absurd (b2.trans a2.symm) (hh j i b1 a1 h1)
section
variable {P : Program} {k : Kt} {w : World}
theorem M.val_i {s : Sem Value} {v : Value} {w' : World} (h : s.run P w = .ok v w') (hk : k v w') : M.val P s k w := execW_value h hk
theorem M.unit_i {s : Sem Unit} {w' : World} (h : s.run P w = .ok () w') (hk : k undef w') : M.unit P s k w := execW_unit h hk
theorem M.makeMap_i {T : TypeId} (h : ∀ w', MapO w' w.heap.size [] → Keep w w' No → w'.heap.size = w.heap.size + 1 → k (.map (some w.heap.size)) w') : M.val P (Instr.makeMap T none) k w :=
  M.val_i (show (Instr.makeMap T none).run P w = .ok (.map (some w.heap.size)) (w.alloc (.map #[] 0)) from rfl) (h _ ⟨#[], 0, alloc_new w _, by simp [Stamped], rfl⟩ (Keep.alloc w _ _) (by simp))
theorem M.lookup_i {T kt et : TypeId} {r : Nat} {kv : List (Int × Value)} {x : Int} {z : Value} (ht : P.underlying T = some (.map kt et)) (hkt : P.underlying kt = some (.int .i64)) (hz : ∀ w, (zeroValue et).run P w = .ok z w) (hm : MapO w r kv)
    (h : k ((lkp kv x).getD z) w) : readW P (Instr.lookup T (.map (some r)) (vi x) false) k w := by
  obtain ⟨es, c, h1, h2, h3⟩ := hm
  have ck : ∀ e w, (Instr.checkKey e 10000 kt (vi x)).run P w = .ok () w := fun e w => run_checkKey hkt (show IsKey (.int .i64) (vi x) from rfl) e 9999
  refine ⟨_, ?_, h⟩
  rcases find_spec h3 h2.2.2 x with ⟨g1, g2, _⟩ | ⟨j, e, g1, g2, g3, g4, _⟩
  · simp [Instr.lookup, run_underlying ht, MapKept.run_getObj_map h1, ck, run_findKey hkt g1, g2, hz]
  · simp [Instr.lookup, run_underlying ht, MapKept.run_getObj_map h1, ck, run_findKey hkt g1, g4]
theorem setBlock_keep (w : World) (b : Nat) (o : Obj) : Keep w (setBlock w b o) (· = b) :=
  ⟨rfl, rfl, rfl, by simp [setBlock], fun i hi hn => by simp [setBlock, Array.getElem?_setIfInBounds]; intro h; exact absurd h.symm hn⟩
theorem setBlock_at {w : World} {b : Nat} {o o' : Obj} (h : w.heap[b]? = some o) : (setBlock w b o').heap[b]? = some o' := (heap_set h).1
theorem M.mapUpdate_i {T kt et : TypeId} {r : Nat} {kv : List (Int × Value)} {x : Int} {v : Value} (ht : P.underlying T = some (.map kt et)) (hkt : P.underlying kt = some (.int .i64)) (hm : MapO w r kv)
    (h : ∀ w', MapO w' r (upd kv x v) → Keep w w' (· = r) → w'.heap.size = w.heap.size → k undef w') : M.unit P (Instr.mapUpdate T (.map (some r)) (vi x) v) k w := by
  obtain ⟨es, c, h1, h2, h3⟩ := hm
  have ck : ∀ e w, (Instr.checkKey e 10000 kt (vi x)).run P w = .ok () w := fun e w => run_checkKey hkt (show IsKey (.int .i64) (vi x) from rfl) e 9999
  have hsz : ∀ o, (setBlock w r o).heap.size = w.heap.size := fun o => by simp [setBlock]
  rcases find_spec h3 h2.2.2 x with ⟨g1, g2, g3⟩ | ⟨j, e, g1, g2, g3, g4, g5⟩
  · refine M.unit_i (w' := setBlock w r (.map (es.push { key := vi x, val := v, born := c }) (c + 1))) ?_ (h _ ⟨_, _, setBlock_at h1, ?_, ?_⟩ (setBlock_keep _ _ _) (hsz _))
    · simp [Instr.mapUpdate, run_underlying ht, MapKept.run_getObj_map h1, ck, run_findKey hkt g1, MapKept.run_setObj_map _ h1]
      rfl
    · obtain ⟨s1, s2, s3⟩ := h2
      refine ⟨fun y hy => ?_, ?_, ?_⟩
      · simp only [Array.toList_push, List.mem_append, List.mem_singleton] at hy
        rcases hy with hy | rfl
        · have := s1 y hy; omega
        · simp
      · simp only [Array.toList_push, List.map_append, List.map_cons, List.map_nil]
        refine List.nodup_append.2 ⟨s2, by simp, fun a ha b hb => ?_⟩
        simp at hb; subst hb
        obtain ⟨y, hy, rfl⟩ := List.mem_map.1 ha
        have := s1 y hy; omega
      · simp only [Array.toList_push, List.map_append, List.map_cons, List.map_nil]
        refine List.nodup_append.2 ⟨s3, by simp, fun a ha b hb => ?_⟩
        simp at hb; subst hb
        intro hax
        rw [hax, keys_of h3] at ha
        obtain ⟨p, hp, hpe⟩ := List.mem_map.1 ha
        rw [List.any_eq_false] at g3
        simp only [Value.int.injEq, true_and] at hpe
        exact g3 p hp (by simpa using hpe)
    · unfold upd
      rw [g3]
      simp [h3]
  · have hkey : ((es[j]?).map (·.key)).getD (vi x) = vi x := by
      rw [← Array.getElem?_toList, g2]; exact g3
    refine M.unit_i (w' := setBlock w r (.map (es.modify j fun e => { e with key := vi x, val := v }) c)) ?_ (h _ ⟨_, _, setBlock_at h1, ?_, ?_⟩ (setBlock_keep _ _ _) (hsz _))
    · simp only [Instr.mapUpdate, Sem.run_bind, run_underlying ht, Result.andThen_ok, MapKept.run_getObj_map h1, ck, run_findKey hkt g1, hkey, run_keyThatStays (d := .int .i64) (k := vi x) rfl, MapKept.run_setObj_map _ h1]
      rfl
    · obtain ⟨s1, s2, s3⟩ := h2
      have hb : (es.modify j fun e => { e with key := vi x, val := v }).toList.map (·.born) = es.toList.map (·.born) := by
        rw [Array.toList_modify]
        exact map_modify (g := fun e : MapEntry => e.born) (f := fun e => { e with key := vi x, val := v }) (fun e => rfl)
      have hk : (es.modify j fun e => { e with key := vi x, val := v }).toList.map (·.key) = es.toList.map (·.key) := by
        rw [Array.toList_modify]
        refine map_modify_at (fun e' he' => ?_)
        rw [g2] at he'; cases he'; exact g3.symm
      refine ⟨fun y hy => ?_, by rw [hb]; exact s2, by rw [hk]; exact s3⟩
      have : y.born ∈ es.toList.map (·.born) := by rw [← hb]; exact List.mem_map.2 ⟨y, hy, rfl⟩
      obtain ⟨z, hz, hze⟩ := List.mem_map.1 this
      rw [← hze]; exact s1 z hz
    · have hnk : (kv.map (fun p => vi p.1)).Nodup := by rw [← keys_of h3]; exact h2.2.2
      rw [Array.toList_modify]
      unfold upd
      rw [if_pos g5]
      apply List.ext_getElem?
      intro i
      simp only [List.getElem?_map, List.getElem?_modify]
      cases hi : es.toList[i]? with
      | none =>
        have : kv[i]? = none := by
          have := congrArg (fun l => l[i]?) h3
          simp only [List.getElem?_map, hi, Option.map_none] at this
          cases hk : kv[i]? with
          | none => rfl
          | some p => rw [hk] at this; simp at this
        simp [this]
      | some e' =>
        obtain ⟨p, hp, e1, e2⟩ := ent_of h3 hi
        by_cases hji : j = i
        · subst hji
          rw [g2] at hi; cases hi
          rw [g3] at e1
          simp only [Value.int.injEq, true_and] at e1
          simp [hp, e1]
        · obtain ⟨p', hp', e1', _⟩ := ent_of h3 g2
          rw [g3] at e1'
          simp only [Value.int.injEq, true_and] at e1'
          have hne : p.1 ≠ x := fun hx => by
            obtain ⟨a1, a2⟩ := List.getElem?_eq_some_iff.1 hp
            obtain ⟨b1, b2⟩ := List.getElem?_eq_some_iff.1 hp'
            have hh := List.pairwise_iff_getElem.1 hnk
            rcases Nat.lt_or_ge i j with h | h
            · have := hh i j (by simpa using a1) (by simpa using b1) h
              simp only [List.getElem_map, a2, b2, ne_eq, Value.int.injEq, true_and] at this
              exact this (by rw [hx, e1'])
            · have := hh j i (by simpa using b1) (by simpa using a1) (by omega)
              simp only [List.getElem_map, a2, b2, ne_eq, Value.int.injEq, true_and] at this
              exact this (by rw [hx, e1'])
          simp [hp, hji, hne, e1, e2]
def IterO (w : World) (it r : Nat) (kv : List (Int × Value)) (left : List Int) (last : Option Int) : Prop :=
  ∃ es clock seen c0, w.heap[r]? = some (.map es clock) ∧ Stamped es clock ∧ es.toList.map (fun e => (e.key, e.val)) = kv.map (fun p => (vi p.1, p.2)) ∧ w.heap[it]? = some (.mapIter (some r) clock seen c0) ∧ clock ≤ c0 ∧
    (∀ x, x ∈ left ↔ ∃ e ∈ (leftOf es seen).toList, e.key = vi x) ∧ ∀ x, last = some x → c0 = clock ∧ ∃ e ∈ es.toList, e.key = vi x ∧ ∃ s' : Array Nat, seen = s'.push e.born
theorem IterO.keep {w w' : World} {it r : Nat} {kv : List (Int × Value)} {left : List Int} {last : Option Int} {S : Nat → Prop} (h : IterO w it r kv left last) (k : Keep w w' S) (h1 : ¬ S it) (h2 : ¬ S r) : IterO w' it r kv left last := by
  obtain ⟨es, c, seen, c0, g1, g2, g3, g4, g5⟩ := h
  exact ⟨es, c, seen, c0, by rw [k.blk r (lt_of_heap g1) h2]; exact g1, g2, g3, by rw [k.blk it (lt_of_heap g4) h1]; exact g4, g5⟩
theorem IterO.map {w : World} {it r : Nat} {kv : List (Int × Value)} {left : List Int} {last : Option Int} (h : IterO w it r kv left last) : MapO w r kv := by
  obtain ⟨es, c, seen, c0, g1, g2, g3, g4, g5⟩ := h
  exact ⟨es, c, g1, g2, g3⟩
theorem M.range_i {P : Program} {k : Kt} {w : World} {T kt et : TypeId} {r : Nat} {kv : List (Int × Value)} (ht : P.underlying T = some (.map kt et)) (hm : MapO w r kv)
    (h : ∀ w', IterO w' w.heap.size r kv (kv.map (·.1)) none → Keep w w' No → w'.heap.size = w.heap.size + 1 → k (.pointer (some ⟨w.heap.size, 0, none⟩)) w') : M.val P (Instr.range T (.map (some r))) k w := by
  obtain ⟨es, c, h1, h2, h3⟩ := hm
  have k1 := Keep.alloc w (.mapIter (some r) c #[] c) No
  refine M.val_i (run_range_map w T kt et r es c ht h1) (h _ ⟨es, c, #[], c, by rw [k1.blk r (lt_of_heap h1) (fun h => h)]; exact h1, h2, h3, alloc_new w _, Nat.le_refl _, fun x => ?_, fun x hx => by cases hx⟩ k1 (by simp))
  have e : (leftOf es #[]).toList = es.toList := by simp [leftOf]
  rw [e]
  constructor
  · intro hx
    obtain ⟨p, hp, rfl⟩ := List.mem_map.1 hx
    have : vi p.1 ∈ es.toList.map (·.key) := by rw [keys_of h3]; exact List.mem_map.2 ⟨p, hp, rfl⟩
    obtain ⟨e, he, hk⟩ := List.mem_map.1 this
    exact ⟨e, he, hk⟩
  · rintro ⟨e, he, hk⟩
    obtain ⟨j, hj⟩ := List.mem_iff_getElem?.1 he
    obtain ⟨p, hp, e1, _⟩ := ent_of h3 hj
    rw [hk] at e1
    simp only [Value.int.injEq, true_and] at e1
    exact List.mem_map.2 ⟨p, List.mem_of_getElem? hp, e1.symm⟩
theorem M.mapNext_i {P : Program} {k : Kt} {w : World} {ty : TypeId} {it r : Nat} {kv : List (Int × Value)} {left : List Int} {last : Option Int} (hi : IterO w it r kv left last) (hne : it ≠ r)
    (h0 : left = [] → k (.tuple #[.bool false]) w)
    (h1 : ∀ x v w', x ∈ left → (x, v) ∈ kv → IterO w' it r kv (left.filter (decide <| · ≠ x)) (some x) → Keep w w' (· = it) → w'.heap.size = w.heap.size → k (.tuple #[.bool true, vi x, v]) w') :
    M.val P (Instr.next (.pointer (some ⟨it, 0, none⟩)) false ty) k w := by
  obtain ⟨es, c, seen, c0, g1, g2, g3, g4, g5, g6, g7⟩ := hi
  rcases run_next_at (P := P) w ty it r c c0 seen es c g4 g1 g2.1 g5 with ⟨hz, run⟩ | ⟨e, he, w1, hw1, run⟩
  · refine M.val_i run (h0 ?_)
    cases left with
    | nil => rfl
    | cons x l =>
      obtain ⟨e, he, _⟩ := (g6 x).1 List.mem_cons_self
      have : (leftOf es seen).toList.length = 0 := by simpa using hz
      rw [List.length_eq_zero_iff.1 this] at he
      cases he
  · have hmem : e ∈ es.toList ∧ ¬ seen.contains e.born = true := by
      unfold leftOf at he
      simp at he
      simp [he]
    obtain ⟨j, hj⟩ := List.mem_iff_getElem?.1 hmem.1
    obtain ⟨p, hp, e1, e2⟩ := ent_of g3 hj
    rw [e1, e2] at run
    have hk1 : Keep w w1 No := by rcases hw1 with rfl | rfl; exact Keep.refl _ _; exact Keep.drew _ _
    have h1heap : ∀ i : Nat, w1.heap[i]? = w.heap[i]? := fun i => by rcases hw1 with rfl | rfl <;> rfl
    have kk : Keep w (setBlock w1 it (.mapIter (some r) c (seen.push e.born) c)) (· = it) := (hk1.mono (T := (· = it)) (fun _ _ h => h.elim)).trans (setBlock_keep _ _ _) (fun _ _ h => h)
    have ks : (setBlock w1 it (.mapIter (some r) c (seen.push e.born) c)).heap.size = w.heap.size := by rcases hw1 with rfl | rfl <;> simp [setBlock] <;> rfl
    refine M.val_i run (h1 p.1 p.2 _ ((g6 _).2 ⟨e, he, e1⟩) (by have := List.mem_of_getElem? hp; exact this) ⟨es, c, seen.push e.born, c, ?_, g2, g3, setBlock_at (by rw [h1heap]; exact g4), Nat.le_refl _, ?_, ?_⟩ kk ks)
    · rw [kk.blk r (lt_of_heap g1) (fun h => hne h.symm)]; exact g1
    · intro y
      rw [List.mem_filter, g6]
      constructor
      · rintro ⟨⟨f, hf, hfk⟩, hy⟩
        refine ⟨f, ?_, hfk⟩
        unfold leftOf at hf ⊢
        simp only [Array.toList_filter, List.mem_filter] at hf ⊢
        refine ⟨hf.1, ?_⟩
        have hfe : f.born ≠ e.born := fun hb => by
          obtain ⟨i, hi⟩ := List.mem_iff_getElem?.1 hf.1
          have hnb := g2.2.1
          have : i = j := nodup_idx hnb (a := e.born) (by simp [hi, hb]) (by simp [hj])
          subst this
          rw [hj] at hi; cases hi
          rw [hfk] at e1
          simp only [Value.int.injEq, true_and] at e1
          simp [e1] at hy
        have := hf.2
        simp at this ⊢
        exact ⟨this, hfe⟩
      · rintro ⟨f, hf, hfk⟩
        unfold leftOf at hf
        simp only [Array.toList_filter, List.mem_filter] at hf
        have hf2 := hf.2
        simp at hf2
        refine ⟨⟨f, ?_, hfk⟩, ?_⟩
        · unfold leftOf
          simp only [Array.toList_filter, List.mem_filter]
          exact ⟨hf.1, by simpa using hf2.1⟩
        · have : y ≠ p.1 := fun hy => by
            obtain ⟨i, hi⟩ := List.mem_iff_getElem?.1 hf.1
            have : i = j := nodup_idx g2.2.2 (a := vi y) (by simp [hi, hfk]) (by simp [hj, e1, hy])
            subst this
            rw [hj] at hi; cases hi
            exact hf2.2 rfl
          simpa using this
    · rintro x hx
      cases hx
      exact ⟨rfl, e, hmem.1, e1, seen, rfl⟩
theorem M.entry_i {P : Program} {k : Kt} {w : World} {it r : Nat} {kv : List (Int × Value)} {left : List Int} {x : Int} (hi : IterO w it r kv left (some x)) (h : ∀ v, (x, v) ∈ kv → k (.tuple #[vi x, v]) w) :
    M.val P (Instr.entry (.pointer (some ⟨it, 0, none⟩))) k w := by
  obtain ⟨es, c, seen, c0, g1, g2, g3, g4, g5, g6, g7⟩ := hi
  obtain ⟨rfl, e, he, hk, s', rfl⟩ := g7 x rfl
  obtain ⟨j, hj⟩ := List.mem_iff_getElem?.1 he
  obtain ⟨p, hp, e1, e2⟩ := ent_of g3 hj
  have run := run_entry_at (P := P) w it r c0 s' es c0 e g4 g1 he g2.2.1
  rw [hk] at e1
  simp only [Value.int.injEq, true_and] at e1
  rw [hk, e2] at run
  refine M.val_i run (h _ ?_)
  have := List.mem_of_getElem? hp
  rw [e1]; exact this
end
end Go.Mw
namespace Go.Mw
open Go.MapKept Go.ChangeMaps Go.Maps
set_option linter.unusedVariables false
set_option linter.unusedSectionVars false
set_option linter.unusedSimpArgs false
structure KeyE {α : Type} (P : Program) (k : TypeId) (enc : α → Value) (Okk : α → Prop) : Prop where
  K : Keyed P k
  inj : ∀ a b, enc a = enc b → a = b
  ok : ∀ a, Okk a → ∃ l, keyOf P k (enc a) = some l
section
variable {α : Type} [DecidableEq α] {P : Program} {kt : TypeId} {enc : α → Value} {Okk : α → Prop}
def MapA (enc : α → Value) (Okk : α → Prop) (w : World) (r : Nat) (kv : List (α × Value)) : Prop :=
  ∃ es clock, w.heap[r]? = some (.map es clock) ∧ Stamped es clock ∧ es.toList.map (fun e => (e.key, e.val)) = kv.map (fun p => (enc p.1, p.2)) ∧ ∀ p ∈ kv, Okk p.1
theorem MapA.keep {w w' : World} {r : Nat} {kv : List (α × Value)} {S : Nat → Prop} (h : MapA enc Okk w r kv) (k : Keep w w' S) (hs : ¬ S r) : MapA enc Okk w' r kv := by
  obtain ⟨es, c, h1, h2⟩ := h
  exact ⟨es, c, by rw [k.blk r (lt_of_heap h1) hs]; exact h1, h2⟩
theorem MapA.lt {w : World} {r : Nat} {kv : List (α × Value)} (h : MapA enc Okk w r kv) : r < w.heap.size := by
  obtain ⟨es, c, h1, h2⟩ := h
  exact lt_of_heap h1
def lkpA (kv : List (α × Value)) (x : α) : Option Value := (kv.find? (fun p => decide (p.1 = x))).map (·.2)
def updA (kv : List (α × Value)) (x : α) (v : Value) : List (α × Value) := if kv.any (fun p => decide (p.1 = x)) then kv.map (fun p => if p.1 = x then (x, v) else p) else kv ++ [(x, v)]
theorem keysA_of {es : List MapEntry} {kv : List (α × Value)} (h : es.map (fun e => (e.key, e.val)) = kv.map (fun p => (enc p.1, p.2))) : es.map (·.key) = kv.map (fun p => enc p.1) := by
  have := congrArg (List.map Prod.fst) h
  simpa [List.map_map, Function.comp_def] using this
theorem entA_of {es : List MapEntry} {kv : List (α × Value)} (h : es.map (fun e => (e.key, e.val)) = kv.map (fun p => (enc p.1, p.2))) {j : Nat} {e : MapEntry} (he : es[j]? = some e) : ∃ p, kv[j]? = some p ∧ e.key = enc p.1 ∧ e.val = p.2 := by
  have := congrArg (fun l => l[j]?) h
  simp only [List.getElem?_map, he, Option.map_some] at this
  cases hk : kv[j]? with
  | none => rw [hk] at this; simp at this
  | some p =>
    rw [hk] at this
    simp only [Option.map_some, Option.some.injEq, Prod.mk.injEq] at this
    exact ⟨p, rfl, this.1, this.2⟩
theorem findA_spec (E : KeyE P kt enc Okk) {es : List MapEntry} {kv : List (α × Value)} (h : es.map (fun e => (e.key, e.val)) = kv.map (fun p => (enc p.1, p.2))) (ho : ∀ p ∈ kv, Okk p.1) (hn : (es.map (·.key)).Nodup) (x : α) (hx : Okk x) (w : World) :
    ((Instr.findKey kt (enc x) es).run P w = .ok none w ∧ lkpA kv x = none ∧ kv.any (fun p => decide (p.1 = x)) = false) ∨
    ∃ j e, (Instr.findKey kt (enc x) es).run P w = .ok (some (j, e.val)) w ∧ es[j]? = some e ∧ e.key = enc x ∧ lkpA kv x = some e.val ∧ kv.any (fun p => decide (p.1 = x)) = true := by
  have hk : ∀ e ∈ es, ∃ l, keyOf P kt e.key = some l := fun e he => by
    obtain ⟨j, hj⟩ := List.mem_iff_getElem?.1 he
    obtain ⟨p, hp, h1, _⟩ := entA_of h hj
    rw [h1]; exact E.ok _ (ho p (List.mem_of_getElem? hp))
  obtain ⟨l, hl⟩ := E.ok x hx
  rcases E.K.find w hl es hk with ⟨h1, h2⟩ | ⟨j, e, h1, h2, h3⟩
  · left
    have hno : ∀ p ∈ kv, p.1 ≠ x := fun p hp hx => by
      have : enc p.1 ∈ es.map (·.key) := by rw [keysA_of h]; exact List.mem_map.2 ⟨p, hp, rfl⟩
      obtain ⟨e, he, hek⟩ := List.mem_map.1 this
      exact h2 e he (by rw [hek, hx])
    refine ⟨h1, ?_, ?_⟩
    · unfold lkpA
      rw [List.find?_eq_none.2 (fun p hp => by simpa using hno p hp)]; rfl
    · rw [List.any_eq_false]
      intro p hp; simpa using hno p hp
  · right
    obtain ⟨p, hp, e1, e2⟩ := entA_of h h2
    rw [h3] at e1
    have e1 := E.inj _ _ e1
    have hnk : (kv.map (fun p => enc p.1)).Nodup := by rw [← keysA_of h]; exact hn
    refine ⟨j, e, h1, h2, h3, ?_, List.any_eq_true.2 ⟨p, List.mem_of_getElem? hp, by simp [e1]⟩⟩
    unfold lkpA
    have : kv.find? (fun p => decide (p.1 = x)) = some p := by
      rw [List.find?_eq_some_iff_getElem]
      obtain ⟨hlt, hpe⟩ := List.getElem?_eq_some_iff.1 hp
      refine ⟨by simp [e1], j, hlt, hpe, fun i hi => ?_⟩
      have := List.pairwise_iff_getElem.1 hnk i j (by simp; omega) (by simpa using hlt) hi
      simp only [List.getElem_map, hpe, ne_eq] at this
      simp only [Bool.not_eq_true', decide_eq_false_iff_not]
      intro hh; exact this (by rw [hh, ← e1])
    rw [this, Option.map_some, e2]
variable {k : Kt} {w : World}
theorem M.makeMapA_i {T : TypeId} (h : ∀ w', MapA enc Okk w' w.heap.size [] → Keep w w' No → w'.heap.size = w.heap.size + 1 → k (.map (some w.heap.size)) w') : M.val P (Instr.makeMap T none) k w :=
  M.val_i (show (Instr.makeMap T none).run P w = .ok (.map (some w.heap.size)) (w.alloc (.map #[] 0)) from rfl) (h _ ⟨#[], 0, alloc_new w _, by simp [Stamped], rfl, fun p hp => by cases hp⟩ (Keep.alloc w _ _) (by simp))
theorem M.lookupA_i {T et : TypeId} {r : Nat} {kv : List (α × Value)} {x : α} {z : Value} (E : KeyE P kt enc Okk) (ht : P.underlying T = some (.map kt et)) (hz : ∀ w, (zeroValue et).run P w = .ok z w) (hm : MapA enc Okk w r kv) (hx : Okk x)
    (h : k ((lkpA kv x).getD z) w) : readW P (Instr.lookup T (.map (some r)) (enc x) false) k w := by
  obtain ⟨es, c, h1, h2, h3, ho⟩ := hm
  obtain ⟨l, hl⟩ := E.ok x hx
  have ck : ∀ e, (Instr.checkKey e 10000 kt (enc x)).run P w = .ok () w := fun e => E.K.check w e hl
  refine ⟨_, ?_, h⟩
  rcases findA_spec E h3 ho h2.2.2 x hx w with ⟨g1, g2, _⟩ | ⟨j, e, g1, g2, g3, g4, _⟩
  · simp [Instr.lookup, run_underlying ht, MapKept.run_getObj_map h1, ck, g1, g2, hz]
  · simp [Instr.lookup, run_underlying ht, MapKept.run_getObj_map h1, ck, g1, g4]
theorem M.lookupOkA_i {T et : TypeId} {r : Nat} {kv : List (α × Value)} {x : α} {z : Value} (E : KeyE P kt enc Okk) (ht : P.underlying T = some (.map kt et)) (hz : ∀ w, (zeroValue et).run P w = .ok z w) (hm : MapA enc Okk w r kv) (hx : Okk x)
    (h : k (.tuple #[(lkpA kv x).getD z, .bool (lkpA kv x).isSome]) w) : readW P (Instr.lookup T (.map (some r)) (enc x) true) k w := by
  obtain ⟨es, c, h1, h2, h3, ho⟩ := hm
  obtain ⟨l, hl⟩ := E.ok x hx
  have ck : ∀ e, (Instr.checkKey e 10000 kt (enc x)).run P w = .ok () w := fun e => E.K.check w e hl
  refine ⟨_, ?_, h⟩
  rcases findA_spec E h3 ho h2.2.2 x hx w with ⟨g1, g2, _⟩ | ⟨j, e, g1, g2, g3, g4, _⟩
  · simp [Instr.lookup, run_underlying ht, MapKept.run_getObj_map h1, ck, g1, g2, hz]
  · simp [Instr.lookup, run_underlying ht, MapKept.run_getObj_map h1, ck, g1, g4]
theorem M.mapUpdateA_i {T et : TypeId} {r : Nat} {kv : List (α × Value)} {x : α} {v : Value} (E : KeyE P kt enc Okk) (ht : P.underlying T = some (.map kt et)) (hm : MapA enc Okk w r kv) (hx : Okk x)
    (h : ∀ w', MapA enc Okk w' r (updA kv x v) → Keep w w' (· = r) → w'.heap.size = w.heap.size → k undef w') : M.unit P (Instr.mapUpdate T (.map (some r)) (enc x) v) k w := by
  obtain ⟨es, c, h1, h2, h3, ho⟩ := hm
  obtain ⟨l, hl⟩ := E.ok x hx
  have ck : ∀ e, (Instr.checkKey e 10000 kt (enc x)).run P w = .ok () w := fun e => E.K.check w e hl
  have hsz : ∀ o, (setBlock w r o).heap.size = w.heap.size := fun o => by simp [setBlock]
  have ho' : ∀ p ∈ updA kv x v, Okk p.1 := fun p hp => by
    unfold updA at hp
    split at hp
    · obtain ⟨q, hq, rfl⟩ := List.mem_map.1 hp
      split
      · exact hx
      · exact ho q hq
    · rcases List.mem_append.1 hp with hp | hp
      · exact ho p hp
      · simp at hp; subst hp; exact hx
  rcases findA_spec E h3 ho h2.2.2 x hx w with ⟨g1, g2, g3⟩ | ⟨j, e, g1, g2, g3, g4, g5⟩
  · refine M.unit_i (w' := setBlock w r (.map (es.push { key := enc x, val := v, born := c }) (c + 1))) ?_ (h _ ⟨_, _, setBlock_at h1, ?_, ?_, ho'⟩ (setBlock_keep _ _ _) (hsz _))
    · simp [Instr.mapUpdate, run_underlying ht, MapKept.run_getObj_map h1, ck, g1, MapKept.run_setObj_map _ h1]
      rfl
    · obtain ⟨s1, s2, s3⟩ := h2
      refine ⟨fun y hy => ?_, ?_, ?_⟩
      · simp only [Array.toList_push, List.mem_append, List.mem_singleton] at hy
        rcases hy with hy | rfl
        · have := s1 y hy; omega
        · simp
      · simp only [Array.toList_push, List.map_append, List.map_cons, List.map_nil]
        refine List.nodup_append.2 ⟨s2, by simp, fun a ha b hb => ?_⟩
        simp at hb; subst hb
        obtain ⟨y, hy, rfl⟩ := List.mem_map.1 ha
        have := s1 y hy; omega
      · simp only [Array.toList_push, List.map_append, List.map_cons, List.map_nil]
        refine List.nodup_append.2 ⟨s3, by simp, fun a ha b hb => ?_⟩
        simp at hb; subst hb
        intro hax
        rw [hax, keysA_of h3] at ha
        obtain ⟨p, hp, hpe⟩ := List.mem_map.1 ha
        rw [List.any_eq_false] at g3
        exact g3 p hp (by simpa using E.inj _ _ hpe)
    · unfold updA
      rw [g3]
      simp [h3]
  · have hkey : ((es[j]?).map (·.key)).getD (enc x) = enc x := by
      rw [← Array.getElem?_toList, g2]; exact g3
    refine M.unit_i (w' := setBlock w r (.map (es.modify j fun e => { e with key := enc x, val := v }) c)) ?_ (h _ ⟨_, _, setBlock_at h1, ?_, ?_, ho'⟩ (setBlock_keep _ _ _) (hsz _))
    · simp only [Instr.mapUpdate, Sem.run_bind, run_underlying ht, Result.andThen_ok, MapKept.run_getObj_map h1, ck, g1, hkey, E.K.stays w hl, MapKept.run_setObj_map _ h1]
      rfl
    · obtain ⟨s1, s2, s3⟩ := h2
      have hb : (es.modify j fun e => { e with key := enc x, val := v }).toList.map (·.born) = es.toList.map (·.born) := by
        rw [Array.toList_modify]
        exact map_modify (g := fun e : MapEntry => e.born) (f := fun e => { e with key := enc x, val := v }) (fun e => rfl)
      have hk : (es.modify j fun e => { e with key := enc x, val := v }).toList.map (·.key) = es.toList.map (·.key) := by
        rw [Array.toList_modify]
        refine map_modify_at (fun e' he' => ?_)
        rw [g2] at he'; cases he'; exact g3.symm
      refine ⟨fun y hy => ?_, by rw [hb]; exact s2, by rw [hk]; exact s3⟩
      have : y.born ∈ es.toList.map (·.born) := by rw [← hb]; exact List.mem_map.2 ⟨y, hy, rfl⟩
      obtain ⟨z, hz, hze⟩ := List.mem_map.1 this
      rw [← hze]; exact s1 z hz
    · have hnk : (kv.map (fun p => enc p.1)).Nodup := by rw [← keysA_of h3]; exact h2.2.2
      rw [Array.toList_modify]
      unfold updA
      rw [if_pos g5]
      apply List.ext_getElem?
      intro i
      simp only [List.getElem?_map, List.getElem?_modify]
      cases hi : es.toList[i]? with
      | none =>
        have : kv[i]? = none := by
          have := congrArg (fun l => l[i]?) h3
          simp only [List.getElem?_map, hi, Option.map_none] at this
          cases hk : kv[i]? with
          | none => rfl
          | some p => rw [hk] at this; simp at this
        simp [this]
      | some e' =>
        obtain ⟨p, hp, e1, e2⟩ := entA_of h3 hi
        by_cases hji : j = i
        · subst hji
          rw [g2] at hi; cases hi
          rw [g3] at e1
          have e1 := E.inj _ _ e1
          simp [hp, e1]
        · obtain ⟨p', hp', e1', _⟩ := entA_of h3 g2
          rw [g3] at e1'
          have e1' := E.inj _ _ e1'
          have hne : p.1 ≠ x := fun hx => by
            obtain ⟨a1, a2⟩ := List.getElem?_eq_some_iff.1 hp
            obtain ⟨b1, b2⟩ := List.getElem?_eq_some_iff.1 hp'
            have hh := List.pairwise_iff_getElem.1 hnk
            rcases Nat.lt_or_ge i j with h | h
            · have := hh i j (by simpa using a1) (by simpa using b1) h
              simp only [List.getElem_map, a2, b2, ne_eq] at this
              exact this (by rw [hx, e1'])
            · have := hh j i (by simpa using b1) (by simpa using a1) (by omega)
              simp only [List.getElem_map, a2, b2, ne_eq] at this
              exact this (by rw [hx, e1'])
          simp [hp, hji, hne, e1, e2]
end
theorem M.lookupOk_i {P : Program} {k : Kt} {w : World} {T kt et : TypeId} {r : Nat} {kv : List (Int × Value)} {x : Int} {z : Value} (ht : P.underlying T = some (.map kt et)) (hkt : P.underlying kt = some (.int .i64)) (hz : ∀ w, (zeroValue et).run P w = .ok z w) (hm : MapO w r kv)
    (h : k (.tuple #[(lkp kv x).getD z, .bool (lkp kv x).isSome]) w) : readW P (Instr.lookup T (.map (some r)) (vi x) true) k w := by
  obtain ⟨es, c, h1, h2, h3⟩ := hm
  have ck : ∀ e w, (Instr.checkKey e 10000 kt (vi x)).run P w = .ok () w := fun e w => run_checkKey hkt (show IsKey (.int .i64) (vi x) from rfl) e 9999
  refine ⟨_, ?_, h⟩
  rcases find_spec h3 h2.2.2 x with ⟨g1, g2, _⟩ | ⟨j, e, g1, g2, g3, g4, _⟩
  · simp [Instr.lookup, run_underlying ht, MapKept.run_getObj_map h1, ck, run_findKey hkt g1, g2, hz]
  · simp [Instr.lookup, run_underlying ht, MapKept.run_getObj_map h1, ck, run_findKey hkt g1, g4]
end Go.Mw
namespace Go.Mw
set_option linter.unusedVariables false
set_option linter.unusedSimpArgs false
abbrev W64 := BitVec 64
abbrev vw (x : W64) : Value := .int .u64 (x.toNat : Int)
theorem wrapU (n : Int) : IntKind.u64.wrap n = ((BitVec.ofInt 64 n).toNat : Int) := by
  have e : IntKind.u64.wrap n = n % 18446744073709551616 := by
    unfold IntKind.wrap
    simp [IntKind.bits, IntKind.signed]
  rw [e, BitVec.toNat_ofInt]
  omega
theorem ofI (x : W64) : BitVec.ofInt 64 (x.toNat : Int) = x := by
  rw [BitVec.ofInt_natCast, BitVec.ofNat_toNat, BitVec.setWidth_eq]
theorem wrap_of {n : Int} {x : W64} (h : BitVec.ofInt 64 n = x) : IntKind.u64.wrap n = (x.toNat : Int) := by rw [wrapU, h]
section
variable {k : Kt} {w : World}
theorem M.addW_i {x y : W64} (h : k (vw (x + y)) w) : M.bin .add (vw x) (vw y) k w := by
  refine ⟨rfl, ?_⟩
  simp only [ibin]
  rw [wrap_of (x := x + y) (by rw [BitVec.ofInt_add, ofI, ofI])]
  exact h
theorem M.mulW_i {x y : W64} (h : k (vw (x * y)) w) : M.bin .mul (vw x) (vw y) k w := by
  refine ⟨rfl, ?_⟩
  simp only [ibin]
  rw [wrap_of (x := x * y) (by rw [BitVec.ofInt_mul, ofI, ofI])]
  exact h
theorem M.andW_i {x y : W64} (h : k (vw (x &&& y)) w) : M.bin .and (vw x) (vw y) k w := by
  refine ⟨rfl, ?_⟩
  show k (.int .u64 (IntKind.u64.wrap ((BitVec.ofInt 64 (x.toNat : Int) &&& BitVec.ofInt 64 (y.toNat : Int)).toNat : Int))) w
  rw [ofI, ofI, wrap_of (x := x &&& y) (ofI _)]
  exact h
theorem M.orW_i {x y : W64} (h : k (vw (x ||| y)) w) : M.bin .or (vw x) (vw y) k w := by
  refine ⟨rfl, ?_⟩
  show k (.int .u64 (IntKind.u64.wrap ((BitVec.ofInt 64 (x.toNat : Int) ||| BitVec.ofInt 64 (y.toNat : Int)).toNat : Int))) w
  rw [ofI, ofI, wrap_of (x := x ||| y) (ofI _)]
  exact h
theorem vw_inj {x y : W64} : ((x.toNat : Int) = (y.toNat : Int)) ↔ x = y := by
  rw [Int.ofNat_inj]
  exact ⟨BitVec.eq_of_toNat_eq, fun h => by rw [h]⟩
theorem M.eqlW_i {x y : W64} (h : k (.bool (decide (x = y))) w) : M.bin .eql (vw x) (vw y) k w := by
  refine M.eql_i ?_
  have : decide ((x.toNat : Int) = (y.toNat : Int)) = decide (x = y) := by simp only [vw_inj]
  rw [this]; exact h
theorem M.neqW_i {x y : W64} (h : k (.bool (decide (x ≠ y))) w) : M.bin .neq (vw x) (vw y) k w := by
  refine M.neq_i ?_
  have : decide ((x.toNat : Int) ≠ (y.toNat : Int)) = decide (x ≠ y) := by simp only [ne_eq, vw_inj]
  rw [this]; exact h
theorem min_pow {b : Nat} : 18446744073709551616 ∣ 2 ^ b ∨ min b 64 = b := by
  by_cases h : b ≤ 64
  · right; omega
  · left
    exact Nat.pow_dvd_pow 2 (m := 64) (n := b) (by omega)
theorem M.shlW_i {x : W64} {d : IntKind} {b : Nat} (h : k (vw (x <<< b)) w) : M.shift .shl (vw x) (.int d b) k w := by
  refine M.shift_i (v := vw (x <<< b)) ?_ h
  simp only [ishift]
  rw [if_neg (by omega)]
  have e64 : IntKind.u64.bits = 64 := rfl
  rw [e64, Int.toNat_natCast]
  have hw : IntKind.u64.wrap ((x.toNat : Int) * 2 ^ (min b 64)) = (((x <<< b).toNat : Nat) : Int) := by
    have e1 : (x.toNat : Int) * 2 ^ (min b 64) = ((x.toNat * 2 ^ (min b 64) : Nat) : Int) := by push_cast; rfl
    rw [e1, wrapU, BitVec.ofInt_natCast, BitVec.toNat_ofNat, BitVec.toNat_shiftLeft, Nat.shiftLeft_eq]
    rcases min_pow (b := b) with h | h
    · have h1 : x.toNat * 2 ^ b % 2 ^ 64 = 0 := Nat.mod_eq_zero_of_dvd (Nat.dvd_trans h (Nat.dvd_mul_left _ _))
      have hb : min b 64 = 64 ∨ min b 64 = b := by omega
      rcases hb with hb | hb
      · rw [h1, hb, Nat.mul_mod_left]
      · rw [hb]
    · rw [h]
  rw [hw]
theorem M.shrW_i {x : W64} {d : IntKind} {b : Nat} (h : k (vw (x >>> b)) w) : M.shift .shr (vw x) (.int d b) k w := by
  refine M.shift_i (v := vw (x >>> b)) ?_ h
  simp only [ishift]
  rw [if_neg (by omega)]
  have e64 : IntKind.u64.bits = 64 := rfl
  rw [e64, Int.toNat_natCast]
  have hw : (x.toNat : Int).fdiv (2 ^ (min b 64)) = (((x >>> b).toNat : Nat) : Int) := by
    rw [BitVec.toNat_ushiftRight, Nat.shiftRight_eq_div_pow]
    have e1 : (2 : Int) ^ (min b 64) = ((2 ^ (min b 64) : Nat) : Int) := by push_cast; rfl
    rw [e1, Int.fdiv_eq_ediv_of_nonneg _ (Int.natCast_nonneg _), ← Int.natCast_ediv]
    congr 1
    by_cases hb : b ≤ 64
    · rw [Nat.min_eq_left hb]
    · rw [Nat.min_eq_right (by omega)]
      have h1 : x.toNat < 2 ^ 64 := x.isLt
      have h2 : (2 : Nat) ^ 64 ≤ 2 ^ b := Nat.pow_le_pow_right (by omega) (by omega)
      rw [Nat.div_eq_of_lt h1, Nat.div_eq_of_lt (by omega)]
  rw [hw]
theorem M.shrWi_i {x : W64} {d : IntKind} {b : Int} (h0 : 0 ≤ b) (h : k (vw (x >>> b.toNat)) w) : M.shift .shr (vw x) (.int d b) k w := by
  obtain ⟨n, rfl⟩ : ∃ n : Nat, b = n := ⟨b.toNat, by omega⟩
  exact M.shrW_i (by simpa using h)
end
end Go.Mw
namespace Go.Proofs.Ytnbcglnefoinlaa
open Go.Mw
set_option linter.unusedVariables false
set_option linter.unusedSimpArgs false
set_option maxRecDepth 100000
attribute [local irreducible] M.val M.unit M.next M.pick M.new M.nilCheck M.load1 M.loadA M.store M.fieldAddr M.indexSl M.indexArr M.slice M.makeSlice M.buildSlice M.len M.lenS M.cap M.append M.extract M.conv M.not M.neg M.bin M.shift M.eqB M.eqNil M.scat M.call M.callv M.gd M.share M.cond M.loop M.draw pureW readW Ret
def LN {α : Type} (f : α → List Value) (w : World) (D : Nat → Prop) (v : Value) (xs : List α) : Prop := ∃ A c, v = .slice A xs.length c ∧ Row w D A (xs.flatMap f) ∧ xs.length ≤ c
theorem LN.keep {α : Type} {f : α → List Value} {w w' : World} {D S : Nat → Prop} {v : Value} {xs : List α} (h : LN f w D v xs) (k : Keep w w' S) (hs : ∀ b, b < w.heap.size → D b → ¬ S b) : LN f w' D v xs := by
  obtain ⟨A, c, h1, h2, h3⟩ := h
  exact ⟨A, c, h1, h2.keep k hs, h3⟩
theorem LN.mono {α : Type} {f : α → List Value} {w : World} {D D' : Nat → Prop} {v : Value} {xs : List α} (h : LN f w D v xs) (hd : ∀ b, b < w.heap.size → D b → D' b) : LN f w D' v xs := by
  obtain ⟨A, c, h1, h2, h3⟩ := h
  exact ⟨A, c, h1, h2.mono hd, h3⟩
theorem LN.nil {α : Type} (f : α → List Value) (w : World) (D : Nat → Prop) : LN f w D (.slice none 0 0) ([] : List α) := ⟨none, 0, rfl, .inl rfl, Nat.le_refl _⟩
abbrev GW (w : World) (L : Nat → Prop) (v : Value) (xs : List W64) : Prop := GC w L 1 v xs.length (xs.map vw)
theorem GW.lv {w : World} {L : Nat → Prop} {v : Value} {xs : List W64} (h : GW w L v xs) : LV vw w L v xs := by
  obtain ⟨A, c, rfl, h2, h3⟩ := GC.row2 h (by omega)
  exact ⟨A, c, by simp, h2, by simpa using h3⟩
theorem LV.one {α : Type} {f : α → Value} {w : World} {D : Nat → Prop} {v : Value} {xs : List α} (h : LV f w D v xs) : v.oneCell' = true := by
  obtain ⟨A, c, rfl, _⟩ := h; rfl
theorem LN.one {α : Type} {f : α → List Value} {w : World} {D : Nat → Prop} {v : Value} {xs : List α} (h : LN f w D v xs) : v.oneCell' = true := by
  obtain ⟨A, c, rfl, _⟩ := h; rfl
end Go.Proofs.Ytnbcglnefoinlaa
namespace Go.Proofs.Ytnbcglnefoinlaa
open Go.Mw
set_option linter.unusedVariables false
set_option linter.unusedSimpArgs false
set_option maxRecDepth 100000
attribute [local irreducible] M.val M.unit M.next M.pick M.new M.nilCheck M.load1 M.loadA M.store M.fieldAddr M.indexSl M.indexArr M.slice M.makeSlice M.buildSlice M.len M.lenS M.cap M.append M.extract M.conv M.not M.neg M.bin M.shift M.eqB M.eqNil M.scat M.call M.callv M.gd M.share M.cond M.loop M.draw pureW readW Ret
def sh72 (x0 : Value) (R : Kt) (w : World) : Prop :=
  M.bin .geq x0 (Value.int IntKind.i64 1) (fun t4 w =>
  M.gd t4 true (fun k w => k x0 w) (fun t6 w =>
  M.gd t4 true (fun k w => M.bin .leq t6 (Value.int IntKind.i64 64) k w) (fun t7 w =>
  M.pick t4 t7 (Value.bool false) (fun t8 w =>
  R t8 w) w) w) w) w
theorem ok72 (x0 : Value) (R : Kt) (w : World) (h : sh72 x0 R w) : Ret Try.prog 72 #[x0] w R :=
  ret_mk <| calls_of_comp mixed (c := Try.f72.body.getD .skip) (args := [x0]) (rs := [(ResultVar.tmp 2)]) (Ann.seq Ann.text (Ann.seq Ann.text Ann.leaf))
    Try.func72 (by kernel_rfl) (by kernel_rfl)
    (Eq.mp (by kernel_rfl) h)
def sh36 (x0 : Value) (R : Kt) (w : World) : Prop :=
  M.call Try.prog 72 #[x0] (fun t4 w =>
  M.not t4 (fun t5 w =>
  M.cond t5
  (R (Value.int IntKind.u64 0) w)
  (M.bin .sub (Value.int IntKind.i64 64) x0 (fun t7 w =>
  M.shift .shr (Value.int IntKind.u64 18446744073709551615) t7 (fun t8 w =>
  R t8 w) w) w)) w) w
theorem ok36 (x0 : Value) (R : Kt) (w : World) (h : sh36 x0 R w) : Ret Try.prog 36 #[x0] w R :=
  ret_mk <| calls_of_comp mixed (c := Try.f36.body.getD .skip) (args := [x0]) (rs := [(ResultVar.tmp 2)]) (Ann.seq Ann.text (Ann.seq (Ann.seq Ann.text (Ann.cond (Ann.seq Ann.text Ann.leaf) Ann.leaf)) (Ann.seq Ann.text Ann.leaf)))
    Try.func36 (by kernel_rfl) (by kernel_rfl)
    (Eq.mp (by kernel_rfl) h)
def sh39 (x0 x1 : Value) (R : Kt) (w : World) : Prop :=
  M.call Try.prog 36 #[x0] (fun t7 w =>
  M.bin .and x1 t7 (fun t8 w =>
  R t8 w) w) w
theorem ok39 (x0 x1 : Value) (R : Kt) (w : World) (h : sh39 x0 x1 R w) : Ret Try.prog 39 #[x0, x1] w R :=
  ret_mk <| calls_of_comp mixed (c := Try.f39.body.getD .skip) (args := [x0, x1]) (rs := [(ResultVar.tmp 4)]) (Ann.seq Ann.text (Ann.seq Ann.text Ann.leaf))
    Try.func39 (by kernel_rfl) (by kernel_rfl)
    (Eq.mp (by kernel_rfl) h)
def sh94 (x0 : Value) (R : Kt) (w : World) : Prop :=
  M.bin .geq x0 (Value.int IntKind.i64 1) (fun t4 w =>
  M.gd t4 true (fun k w => k x0 w) (fun t6 w =>
  M.gd t4 true (fun k w => M.bin .leq t6 (Value.int IntKind.i64 64) k w) (fun t7 w =>
  M.pick t4 t7 (Value.bool false) (fun t8 w =>
  R t8 w) w) w) w) w
theorem ok94 (x0 : Value) (R : Kt) (w : World) (h : sh94 x0 R w) : Ret Try.prog 94 #[x0] w R :=
  ret_mk <| calls_of_comp mixed (c := Try.f94.body.getD .skip) (args := [x0]) (rs := [(ResultVar.tmp 2)]) (Ann.seq Ann.text (Ann.seq Ann.text Ann.leaf))
    Try.func94 (by kernel_rfl) (by kernel_rfl)
    (Eq.mp (by kernel_rfl) h)
def sh77 (x0 : Value) (R : Kt) (w : World) : Prop :=
  M.loop [(Value.int IntKind.u64 0), (Value.int IntKind.i64 0)] (fun s1 K1 w => ∀ _ : List Value,
  M.bin .lss (s1.getD 1 undef) x0 (fun t7 w =>
  M.gd t7 true (fun k w => k x0 w) (fun t9 w =>
  M.gd t7 true (fun k w => M.call Try.prog 94 #[t9] k w) (fun t10 w =>
  M.pick t7 t10 (Value.bool false) (fun t11 w =>
  M.cond t11
  (M.bin .mul (s1.getD 0 undef) (Value.int IntKind.u64 2) (fun t15 w =>
  M.bin .add t15 (Value.int IntKind.u64 1) (fun t16 w =>
  M.bin .add (s1.getD 1 undef) (Value.int IntKind.i64 1) (fun t13 w =>
  K1 [t16, t13] w) w) w) w)
  (R (s1.getD 0 undef) w)) w) w) w) w) w
theorem ok77 (x0 : Value) (R : Kt) (w : World) (h : sh77 x0 R w) : Ret Try.prog 77 #[x0] w R :=
  ret_mk <| calls_of_comp mixed (c := Try.f77.body.getD .skip) (args := [x0]) (rs := [(ResultVar.tmp 2)]) (Ann.seq Ann.text (Ann.seq Ann.text (Ann.seq (Ann.seq Ann.text (Ann.block (Ann.loop [3, 4] [5, 6, 7, 8, 9, 10, 11, 12, 13, 14, 15, 16] (Ann.seq (Ann.seq Ann.text (Ann.cond Ann.leaf Ann.leaf)) (Ann.seq (Ann.block Ann.text) Ann.text))))) (Ann.seq Ann.text Ann.leaf))))
    Try.func77 (by kernel_rfl) (by kernel_rfl)
    (Eq.mp (by kernel_rfl) h)
def sh44 (x0 x1 : Value) (R : Kt) (w : World) : Prop :=
  M.call Try.prog 77 #[x0] (fun t7 w =>
  M.bin .and x1 t7 (fun t8 w =>
  R t8 w) w) w
theorem ok44 (x0 x1 : Value) (R : Kt) (w : World) (h : sh44 x0 x1 R w) : Ret Try.prog 44 #[x0, x1] w R :=
  ret_mk <| calls_of_comp mixed (c := Try.f44.body.getD .skip) (args := [x0, x1]) (rs := [(ResultVar.tmp 4)]) (Ann.seq Ann.text (Ann.seq Ann.text Ann.leaf))
    Try.func44 (by kernel_rfl) (by kernel_rfl)
    (Eq.mp (by kernel_rfl) h)
def fitsB (n : Int) : Bool := decide (1 ≤ n ∧ n ≤ 64)
def maskW (n : Int) : W64 := if fitsB n then BitVec.allOnes 64 >>> (64 - n.toNat) else 0
def cutW (n : Int) (x : W64) : W64 := x &&& maskW n
def sgnW (n : Int) (x : W64) : W64 := if fitsB n then (x <<< (64 - n.toNat)).sshiftRight (64 - n.toNat) else 0
theorem fits_ret (n : Int) (w : World) : Ret Try.prog 72 #[vi n] w (fun r w' => r = .bool (fitsB n) ∧ w' = w) := by
  refine ok72 _ _ _ ?_
  unfold sh72
  by_cases h1 : 1 ≤ n
  · (repeat (first|refine jf ?_|refine jE ?_))
    refine M.leq_i ?_
    (repeat (refine jk ?_))
    exact ⟨by simp [fitsB, h1], rfl⟩
  · (repeat (first|refine jh ?_|refine jl ?_|refine jF ?_))
    exact ⟨by simp [fitsB, h1], rfl⟩
theorem rfits_ret (n : Int) (w : World) : Ret Try.prog 94 #[vi n] w (fun r w' => r = .bool (fitsB n) ∧ w' = w) := by
  refine ok94 _ _ _ ?_
  unfold sh94
  by_cases h1 : 1 ≤ n
  · (repeat (first|refine jf ?_|refine jE ?_))
    refine M.leq_i ?_
    (repeat (refine jk ?_))
    exact ⟨by simp [fitsB, h1], rfl⟩
  · (repeat (first|refine jh ?_|refine jl ?_|refine jF ?_))
    exact ⟨by simp [fitsB, h1], rfl⟩
theorem fits_nat {n : Int} (h : fitsB n = true) : ∃ m : Nat, n = m ∧ 1 ≤ m ∧ m ≤ 64 := by
  unfold fitsB at h
  rw [decide_eq_true_iff] at h
  exact ⟨n.toNat, by omega, by omega, by omega⟩
theorem fits_of {m : Nat} (h1 : 1 ≤ m) (h2 : m ≤ 64) : fitsB m = true := by
  unfold fitsB
  rw [decide_eq_true_iff]; omega
theorem maskW_nat {m : Nat} (h1 : 1 ≤ m) (h2 : m ≤ 64) : maskW m = BitVec.allOnes 64 >>> (64 - m) := by
  unfold maskW
  rw [if_pos (fits_of h1 h2), Int.toNat_natCast]
theorem mask_ret (n : Int) (w : World) : Ret Try.prog 36 #[vi n] w (fun r w' => r = vw (maskW n) ∧ w' = w) := by
  refine ok36 _ _ _ ?_
  unfold sh36
  refine M.call_i (fits_ret n w) ?_; rintro _ w1 ⟨rfl, rfl⟩
  refine M.not_i ?_
  cases hf : fitsB n with
  | false =>
    (repeat (refine jo ?_))
    exact ⟨by unfold maskW; rw [hf]; rfl, rfl⟩
  | true =>
    obtain ⟨m, rfl, h1, h2⟩ := fits_nat hf
    (repeat (first|refine jp ?_|refine jL ?_))
    have e : (64 : Int) - (m : Int) = ((64 - m : Nat) : Int) := by omega
    rw [e]
    change M.shift .shr (vw (BitVec.allOnes 64)) _ _ _
    refine M.shrW_i ⟨?_, rfl⟩
    rw [maskW_nat h1 h2]
theorem cut_ret (n : Int) (x : W64) (w : World) : Ret Try.prog 39 #[vi n, vw x] w (fun r w' => r = vw (cutW n x) ∧ w' = w) := by
  refine ok39 _ _ _ _ ?_
  unfold sh39
  refine M.call_i (mask_ret n w) ?_; rintro _ w1 ⟨rfl, rfl⟩
  exact M.andW_i ⟨rfl, rfl⟩
theorem sgnW_nat {m : Nat} (h1 : 1 ≤ m) (h2 : m ≤ 64) (x : W64) : sgnW m x = (x <<< (64 - m)).sshiftRight (64 - m) := by
  unfold sgnW
  rw [if_pos (fits_of h1 h2), Int.toNat_natCast]
theorem maskW_bit {m : Nat} (h1 : 1 ≤ m) (h2 : m ≤ 64) (i : Nat) : (maskW m).getLsbD i = decide (i < m) := by
  rw [maskW_nat h1 h2, BitVec.getLsbD_ushiftRight, BitVec.getLsbD_allOnes]
  by_cases h : i < m
  · rw [decide_eq_true h, decide_eq_true]; omega
  · rw [decide_eq_false h, decide_eq_false]; omega
theorem cutW_bit {m : Nat} (h1 : 1 ≤ m) (h2 : m ≤ 64) (x : W64) (i : Nat) : (cutW m x).getLsbD i = (x.getLsbD i && decide (i < m)) := by
  unfold cutW
  rw [BitVec.getLsbD_and, maskW_bit h1 h2]
theorem sgnW_bit {m : Nat} (h1 : 1 ≤ m) (h2 : m ≤ 64) (x : W64) (i : Nat) (hi : i < 64) : (sgnW m x).getLsbD i = x.getLsbD (if i < m then i else m - 1) := by
  rw [sgnW_nat h1 h2, BitVec.getLsbD_sshiftRight]
  have hm : (x <<< (64 - m)).msb = x.getLsbD (m - 1) := by
    rw [BitVec.msb_eq_getLsbD_last, BitVec.getLsbD_shiftLeft]
    have e : 64 - 1 - (64 - m) = m - 1 := by omega
    rw [e]
    have h3 : decide (64 - 1 < 64) = true := by decide
    have h4 : decide (64 - 1 < 64 - m) = false := by rw [decide_eq_false_iff_not]; omega
    rw [h3, h4]; rfl
  have h5 : decide (64 ≤ i) = false := by rw [decide_eq_false_iff_not]; omega
  rw [h5, hm]
  by_cases h : i < m
  · rw [if_pos h, if_pos (by omega), BitVec.getLsbD_shiftLeft]
    have e : 64 - m + i - (64 - m) = i := by omega
    have h6 : decide (64 - m + i < 64) = true := by rw [decide_eq_true_iff]; omega
    have h7 : decide (64 - m + i < 64 - m) = false := by rw [decide_eq_false_iff_not]; omega
    rw [e, h6, h7]; rfl
  · rw [if_neg h, if_neg (by omega)]; rfl
theorem maskR_eq {m : Nat} (h1 : 1 ≤ m) (h2 : m ≤ 64) : BitVec.ofNat 64 (2 ^ m - 1) = maskW m := by
  apply BitVec.eq_of_getLsbD_eq
  intro i hi
  rw [maskW_bit h1 h2, BitVec.getLsbD_ofNat, Nat.testBit_two_pow_sub_one]
  simp [hi]
theorem rmask_ret (n : Int) (w : World) : Ret Try.prog 77 #[vi n] w (fun r w' => r = vw (maskW n) ∧ w' = w) := by
  refine ok77 _ _ _ ?_
  unfold sh77
  refine M.loop_i (σ := Nat) (fun i vals w' => vals = [vw (BitVec.ofNat 64 (2 ^ i - 1)), vi i] ∧ (fitsB n = false → i = 0) ∧ ((i : Int) ≤ n ∨ i = 0) ∧ w' = w) (fun i => n.toNat - i) 0 ⟨rfl, fun _ => rfl, .inr rfl, rfl⟩ ?_
  rintro i vals w1 K ⟨rfl, h0, hi, rfl⟩ hK _
  simp only [List.getD_cons_zero, List.getD_cons_succ]
  by_cases hlt : (i : Int) < n
  · (repeat (first|refine jf ?_|refine jy ?_))
    refine M.call_i (rfits_ret n w1) ?_; rintro _ w2 ⟨rfl, rfl⟩
    (repeat (refine jk ?_))
    cases hf : fitsB n with
    | false =>
      obtain rfl := h0 hf
      (repeat (refine jp ?_))
      exact ⟨by unfold maskW; rw [hf]; rfl, rfl⟩
    | true =>
      obtain ⟨m, rfl, h1, h2⟩ := fits_nat hf
      (repeat (refine jo ?_))
      change M.bin .mul (vw _) (vw 2) _ _
      refine M.mulW_i ?_
      change M.bin .add (vw _) (vw 1) _ _
      refine M.addW_i ?_
      have e : BitVec.ofNat 64 (2 ^ i - 1) * 2 + 1 = BitVec.ofNat 64 (2 ^ (i + 1) - 1) := by
        have h2 : (2 : W64) = BitVec.ofNat 64 2 := rfl
        have h3 : (1 : W64) = BitVec.ofNat 64 1 := rfl
        rw [h2, h3, ← BitVec.ofNat_mul, ← BitVec.ofNat_add]
        congr 1
        have := Nat.one_le_two_pow (n := i)
        rw [Nat.pow_succ]; omega
      rw [e]
      (repeat (refine jK ?_))
      exact hK (i + 1) _ _ (by omega) ⟨by simp, fun h => by simp [hf] at h, .inl (by omega), rfl⟩
  · (repeat (first|refine jh ?_|refine jl ?_|refine jp ?_|refine jz ?_))
    refine ⟨?_, rfl⟩
    cases hf : fitsB n with
    | false =>
      obtain rfl := h0 hf
      unfold maskW; rw [hf]; rfl
    | true =>
      obtain ⟨m, rfl, h1, h2⟩ := fits_nat hf
      have : i = m := by omega
      subst this
      rw [maskR_eq h1 h2]
theorem rcut_ret (n : Int) (x : W64) (w : World) : Ret Try.prog 44 #[vi n, vw x] w (fun r w' => r = vw (cutW n x) ∧ w' = w) := by
  refine ok44 _ _ _ _ ?_
  unfold sh44
  refine M.call_i (rmask_ret n w) ?_; rintro _ w1 ⟨rfl, rfl⟩
  exact M.andW_i ⟨rfl, rfl⟩
end Go.Proofs.Ytnbcglnefoinlaa
