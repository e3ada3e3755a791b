import Derived.Test.YtnbcglnefoinlaaGreatK10
import Derived.WalkKit
import Derived.ProofKit
import Derived.OpenShut
import Derived.ShutString
import Derived.ChangeOld
import Derived.Below
import Derived.SizedLaws
import Derived.Carry
import Derived.ChangeArms
import Derived.Lib.SmallJoins
import Derived.Deep.Slices
set_option linter.unusedVariables false
set_option linter.unusedSimpArgs false
namespace Go.Mw
open Go.RowKit Go.ChangeShapes Go.WideShapes Go.ChangeAt Go.Deep
theorem Keep.below {w w' : World} (h : Keep w w' No) : Below w.heap.size w w' :=
  ⟨h.os, h.tape, h.output, h.size, fun k hk => h.blk k hk (fun h => h)⟩
section
variable {H : Type} {enc : TypeId × Value → H} {P : Program} {w : World} {base : Nat} {spare : Nat → Bool} {held : Bool}
theorem dec_int {t : TypeId} {k : IntKind} {fuel : Nat} {cs : List Value} {x : DataW H × List MemPlace} (ht : P.underlying t = some (.int k)) (h : DataW.trod enc P w base spare held fuel t cs = some x) :
    ∃ n, cs = [.int k n] ∧ (Lit.int k n).wf = true := by
  obtain ⟨n, h1, _, h2⟩ := DataW.trod_int ht h
  exact ⟨n, h1, h2⟩
theorem wf_u64 {n : Int} (h : (Lit.int .u64 n).wf = true) : 0 ≤ n ∧ n < 18446744073709551616 := by
  simp [Lit.wf, IntKind.min, IntKind.max, IntKind.signed, IntKind.bits] at h
  omega
theorem cells_row {a : Addr} {l : List Value} (h : ∀ i (hi : i < l.length), w.cell? (a.add i) = some l[i]) : Row w (· < w.heap.size) (some a) l := by
  rcases Nat.eq_zero_or_pos l.length with h0 | h0
  · exact .inl (List.length_eq_zero_iff.1 h0)
  have h1 := h 0 h0
  have ha : a.add 0 = a := rfl
  rw [ha] at h1
  obtain ⟨b, o, sp⟩ := a
  have hlt := World.block_lt_of_cell? w _ h1
  have hsp : sp = none := by
    cases sp with
    | none => rfl
    | some s =>
      simp only [World.cell?] at h1
      split at h1 <;> simp at h1
  subst hsp
  cases hb : w.heap[b]? with
  | none => simp [World.cell?, hb] at h1
  | some ob =>
    cases ob with
    | cells c T fz =>
      refine .inr ⟨b, o, c, T, fz, rfl, hlt, hb, fun i hi => ?_⟩
      have := h i hi
      rw [add_mk] at this
      simp only [World.cell?, hb] at this
      rw [List.getElem?_eq_getElem hi]
      simpa using this
    | _ => simp [World.cell?, hb] at h1
theorem cells_get {a : Addr} {n : Nat} {cs : List Value} (h : w.cells? base a n = some cs) : cs.length = n ∧ ∀ i (hi : i < cs.length), w.cell? (a.add i) = some cs[i] := by
  unfold World.cells? at h
  split at h
  · have hl := mapM_some_length h
    refine ⟨by simpa using hl, fun i hi => ?_⟩
    have hl' : cs.length = n := by simpa using hl
    have := mapM_some_get h i i (by rw [List.getElem?_range (by omega)])
    rw [this, List.getElem?_eq_getElem hi]
  · cases h
theorem add_add (a : Addr) (m n : Nat) (h : a.spot = none) : (a.add m).add n = a.add (m + n) := by
  obtain ⟨b, o, sp⟩ := a
  have h : sp = none := h
  subst h
  rw [add_mk, add_mk, add_mk, Nat.add_assoc]
theorem open_list {α : Type} {t e : TypeId} {fuel : Nat} {cs : List Value} {x : DataW H × List MemPlace} (ht : P.underlying t = some (.slice e)) {sz : Nat} (hsz : P.cellsOf e = sz) (hpos : 0 < sz)
    (h : DataW.trod enc P w base spare held fuel t cs = some x) (en : α → List Value) (Good : α → Prop)
    (dec : ∀ n cs y, DataW.trod enc P w base spare held n e cs = some y → cs.length = sz → ∃ z, cs = en z ∧ Good z) :
    ∃ A c, ∃ xs : List α, cs = [.slice A xs.length c] ∧ Row w (· < w.heap.size) A (xs.flatMap en) ∧ (∀ z ∈ xs, Good z ∧ (en z).length = sz) ∧ xs.length ≤ c ∧ c ≤ maxLen ∧ (xs.flatMap en).length = xs.length * sz := by
  rcases open_slice ht h with ⟨rfl, _⟩ | ⟨a, len, cap, m, n, D, Pl, rfl, hb, hl, hm, hmm, rfl, hx⟩
  · exact ⟨none, 0, [], rfl, .inl rfl, by simp, Nat.le_refl _, by unfold maxLen; omega, by simp⟩
  · have hlm : len ≤ m := by rw [hmm]; split <;> omega
    have hz : ∀ i, i < len → ∃ z, w.cells? base (a.add (i * sz)) sz = some (en z) ∧ Good z ∧ (en z).length = sz := fun i hi => by
      obtain ⟨cs', h1, h2⟩ := hx i (by omega)
      rw [hsz] at h1
      have hlen := (cells_get h1).1
      obtain ⟨z, rfl, hg⟩ := dec _ _ _ h2 hlen
      exact ⟨z, h1, hg, hlen⟩
    have : ∀ k, k ≤ len → ∃ xs : List α, xs.length = k ∧ ∀ i (hi : i < xs.length), w.cells? base (a.add (i * sz)) sz = some (en xs[i]) ∧ Good xs[i] ∧ (en xs[i]).length = sz := by
      intro k
      induction k with
      | zero => intro _; exact ⟨[], rfl, fun i hi => by simp at hi⟩
      | succ k ih =>
        intro hk
        obtain ⟨xs, h1, h2⟩ := ih (by omega)
        obtain ⟨z, h3, h4, h5⟩ := hz k (by omega)
        refine ⟨xs ++ [z], by simp [h1], fun i hi => ?_⟩
        by_cases hik : i < xs.length
        · rw [List.getElem_append_left hik]; exact h2 i hik
        · have : i = xs.length := by simp at hi; omega
          subst this
          rw [List.getElem_append_right (Nat.le_refl _)]
          simp only [Nat.sub_self, List.getElem_cons_zero]
          rw [h1]; exact ⟨h3, h4, h5⟩
    obtain ⟨xs, hxl, hxs⟩ := this len (Nat.le_refl _)
    have hflen : ∀ l : List α, (∀ z ∈ l, (en z).length = sz) → (l.flatMap en).length = l.length * sz := by
      intro l
      induction l with
      | nil => intro _; simp
      | cons z l ih =>
        intro hl
        simp only [List.flatMap_cons, List.length_append, List.length_cons, hl z List.mem_cons_self, ih (fun y hy => hl y (List.mem_cons_of_mem _ hy)), Nat.add_mul]
        omega
    have hall : ∀ z ∈ xs, Good z ∧ (en z).length = sz := fun z hz => by
      obtain ⟨i, hi⟩ := List.mem_iff_getElem.1 hz
      obtain ⟨hi, rfl⟩ := hi
      exact (hxs i hi).2
    subst hxl
    refine ⟨some a, cap, xs, rfl, ?_, hall, hl, hm, hflen xs fun z hz => (hall z hz).2⟩
    refine cells_row fun j hj => ?_
    -- the cell j is the cell j % sz of element j / sz
    have hfl := hflen xs fun z hz => (hall z hz).2
    have hj' : j < xs.length * sz := by omega
    have hd : j / sz < xs.length := Nat.div_lt_of_lt_mul (by rw [Nat.mul_comm]; exact hj')
    obtain ⟨c1, _, c3⟩ := hxs (j / sz) hd
    obtain ⟨_, c4⟩ := cells_get c1
    have hmod : j % sz < sz := Nat.mod_lt _ hpos
    have c5 := c4 (j % sz) (by omega)
    have hspot : a.spot = none := by
      cases hs : a.spot with
      | none => rfl
      | some s =>
        exfalso
        obtain ⟨c1, _, c3⟩ := hxs 0 (Nat.lt_of_le_of_lt (Nat.zero_le _) hd)
        have c4 := (cells_get c1).2 0 (by omega)
        simp only [Nat.zero_mul] at c4
        have ha : (a.add 0).add 0 = a := rfl
        rw [ha] at c4
        simp only [World.cell?, hs] at c4
        split at c4 <;> simp at c4
    rw [add_add _ _ _ hspot] at c5
    have e1 : j / sz * sz + j % sz = j := by rw [Nat.mul_comm]; exact Nat.div_add_mod j sz
    rw [e1] at c5
    rw [c5]
    congr 1
    have key : ∀ (l : List α) (i : Nat) (k : Nat) (hi : i < l.length) (hk : k < (en l[i]).length), (∀ z ∈ l, (en z).length = sz) → (l.flatMap en)[i * sz + k]? = some ((en l[i])[k]) := by
      intro l
      induction l with
      | nil => intro i k hi; simp at hi
      | cons z l ih =>
        intro i k hi hk hl
        cases i with
        | zero =>
          simp only [List.flatMap_cons, Nat.zero_mul, Nat.zero_add, List.getElem_cons_zero] at hk ⊢
          rw [List.getElem?_append_left hk, List.getElem?_eq_getElem hk]
        | succ i =>
          simp only [List.flatMap_cons, List.getElem_cons_succ] at hk ⊢
          have hzl := hl z List.mem_cons_self
          rw [List.getElem?_append_right (by rw [Nat.add_mul]; omega)]
          have e2 : (i + 1) * sz + k - (en z).length = i * sz + k := by rw [Nat.add_mul]; omega
          rw [e2]
          exact ih i k (by simpa using hi) hk (fun y hy => hl y (List.mem_cons_of_mem _ hy))
    have k1 := key xs (j / sz) (j % sz) hd (by omega) (fun z hz => (hall z hz).2)
    rw [e1, List.getElem?_eq_getElem hj] at k1
    exact (Option.some.inj k1).symm
theorem arg_list {α : Type} {r : Reach} {b0 : Nat} {t e : TypeId} {v : Value} {d : DataW H} {ps : List MemPlace} (ht : P.underlying t = some (.slice e)) {sz : Nat} (hsz : P.cellsOf e = sz) (hpos : 0 < sz)
    (hv : Value.okWide P w r b0 t v) (h : DataW.Trod enc P w base spare held t v d ps) (en : α → List Value) (Good : α → Prop)
    (dec : ∀ n cs y, DataW.trod enc P w base spare held n e cs = some y → cs.length = sz → ∃ z, cs = en z ∧ Good z) :
    ∃ A c, ∃ xs : List α, v = .slice A xs.length c ∧ Row w (· < w.heap.size) A (xs.flatMap en) ∧ (∀ z ∈ xs, Good z ∧ (en z).length = sz) ∧ xs.length ≤ c ∧ c ≤ maxLen ∧ (xs.flatMap en).length = xs.length * sz := by
  obtain ⟨fuel, hf⟩ := h
  obtain ⟨a, len, cap, rfl⟩ := okWide_slice ht hv
  obtain ⟨A, c, xs, h1, h2⟩ := open_list ht hsz hpos hf en Good dec
  simp only [Value.cells, List.cons.injEq, and_true] at h1
  exact ⟨A, c, xs, h1, h2⟩
theorem flat1 {α : Type} (f : α → Value) (xs : List α) : xs.flatMap (fun z => [f z]) = xs.map f := by
  induction xs with
  | nil => rfl
  | cons x xs ih => simp [ih]
end
end Go.Mw
namespace Go.Proofs.YtnbcglnefoinlaaGreat
open Go.Mw Go.ChangeShapes Go.WideShapes Go.ChangeAt Go.RowKit Go.Deep Go.Joins
set_option linter.unusedVariables false
set_option maxRecDepth 100000
variable {H : Type} {enc : TypeId × Value → H}
theorem dec_w {W : World} {base : Nat} {spare : Nat → Bool} {held : Bool} (n : Nat) (cs : List Value) (y : DataW H × List MemPlace) (h : DataW.trod enc Tryz.prog W base spare held n 53 cs = some y)
    (hl : cs.length = 1) : ∃ z : W64, cs = [vw z] ∧ True := by
  obtain ⟨a0, h0, g0⟩ := dec_int Tryz.underlying53 h
  have := wf_u64 g0
  refine ⟨BitVec.ofNat 64 a0.toNat, ?_, trivial⟩
  subst h0
  have e : ((BitVec.ofNat 64 a0.toNat).toNat : Int) = a0 := by
    rw [BitVec.toNat_ofNat, Nat.mod_eq_of_lt (by omega)]; omega
  show [Value.int .u64 a0] = [Value.int .u64 ((BitVec.ofNat 64 a0.toNat).toNat : Int)]
  rw [e]
theorem arg_words {b0 : Nat} {W : World} {v0 : Value} {d0 : DataW H} {p0 : List MemPlace} (w0 : Value.okWide Tryz.prog W .any b0 23 v0) (h0 : DataW.Trod enc Tryz.prog W 0 (fun _ => true) true 23 v0 d0 p0) :
    ∃ xs : List W64, LV vw W (· < W.heap.size) v0 xs := by
  obtain ⟨A, c, xs, rfl, hr, hx, hc, _, _⟩ := arg_list Tryz.underlying23 (by kernel_rfl) (by decide) w0 h0 (fun z => [vw z]) (fun _ => True) dec_w
  rw [flat1] at hr
  exact ⟨xs, A, c, rfl, hr, hc⟩
section
variable {W : World} {base : Nat} {spare : Nat → Bool} {held : Bool}
theorem flds {t : TypeId} {fs : Array Field} {fuel : Nat} {cs : List Value} {x : DataW H × List MemPlace} (ht : Tryz.prog.underlying t = some (.struct fs)) (h : DataW.trod enc Tryz.prog W base spare held fuel t cs = some x) :
    ∃ n, cs.length = Tryz.prog.cellsOf t ∧ ∀ (i : Nat) (f : Field) (o k : Nat) (u : TypeId), fs[i]? = some f → f.offset = o → f.type = u → Tryz.prog.cellsOf u = k → ∃ y, DataW.trod enc Tryz.prog W base spare held n u ((cs.drop o).take k) = some y := by
  obtain ⟨xs, n, _, _, hl, hxl, hf⟩ := DataW.trod_struct ht h
  refine ⟨n, hl, fun i f o k u hi ho hu hk => ?_⟩
  have := hf i f hi
  subst ho hu hk
  rw [this]
  have hlt : i < xs.length := by
    rw [hxl]
    exact (Array.getElem?_eq_some_iff.1 hi).1
  exact ⟨xs[i], List.getElem?_eq_getElem hlt⟩
theorem cI : Tryz.prog.cellsOf 3 = 1 := by kernel_rfl
theorem cW : Tryz.prog.cellsOf 53 = 1 := by kernel_rfl
theorem one_int {n : Nat} {v : Value} {y : DataW H × List MemPlace} (h : DataW.trod enc Tryz.prog W base spare held n 3 [v] = some y) : ∃ z : Int, v = vi z := by
  obtain ⟨a0, h0, _⟩ := dec_int Tryz.underlying3 h
  simp only [List.cons.injEq, and_true] at h0
  exact ⟨a0, h0⟩
theorem dec_dd (n : Nat) (cs : List Value) (y : DataW H × List MemPlace) (h : DataW.trod enc Tryz.prog W base spare held n 65 cs = some y)
    (hl : cs.length = 6) : ∃ z : Nd, cs = z.cells ∧ True := by
  obtain ⟨m, _, hf⟩ := flds Tryz.underlying65 h
  match cs, hl with
  | [c0, c1, c2, c3, c4, c5], _ =>
    obtain ⟨y0, e0⟩ := hf 0 _ 0 1 3 rfl rfl rfl cI
    obtain ⟨y1, e1⟩ := hf 1 _ 1 1 3 rfl rfl rfl cI
    obtain ⟨y2, e2⟩ := hf 2 _ 2 1 3 rfl rfl rfl cI
    obtain ⟨y3, e3⟩ := hf 3 _ 3 1 3 rfl rfl rfl cI
    obtain ⟨y4, e4⟩ := hf 4 _ 4 1 3 rfl rfl rfl cI
    obtain ⟨y5, e5⟩ := hf 5 _ 5 1 53 rfl rfl rfl cW
    obtain ⟨z0, rfl⟩ := one_int (v := c0) e0
    obtain ⟨z1, rfl⟩ := one_int (v := c1) e1
    obtain ⟨z2, rfl⟩ := one_int (v := c2) e2
    obtain ⟨z3, rfl⟩ := one_int (v := c3) e3
    obtain ⟨z4, rfl⟩ := one_int (v := c4) e4
    obtain ⟨z5, h5, _⟩ := dec_w _ _ _ e5 rfl
    have h5 : [c5] = [vw z5] := h5
    simp only [List.cons.injEq, and_true] at h5
    subst h5
    exact ⟨⟨z0, z1, z2, z3, z4, z5⟩, rfl, trivial⟩
end
theorem arg_deeds {b0 : Nat} {W : World} {v0 : Value} {d0 : DataW H} {p0 : List MemPlace} (w0 : Value.okWide Tryz.prog W .any b0 22 v0) (h0 : DataW.Trod enc Tryz.prog W 0 (fun _ => true) true 22 v0 d0 p0) :
    ∃ xs : List Nd, LN Nd.cells W (· < W.heap.size) v0 xs := by
  obtain ⟨A, c, xs, rfl, hr, hx, hc, _, _⟩ := arg_list Tryz.underlying22 (by kernel_rfl) (by decide) w0 h0 Nd.cells (fun _ => True) dec_dd
  exact ⟨xs, A, c, rfl, hr, hc⟩
end Go.Proofs.YtnbcglnefoinlaaGreat
namespace Go.Proofs.YtnbcglnefoinlaaGreat
open Go.Mw Go.ChangeShapes Go.WideShapes Go.ChangeAt Go.RowKit Go.Deep Go.Joins
set_option linter.unusedVariables false
set_option maxRecDepth 100000
variable {H : Type} {enc : TypeId × Value → H}
theorem dec_8 {W : World} {base : Nat} {spare : Nat → Bool} {held : Bool} (n : Nat) (cs : List Value) (y : DataW H × List MemPlace) (h : DataW.trod enc Tryz.prog W base spare held n 5 cs = some y)
    (hl : cs.length = 1) : ∃ z : Int, cs = [v8 z] ∧ (0 ≤ z ∧ z < 256) := by
  obtain ⟨a0, h0, g0⟩ := dec_int Tryz.underlying5 h
  refine ⟨a0, h0, ?_⟩
  simp [Lit.wf, IntKind.min, IntKind.max, IntKind.signed, IntKind.bits] at g0
  omega
theorem arg_order {b0 : Nat} {W : World} {v0 : Value} {d0 : DataW H} {p0 : List MemPlace} (w0 : Value.okWide Tryz.prog W .any b0 24 v0) (h0 : DataW.Trod enc Tryz.prog W 0 (fun _ => true) true 24 v0 d0 p0) :
    ∃ xs : List Int, LV v8 W (· < W.heap.size) v0 xs ∧ ∀ z ∈ xs, 0 ≤ z ∧ z < 256 := by
  obtain ⟨A, c, xs, rfl, hr, hx, hc, _, _⟩ := arg_list Tryz.underlying24 (by kernel_rfl) (by decide) w0 h0 (fun z => [v8 z]) (fun z => 0 ≤ z ∧ z < 256) dec_8
  rw [flat1] at hr
  exact ⟨xs, ⟨A, c, rfl, hr, hc⟩, fun z hz => (hx z hz).1⟩
theorem blastMeans_law {b0 b1 b2 : Nat} (W : World) {v0 v1 v2 : Value} {d0 d1 d2 : DataW H} {p0 p1 p2 : List MemPlace} (w0 : Value.okWide Tryz.prog W .any b0 22 v0) (h0 : DataW.Trod enc Tryz.prog W 0 (fun _ => true) true 22 v0 d0 p0)
    (w1 : Value.okWide Tryz.prog W .any b1 23 v1) (h1 : DataW.Trod enc Tryz.prog W 0 (fun _ => true) true 23 v1 d1 p1) (w2 : Value.okWide Tryz.prog W .any b2 24 v2) (h2 : DataW.Trod enc Tryz.prog W 0 (fun _ => true) true 24 v2 d2 p2) :
    Ret Tryz.prog 3 #[v0, v1, v2] W (fun v w' => v = .bool true ∧ Keep W w' No) := by
  obtain ⟨l, h⟩ := arg_deeds w0 h0
  obtain ⟨env, g⟩ := arg_words w1 h1
  obtain ⟨ord, ho, hz⟩ := arg_order w2 h2
  exact blastMeans_ret h g ho hz
end Go.Proofs.YtnbcglnefoinlaaGreat
