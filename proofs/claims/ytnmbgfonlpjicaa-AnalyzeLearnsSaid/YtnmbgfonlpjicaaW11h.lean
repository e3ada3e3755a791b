import Derived.Test.YtnmbgfonlpjicaaTrailL
import Derived.Test.YtnmbgfonlpjicaaSlices
import Derived.Test.YtnmbgfonlpjicaaMapI
import Derived.Test.YtnmbgfonlpjicaaLnGw
namespace Go.Proofs.Ytnmbgfonlpjicaa
open Go.Mw Go.MapKept
set_option linter.unusedVariables false
set_option linter.unusedSimpArgs false
set_option maxRecDepth 100000
attribute [local irreducible] M.val M.unit M.next M.pick M.new M.nilCheck M.load1 M.loadA M.store M.fieldAddr M.indexSl M.indexArr M.slice M.makeSlice M.buildSlice M.len M.lenS M.cap M.append M.extract M.conv M.not M.neg M.bin M.shift M.eqB M.eqNil M.call M.callv M.gd M.share M.cond M.loop M.draw pureW readW Ret
/-! ### watches: the memory -/
structure Wc where
  n : Nat
  lits : List Int
  whole : Bool
structure Hd where
  l : Int
  born : Int
deriving DecidableEq
def Hd.cells (h : Hd) : List Value := [vi h.l, vi h.born]
theorem hd_len (h : Hd) : h.cells.length = 2 := rfl
structure Wt where
  vars : Nat
  ever : Nat
  cls : List Wc
  by1 : List (List Int)
  whole : List Int
  done : List Hd
def Wt.get (s : Wt) (i : Int) : Option Wc := s.cls.find? (fun c => decide ((c.n : Int) = i))
def kvW (bk : Nat → Nat) (cls : List Wc) : List (Int × Value) := cls.map (fun c => ((c.n : Int), ptr (bk c.n)))
/-- The block of a slice that grows. -/
def blkOf (v : Value) (b : Nat) : Prop := ∃ n c, v = .slice (some ⟨b, 0, none⟩) n c
theorem GC.own {w : World} {L : Nat → Prop} {sz n : Nat} {v : Value} {l : List Value} (h : GC w L sz v n l) : GC w (blkOf v) sz v n l := by
  obtain ⟨h0, h | ⟨b, c, rest, h1, h2, h3, h4⟩⟩ := h
  · exact ⟨h0, .inl h⟩
  · exact ⟨h0, .inr ⟨b, c, rest, h1, ⟨n, c, h1⟩, h3, h4⟩⟩
theorem GC.blkOf {w : World} {L : Nat → Prop} {sz n : Nat} {v : Value} {l : List Value} (h : GC w L sz v n l) {b : Nat} (hb : blkOf v b) : L b ∧ b < w.heap.size := by
  obtain ⟨n', c', hv⟩ := hb
  obtain ⟨h0, ⟨h1, _⟩ | ⟨b', c, rest, h1, h2, h3, h4⟩⟩ := h
  · rw [hv] at h1; simp at h1
  · rw [hv] at h1
    simp only [Value.slice.injEq, Option.some.injEq, Addr.mk.injEq, and_true] at h1
    rw [h1.1]
    exact ⟨h2, h3.lt⟩
theorem lkp_kv (bk : Nat → Nat) (i : Int) : ∀ cls : List Wc, lkp (kvW bk cls) i = (cls.find? (fun c => decide ((c.n : Int) = i))).map (fun c => ptr (bk c.n))
  | [] => rfl
  | c :: cls => by
    have ih := lkp_kv bk i cls
    unfold lkp kvW at ih ⊢
    simp only [List.map_cons, List.find?_cons]
    by_cases h : (c.n : Int) = i
    · simp [h]
    · simp only [h, decide_false]
      exact ih
open Classical in
noncomputable def relX (ow : Nat → Nat) (v : Value) (j : Nat) : Nat → Nat := fun b => if blkOf v b then j else if ow b = j then 0 else ow b
theorem relX_at {ow : Nat → Nat} {v : Value} {j b : Nat} (h : blkOf v b) : relX ow v j b = j := by unfold relX; rw [if_pos h]
theorem relX_other {ow : Nat → Nat} {v : Value} {j i b : Nat} (hv : ∀ b, blkOf v b → ow b = j ∨ ow b = 0) (hi : ow b = i) (hij : i ≠ j) (h0 : i ≠ 0) : relX ow v j b = i := by
  unfold relX
  rw [if_neg (fun h => by have := hv b h; omega), if_neg (by omega), hi]
theorem relX_le {ow : Nat → Nat} {v : Value} {j b : Nat} (h : relX ow v j b ≠ 0) : ow b ≠ 0 ∨ blkOf v b := by
  unfold relX at h
  split at h
  · right; assumption
  · split at h
    · exact absurd rfl h
    · left; exact h
structure WB (w : World) (q : Nat) (ow bk : Nat → Nat) (cv : Nat → Value) (s : Wt) (r : Nat) (vb vw1 vd : Value) (bvs : List Value) : Prop where
  st : Blk w q [vi s.vars, vi s.ever, .map (some r), vb, vw1, vd]
  mp : MapO w r (kvW bk s.cls)
  by0 : GC w (ow · = 3) 1 vb bvs.length bvs
  byl : bvs.length = s.by1.length
  byI : ∀ (i : Nat) l, s.by1[i]? = some l → ∃ v, bvs[i]? = some v ∧ GI w (ow · = 6 + 3 * i) v l
  wh : GI w (ow · = 4) vw1 s.whole
  dn : GC w (ow · = 5) 2 vd s.done.length (s.done.flatMap Hd.cells)
  one : ∀ c ∈ s.cls, ow (bk c.n) = 7 + 3 * c.n ∧ Blk w (bk c.n) [cv c.n, .bool c.whole] ∧ GI w (ow · = 8 + 3 * c.n) (cv c.n) c.lits
  oq : ow q = 1
  orr : ow r = 2
  lt : ∀ b, ow b ≠ 0 → b < w.heap.size
section
variable {w w1 : World} {q r : Nat} {ow bk : Nat → Nat} {cv : Nat → Value} {s : Wt} {vb vw1 vd : Value} {bvs : List Value}
theorem WB.keep {S : Nat → Prop} (h : WB w q ow bk cv s r vb vw1 vd bvs) (k : Keep w w1 S) (hs : ∀ b, ow b ≠ 0 → ¬ S b) : WB w1 q ow bk cv s r vb vw1 vd bvs := by
  refine ⟨h.st.keep k (hs q (by have := h.oq; omega)), h.mp.keep k (hs r (by have := h.orr; omega)), h.by0.keep k (fun b hb e => hs b (by omega)), h.byl, fun i l hl => ?_, h.wh.keep k (fun b hb e => hs b (by omega)), h.dn.keep k (fun b hb e => hs b (by omega)), fun c hc => ?_, h.oq, h.orr, fun b hb => Nat.lt_of_lt_of_le (h.lt b hb) k.size⟩
  · obtain ⟨v, h1, h2⟩ := h.byI i l hl
    exact ⟨v, h1, h2.keep k (fun b hb e => hs b (by omega))⟩
  · obtain ⟨h0, h1, h2⟩ := h.one c hc
    exact ⟨h0, h1.keep k (hs _ (by omega)), h2.keep k (fun b hb e => hs b (by omega))⟩
theorem WB.all_i {k : Kt} (h : WB w q ow bk cv s r vb vw1 vd bvs) (i : Int) (hk : k (match s.get i with | some c => ptr (bk c.n) | none => nilp) w) :
    readW Try.prog (Instr.lookup 61 (.map (some r)) (vi i) false) k w := by
  refine M.lookup_i (kt := 3) (et := 65) (z := nilp) (by kernel_rfl) (by kernel_rfl) (fun w => Try.zeroValue65 w) h.mp ?_
  rw [lkp_kv]
  unfold Wt.get at hk
  cases hf : s.cls.find? (fun c => decide ((c.n : Int) = i)) with
  | none => rw [hf] at hk; exact hk
  | some c => rw [hf] at hk; exact hk
theorem get_some {i : Int} {c : Wc} (h : s.get i = some c) : c ∈ s.cls ∧ (c.n : Int) = i := by
  unfold Wt.get at h
  have h2 := List.find?_some h
  exact ⟨List.mem_of_find?_eq_some h, by simpa using h2⟩
theorem M.byAt_i {k : Kt} (h : WB w q ow bk cv s r vb vw1 vd bvs) {x : Nat} (hx : x < s.by1.length) (hk : ∀ b v l, ow b = 3 → bvs[x]? = some v → s.by1[x]? = some l → GI w (ow · = 6 + 3 * x) v l → w.cell? ⟨b, x, none⟩ = some v → k (.pointer (some ⟨b, x, none⟩)) w) : M.indexSl 1 vb (vi x) k w := by
  have hl := h.byl
  obtain ⟨l, hl1⟩ : ∃ l, s.by1[x]? = some l := ⟨_, List.getElem?_eq_getElem hx⟩
  obtain ⟨v, hv, hg⟩ := h.byI x l hl1
  obtain ⟨b, c, rest, e1, hL, hB, e2⟩ := h.by0.pos (by omega)
  have hk := hk b v l hL hv hl1 hg (hB.cell (by rw [List.getElem?_append_left (by omega)]; exact hv))
  rw [e1]
  refine M.idx_i (by omega) (by omega) ?_
  simpa using hk
/-- 's[i] = v' for a slice of any. -/
theorem M.idxStoreV_i {k : Kt} {w : World} {L : Nat → Prop} {v x : Value} {xs : List Value} {d : IntKind} {i : Nat} (h : GC w L 1 v xs.length xs) (h1 : i < xs.length) (hx : x.oneCell' = true)
    (hk : ∀ w', GC w' L 1 v xs.length (xs.set i x) → Keep w w' L → w'.heap.size = w.heap.size → k undef w') :
    M.indexSl 1 v (.int d i) (fun t w => M.store 1 t x k w) w := by
  obtain ⟨b, c, rest, rfl, hL, hB, hl⟩ := h.pos (by omega)
  refine M.idx_i (by omega) (by omega) ?_
  simp only [Nat.zero_add, Nat.mul_one, Int.toNat_natCast]
  refine M.store_i hB (by simp; omega) hx fun w' hB' hk' hs => ?_
  refine hk w' ?_ (hk'.mono fun j _ hj => hj ▸ hL) hs
  rw [List.set_append_left _ _ h1] at hB'
  exact ⟨by simp, .inr ⟨b, c, rest, rfl, hL, hB', by simpa using hl⟩⟩
theorem WB.setBy (h : WB w q ow bk cv s r vb vw1 vd bvs) {x : Nat} {v' : Value} {l' : List Int} {L : Nat → Prop} (hx : x < s.by1.length) (g : GI w1 L v' l') (hv : ∀ b, L b → ow b = 6 + 3 * x ∨ ow b = 0) (k : Keep w w1 (fun b => ow b = 3 ∨ ow b = 6 + 3 * x)) (hB : GC w1 (ow · = 3) 1 vb bvs.length (bvs.set x v')) :
    WB w1 q (relX ow v' (6 + 3 * x)) bk cv { s with by1 := s.by1.set x l' } r vb vw1 vd (bvs.set x v') := by
  have hv : ∀ b, blkOf v' b → ow b = 6 + 3 * x ∨ ow b = 0 := fun b hb => hv b (GC.blkOf g hb).1
  have hl := h.byl
  refine ⟨h.st.keep k (by have := h.oq; omega), h.mp.keep k (by have := h.orr; omega), ?_, by simp [hl], fun i l hi => ?_, ?_, ?_, fun c hc => ?_, relX_other hv h.oq (by omega) (by omega), relX_other hv h.orr (by omega) (by omega), fun b hb => ?_⟩
  · rw [List.length_set]
    exact hB.mono (fun b _ e => relX_other hv e (by omega) (by omega))
  · by_cases e : i = x
    · subst e
      simp only [List.getElem?_set_self hx, Option.some.injEq] at hi
      subst hi
      exact ⟨v', List.getElem?_set_self (by omega), (GC.own g).mono (fun b _ hb => relX_at hb)⟩
    · simp only [List.getElem?_set_ne (Ne.symm e)] at hi ⊢
      obtain ⟨v, h1, h2⟩ := h.byI i l hi
      exact ⟨v, h1, (h2.keep k (fun b hb e1 => by omega)).mono (fun b _ e1 => relX_other hv e1 (by omega) (by omega))⟩
  · exact (h.wh.keep k (fun b hb e => by omega)).mono (fun b _ e => relX_other hv e (by omega) (by omega))
  · exact (h.dn.keep k (fun b hb e => by omega)).mono (fun b _ e => relX_other hv e (by omega) (by omega))
  · obtain ⟨h0, h1, h2⟩ := h.one c hc
    exact ⟨relX_other hv h0 (by omega) (by omega), h1.keep k (by omega), (h2.keep k (fun b hb e => by omega)).mono (fun b _ e => relX_other hv e (by omega) (by omega))⟩
  · rcases relX_le hb with h1 | h1
    · exact Nat.lt_of_lt_of_le (h.lt b h1) k.size
    · exact (GC.blkOf g h1).2
theorem WB.setWh (h : WB w q ow bk cv s r vb vw1 vd bvs) {v' : Value} {l' : List Int} {L : Nat → Prop} (g : GI w1 L v' l') (hv : ∀ b, L b → ow b = 4 ∨ ow b = 0) (k : Keep w w1 (fun b => b = q ∨ ow b = 4)) (hB : Blk w1 q [vi s.vars, vi s.ever, .map (some r), vb, v', vd]) :
    WB w1 q (relX ow v' 4) bk cv { s with whole := l' } r vb v' vd bvs := by
  have hv : ∀ b, blkOf v' b → ow b = 4 ∨ ow b = 0 := fun b hb => hv b (GC.blkOf g hb).1
  have hq := h.oq
  have kk : ∀ b, ow b ≠ 0 → ow b ≠ 1 → ow b ≠ 4 → ¬ (b = q ∨ ow b = 4) := fun b h1 h2 h3 e => by
    rcases e with e | e
    · subst e; omega
    · omega
  refine ⟨hB, h.mp.keep k (kk _ (by have := h.orr; omega) (by have := h.orr; omega) (by have := h.orr; omega)), ?_, h.byl, fun i l hi => ?_, (GC.own g).mono (fun b _ hb => relX_at hb), ?_, fun c hc => ?_, relX_other hv h.oq (by omega) (by omega), relX_other hv h.orr (by omega) (by omega), fun b hb => ?_⟩
  · exact (h.by0.keep k (fun b hb e => kk b (by omega) (by omega) (by omega))).mono (fun b _ e => relX_other hv e (by omega) (by omega))
  · obtain ⟨v, h1, h2⟩ := h.byI i l hi
    exact ⟨v, h1, (h2.keep k (fun b hb e1 => kk b (by omega) (by omega) (by omega))).mono (fun b _ e1 => relX_other hv e1 (by omega) (by omega))⟩
  · exact (h.dn.keep k (fun b hb e => kk b (by omega) (by omega) (by omega))).mono (fun b _ e => relX_other hv e (by omega) (by omega))
  · obtain ⟨h0, h1, h2⟩ := h.one c hc
    exact ⟨relX_other hv h0 (by omega) (by omega), h1.keep k (kk _ (by omega) (by omega) (by omega)), (h2.keep k (fun b hb e => kk b (by omega) (by omega) (by omega))).mono (fun b _ e => relX_other hv e (by omega) (by omega))⟩
  · rcases relX_le hb with h1 | h1
    · exact Nat.lt_of_lt_of_le (h.lt b h1) k.size
    · exact (GC.blkOf g h1).2
theorem WB.setDn (h : WB w q ow bk cv s r vb vw1 vd bvs) {v' : Value} {l' : List Hd} {L : Nat → Prop} (g : GC w1 L 2 v' l'.length (l'.flatMap Hd.cells)) (hv : ∀ b, L b → ow b = 5 ∨ ow b = 0) (k : Keep w w1 (fun b => b = q ∨ ow b = 5)) (hB : Blk w1 q [vi s.vars, vi s.ever, .map (some r), vb, vw1, v']) :
    WB w1 q (relX ow v' 5) bk cv { s with done := l' } r vb vw1 v' bvs := by
  have hv : ∀ b, blkOf v' b → ow b = 5 ∨ ow b = 0 := fun b hb => hv b (GC.blkOf g hb).1
  have hq := h.oq
  have kk : ∀ b, ow b ≠ 0 → ow b ≠ 1 → ow b ≠ 5 → ¬ (b = q ∨ ow b = 5) := fun b h1 h2 h3 e => by
    rcases e with e | e
    · subst e; omega
    · omega
  refine ⟨hB, h.mp.keep k (kk _ (by have := h.orr; omega) (by have := h.orr; omega) (by have := h.orr; omega)), ?_, h.byl, fun i l hi => ?_, ?_, (GC.own g).mono (fun b _ hb => relX_at hb), fun c hc => ?_, relX_other hv h.oq (by omega) (by omega), relX_other hv h.orr (by omega) (by omega), fun b hb => ?_⟩
  · exact (h.by0.keep k (fun b hb e => kk b (by omega) (by omega) (by omega))).mono (fun b _ e => relX_other hv e (by omega) (by omega))
  · obtain ⟨v, h1, h2⟩ := h.byI i l hi
    exact ⟨v, h1, (h2.keep k (fun b hb e1 => kk b (by omega) (by omega) (by omega))).mono (fun b _ e1 => relX_other hv e1 (by omega) (by omega))⟩
  · exact (h.wh.keep k (fun b hb e => kk b (by omega) (by omega) (by omega))).mono (fun b _ e => relX_other hv e (by omega) (by omega))
  · obtain ⟨h0, h1, h2⟩ := h.one c hc
    exact ⟨relX_other hv h0 (by omega) (by omega), h1.keep k (kk _ (by omega) (by omega) (by omega)), (h2.keep k (fun b hb e => kk b (by omega) (by omega) (by omega))).mono (fun b _ e => relX_other hv e (by omega) (by omega))⟩
  · rcases relX_le hb with h1 | h1
    · exact Nat.lt_of_lt_of_le (h.lt b h1) k.size
    · exact (GC.blkOf g h1).2
/-- A clause is changed where it is. -/
def setC (cls : List Wc) (n : Nat) (f : Wc → Wc) : List Wc := cls.map (fun c => if c.n = n then f c else c)
theorem kv_setC (bk : Nat → Nat) (cls : List Wc) (n : Nat) (f : Wc → Wc) (hf : ∀ c, (f c).n = c.n) : kvW bk (setC cls n f) = kvW bk cls := by
  unfold kvW setC
  rw [List.map_map]
  apply List.map_congr_left
  intro c _
  simp only [Function.comp]
  split
  · rw [hf]
  · rfl
theorem WB.setOne (h : WB w q ow bk cv s r vb vw1 vd bvs) {n : Nat} {lits : List Int} {wh : Bool} (k : Keep w w1 (fun b => b = bk n ∨ ow b = 8 + 3 * n)) (ho : ow (bk n) = 7 + 3 * n) (hB : Blk w1 (bk n) [cv n, .bool wh]) (g : GI w1 (ow · = 8 + 3 * n) (cv n) lits) :
    WB w1 q ow bk cv { s with cls := setC s.cls n (fun c => { c with lits := lits, whole := wh }) } r vb vw1 vd bvs := by
  have kk : ∀ b, ow b ≠ 7 + 3 * n → ow b ≠ 8 + 3 * n → ¬ (b = bk n ∨ ow b = 8 + 3 * n) := fun b h1 h2 e => by
    rcases e with e | e
    · subst e; omega
    · omega
  have hq := h.oq
  have hr := h.orr
  refine ⟨h.st.keep k (kk _ (by omega) (by omega)), ?_, h.by0.keep k (fun b hb e => kk b (by omega) (by omega)), h.byl, fun i l hi => ?_, h.wh.keep k (fun b hb e => kk b (by omega) (by omega)), h.dn.keep k (fun b hb e => kk b (by omega) (by omega)), fun c hc => ?_, h.oq, h.orr, fun b hb => Nat.lt_of_lt_of_le (h.lt b hb) k.size⟩
  · have e := kv_setC bk s.cls n (fun c => { c with lits := lits, whole := wh }) (fun c => rfl)
    show MapO w1 r (kvW bk (setC s.cls n (fun c => { c with lits := lits, whole := wh })))
    rw [e]
    exact h.mp.keep k (kk _ (by omega) (by omega))
  · obtain ⟨v, h1, h2⟩ := h.byI i l hi
    exact ⟨v, h1, h2.keep k (fun b hb e1 => kk b (by omega) (by omega))⟩
  · obtain ⟨d, hd, rfl⟩ := List.mem_map.1 hc
    by_cases e : d.n = n
    · rw [if_pos e]
      subst e
      exact ⟨ho, hB, g⟩
    · rw [if_neg e]
      obtain ⟨h0, h1, h2⟩ := h.one d hd
      exact ⟨h0, h1.keep k (kk _ (by omega) (by omega)), h2.keep k (fun b hb e => kk b (by omega) (by omega))⟩
end
end Go.Proofs.Ytnmbgfonlpjicaa
