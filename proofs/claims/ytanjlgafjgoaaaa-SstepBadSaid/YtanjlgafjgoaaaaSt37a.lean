import Derived.Test.YtanjlgafjgoaaaaSt37p
import Derived.Test.YtanjlgafjgoaaaaFold37b
namespace Go.Proofs.Ytanjlgafjgoaaaa
open Go.Mw
set_option linter.unusedVariables false
set_option linter.unusedSimpArgs false
set_option maxRecDepth 100000
attribute [local irreducible] M.val M.unit M.next M.pick M.new M.nilCheck M.load1 M.loadA M.store M.fieldAddr M.indexSl M.indexArr M.slice M.makeSlice M.buildSlice M.len M.lenS M.cap M.append M.extract M.conv M.not M.neg M.bin M.shift M.eqB M.eqNil M.scat M.call M.callv M.gd M.share M.cond M.loop M.draw pureW readW Ret

abbrev zSy : List Value := [vi 0, vi 0, vi 0, vi 0, vi 0, vi 0, vi 0, vi 0, .slice none 0 0, vi 0, vi 0, vi 0, vi 0, vi 0, vi 0, .slice none 0 0, .slice none 0 0, vi 0, .slice none 0 0]
theorem sy_vals_one {w : World} {D : Nat → Prop} {s : Sy} {c a b d : Value} (hc : LV vi w D c s.cells) (hd : SDvO w D a b s.dev) (hk : LV vi w D d s.conds) : ∀ y ∈ s.vals c a b d, y.oneCell' = true := by
  intro y hy
  unfold Sy.vals at hy
  rcases List.mem_append.1 hy with h | h
  · exact vi_one _ y h
  · simp only [List.mem_cons, List.not_mem_nil, or_false] at h
    rcases h with h | h | h | h | h | h | h | h | h | h | h <;> subst h
    · exact LV.one hc
    all_goals first | rfl | exact LV.one hd.1 | exact LN.one hd.2 | exact LV.one hk
theorem M.putSy_i {k : Kt} {w : World} {D : Nat → Prop} {v : Value} {s : Sy} {b : Nat} {l : List Value} (hv : SyO w D v s) (hb : Blk w b l) (hl : l.length = 19)
    (h : ∀ w' L, Blk w' b L → v = .agg ⟨L⟩ → L.length = 19 → Keep w w' (· = b) → w'.heap.size = w.heap.size → k undef w') : M.store 19 (ptr b) v k w := by
  obtain ⟨h8, c, a, bb, d, rfl, hc, hd, hk⟩ := hv
  have hlen : (s.vals c a bb d).length = 19 := by simp [Sy.vals, h8]
  exact M.storeAll_i hb hlen hl (sy_vals_one hc hd hk) (fun w' b' k' s' => h w' _ b' rfl hlen k' s')
theorem M.getV_i {k : Kt} {w : World} {v : Value} {b n : Nat} {L : List Value} (hb : Blk w b L) (hv : v = .agg ⟨L⟩) (hl : L.length = n) (h : k v w) : M.loadA n (ptr b) k w := by
  subst hv
  exact M.loadAll_i hb hl h
/-- What a step may not touch. -/
def Fr (F : Nat → Prop) (pb : Nat) (ov : Value) : Nat → Prop := fun x => ¬ F x ∧ x ≠ pb ∧ ¬ blkOf ov x
def Ch (F : Nat → Prop) (pb : Nat) (ov : Value) : Nat → Prop := fun x => F x ∨ x = pb ∨ blkOf ov x
def OutO (w : World) (D : Nat → Prop) (ov : Value) (outs : List Sy) : Prop :=
  ∃ cs : List (List Value), GC w (blkOf ov) 19 ov outs.length cs.flatten ∧ cs.length = outs.length ∧ ∀ (k : Nat) v s, cs[k]? = some v → outs[k]? = some s → SyO w D (.agg ⟨v⟩) s
abbrev stpL (p : Nat) (sv : List Value) (i : Ins) (inputs mw : Int) (ov : Value) (e : Int) : List Value := ptr p :: (sv ++ (i.cells ++ [vi inputs, vi mw, ov, vi e]))
structure Stp (w : World) (F : Nat → Prop) (p pb : Nat) (N : List Nd) (most : Int) (s : Sy) (sv : List Value) (i : Ins) (inputs mw : Int) (ov : Value) (outs : List Sy) (e : Int) : Prop where
  dag : DagO w F p N most
  nF : ¬ F pb
  blk : Blk w pb (stpL p sv i inputs mw ov e)
  oo : OutO w (Fr F pb ov) ov outs
  on : ∀ x, blkOf ov x → ¬ F x ∧ x ≠ pb
  sy : SyO w (Fr F pb ov) (.agg ⟨sv⟩) s
/-- What a method brings about: only what may be touched is. -/
structure Mv (w : World) (F : Nat → Prop) (pb : Nat) (ov : Value) (w' : World) (F' : Nat → Prop) (ov' : Value) : Prop where
  keep : Keep w w' (Ch F pb ov)
  fF : ∀ b, b < w.heap.size → F' b → F b
  fo : ∀ b, b < w.heap.size → blkOf ov' b → blkOf ov b
theorem Mv.trans {w w1 w2 : World} {F F1 F2 : Nat → Prop} {pb : Nat} {ov o1 o2 : Value} (h : Mv w F pb ov w1 F1 o1) (k : Mv w1 F1 pb o1 w2 F2 o2) : Mv w F pb ov w2 F2 o2 := by
  have q := h.keep.size
  refine ⟨h.keep.trans k.keep (fun b hb hc => ?_), fun b hb hc => h.fF b hb (k.fF b (by omega) hc), fun b hb hc => h.fo b hb (k.fo b (by omega) hc)⟩
  rcases hc with hc | hc | hc
  · exact .inl (h.fF b hb hc)
  · exact .inr (.inl hc)
  · exact .inr (.inr (h.fo b hb hc))
theorem Mv.none {w w1 : World} {F : Nat → Prop} {pb : Nat} {ov : Value} (k : Keep w w1 No) : Mv w F pb ov w1 F ov := ⟨k.mono (fun _ _ h => h.elim), fun _ _ h => h, fun _ _ h => h⟩
theorem Mv.pre {w w1 w2 : World} {F F2 : Nat → Prop} {pb : Nat} {ov o2 : Value} (k : Keep w w1 No) (h : Mv w1 F pb ov w2 F2 o2) : Mv w F pb ov w2 F2 o2 := (Mv.none k).trans h
theorem Mv.fr {w w' : World} {F F' : Nat → Prop} {pb : Nat} {ov ov' : Value} (h : Mv w F pb ov w' F' ov') {b : Nat} (hb : b < w.heap.size) (hf : Fr F pb ov b) : Fr F' pb ov' b :=
  ⟨fun x => hf.1 (h.fF b hb x), hf.2.1, fun x => hf.2.2 (h.fo b hb x)⟩
theorem Mv.frc {F : Nat → Prop} {pb : Nat} {ov : Value} {b : Nat} (hf : Fr F pb ov b) : ¬ Ch F pb ov b := fun h => by
  rcases h with h | h | h
  · exact hf.1 h
  · exact hf.2.1 h
  · exact hf.2.2 h
theorem SyO.mv {w w' : World} {F F' : Nat → Prop} {pb : Nat} {ov ov' v : Value} {s : Sy} (m : Mv w F pb ov w' F' ov') (h : SyO w (Fr F pb ov) v s) : SyO w' (Fr F' pb ov') v s :=
  (h.mono (D' := fun b => b < w.heap.size ∧ Fr F pb ov b) (fun b hb hf => ⟨hb, hf⟩)).keep m.keep (fun b hb hf => Mv.frc hf.2) |>.mono (fun b _ hf => m.fr hf.1 hf.2)
theorem LV.mv {α : Type} {f : α → Value} {w w' : World} {F F' : Nat → Prop} {pb : Nat} {ov ov' v : Value} {xs : List α} (m : Mv w F pb ov w' F' ov') (h : LV f w (Fr F pb ov) v xs) : LV f w' (Fr F' pb ov') v xs :=
  (h.mono (D' := fun b => b < w.heap.size ∧ Fr F pb ov b) (fun b hb hf => ⟨hb, hf⟩)).keep m.keep (fun b hb hf => Mv.frc hf.2) |>.mono (fun b _ hf => m.fr hf.1 hf.2)
theorem SDvO.mv {w w' : World} {F F' : Nat → Prop} {pb : Nat} {ov ov' a b : Value} {d : SDv} (m : Mv w F pb ov w' F' ov') (h : SDvO w (Fr F pb ov) a b d) : SDvO w' (Fr F' pb ov') a b d :=
  (h.mono (D' := fun b => b < w.heap.size ∧ Fr F pb ov b) (fun b hb hf => ⟨hb, hf⟩)).keep m.keep (fun b hb hf => Mv.frc hf.2) |>.mono (fun b _ hf => m.fr hf.1 hf.2)
theorem Blk.mv {w w' : World} {F F' : Nat → Prop} {pb q : Nat} {ov ov' : Value} {l : List Value} (m : Mv w F pb ov w' F' ov') (h : Blk w q l) (hq : Fr F pb ov q) : Blk w' q l ∧ Fr F' pb ov' q :=
  ⟨h.keep m.keep (Mv.frc hq), m.fr h.lt hq⟩
theorem OutO.mv {w w' : World} {F F' : Nat → Prop} {pb : Nat} {ov : Value} {outs : List Sy} (m : Mv w F pb ov w' F' ov) (hk : ∀ x, blkOf ov x → x < w.heap.size → w'.heap[x]? = w.heap[x]?) (h : OutO w (Fr F pb ov) ov outs) : OutO w' (Fr F' pb ov) ov outs := by
  obtain ⟨cs, h1, h2, h3⟩ := h
  refine ⟨cs, ?_, h2, fun k v s g1 g2 => (h3 k v s g1 g2).mv m⟩
  obtain ⟨h0, h | ⟨b, c, rest, e1, e2, e3, e4⟩⟩ := h1
  · exact ⟨h0, .inl h⟩
  · refine ⟨h0, .inr ⟨b, c, rest, e1, e2, ?_, e4⟩⟩
    obtain ⟨T, hT⟩ := e3
    exact ⟨T, by rw [hk b e2 (lt_of_heap hT)]; exact hT⟩
section
variable {w : World} {F : Nat → Prop} {p pb : Nat} {N : List Nd} {most : Int} {s : Sy} {sv : List Value} {i : Ins} {inputs mw : Int} {ov : Value} {outs : List Sy} {e : Int}
theorem Stp.keepN {w' : World} (h : Stp w F p pb N most s sv i inputs mw ov outs e) (k : Keep w w' No) : Stp w' F p pb N most s sv i inputs mw ov outs e := by
  have m : Mv w F pb ov w' F ov := Mv.none k
  exact ⟨h.dag.keepN k, h.nF, h.blk.keep k (fun h => h), h.oo.mv m (fun x _ hx => k.blk x hx (fun h => h)), h.on, h.sy.mv m⟩
/-- The terms grow. -/
theorem Stp.ask {w' : World} {F' : Nat → Prop} {N' : List Nd} (h : Stp w F p pb N most s sv i inputs mw ov outs e) (hd : DagO w' F' p N' most) (hF : ∀ b, b < w.heap.size → F' b → F b) (k : Keep w w' F) :
    Stp w' F' p pb N' most s sv i inputs mw ov outs e ∧ Mv w F pb ov w' F' ov := by
  have m : Mv w F pb ov w' F' ov := ⟨k.mono (fun _ _ h => .inl h), hF, fun _ _ h => h⟩
  have hblt : ∀ x, blkOf ov x → x < w.heap.size := fun x hx => by
    obtain ⟨cs, h1, _⟩ := h.oo
    obtain ⟨_, l, hl⟩ := GC.blkOf h1 hx
    exact hl.lt
  refine ⟨⟨hd, fun hx => h.nF (hF pb h.blk.lt hx), h.blk.keep k h.nF, h.oo.mv m (fun x hx hlt => k.blk x hlt (h.on x hx).1), fun x hx => ⟨fun hf => (h.on x hx).1 (hF x (hblt x hx) hf), (h.on x hx).2⟩, h.sy.mv m⟩, m⟩
/-- The error is put down. -/
theorem Stp.put {w' : World} {e' : Int} (h : Stp w F p pb N most s sv i inputs mw ov outs e) (hb : Blk w' pb (stpL p sv i inputs mw ov e')) (k : Keep w w' (· = pb)) :
    Stp w' F p pb N most s sv i inputs mw ov outs e' ∧ Mv w F pb ov w' F ov := by
  have m : Mv w F pb ov w' F ov := ⟨k.mono (fun _ _ h => .inr (.inl h)), fun _ _ h => h, fun _ _ h => h⟩
  exact ⟨⟨h.dag.keep k (fun b hb hx => h.nF (by have hx : b = pb := hx; rw [← hx]; exact hb)), h.nF, hb, h.oo.mv m (fun x hx hlt => k.blk x hlt (h.on x hx).2), h.on, h.sy.mv m⟩, m⟩
theorem SyO.len19 {D : Nat → Prop} (h : SyO w D (.agg ⟨sv⟩) s) : sv.length = 19 := by
  obtain ⟨h8, c, a, b, d, h2, _⟩ := h
  simp only [Value.agg.injEq, Array.mk.injEq] at h2
  rw [h2]; simp [Sy.vals, h8]
theorem stpL_len (h : sv.length = 19) : (stpL p sv i inputs mw ov e).length = 29 := by simp [stpL, Ins.cells, h]
theorem stpL_p : (stpL p sv i inputs mw ov e)[0]? = some (ptr p) := by simp [stpL]
theorem stpL_sv (h : sv.length = 19) {k : Nat} (hk : k < 19) : (stpL p sv i inputs mw ov e)[k + 1]? = sv[k]? := by
  rw [List.getElem?_cons_succ, List.getElem?_append_left (by omega)]
theorem stpL_tail (h : sv.length = 19) {k : Nat} : (stpL p sv i inputs mw ov e)[k + 20]? = (i.cells ++ [vi inputs, vi mw, ov, vi e])[k]? := by
  rw [show k + 20 = (k + 19) + 1 by omega, List.getElem?_cons_succ, List.getElem?_append_right (by omega), h, show k + 19 - 19 = k by omega]
theorem stpL_all (h : sv.length = 19) : ((stpL p sv i inputs mw ov e).drop 1).take 19 = sv := by
  rw [List.drop_succ_cons, List.drop_zero, List.take_append_of_le_length (by omega), List.take_of_length_le (by omega)]
theorem stpL_setE (h : sv.length = 19) (e' : Int) : (stpL p sv i inputs mw ov e).set 28 (vi e') = stpL p sv i inputs mw ov e' := by
  rw [show (28 : Nat) = 27 + 1 from rfl, List.set_cons_succ, List.set_append_right _ _ (by omega), h]; rfl
theorem stpL_setO (h : sv.length = 19) (ov' : Value) : (stpL p sv i inputs mw ov e).set 27 ov' = stpL p sv i inputs mw ov' e := by
  rw [show (27 : Nat) = 26 + 1 from rfl, List.set_cons_succ, List.set_append_right _ _ (by omega), h]; rfl
variable (h : Stp w F p pb N most s sv i inputs mw ov outs e)
include h
theorem Stp.cp : w.cell? ⟨pb, 0, none⟩ = some (ptr p) := h.blk.cell stpL_p
theorem Stp.ce : w.cell? ⟨pb, 28, none⟩ = some (vi e) := h.blk.cell (stpL_tail h.sy.len19 (k := 8))
theorem Stp.co : w.cell? ⟨pb, 27, none⟩ = some ov := h.blk.cell (stpL_tail h.sy.len19 (k := 7))
theorem Stp.cin : w.cell? ⟨pb, 25, none⟩ = some (vi inputs) := h.blk.cell (stpL_tail h.sy.len19 (k := 5))
theorem Stp.cmw : w.cell? ⟨pb, 26, none⟩ = some (vi mw) := h.blk.cell (stpL_tail h.sy.len19 (k := 6))
theorem Stp.cop : w.cell? ⟨pb, 20, none⟩ = some (vi i.op) := h.blk.cell (stpL_tail h.sy.len19 (k := 0))
theorem Stp.cA : w.cell? ⟨pb, 21, none⟩ = some (vi i.a) := h.blk.cell (stpL_tail h.sy.len19 (k := 1))
theorem Stp.cB : w.cell? ⟨pb, 22, none⟩ = some (vi i.b) := h.blk.cell (stpL_tail h.sy.len19 (k := 2))
theorem Stp.cC : w.cell? ⟨pb, 23, none⟩ = some (vi i.c) := h.blk.cell (stpL_tail h.sy.len19 (k := 3))
theorem Stp.cI : w.cell? ⟨pb, 24, none⟩ = some (vw i.imm) := h.blk.cell (stpL_tail h.sy.len19 (k := 4))
/-- A register's cell. -/
theorem Stp.creg {r : Int} (h0 : 0 ≤ r) (h1 : r ≤ 7) : w.cell? ⟨pb, 1 + r.toNat, none⟩ = some (vi (s.reg r)) := by
  refine h.blk.cell ?_
  rw [Nat.add_comm, stpL_sv h.sy.len19 (by omega)]
  obtain ⟨h8, c, a, b, d, h2, _⟩ := h.sy
  simp only [Value.agg.injEq, Array.mk.injEq] at h2
  rw [h2]
  unfold Sy.vals
  rw [List.getElem?_append_left (by simp; omega), List.getElem?_map, List.getElem?_eq_getElem (by omega)]
  unfold Sy.reg
  rw [List.getD_eq_getElem?_getD, List.getElem?_eq_getElem (by omega)]; rfl
theorem Stp.svs {k : Kt} (hk : k (.agg ⟨sv⟩) w) : M.loadA 19 (.pointer (some ⟨pb, 1, none⟩)) k w := by
  have hl := h.sy.len19
  refine M.loadA_i h.blk (by rw [stpL_len hl]; omega) ?_
  rw [stpL_all hl]; exact hk
end
end Go.Proofs.Ytanjlgafjgoaaaa
