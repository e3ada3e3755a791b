import Derived.Test.YtkpgmbifaohjgaaDo10
namespace Go.Proofs.Ytkpgmbifaohjgaa
open Go.Mw
set_option linter.unusedVariables false
set_option linter.unusedSimpArgs false
set_option maxRecDepth 100000
attribute [local irreducible] M.val M.unit M.next M.pick M.new M.nilCheck M.load1 M.loadA M.store M.fieldAddr M.indexSl M.indexArr M.slice M.makeSlice M.buildSlice M.len M.lenS M.cap M.append M.extract M.conv M.not M.neg M.bin M.shift M.eqB M.eqNil M.call M.callv M.gd M.share M.cond M.loop M.draw pureW readW Ret
/-! ### the two trails go together (no program here) -/
def Tr.Lv (t : Tr) : Prop := ∀ (i : Nat) e, t.L[i]? = some e → 0 ≤ e.lev ∧ e.lev ≤ t.begins.length ∧ ∀ (k : Nat) x, t.begins[k]? = some x → (x ≤ i ↔ (k : Int) < e.lev)
def Tr.toR (t : Tr) : RT := ⟨t.vars, t.L, t.begins.length⟩
theorem findIdx?_congr' {α} {f g : α → Bool} : ∀ (L : List α), (∀ e ∈ L, f e = g e) → L.findIdx? f = L.findIdx? g
  | [], _ => rfl
  | x :: L, h => by
    simp only [List.findIdx?_cons, h x (List.mem_cons_self ..), findIdx?_congr' L (fun e he => h e (List.mem_cons_of_mem _ he))]
section
variable {t : Tr} {a ls rs : List Int}
theorem Tr.Ok.mem (ok : t.Ok a ls rs) {e : Ent} (h : e ∈ t.L) : 0 ≤ e.lit ∧ e.lit / 2 < t.vars := by
  obtain ⟨i, hi⟩ := List.mem_iff_getElem?.1 h
  have := ok.lits i e hi
  exact ⟨this.1, this.2.1⟩
theorem toR_idx (ok : t.Ok a ls rs) (v : Int) : t.toR.idx v = t.idx v := by
  unfold RT.idx Tr.idx Tr.toR
  apply findIdx?_congr'
  intro e he
  have := ok.mem he
  simp [varOf, show ¬ e.lit < 0 by omega]
theorem toR_may (ok : t.Ok a ls rs) (l : Int) : t.toR.may l = t.may l := by
  unfold RT.may Tr.may
  rw [toR_idx ok]
  rfl
theorem toR_assign (ok : t.Ok a ls rs) (l r : Int) : (t.assign l r).toR = t.toR.assign l r := by
  unfold RT.assign Tr.assign
  rw [toR_may ok]
  split
  · simp [Tr.toR, Tr.push, RT.push]
  · rfl
theorem toR_dec (ok : t.Ok a ls rs) (l : Int) : (t.dec l).toR = t.toR.dec l := by
  unfold RT.dec Tr.dec
  rw [toR_may ok]
  split
  · simp [Tr.toR, Tr.push, RT.push, Tr.up]
  · rfl
theorem toR_ent (ok : t.Ok a ls rs) (v : Int) : t.toR.ent v = t.ent v := by
  unfold RT.ent Tr.ent
  rw [toR_idx ok]
  rfl
theorem toR_val (ok : t.Ok a ls rs) (l : Int) : t.toR.val l = t.val l := by
  unfold RT.val Tr.val
  rw [toR_ent ok]
  rfl
theorem ent_neg (ok : t.Ok a ls rs) {v : Int} (h : v < 0) : t.ent v = none := by
  unfold Tr.ent
  rw [ok.none_of (.inl h)]
  rfl
theorem toR_lev (ok : t.Ok a ls rs) (v : Int) : t.toR.lev v = t.lev v := by
  unfold RT.lev Tr.lev
  split
  · rename_i h; rw [ent_neg ok h]
  · rw [toR_ent ok]; rfl
theorem toR_rea (ok : t.Ok a ls rs) (v : Int) : t.toR.rea v = t.rea v := by
  unfold RT.rea Tr.rea
  split
  · rename_i h; rw [ent_neg ok h]
  · rw [toR_ent ok]; rfl
theorem toR_back (ok : t.Ok a ls rs) (lv : t.Lv) (n : Int) : t.toR.back n = ((t.back n).1.toR, (t.back n).2) := by
  unfold RT.back Tr.back
  by_cases h0 : n < 0
  · simp [h0]
  simp only [h0, false_or, if_false]
  by_cases h1 : t.toR.level ≤ n
  · have h1' : (t.begins.length : Int) ≤ n := h1
    have : t.begins[n.toNat]? = none := List.getElem?_eq_none (by omega)
    simp [h1, this]
  · have h1' : ¬ (t.begins.length : Int) ≤ n := h1
    obtain ⟨fr, hfr⟩ : ∃ fr, t.begins[n.toNat]? = some fr := ⟨_, List.getElem?_eq_getElem (by omega)⟩
    have hb := ok.beg _ _ hfr
    have hn : ((n.toNat : Nat) : Int) = n := by omega
    have hcut : cutAt t.L n = fr.toNat := by
      refine cutAt_eq (by omega) (fun j e hj he => ?_) ?_
      · have := ((lv j e he).2.2 _ _ hfr).1 (by omega)
        omega
      · by_cases hz : fr.toNat = 0
        · exact .inl hz
        · right
          obtain ⟨e, he⟩ : ∃ e, t.L[fr.toNat - 1]? = some e := ⟨_, List.getElem?_eq_getElem (by omega)⟩
          refine ⟨e, he, fun hx => ?_⟩
          have := ((lv _ e he).2.2 _ _ hfr).2 (by omega)
          omega
    simp only [h1, if_false, hfr]
    have hL : t.toR.L = t.L := rfl
    rw [hL, hcut]
    have hmap : (t.L.drop fr.toNat).map (fun e => varOf e.lit) = (t.L.drop fr.toNat).map fun e => e.lit / 2 := by
      apply List.map_congr_left
      intro e he
      have := ok.mem (List.mem_of_mem_drop he)
      simp [varOf, show ¬ e.lit < 0 by omega]
    rw [hmap]
    simp only [Tr.toR]
    congr 2
    simp
    omega

theorem Tr.Lv.push (ok : t.Ok a ls rs) (lv : t.Lv) (l r : Int) : (t.push l r).Lv := by
  intro i e he
  rw [show (t.push l r).begins = t.begins from rfl]
  simp only [Tr.push, List.getElem?_append] at he
  split at he
  · exact lv i e he
  · rename_i hge
    have := (List.getElem?_eq_some_iff.1 he).1
    have hi : i = t.L.length := by simp at this; omega
    subst hi
    simp at he
    subst he
    refine ⟨by simp, by simp [Tr.push], fun k x hx => ?_⟩
    have h1 := ok.beg k x hx
    have h2 := (List.getElem?_eq_some_iff.1 hx).1
    simp
    omega
theorem Tr.Lv.up (ok : t.Ok a ls rs) (lv : t.Lv) : t.up.Lv := by
  intro i e he
  have he : t.L[i]? = some e := he
  obtain ⟨h1, h2, h3⟩ := lv i e he
  refine ⟨h1, by simp [Tr.up]; omega, fun k x hx => ?_⟩
  simp only [Tr.up, List.getElem?_append] at hx
  split at hx
  · exact h3 k x hx
  · rename_i hge
    have := (List.getElem?_eq_some_iff.1 hx).1
    have hk : k = t.begins.length := by simp at this; omega
    subst hk
    simp at hx
    subst hx
    have := (List.getElem?_eq_some_iff.1 he).1
    omega
theorem Tr.Lv.assign (ok : t.Ok a ls rs) (lv : t.Lv) (l r : Int) : (t.assign l r).Lv := by
  unfold Tr.assign
  split
  · exact lv.push ok l r
  · exact lv
theorem Tr.Wf.assign (wf : t.Wf) (l r : Int) : (t.assign l r).Wf := by
  unfold Tr.assign
  split
  · exact Tr.Wf.push (fun x hx => Int.le_of_lt (wf x hx)) l r
  · exact wf
theorem Tr.Lv.dec (ok : t.Ok a ls rs) (wf : t.Wf) (lv : t.Lv) (l : Int) : (t.dec l).Lv := by
  unfold Tr.dec
  split
  · exact (lv.up ok).push (ok.up wf) l (-1)
  · exact lv
theorem Tr.Wf.dec (wf : t.Wf) (l : Int) : (t.dec l).Wf := by
  unfold Tr.dec
  split
  · refine Tr.Wf.push (fun x hx => ?_) l (-1)
    simp only [Tr.up, List.mem_append, List.mem_singleton] at hx
    rcases hx with hx | hx
    · exact Int.le_of_lt (wf x hx)
    · subst hx; exact Int.le_refl _
  · exact wf
theorem Tr.Lv.back (ok : t.Ok a ls rs) (lv : t.Lv) (n : Int) : (t.back n).1.Lv := by
  unfold Tr.back
  split
  · exact lv
  · split
    · exact lv
    · rename_i h0 fr hfr
      have hb := ok.beg _ _ hfr
      intro i e he
      simp only [List.getElem?_take] at he
      split at he
      · rename_i hi
        obtain ⟨h1, h2, h3⟩ := lv i e he
        have h4 := h3 _ _ hfr
        refine ⟨h1, ?_, fun k x hx => ?_⟩
        · simp
          omega
        · simp only [List.getElem?_take] at hx
          split at hx
          · exact h3 k x hx
          · cases hx
      · cases he
theorem Tr.Wf.back (ok : t.Ok a ls rs) (wf : t.Wf) (n : Int) : (t.back n).1.Wf := by
  unfold Tr.back
  split
  · exact wf
  · split
    · exact wf
    · rename_i h0 fr hfr
      have hb := ok.beg _ _ hfr
      intro x hx
      obtain ⟨k, hk⟩ := List.mem_iff_getElem?.1 hx
      simp only [List.getElem?_take] at hk
      split at hk
      · rename_i hkn
        have := ok.mono _ _ _ _ hkn hk hfr
        simp
        omega
      · cases hk
/-- All that goes with a trail. -/
structure Tr.Good (t : Tr) : Prop where
  wf : t.Wf
  lv : t.Lv
theorem Tr.Good.doD (ok : t.Ok a ls rs) (g : t.Good) (kd l n : Int) : (t.doD kd l n).Good := by
  unfold Tr.doD
  split
  · exact ⟨g.wf.assign l n, g.lv.assign ok l n⟩
  · split
    · exact ⟨g.wf.dec l, g.lv.dec ok g.wf l⟩
    · split
      · exact ⟨g.wf.back ok n, g.lv.back ok n⟩
      · exact g
theorem toR_doD (ok : t.Ok a ls rs) (g : t.Good) (kd l n : Int) : (t.doD kd l n).toR = t.toR.doD kd l n := by
  unfold Tr.doD RT.doD
  split
  · exact toR_assign ok l n
  · split
    · exact toR_dec ok l
    · split
      · rw [toR_back ok g.lv]
      · rfl
theorem toR_same (ok : t.Ok a ls rs) (g : t.Good) (kd l n : Int) : sameD t t.toR kd l n = true := by
  unfold sameD
  split
  · rw [toR_may ok]; simp
  · split
    · rw [toR_back ok g.lv]; simp
    · rfl
theorem toR_fit (ok : t.Ok a ls rs) : t.toR.Fit := by
  have h1 := ok.llen
  have h2 := ok.vars
  have h3 := ok.lbeg
  refine ⟨by show t.L.length ≤ 1000000000; omega, ⟨by show (0 : Int) ≤ t.begins.length; omega, by show (t.begins.length : Int) ≤ 1000000000; omega⟩, fun e he => ?_⟩
  have := ok.mem he
  omega
end
theorem TRep.ok {w : World} {p : Nat} {lab : Nat → Nat} {t : Tr} (h : TRep w p lab t) : ∃ a ls rs, t.Ok a ls rs := by
  obtain ⟨vl, vb, vg, va, ve, vr, at1, levels, reasons, _, _, _, _, _, _, _, _, _, ok⟩ := h
  exact ⟨_, _, _, ok⟩
theorem good_new (v : Int) : (Tr.new v).Good := ⟨fun x hx => by simp [Tr.new] at hx, fun i e he => by simp [Tr.new] at he⟩
theorem toR_new (v : Int) : (Tr.new v).toR = RT.new v := by
  unfold Tr.new RT.new Tr.toR
  simp only [RT.mk.injEq, true_and, List.length_nil]
  refine ⟨?_, rfl⟩
  split
  · rfl
  · omega
end Go.Proofs.Ytkpgmbifaohjgaa
