import Derived.Test.YtnkechekdncnlaaW11x
namespace Go.Proofs.Ytnkechekdncnlaa
open Go.Mw
set_option linter.unusedVariables false
set_option linter.unusedSimpArgs false
set_option maxRecDepth 100000
attribute [local irreducible] M.val M.unit M.next M.pick M.new M.nilCheck M.load1 M.loadA M.store M.fieldAddr M.indexSl M.indexArr M.slice M.makeSlice M.buildSlice M.len M.lenS M.cap M.append M.extract M.conv M.not M.neg M.bin M.shift M.eqB M.eqNil M.call M.callv M.gd M.share M.cond M.loop M.draw pureW readW Ret
section
variable {w w1 : World} {p q r : Nat} {lab ow bk : Nat → Nat} {cv : Nat → Value} {wv : Value} {t : Tr} {s : Wt} {O : Nat → Prop}
theorem add_ok {D : Nat → Prop} {v : Value} {l : List Int} (h : TWR w p q O bk cv wv t s) (hl : LV vi w D v l) (hlf : l.length ≤ 1000000) (hI : ∀ x ∈ l, I64 x) (hnum : ∀ c ∈ s.cls, c.n < s.ever) (he : s.ever ≤ 1000000000) (hz : s.sz ≤ 1000000000) (hv : s.vars ≤ 1048576) (hok : ∀ x ∈ l, 0 ≤ x ∧ x < 2 * s.vars) :
    Ret Try.prog 6 #[ptr q, ptr p, v] w (fun r w' => r = .tuple #[vi s.ever, vi 0] ∧ ∃ O' bk' cv' wv', TWR w' p q O' bk' cv' wv' t (s.add l) ∧ OMod w w' O O') :=
  (add_ret h hl hlf hI hnum he hz hv).mono (fun r w' h => by rw [if_pos hok] at h; exact h)
theorem add_no {D : Nat → Prop} {v : Value} {l : List Int} (h : TWR w p q O bk cv wv t s) (hl : LV vi w D v l) (hlf : l.length ≤ 1000000) (hI : ∀ x ∈ l, I64 x) (hnum : ∀ c ∈ s.cls, c.n < s.ever) (he : s.ever ≤ 1000000000) (hz : s.sz ≤ 1000000000) (hv : s.vars ≤ 1048576) (hok : ¬ ∀ x ∈ l, 0 ≤ x ∧ x < 2 * s.vars) :
    Ret Try.prog 6 #[ptr q, ptr p, v] w (fun r w' => r = .tuple #[vi 0, vi 10] ∧ Keep w w' No) :=
  (add_ret h hl hlf hI hnum he hz hv).mono (fun r w' h => by rw [if_neg hok] at h; exact h)
end
theorem lvi_blk {w : World} {b n : Nat} {xs : List Int} (h : Blk w b (xs.map vi)) (hn : n = xs.length) {D : Nat → Prop} (hD : D b) : LV vi w D (.slice (some ⟨b, 0, none⟩) n n) xs := by
  subst hn
  exact ⟨_, _, rfl, Row.of_blk' h hD, Nat.le_refl _⟩
theorem i64s {xs : List Int} (h : xs.all (fun x => decide (0 ≤ x ∧ x < 100)) = true) : ∀ x ∈ xs, I64 x := fun x hx => by
  have := List.all_eq_true.1 h x hx
  simp only [decide_eq_true_eq] at this
  exact ⟨by omega, by omega⟩
theorem awk_run2 {t : Tr} {cls : List Wc} (hf : t.Fine) (h2 : t.has 2) (h4 : t.has 4) (hc : ∀ c ∈ cls, (c.n = 0 ∧ c.lits.Perm [1, 2]) ∨ (c.n = 1 ∧ c.lits.Perm [3, 4]) ∨ (c.n = 2 ∧ c.lits.Perm [5, 3])) (hex : ∃ c ∈ cls, c.n = 2) {i : Int} {ok : Bool}
    (out : (ok = true ∧ i = -1 ∧ ∀ c ∈ cls, Shut t c) ∨ (ok = false ∧ ∃ c ∈ cls, (c.n : Int) = i ∧ ∀ x ∈ c.lits, t.val x < 0)) : ok = false ∧ i = 2 := by
  have n3 : ¬ t.has 3 := fun h => hf.not h2 h
  have n5 : ¬ t.has 5 := fun h => hf.not h4 h
  have v3 : t.val 3 < 0 := (hf.val_neg (x := 3) (by omega)).2 h2
  have v5 : t.val 5 < 0 := (hf.val_neg (x := 5) (by omega)).2 h4
  rcases out with ⟨_, _, hs⟩ | ⟨e, c, hcm, hn, hneg⟩
  · exfalso
    obtain ⟨c, hcm, hn⟩ := hex
    have hp : c.lits.Perm [5, 3] := by
      rcases hc c hcm with ⟨a, _⟩ | ⟨a, _⟩ | ⟨_, a⟩
      · omega
      · omega
      · exact a
    rcases hs c hcm with ⟨x, hx, hh⟩ | ⟨a, b, r, hab, ha, _⟩
    · have := hp.mem_iff.1 hx
      simp only [List.mem_cons, List.not_mem_nil, or_false] at this
      rcases this with e | e
      · subst e; exact n5 hh
      · subst e; exact n3 hh
    · have := hp.mem_iff.1 (show a ∈ c.lits by rw [hab]; simp)
      simp only [List.mem_cons, List.not_mem_nil, or_false] at this
      rcases this with e | e
      · subst e; omega
      · subst e; omega
  · refine ⟨e, ?_⟩
    rcases hc c hcm with ⟨_, hp⟩ | ⟨_, hp⟩ | ⟨a, _⟩
    · exact absurd ((hf.val_neg (x := 2) (by omega)).1 (hneg 2 (hp.mem_iff.2 (by simp)))) n3
    · exact absurd ((hf.val_neg (x := 4) (by omega)).1 (hneg 4 (hp.mem_iff.2 (by simp)))) n5
    · omega
def Frs (w0 w : World) (O : Nat → Prop) : Prop := Keep w0 w No ∧ ∀ b, O b → w0.heap.size ≤ b
theorem Frs.step {w0 a b : World} {O O' : Nat → Prop} (h : Frs w0 a O) (m : OMod a b O O') : Frs w0 b O' :=
  ⟨h.1.trans m.1 (fun i hi e => by have := h.2 i e; omega), fun i e => by
    have := h.1.size
    by_cases hlt : i < a.heap.size
    · exact h.2 i (m.2 i hlt e)
    · omega⟩
theorem Frs.keep {w0 a b : World} {O : Nat → Prop} (h : Frs w0 a O) (k : Keep a b No) : Frs w0 b O := h.step (OMod.of k)
set_option maxHeartbeats 2000000 in
theorem CEq.map_n {a b : List Wc} (h : CEq a b) : b.map Wc.n = a.map Wc.n := by
  refine List.ext_getElem? fun i => ?_
  rw [List.getElem?_map, List.getElem?_map]
  rcases ha : a[i]? with _ | c
  · have := List.getElem?_eq_none_iff.1 ha
    rw [List.getElem?_eq_none_iff.2 (by rw [h.1]; exact this)]
  · obtain ⟨c', h1, h2, _⟩ := h.2 i c ha
    rw [h1]; show some c'.n = some c.n; rw [h2]
theorem fil_n (l : List Wc) (k : Int) : (l.filter (fun c => decide ((c.n : Int) ≠ k))).length = ((l.map Wc.n).filter (fun (m : Nat) => decide ((m : Int) ≠ k))).length := by
  induction l with
  | nil => rfl
  | cons c l ih =>
    simp only [List.map_cons, List.filter_cons]
    by_cases e : (c.n : Int) = k
    · simp only [e, ne_eq, not_true_eq_false, decide_false, Bool.false_eq_true, if_false]; exact ih
    · simp only [ne_eq, e, not_false_eq_true, decide_true, if_true, List.length_cons]; simp only [ne_eq] at ih; rw [ih]
theorem awake11_ret (w : World) : Ret Try.prog 14 #[] w (fun v w' => v = .bool true ∧ Keep w w' No) := by
  refine ok14 _ _ ?_
  unfold sh14
  refine M.call_i (new_ret 3 w) ?_; rintro _ w1 ⟨p, lab, rfl, ht1, k1, hlab⟩
  refine M.call_i (wnew_ret 3 w1) ?_; rintro _ w2 ⟨q, ow, r, vb, bvs, rfl, hw2, k2, how⟩
  have h2 := TWR.new ht1 k2 hw2 how
  have hO2 : ∀ b, (lab b ≠ 0 ∨ ow b ≠ 0) → w.heap.size ≤ b := fun b hb => by
    have := k1.size
    rcases hb with e | e
    · exact hlab b e
    · have := how b e; omega
  have fr : Frs w w2 (fun b => lab b ≠ 0 ∨ ow b ≠ 0) := ⟨k1.trans k2 (fun _ _ h => h), hO2⟩
  generalize (fun b => lab b ≠ 0 ∨ ow b ≠ 0) = O at h2 fr
  (repeat (first|refine ja ?_|refine jb ?_|refine jc ?_|refine jd ?_|refine je ?_|refine jf ?_|refine jg ?_|refine jh ?_|refine ji ?_|refine jj ?_|refine jk ?_|refine jl ?_|refine jm ?_|refine jn ?_|refine jo ?_|refine jp ?_|refine jq ?_|refine jr ?_|refine js ?_|refine jt ?_|refine ju ?_|refine jv ?_|refine jw ?_|refine jx ?_|refine jy ?_|refine jz ?_|refine jA ?_|refine jB ?_|refine jC ?_|refine jD ?_|refine jE ?_|refine jF ?_|refine jG ?_|refine jH ?_|refine jI ?_|refine jJ ?_|refine jK ?_|refine jL ?_|refine jM (by assumption) ?_|refine jN (by assumption) rfl ?_|refine jO (by assumption) ?_|refine jP (by assumption) rfl ?_|refine jQ ?_|refine jR ?_|refine jS ?_|refine jT ?_|refine jU (by assumption) rfl ?_))
  refine M.buildSlice_i ([1, 2].map vi) (by kernel_rfl) (fun w3 b3 k3 s3 => ?_)
  refine M.call_i (add_ok (h2.keepN k3) (lvi_blk (xs := [1, 2]) (D := fun _ => True) b3 rfl trivial) (by decide) (i64s rfl) (fun c hc => by cases hc) (by decide) (by decide) (by decide) (by decide)) ?_; rintro _ w4 ⟨rfl, O4, bk4, cv4, wv4, h4, m4⟩
  have fr := (fr.keep k3).step m4
  refine M.extract_i (v := vi 0) rfl ?_
  refine M.extract_i (v := vi 0) rfl ?_
  refine M.buildSlice_i ([3, 4].map vi) (by kernel_rfl) (fun w5 b5 k5 s5 => ?_)
  refine M.call_i (add_ok (h4.keepN k5) (lvi_blk (xs := [3, 4]) (D := fun _ => True) b5 rfl trivial) (by decide) (i64s rfl) (by decide) (by decide) (by decide) (by decide) (by decide)) ?_; rintro _ w6 ⟨rfl, O6, bk6, cv6, wv6, h6, m6⟩
  have fr := (fr.keep k5).step m6
  refine M.extract_i (v := vi 1) rfl ?_
  refine M.extract_i (v := vi 0) rfl ?_
  refine M.buildSlice_i ([6].map vi) (by kernel_rfl) (fun w7 b7 k7 s7 => ?_)
  refine M.call_i (add_no (h6.keepN k7) (lvi_blk (xs := [6]) (D := fun _ => True) b7 rfl trivial) (by decide) (i64s rfl) (by decide) (by decide) (by decide) (by decide) (by decide)) ?_; rintro _ w8 ⟨rfl, k8⟩
  have h8 := h6.keepN (k7.trans k8 (fun _ _ h => h))
  have fr := fr.keep (k7.trans k8 (fun _ _ h => h))
  refine M.extract_i (v := vi 0) rfl ?_
  refine M.extract_i (v := vi 10) rfl ?_
  refine M.call_i (asg_tw h8 0 (-1)) ?_; rintro _ w9 ⟨rfl, O9, h9, m9⟩
  have fr := fr.step m9
  have wi9 : WI ((Tr.new 3).assign 0 (-1)) (((Wt.new 3).add [1, 2]).add [3, 4]) X0 :=
    (((wi_new 3).add (l := [1, 2]) (by decide)).add (l := [3, 4]) (by decide)).asg h8.fine 0 (-1) (by decide) (by decide)
  have hL9 : ((Tr.new 3).assign 0 (-1)).L = [⟨0, 0, -1⟩] := by kernel_rfl
  have ri9 : RI ((Tr.new 3).assign 0 (-1)) (((Wt.new 3).add [1, 2]).add [3, 4]).cls := fun i e he hr => by
    rw [hL9] at he
    have := List.mem_of_getElem? he
    simp only [List.mem_singleton] at this
    subst this
    simp at hr
  have hcl9 : ∀ c ∈ (((Wt.new 3).add [1, 2]).add [3, 4]).cls, c.lits.length ≤ 1000000 := by decide
  have c20 : Cl2 (((Wt.new 3).add [1, 2]).add [3, 4]).cls := by
    intro c hc
    have hc : c ∈ [(⟨0, [1, 2], true⟩ : Wc), ⟨1, [3, 4], true⟩] := hc
    simp only [List.mem_cons, List.not_mem_nil, or_false] at hc
    rcases hc with rfl | rfl
    · exact .inl ⟨rfl, List.Perm.refl _⟩
    · exact .inr ⟨rfl, List.Perm.refl _⟩
  refine M.call_i (run_ret h9 wi9 ri9 (by decide +kernel) (by decide) hcl9 (by decide +kernel) (by decide +kernel)) ?_; rintro _ w10 ⟨t10, s10, O10, wv10, i10, ok10, rfl, h10, m10, R10⟩
  have fr := fr.step m10
  obtain ⟨new, nb, hx⟩ := R10.ext
  have hL10 : t10.L = [⟨0, 0, -1⟩] ++ new := by rw [hx.L, hL9]
  have hcq := R10.ceq
  have c210 : Cl2 s10.cls := fun c hc => by
    obtain ⟨d, hd, e1, e2⟩ := hcq.mem' hc
    rcases c20 d hd with ⟨g1, g2⟩ | ⟨g1, g2⟩
    · exact .inl ⟨by omega, e2.trans g2⟩
    · exact .inr ⟨by omega, e2.trans g2⟩
  have hn0 : ∃ c ∈ s10.cls, c.n = 0 := by
    obtain ⟨c', h1, h2, _⟩ := hcq.mem (c := ⟨0, [1, 2], true⟩) (show (⟨0, [1, 2], true⟩ : Wc) ∈ [⟨0, [1, 2], true⟩, ⟨1, [3, 4], true⟩] by simp)
    exact ⟨c', h1, h2⟩
  have hn1 : ∃ c ∈ s10.cls, c.n = 1 := by
    obtain ⟨c', h1, h2, _⟩ := hcq.mem (c := ⟨1, [3, 4], true⟩) (show (⟨1, [3, 4], true⟩ : Wc) ∈ [⟨0, [1, 2], true⟩, ⟨1, [3, 4], true⟩] by simp)
    exact ⟨c', h1, h2⟩
  obtain ⟨rfl, rfl, g0, g2, g4, gs, gr⟩ := awk_run h10.fine hL10 hx.rea R10.ri c210 hn0 hn1 R10.out
  refine M.extract_i (v := vi (-1)) rfl ?_
  refine M.extract_i (v := .bool true) rfl ?_
  refine M.call_i (lits_tw h10) ?_; rintro lv w11 ⟨gl11, k11⟩
  have h11 := h10.keepN k11
  have fr := fr.keep k11
  refine M.buildSlice_i ([5, 3].map vi) (by kernel_rfl) (fun w12 b12 k12 s12 => ?_)
  have hev10 : s10.ever = 2 := R10.ev
  have hv10 : s10.vars = 3 := by rw [R10.wi.vars, hx.vars]; rfl
  have hsz10 : s10.sz ≤ 100 := by
    have h1 := R10.sz
    have h2 : (((Wt.new 3).add [1, 2]).add [3, 4]).sz = 2 := by kernel_rfl
    have h3 : (2 * ((Tr.new 3).assign 0 (-1)).vars + 1) * (((Wt.new 3).add [1, 2]).add [3, 4]).cls.length = 14 := by kernel_rfl
    omega
  refine M.call_i (add_ok (h11.keepN k12) (lvi_blk (xs := [5, 3]) (D := fun _ => True) b12 rfl trivial) (by decide) (i64s rfl) R10.wi.num (by omega) (by omega) (by omega) (by rw [hv10]; decide)) ?_; rintro _ w13 ⟨rfl, O13, bk13, cv13, wv13, h13, m13⟩
  have fr := (fr.keep k12).step m13
  rw [hev10]
  refine M.extract_i (v := vi 2) rfl ?_
  refine M.extract_i (v := vi 0) rfl ?_
  have wi13 := R10.wi.add (l := [5, 3]) (by
    have : t10.vars = 3 := by rw [hx.vars]; rfl
    rw [this]; decide)
  have ri13 : RI t10 (s10.add [5, 3]).cls := fun i e he hr => by
    obtain ⟨c, hc, h1⟩ := R10.ri i e he hr
    exact ⟨c, List.mem_append_left _ hc, h1⟩
  have bi10 := BI.ext hx (by decide +kernel)
  have hvt10 : t10.vars = 3 := by rw [hx.vars]; rfl
  have hct10 : 0 ≤ t10.count ∧ t10.count ≤ 10 := by
    have e1 := hx.count
    have e2 : ((Tr.new 3).assign 0 (-1)).count = 1 := by kernel_rfl
    have e3 := h10.fine.len.1
    rw [hL10, List.length_append, hvt10] at e3
    omega
  have hcll : s10.cls.length = 2 := hcq.1
  have hcl13 : ∀ c ∈ (s10.add [5, 3]).cls, c.lits.length ≤ 1000000 := fun c hc => by
    rcases List.mem_append.1 hc with h | h
    · rcases c210 c h with ⟨_, g⟩ | ⟨_, g⟩
      · rw [g.length_eq]; decide
      · rw [g.length_eq]; decide
    · simp only [List.mem_singleton] at h
      subst h
      show (ddp [5, 3]).length ≤ _
      decide
  have hsz13 : (s10.add [5, 3]).sz + (2 * t10.vars + 2) * (s10.add [5, 3]).cls.length ≤ 400000000 := by
    have e1 : (s10.add [5, 3]).sz = s10.sz + 1 := by simp [Wt.sz, Wt.add]; omega
    have e2 : (s10.add [5, 3]).cls.length = 3 := by simp [Wt.add, hcll]
    rw [e1, e2, hvt10]
    omega
  refine M.call_i (run_ret h13 wi13 ri13 bi10 hsz13 hcl13 hct10.1 (by omega)) ?_; rintro _ w14 ⟨t14, s14, O14, wv14, i14, ok14, rfl, h14, m14, R14⟩
  have fr := fr.step m14
  obtain ⟨new14, nb14, hx14⟩ := R14.ext
  have hc13 : ∀ c ∈ (s10.add [5, 3]).cls, (c.n = 0 ∧ c.lits.Perm [1, 2]) ∨ (c.n = 1 ∧ c.lits.Perm [3, 4]) ∨ (c.n = 2 ∧ c.lits.Perm [5, 3]) := fun c hc => by
    rcases List.mem_append.1 hc with h | h
    · rcases c210 c h with g | g
      · exact .inl g
      · exact .inr (.inl g)
    · simp only [List.mem_singleton] at h
      subst h
      exact .inr (.inr ⟨hev10, List.Perm.refl _⟩)
  have hc14 : ∀ c ∈ s14.cls, (c.n = 0 ∧ c.lits.Perm [1, 2]) ∨ (c.n = 1 ∧ c.lits.Perm [3, 4]) ∨ (c.n = 2 ∧ c.lits.Perm [5, 3]) := fun c hc => by
    obtain ⟨d, hd, e1, e2⟩ := R14.ceq.mem' hc
    rcases hc13 d hd with ⟨g1, g2⟩ | ⟨g1, g2⟩ | ⟨g1, g2⟩
    · exact .inl ⟨by omega, e2.trans g2⟩
    · exact .inr (.inl ⟨by omega, e2.trans g2⟩)
    · exact .inr (.inr ⟨by omega, e2.trans g2⟩)
  have hn2 : ∃ c ∈ s14.cls, c.n = 2 := by
    obtain ⟨c', g1, g2, _⟩ := R14.ceq.mem (c := ⟨s10.ever, ddp [5, 3], true⟩) (List.mem_append_right _ (by simp))
    exact ⟨c', g1, by rw [g2]; exact hev10⟩
  obtain ⟨rfl, rfl⟩ := awk_run2 h14.fine (hx14.has g2) (hx14.has g4) hc14 hn2 R14.out
  refine M.extract_i (v := vi 2) rfl ?_
  refine M.extract_i (v := .bool false) rfl ?_
  have m1114 := ((OMod.of (O := O10) k12).trans m13).trans m14
  have gl14 := gl11.keep m1114.1 (fun b _ e e2 => by
    have := h10.lt e2
    have e : w10.heap.size ≤ b := e
    omega)
  have hr14 : t14.rea 2 = 1 := by
    obtain ⟨e, he, hx4⟩ := g4
    obtain ⟨j, hj⟩ := List.mem_iff_getElem?.1 he
    have a1 := h10.fine.rea hj
    have hj14 : t14.L[j]? = some e := by rw [hx14.L, List.getElem?_append_left (List.getElem?_eq_some_iff.1 hj).1]; exact hj
    have a2 := h14.fine.rea hj14
    have e4 : (4 : Int) / 2 = 2 := by decide
    rw [hx4, e4] at a1 a2
    rw [a2, ← a1, gr]
  have hll10 : t10.L.length ≤ 3 := by rw [← hvt10]; exact h10.fine.len.1
  (repeat (first|refine ja ?_|refine jb ?_|refine jc ?_|refine jd ?_|refine je ?_|refine jf ?_|refine jg ?_|refine jh ?_|refine ji ?_|refine jj ?_|refine jk ?_|refine jl ?_|refine jm ?_|refine jn ?_|refine jo ?_|refine jp ?_|refine jq ?_|refine jr ?_|refine js ?_|refine jt ?_|refine ju ?_|refine jv ?_|refine jw ?_|refine jx ?_|refine jy ?_|refine jz ?_|refine jA ?_|refine jB ?_|refine jC ?_|refine jD ?_|refine jE ?_|refine jF ?_|refine jG ?_|refine jH ?_|refine jI ?_|refine jJ ?_|refine jK ?_|refine jL ?_|refine jM (by assumption) ?_|refine jN (by assumption) rfl ?_|refine jO (by assumption) ?_|refine jP (by assumption) rfl ?_|refine jQ ?_|refine jR ?_|refine jS ?_|refine jT ?_|refine jU (by assumption) rfl ?_|refine jG ?_ (by decide)|refine jH ?_ (by decide)|refine jI ?_ (by decide)|refine jJ ?_ (by decide)|refine jC ?_ (by decide)|refine jy ?_ (by decide)))
  refine M.buildSlice_i ([0, 2, 4].map vi) (by kernel_rfl) (fun w15 b15 k15 s15 => ?_)
  (repeat (first|refine ja ?_|refine jb ?_|refine jc ?_|refine jd ?_|refine je ?_|refine jf ?_|refine jg ?_|refine jh ?_|refine ji ?_|refine jj ?_|refine jk ?_|refine jl ?_|refine jm ?_|refine jn ?_|refine jo ?_|refine jp ?_|refine jq ?_|refine jr ?_|refine js ?_|refine jt ?_|refine ju ?_|refine jv ?_|refine jw ?_|refine jx ?_|refine jy ?_|refine jz ?_|refine jA ?_|refine jB ?_|refine jC ?_|refine jD ?_|refine jE ?_|refine jF ?_|refine jG ?_|refine jH ?_|refine jI ?_|refine jJ ?_|refine jK ?_|refine jL ?_|refine jM (by assumption) ?_|refine jN (by assumption) rfl ?_|refine jO (by assumption) ?_|refine jP (by assumption) rfl ?_|refine jQ ?_|refine jR ?_|refine jS ?_|refine jT ?_|refine jU (by assumption) rfl ?_|refine jG ?_ (by decide)|refine jH ?_ (by decide)|refine jI ?_ (by decide)|refine jJ ?_ (by decide)|refine jC ?_ (by decide)|refine jy ?_ (by decide)))
  refine M.call_i (set_ret (GI.lv (GC.keep gl14 k15 (fun _ _ _ h => h))) (lvi_blk (xs := [0, 2, 4]) (D := fun _ => True) b15 rfl trivial) (by show _ ≤ _; rw [List.length_map]; omega) (by decide)) ?_; rintro _ w16 ⟨rfl, k16⟩
  rw [decide_eq_true (show srt (t10.L.map (·.lit)) = srt [0, 2, 4] by rw [gs]; rfl)]
  have h16 := h14.keepN (k15.trans k16 (fun _ _ h => h))
  have fr := fr.keep (k15.trans k16 (fun _ _ h => h))
  (repeat (first|refine ja ?_|refine jb ?_|refine jc ?_|refine jd ?_|refine je ?_|refine jf ?_|refine jg ?_|refine jh ?_|refine ji ?_|refine jj ?_|refine jk ?_|refine jl ?_|refine jm ?_|refine jn ?_|refine jo ?_|refine jp ?_|refine jq ?_|refine jr ?_|refine js ?_|refine jt ?_|refine ju ?_|refine jv ?_|refine jw ?_|refine jx ?_|refine jy ?_|refine jz ?_|refine jA ?_|refine jB ?_|refine jC ?_|refine jD ?_|refine jE ?_|refine jF ?_|refine jG ?_|refine jH ?_|refine jI ?_|refine jJ ?_|refine jK ?_|refine jL ?_|refine jM (by assumption) ?_|refine jN (by assumption) rfl ?_|refine jO (by assumption) ?_|refine jP (by assumption) rfl ?_|refine jQ ?_|refine jR ?_|refine jS ?_|refine jT ?_|refine jU (by assumption) rfl ?_|refine jG ?_ (by decide)|refine jH ?_ (by decide)|refine jI ?_ (by decide)|refine jJ ?_ (by decide)|refine jC ?_ (by decide)|refine jy ?_ (by decide)))
  refine M.call_i (rea_tw h16 2) ?_; rintro _ w17 ⟨rfl, k17⟩
  rw [hr14]
  have h17 := h16.keepN k17
  have fr := fr.keep k17
  (repeat (first|refine ja ?_|refine jb ?_|refine jc ?_|refine jd ?_|refine je ?_|refine jf ?_|refine jg ?_|refine jh ?_|refine ji ?_|refine jj ?_|refine jk ?_|refine jl ?_|refine jm ?_|refine jn ?_|refine jo ?_|refine jp ?_|refine jq ?_|refine jr ?_|refine js ?_|refine jt ?_|refine ju ?_|refine jv ?_|refine jw ?_|refine jx ?_|refine jy ?_|refine jz ?_|refine jA ?_|refine jB ?_|refine jC ?_|refine jD ?_|refine jE ?_|refine jF ?_|refine jG ?_|refine jH ?_|refine jI ?_|refine jJ ?_|refine jK ?_|refine jL ?_|refine jM (by assumption) ?_|refine jN (by assumption) rfl ?_|refine jO (by assumption) ?_|refine jP (by assumption) rfl ?_|refine jQ ?_|refine jR ?_|refine jS ?_|refine jT ?_|refine jU (by assumption) rfl ?_|refine jG ?_ (by decide)|refine jH ?_ (by decide)|refine jI ?_ (by decide)|refine jJ ?_ (by decide)|refine jC ?_ (by decide)|refine jy ?_ (by decide)))
  obtain ⟨c2, hc2, hc2n⟩ := hn2
  have hg2 : s14.get 2 = some c2 := by
    have := R14.wi.get hc2
    rw [hc2n] at this
    exact this
  have hg2' : (s14.rem 2).get 2 = none := by
    unfold Wt.get Wt.rem
    rw [List.find?_eq_none]
    intro c hc
    have := (List.mem_filter.1 hc).2
    simpa using this
  refine M.call_i (rem_ret h17 2) ?_; rintro _ w18 ⟨rfl, h18, k18⟩
  rw [hg2, Option.isSome_some]
  have fr := fr.step ⟨k18, fun _ _ e => e⟩
  (repeat (first|refine ja ?_|refine jb ?_|refine jc ?_|refine jd ?_|refine je ?_|refine jf ?_|refine jg ?_|refine jh ?_|refine ji ?_|refine jj ?_|refine jk ?_|refine jl ?_|refine jm ?_|refine jn ?_|refine jo ?_|refine jp ?_|refine jq ?_|refine jr ?_|refine js ?_|refine jt ?_|refine ju ?_|refine jv ?_|refine jw ?_|refine jx ?_|refine jy ?_|refine jz ?_|refine jA ?_|refine jB ?_|refine jC ?_|refine jD ?_|refine jE ?_|refine jF ?_|refine jG ?_|refine jH ?_|refine jI ?_|refine jJ ?_|refine jK ?_|refine jL ?_|refine jM (by assumption) ?_|refine jN (by assumption) rfl ?_|refine jO (by assumption) ?_|refine jP (by assumption) rfl ?_|refine jQ ?_|refine jR ?_|refine jS ?_|refine jT ?_|refine jU (by assumption) rfl ?_|refine jG ?_ (by decide)|refine jH ?_ (by decide)|refine jI ?_ (by decide)|refine jJ ?_ (by decide)|refine jC ?_ (by decide)|refine jy ?_ (by decide)))
  refine M.call_i (rem_ret h18 2) ?_; rintro _ w19 ⟨rfl, h19, k19⟩
  rw [hg2', Option.isSome_none]
  have fr := fr.step ⟨k19, fun _ _ e => e⟩
  (repeat (first|refine ja ?_|refine jb ?_|refine jc ?_|refine jd ?_|refine je ?_|refine jf ?_|refine jg ?_|refine jh ?_|refine ji ?_|refine jj ?_|refine jk ?_|refine jl ?_|refine jm ?_|refine jn ?_|refine jo ?_|refine jp ?_|refine jq ?_|refine jr ?_|refine js ?_|refine jt ?_|refine ju ?_|refine jv ?_|refine jw ?_|refine jx ?_|refine jy ?_|refine jz ?_|refine jA ?_|refine jB ?_|refine jC ?_|refine jD ?_|refine jE ?_|refine jF ?_|refine jG ?_|refine jH ?_|refine jI ?_|refine jJ ?_|refine jK ?_|refine jL ?_|refine jM (by assumption) ?_|refine jN (by assumption) rfl ?_|refine jO (by assumption) ?_|refine jP (by assumption) rfl ?_|refine jQ ?_|refine jR ?_|refine jS ?_|refine jT ?_|refine jU (by assumption) rfl ?_|refine jG ?_ (by decide)|refine jH ?_ (by decide)|refine jI ?_ (by decide)|refine jJ ?_ (by decide)|refine jC ?_ (by decide)|refine jy ?_ (by decide)))
  have hrr : (s14.rem 2).rem 2 = s14.rem 2 := by
    unfold Wt.rem
    simp [List.filter_filter]
  rw [hrr] at h19
  have hlen3 : (s14.rem 2).cls.length = 2 := by
    have e1 : s14.cls.map Wc.n = [0, 1, 2] := by
      rw [R14.ceq.map_n]
      show (s10.cls ++ [(⟨s10.ever, ddp [5, 3], true⟩ : Wc)]).map Wc.n = _
      rw [List.map_append, hcq.map_n]
      show [0, 1] ++ [s10.ever] = _
      rw [hev10]; rfl
    show (s14.cls.filter _).length = 2
    have := fil_n s14.cls 2
    rw [e1] at this
    exact this
  refine M.call_i (wlen_ret h19) ?_; rintro _ w20 ⟨rfl, k20⟩
  rw [hlen3]
  have h20 := h19.keepN k20
  have fr := fr.keep k20
  (repeat (first|refine ja ?_|refine jb ?_|refine jc ?_|refine jd ?_|refine je ?_|refine jf ?_|refine jg ?_|refine jh ?_|refine ji ?_|refine jj ?_|refine jk ?_|refine jl ?_|refine jm ?_|refine jn ?_|refine jo ?_|refine jp ?_|refine jq ?_|refine jr ?_|refine js ?_|refine jt ?_|refine ju ?_|refine jv ?_|refine jw ?_|refine jx ?_|refine jy ?_|refine jz ?_|refine jA ?_|refine jB ?_|refine jC ?_|refine jD ?_|refine jE ?_|refine jF ?_|refine jG ?_|refine jH ?_|refine jI ?_|refine jJ ?_|refine jK ?_|refine jL ?_|refine jM (by assumption) ?_|refine jN (by assumption) rfl ?_|refine jO (by assumption) ?_|refine jP (by assumption) rfl ?_|refine jQ ?_|refine jR ?_|refine jS ?_|refine jT ?_|refine jU (by assumption) rfl ?_|refine jG ?_ (by decide)|refine jH ?_ (by decide)|refine jI ?_ (by decide)|refine jJ ?_ (by decide)|refine jC ?_ (by decide)|refine jy ?_ (by decide)))
  have hcl20 : ∀ c ∈ (s14.rem 2).cls, c.lits.length ≤ 1000000 := fun c hc => by
    rcases hc14 c (List.mem_filter.1 hc).1 with ⟨_, g⟩ | ⟨_, g⟩ | ⟨_, g⟩
    · rw [g.length_eq]; decide
    · rw [g.length_eq]; decide
    · rw [g.length_eq]; decide
  refine M.call_i (cla_ret h20 hcl20 2) ?_; rintro cv21 w21 ⟨g21, k21⟩
  rw [hg2'] at g21
  obtain ⟨A21, c21, rfl, _, _⟩ := GI.lv g21
  have h21 := h20.keepN k21
  have fr := fr.keep k21
  (repeat (first|refine ja ?_|refine jb ?_|refine jc ?_|refine jd ?_|refine je ?_|refine jf ?_|refine jg ?_|refine jh ?_|refine ji ?_|refine jj ?_|refine jk ?_|refine jl ?_|refine jm ?_|refine jn ?_|refine jo ?_|refine jp ?_|refine jq ?_|refine jr ?_|refine js ?_|refine jt ?_|refine ju ?_|refine jv ?_|refine jw ?_|refine jx ?_|refine jy ?_|refine jz ?_|refine jA ?_|refine jB ?_|refine jC ?_|refine jD ?_|refine jE ?_|refine jF ?_|refine jG ?_|refine jH ?_|refine jI ?_|refine jJ ?_|refine jK ?_|refine jL ?_|refine jM (by assumption) ?_|refine jN (by assumption) rfl ?_|refine jO (by assumption) ?_|refine jP (by assumption) rfl ?_|refine jQ ?_|refine jR ?_|refine jS ?_|refine jT ?_|refine jU (by assumption) rfl ?_|refine jG ?_ (by decide)|refine jH ?_ (by decide)|refine jI ?_ (by decide)|refine jJ ?_ (by decide)|refine jC ?_ (by decide)|refine jy ?_ (by decide)))
  obtain ⟨c1, hc1, hc1n⟩ : ∃ c ∈ s14.cls, c.n = 1 := by
    obtain ⟨d, hd, hdn⟩ := hn1
    obtain ⟨c', g1, g2, _⟩ := R14.ceq.mem (c := d) (List.mem_append_left _ hd)
    exact ⟨c', g1, by omega⟩
  have hp1 : c1.lits.Perm [3, 4] := by
    rcases hc14 c1 hc1 with ⟨a, _⟩ | ⟨_, a⟩ | ⟨a, _⟩
    · omega
    · exact a
    · omega
  have hg1 : (s14.rem 2).get 1 = some c1 := by
    have := (R14.wi.rem 2).get (c := c1) (List.mem_filter.2 ⟨hc1, by simp; omega⟩)
    rw [hc1n] at this
    exact this
  refine M.call_i (cla_ret h21 hcl20 1) ?_; rintro cv22 w22 ⟨g22, k22⟩
  rw [hg1] at g22
  have fr := fr.keep k22
  (repeat (first|refine ja ?_|refine jb ?_|refine jc ?_|refine jd ?_|refine je ?_|refine jf ?_|refine jg ?_|refine jh ?_|refine ji ?_|refine jj ?_|refine jk ?_|refine jl ?_|refine jm ?_|refine jn ?_|refine jo ?_|refine jp ?_|refine jq ?_|refine jr ?_|refine js ?_|refine jt ?_|refine ju ?_|refine jv ?_|refine jw ?_|refine jx ?_|refine jy ?_|refine jz ?_|refine jA ?_|refine jB ?_|refine jC ?_|refine jD ?_|refine jE ?_|refine jF ?_|refine jG ?_|refine jH ?_|refine jI ?_|refine jJ ?_|refine jK ?_|refine jL ?_|refine jM (by assumption) ?_|refine jN (by assumption) rfl ?_|refine jO (by assumption) ?_|refine jP (by assumption) rfl ?_|refine jQ ?_|refine jR ?_|refine jS ?_|refine jT ?_|refine jU (by assumption) rfl ?_|refine jG ?_ (by decide)|refine jH ?_ (by decide)|refine jI ?_ (by decide)|refine jJ ?_ (by decide)|refine jC ?_ (by decide)|refine jy ?_ (by decide)))
  refine M.buildSlice_i ([3, 4].map vi) (by kernel_rfl) (fun w23 b23 k23 s23 => ?_)
  (repeat (first|refine ja ?_|refine jb ?_|refine jc ?_|refine jd ?_|refine je ?_|refine jf ?_|refine jg ?_|refine jh ?_|refine ji ?_|refine jj ?_|refine jk ?_|refine jl ?_|refine jm ?_|refine jn ?_|refine jo ?_|refine jp ?_|refine jq ?_|refine jr ?_|refine js ?_|refine jt ?_|refine ju ?_|refine jv ?_|refine jw ?_|refine jx ?_|refine jy ?_|refine jz ?_|refine jA ?_|refine jB ?_|refine jC ?_|refine jD ?_|refine jE ?_|refine jF ?_|refine jG ?_|refine jH ?_|refine jI ?_|refine jJ ?_|refine jK ?_|refine jL ?_|refine jM (by assumption) ?_|refine jN (by assumption) rfl ?_|refine jO (by assumption) ?_|refine jP (by assumption) rfl ?_|refine jQ ?_|refine jR ?_|refine jS ?_|refine jT ?_|refine jU (by assumption) rfl ?_|refine jG ?_ (by decide)|refine jH ?_ (by decide)|refine jI ?_ (by decide)|refine jJ ?_ (by decide)|refine jC ?_ (by decide)|refine jy ?_ (by decide)))
  refine M.call_i (set_ret (GI.lv (GC.keep g22 k23 (fun _ _ _ h => h))) (lvi_blk (xs := [3, 4]) (D := fun _ => True) b23 rfl trivial) (by show _ ≤ _; rw [hp1.length_eq]; decide) (by decide)) ?_; rintro _ w24 ⟨rfl, k24⟩
  rw [decide_eq_true (show srt c1.lits = srt [3, 4] from eq_srt (srt_lt _) (fun y => by rw [mem_srt, hp1.mem_iff]))]
  have fr := fr.keep (k23.trans k24 (fun _ _ h => h))
  (repeat (first|refine ja ?_|refine jb ?_|refine jc ?_|refine jd ?_|refine je ?_|refine jf ?_|refine jg ?_|refine jh ?_|refine ji ?_|refine jj ?_|refine jk ?_|refine jl ?_|refine jm ?_|refine jn ?_|refine jo ?_|refine jp ?_|refine jq ?_|refine jr ?_|refine js ?_|refine jt ?_|refine ju ?_|refine jv ?_|refine jw ?_|refine jx ?_|refine jy ?_|refine jz ?_|refine jA ?_|refine jB ?_|refine jC ?_|refine jD ?_|refine jE ?_|refine jF ?_|refine jG ?_|refine jH ?_|refine jI ?_|refine jJ ?_|refine jK ?_|refine jL ?_|refine jM (by assumption) ?_|refine jN (by assumption) rfl ?_|refine jO (by assumption) ?_|refine jP (by assumption) rfl ?_|refine jQ ?_|refine jR ?_|refine jS ?_|refine jT ?_|refine jU (by assumption) rfl ?_|refine jG ?_ (by decide)|refine jH ?_ (by decide)|refine jI ?_ (by decide)|refine jJ ?_ (by decide)|refine jC ?_ (by decide)|refine jy ?_ (by decide)))
  exact ⟨rfl, fr.1⟩
end Go.Proofs.Ytnkechekdncnlaa
