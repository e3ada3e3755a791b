import Derived.Test.YtnmbgfonlpjicaaW11b
namespace Go.Proofs.Ytnmbgfonlpjicaa
open Go.Mw Go.MapKept
set_option linter.unusedVariables false
set_option linter.unusedSimpArgs false
set_option maxRecDepth 100000
attribute [local irreducible] M.val M.unit M.next M.pick M.new M.nilCheck M.load1 M.loadA M.store M.fieldAddr M.indexSl M.indexArr M.slice M.makeSlice M.buildSlice M.len M.lenS M.cap M.append M.extract M.conv M.not M.neg M.bin M.shift M.eqB M.eqNil M.call M.callv M.gd M.share M.cond M.loop M.draw pureW readW Ret
def addBy (l : List (List Int)) (x : Int) (n : Int) : List (List Int) := l.set x.toNat (l.getD x.toNat [] ++ [n])
theorem addBy_len (l : List (List Int)) (x n : Int) : (addBy l x n).length = l.length := by simp [addBy]
section
variable {w w1 : World} {p q r : Nat} {lab ow bk : Nat → Nat} {cv : Nat → Value} {wv : Value} {t : Tr} {s : Wt} {vb vw1 vd : Value} {bvs : List Value} {O : Nat → Prop}
theorem TW.byStore_i {K : Kt} (h : TW w p q lab ow bk cv t s r vb vw1 vd bvs O) {x : Nat} (hx : x < s.by1.length) {v' : Value} {l' : List Int} {L : Nat → Prop} (g : GI w1 L v' l') (hL : ∀ b, L b → ow b = 6 + 3 * x ∨ w.heap.size ≤ b) (k : Keep w w1 (ow · = 6 + 3 * x))
    (hK : ∀ w2 O', TWR w2 p q O' bk cv vw1 t { s with by1 := s.by1.set x l' } → OMod w w2 O O' → K undef w2) : M.indexSl 1 vb (vi x) (fun t w => M.store 1 t v' K w) w1 := by
  have hbl := h.wb.byl
  have own : ∀ b, w.heap.size ≤ b → ow b = 0 := fun b hb => by
    by_cases e : ow b = 0
    · exact e
    · have := h.wb.lt b e; omega
  refine M.idxStoreV_i (h.wb.by0.keep k (fun b _ e => by omega)) (by omega) (GC.one g) (fun w2 hB k2 s2 => ?_)
  have g2 := g.keep k2 (fun b _ e e2 => by
    rcases hL b e with e1 | e1
    · omega
    · have := own b e1; omega)
  have wb2 := h.wb.setBy (w1 := w2) hx g2 (fun b e => by
    rcases hL b e with e1 | e1
    · exact .inl e1
    · exact .inr (own b e1)) ((k.mono (fun _ _ e => .inr e)).trans (k2.mono (fun _ _ e => .inl e)) (fun _ _ e => e)) hB
  have kk : Keep w w2 (fun b => ow b ≠ 0) := (k.mono (fun b _ e => by show ow b ≠ 0; omega)).trans (k2.mono (fun b _ e => by show ow b ≠ 0; omega)) (fun _ _ e => e)
  obtain ⟨O', h5, h6⟩ := h.setW kk wb2 (fun b hb e => relX_lt (n := w.heap.size) g2 hL (by omega) hb e)
  exact hK w2 O' ⟨_, _, _, _, _, _, h5⟩ h6
theorem sum_set (l : List (List Int)) (x : Nat) (a : List Int) (h : x < l.length) : ((l.set x a).map List.length).sum + (l.getD x []).length = (l.map List.length).sum + a.length := by
  induction l generalizing x with
  | nil => simp at h
  | cons b l ih =>
    cases x with
    | zero => simp; omega
    | succ x =>
      have := ih x (by simpa using h)
      simp only [List.set_cons_succ, List.map_cons, List.sum_cons, List.getD_cons_succ]
      omega
theorem sz_add {x n : Int} (h : x.toNat < s.by1.length) : ({ s with by1 := addBy s.by1 x n } : Wt).sz = s.sz + 1 := by
  have := sum_set s.by1 x.toNat (s.by1.getD x.toNat [] ++ [n]) h
  simp only [List.length_append, List.length_singleton] at this
  show ((addBy s.by1 x n).map List.length).sum + s.whole.length = (s.by1.map List.length).sum + s.whole.length + 1
  unfold addBy
  omega
theorem sz_put {n : Nat} {L : List Int} {b : Bool} : (s.putC n L b).sz = s.sz := rfl
theorem getD_of {l : List (List Int)} {x : Nat} {a : List Int} (h : l[x]? = some a) : l.getD x [] = a := by
  rw [List.getD_eq_getElem?_getD, h]; rfl
theorem two_of {L : List Int} (h : 2 ≤ L.length) : ∃ a b rest, L = a :: b :: rest := by
  match L, h with
  | a :: b :: rest, _ => exact ⟨a, b, rest, rfl⟩
theorem one_of {L : List Int} (h : 1 ≤ L.length) : ∃ a rest, L = a :: rest := by
  match L, h with
  | a :: rest, _ => exact ⟨a, rest, rfl⟩
def byF (l : List (List Int)) (a b n : Int) (i : Nat) : List (List Int) := ([a, b].take i).foldl (fun l x => addBy l x n) l
theorem byF_len (l : List (List Int)) (a b n : Int) : ∀ i, i < 2 → (byF l a b n i).length = l.length
  | 0, _ => rfl
  | 1, _ => by simp [byF, addBy_len]
theorem byF_sz {s : Wt} {a b n : Int} (ha : a.toNat < s.by1.length) : ∀ i, i < 2 → ({ s with by1 := byF s.by1 a b n i } : Wt).sz ≤ s.sz + 1
  | 0, _ => by show s.sz ≤ _; omega
  | 1, _ => by
    have := sz_add (s := s) (x := a) (n := n) ha
    show Wt.sz { s with by1 := addBy s.by1 a n } ≤ _
    omega
theorem byF_succ {l : List (List Int)} {a b n x : Int} {i : Nat} (h : [a, b][i]? = some x) : byF l a b n (i + 1) = addBy (byF l a b n i) x n := by
  unfold byF
  rw [List.take_add_one, h]
  simp [List.foldl_append]
/-- What Wholly brings about. -/
inductive WhoP (t : Tr) (s : Wt) (c : Wc) : Value → Tr → Wt → Prop
  | two (a b : Int) (rest : List Int) (hp : (a :: b :: rest).Perm c.lits) (ha : 0 ≤ t.val a) (hb : 0 ≤ t.val b) :
      WhoP t s c (.tuple #[.bool true, .bool false]) t { s.putC c.n (a :: b :: rest) false with by1 := addBy (addBy s.by1 a c.n) b c.n }
  | none (L : List Int) (hp : L.Perm c.lits) (h : ∀ x ∈ L, t.val x < 0) : WhoP t s c (.tuple #[.bool false, .bool false]) t (s.putC c.n L c.whole)
  | one (a : Int) (rest : List Int) (hp : (a :: rest).Perm c.lits) (ha : 0 ≤ t.val a) (h : ∀ x ∈ rest, t.val x < 0) :
      WhoP t s c (.tuple #[.bool true, .bool (t.may a)]) (t.assign a c.n) (s.putC c.n (a :: rest) c.whole)
set_option maxHeartbeats 1000000 in
theorem wholly_ret (h : TWR w p q O bk cv wv t s) {c : Wc} (hg : s.get c.n = some c) (hcl : c.lits.length ≤ 1000000) (hz : s.sz ≤ 1000000000) (hx : ∀ x ∈ c.lits, 0 ≤ x ∧ x < s.by1.length) :
    Ret Try.prog 51 #[ptr q, ptr p, vi c.n] w (fun v w' => ∃ t' s' O', WhoP t s c v t' s' ∧ TWR w' p q O' bk cv wv t' s' ∧ OMod w w' O O') := by
  obtain ⟨lab, ow, r, vb, vd, bvs, hT⟩ := id h
  have hB := hT.wb.st
  refine ok51 _ _ _ _ _ ?_
  unfold sh51
  (repeat (first|refine ja ?_|refine jb ?_|refine jc ?_|refine jd ?_|refine je ?_|refine jf ?_|refine jg ?_|refine jh ?_|refine ji ?_|refine jj ?_|refine jk ?_|refine jl ?_|refine jm ?_|refine jn ?_|refine jo ?_|refine jp ?_|refine jq ?_|refine jr ?_|refine js ?_|refine jt ?_|refine ju ?_|refine jv ?_|refine jw ?_|refine jx ?_|refine jy ?_|refine jz ?_|refine jA ?_|refine jB ?_|refine jC ?_|refine jD ?_|refine jE ?_|refine jF ?_|refine jG ?_|refine jH ?_|refine jI ?_|refine jJ ?_|refine jK ?_|refine jL ?_|refine jM (by assumption) ?_|refine jN (by assumption) rfl ?_|refine jO (by assumption) ?_|refine jP (by assumption) rfl ?_|refine jQ ?_|refine jR ?_|refine jS ?_|refine jT ?_|refine jU (by assumption) rfl ?_))
  refine hT.wb.all_i _ ?_
  rw [hg]
  refine M.call_i (front_ret h hg hcl) ?_; rintro _ w1 ⟨n, L, rfl, hF, h1, k1⟩
  have m1 : OMod w w1 O O := ⟨k1, fun _ _ e => e⟩
  have hg1 : (s.putC c.n L c.whole).get c.n = some ⟨c.n, L, c.whole⟩ := get_put hg
  obtain ⟨hc1, _⟩ := get_some hg1
  have hLx : ∀ x ∈ L, 0 ≤ x ∧ x < s.by1.length := fun x hm => hx x (hF.perm.mem_iff.1 hm)
  have hLl := hF.perm.length_eq
  have hn2 := hF.le
  obtain ⟨lab, ow, r, vb, vd, bvs, hT⟩ := id h1
  have hB := hT.wb.st
  obtain ⟨ho, hb, hl⟩ := hT.wb.one _ hc1
  simp only at ho hb hl
  have hm : n = 2 ∨ n = 0 ∨ n = 1 := by omega
  rcases hm with rfl | rfl | rfl
  · have hlen := hF.len
    obtain ⟨a, b, rest, rfl⟩ := two_of hlen
    obtain ⟨b0, cap, tl0, hcv, hL0, hBl, hcap⟩ := hl.pos (by simp)
    have ha := hF.ge 0 a (by omega) rfl
    have hb2 := hF.ge 1 b (by omega) rfl
    have hxa := hLx a (by simp)
    have hxb := hLx b (by simp)
    (repeat (first|refine ja ?_|refine jb ?_|refine jc ?_|refine jd ?_|refine je ?_|refine jf ?_|refine jg ?_|refine jh ?_|refine ji ?_|refine jj ?_|refine jk ?_|refine jl ?_|refine jm ?_|refine jn ?_|refine jo ?_|refine jp ?_|refine jq ?_|refine jr ?_|refine js ?_|refine jt ?_|refine ju ?_|refine jv ?_|refine jw ?_|refine jx ?_|refine jy ?_|refine jz ?_|refine jA ?_|refine jB ?_|refine jC ?_|refine jD ?_|refine jE ?_|refine jF ?_|refine jG ?_|refine jH ?_|refine jI ?_|refine jJ ?_|refine jK ?_|refine jL ?_|refine jM (by assumption) ?_|refine jN (by assumption) rfl ?_|refine jO (by assumption) ?_|refine jP (by assumption) rfl ?_|refine jQ ?_|refine jR ?_|refine jS ?_|refine jT ?_|refine jU (by assumption) rfl ?_|refine jG ?_ (by decide)|refine jH ?_ (by decide)|refine jI ?_ (by decide)|refine jJ ?_ (by decide)|refine jC ?_ (by decide)|refine jy ?_ (by decide)))
    have hq := hT.wb.oq
    refine M.store_i hb (by simp) rfl (fun w2 b2 k2 s2 => ?_)
    have wb2 := hT.wb.setOne (w1 := w2) (n := c.n) (lits := a :: b :: rest) (wh := false) (k2.mono (fun _ _ e => .inl e)) ho b2 (hl.keep k2 (fun b _ e e2 => by have e2 : b = bk c.n := e2; rw [e2] at e; omega))
    have es : ({ s.putC c.n (a :: b :: rest) c.whole with cls := setC (s.putC c.n (a :: b :: rest) c.whole).cls c.n (fun c => { c with lits := a :: b :: rest, whole := false }) } : Wt) = s.putC c.n (a :: b :: rest) false := by
      unfold Wt.putC setC
      simp only [List.map_map, Wt.mk.injEq, true_and, and_true]
      apply List.map_congr_left
      intro d _
      simp only [Function.comp]
      by_cases e : d.n = c.n <;> simp [e]
    rw [es] at wb2
    obtain ⟨O2, hT2, m2⟩ := hT.setW (k2.mono (fun b _ e => by have e : b = bk c.n := e; show ow b ≠ 0; rw [e]; omega)) wb2 (fun b _ e => e)
    have m02 := m1.trans m2
    have b2' : Blk w2 (bk c.n) [cv c.n, .bool false] := b2
    (repeat (first|refine ja ?_|refine jb ?_|refine jc ?_|refine jd ?_|refine je ?_|refine jf ?_|refine jg ?_|refine jh ?_|refine ji ?_|refine jj ?_|refine jk ?_|refine jl ?_|refine jm ?_|refine jn ?_|refine jo ?_|refine jp ?_|refine jq ?_|refine jr ?_|refine js ?_|refine jt ?_|refine ju ?_|refine jv ?_|refine jw ?_|refine jx ?_|refine jy ?_|refine jz ?_|refine jA ?_|refine jB ?_|refine jC ?_|refine jD ?_|refine jE ?_|refine jF ?_|refine jG ?_|refine jH ?_|refine jI ?_|refine jJ ?_|refine jK ?_|refine jL ?_|refine jM (by assumption) ?_|refine jN (by assumption) rfl ?_|refine jO (by assumption) ?_|refine jP (by assumption) rfl ?_|refine jQ ?_|refine jR ?_|refine jS ?_|refine jT ?_|refine jU (by assumption) rfl ?_))
    rw [hcv]
    have hcap2 : 2 ≤ cap := by
      have := hcap
      simp at this; omega
    rw [show (Value.int IntKind.i64 2) = vi ((2 : Nat) : Int) from rfl]
    refine M.slice_i 0 2 cap (sl3_h hcap2) ?_
    have eA : (if cap = 0 then (some ⟨b0, 0, none⟩ : Option Addr) else (some (⟨b0, 0, none⟩ : Addr)).map (·.add (0 * 1))) = some ⟨b0, 0, none⟩ := by
      simp [add_mk]
    rw [eA]
    (repeat (first|refine ja ?_|refine jb ?_|refine jc ?_|refine jd ?_|refine je ?_|refine jf ?_|refine jg ?_|refine jh ?_|refine ji ?_|refine jj ?_|refine jk ?_|refine jl ?_|refine jm ?_|refine jn ?_|refine jo ?_|refine jp ?_|refine jq ?_|refine jr ?_|refine js ?_|refine jt ?_|refine ju ?_|refine jv ?_|refine jw ?_|refine jx ?_|refine jy ?_|refine jz ?_|refine jA ?_|refine jB ?_|refine jC ?_|refine jD ?_|refine jE ?_|refine jF ?_|refine jG ?_|refine jH ?_|refine jI ?_|refine jJ ?_|refine jK ?_|refine jL ?_|refine jM (by assumption) ?_|refine jN (by assumption) rfl ?_|refine jO (by assumption) ?_|refine jP (by assumption) rfl ?_|refine jQ ?_|refine jR ?_|refine jS ?_|refine jT ?_|refine jU (by assumption) rfl ?_))
    refine M.loop_i (σ := Nat) (fun i vals w' => vals = [vi i] ∧ i ≤ 2 ∧ ∃ O', TWR w' p q O' bk cv wv t { s.putC c.n (a :: b :: rest) false with by1 := byF s.by1 a b c.n i } ∧ OMod w2 w' O2 O') (fun i => 2 - i) 0
      ⟨rfl, by omega, O2, ⟨_, _, _, _, _, _, hT2⟩, OMod.refl _ _⟩ ?_
    rintro i vals w3 K ⟨rfl, hi, O3, h3, m3⟩ hK _
    simp only [List.getD_cons_zero, List.getD_cons_succ]
    by_cases hlt : i < 2
    · obtain ⟨x, hxi⟩ : ∃ x, [a, b][i]? = some x := ⟨_, List.getElem?_eq_getElem (by simpa using hlt)⟩
      have hxm : x = a ∨ x = b := by
        have := List.mem_of_getElem? hxi
        simpa using this
      have hx0 : 0 ≤ x ∧ x < s.by1.length := by
        rcases hxm with rfl | rfl
        · exact hxa
        · exact hxb
      have hxL : (a :: b :: rest)[i]? = some x := by
        have e : a :: b :: rest = [a, b] ++ rest := rfl
        rw [e, List.getElem?_append_left (by simpa using hlt)]; exact hxi
      have hfl := byF_len s.by1 a b c.n i hlt
      have hfs := byF_sz (s := s.putC c.n (a :: b :: rest) false) (b := b) (n := c.n) (show a.toNat < s.by1.length by omega) i hlt
      have hf2 := byF_succ (l := s.by1) (n := c.n) hxi
      obtain ⟨xn, rfl⟩ := Int.eq_ofNat_of_zero_le hx0.1
      have hgs : ({ s.putC c.n (a :: b :: rest) false with by1 := byF s.by1 a b c.n i } : Wt).get c.n = some ⟨c.n, a :: b :: rest, false⟩ := get_put hg
      have hnx : ∀ s' : Wt, s' = { ({ s.putC c.n (a :: b :: rest) false with by1 := byF s.by1 a b c.n i } : Wt) with by1 := addBy ({ s.putC c.n (a :: b :: rest) false with by1 := byF s.by1 a b c.n i } : Wt).by1 xn c.n } → s' = { s.putC c.n (a :: b :: rest) false with by1 := byF s.by1 a b c.n (i + 1) } := fun s' e => by rw [e, hf2]
      have hfl : ({ s.putC c.n (a :: b :: rest) false with by1 := byF s.by1 a b c.n i } : Wt).by1.length = s.by1.length := hfl
      have hfs : ({ s.putC c.n (a :: b :: rest) false with by1 := byF s.by1 a b c.n i } : Wt).sz ≤ s.sz + 1 := hfs
      generalize ({ s.putC c.n (a :: b :: rest) false with by1 := byF s.by1 a b c.n i } : Wt) = s3 at h3 hgs hnx hfl hfs
      obtain ⟨lab, ow, r, vb, vd, bvs, hT3⟩ := id h3
      obtain ⟨hc3, _⟩ := get_some hgs
      obtain ⟨ho3, hb3, hl3⟩ := hT3.wb.one _ hc3
      obtain ⟨b3, cap3, tl3, hcv3, hL3, hBl3, _⟩ := hl3.pos (by simp)
      simp only at hcv3
      rw [hcv] at hcv3
      simp only [Value.slice.injEq, Option.some.injEq, Addr.mk.injEq, and_true] at hcv3
      have hcell : w3.cell? ⟨b0, i, none⟩ = some (vi xn) := by
        rw [hcv3.1]
        exact hBl3.cell (by
          rw [List.getElem?_append_left (by rw [List.length_map]; exact (List.getElem?_eq_some_iff.1 hxL).1), List.getElem?_map, hxL]; rfl)
      (repeat (first|refine ja ?_|refine jb ?_|refine jc ?_|refine jd ?_|refine je ?_|refine jf ?_|refine jg ?_|refine jh ?_|refine ji ?_|refine jj ?_|refine jk ?_|refine jl ?_|refine jm ?_|refine jn ?_|refine jo ?_|refine jp ?_|refine jq ?_|refine jr ?_|refine js ?_|refine jt ?_|refine ju ?_|refine jv ?_|refine jw ?_|refine jx ?_|refine jy ?_|refine jz ?_|refine jA ?_|refine jB ?_|refine jC ?_|refine jD ?_|refine jE ?_|refine jF ?_|refine jG ?_|refine jH ?_|refine jI ?_|refine jJ ?_|refine jK ?_|refine jL ?_|refine jM (by assumption) ?_|refine jN (by assumption) rfl ?_|refine jO (by assumption) ?_|refine jP (by assumption) rfl ?_|refine jQ ?_|refine jR ?_|refine jS ?_|refine jT ?_|refine jU (by assumption) rfl ?_))
      refine M.idx_i (by omega) (by omega) ?_
      simp only [Nat.zero_add, Nat.mul_one, Int.toNat_natCast]
      refine M.load_i hcell ?_
      have kd := Keep.drew w3 No
      have hT3 := hT3.keep kd
      have m3 := m3.trans (OMod.of kd)
      (repeat (first|refine ja ?_|refine jb ?_|refine jc ?_|refine jd ?_|refine je ?_|refine jf ?_|refine jg ?_|refine jh ?_|refine ji ?_|refine jj ?_|refine jk ?_|refine jl ?_|refine jm ?_|refine jn ?_|refine jo ?_|refine jp ?_|refine jq ?_|refine jr ?_|refine js ?_|refine jt ?_|refine ju ?_|refine jv ?_|refine jw ?_|refine jx ?_|refine jy ?_|refine jz ?_|refine jA ?_|refine jB ?_|refine jC ?_|refine jD ?_|refine jE ?_|refine jF ?_|refine jG ?_|refine jH ?_|refine jI ?_|refine jJ ?_|refine jK ?_|refine jL ?_|refine jM (by assumption) ?_|refine jN (by assumption) rfl ?_|refine jO (by assumption) ?_|refine jP (by assumption) rfl ?_|refine jQ ?_|refine jR ?_|refine jS ?_|refine jT ?_|refine jU (by assumption) rfl ?_))
      generalize w3.drew = w4 at *
      have hB4 := hT3.wb.st
      (repeat (first|refine ja ?_|refine jb ?_|refine jc ?_|refine jd ?_|refine je ?_|refine jf ?_|refine jg ?_|refine jh ?_|refine ji ?_|refine jj ?_|refine jk ?_|refine jl ?_|refine jm ?_|refine jn ?_|refine jo ?_|refine jp ?_|refine jq ?_|refine jr ?_|refine js ?_|refine jt ?_|refine ju ?_|refine jv ?_|refine jw ?_|refine jx ?_|refine jy ?_|refine jz ?_|refine jA ?_|refine jB ?_|refine jC ?_|refine jD ?_|refine jE ?_|refine jF ?_|refine jG ?_|refine jH ?_|refine jI ?_|refine jJ ?_|refine jK ?_|refine jL ?_|refine jM (by assumption) ?_|refine jN (by assumption) rfl ?_|refine jO (by assumption) ?_|refine jP (by assumption) rfl ?_|refine jQ ?_|refine jR ?_|refine jS ?_|refine jT ?_|refine jU (by assumption) rfl ?_))
      refine M.byAt_i hT3.wb (x := xn) (by omega) (fun bb v l hob hbv hbl hgl hcell4 => ?_)
      (repeat (first|refine ja ?_|refine jb ?_|refine jc ?_|refine jd ?_|refine je ?_|refine jf ?_|refine jg ?_|refine jh ?_|refine ji ?_|refine jj ?_|refine jk ?_|refine jl ?_|refine jm ?_|refine jn ?_|refine jo ?_|refine jp ?_|refine jq ?_|refine jr ?_|refine js ?_|refine jt ?_|refine ju ?_|refine jv ?_|refine jw ?_|refine jx ?_|refine jy ?_|refine jz ?_|refine jA ?_|refine jB ?_|refine jC ?_|refine jD ?_|refine jE ?_|refine jF ?_|refine jG ?_|refine jH ?_|refine jI ?_|refine jJ ?_|refine jK ?_|refine jL ?_|refine jM (by assumption) ?_|refine jN (by assumption) rfl ?_|refine jO (by assumption) ?_|refine jP (by assumption) rfl ?_|refine jQ ?_|refine jR ?_|refine jS ?_|refine jT ?_|refine jU (by assumption) rfl ?_))
      refine M.buildSlice_i [vi c.n] (by kernel_rfl) (fun w5 b5 k5 s5 => ?_)
      have hT5 := hT3.keep k5
      have hB5 := hT5.wb.st
      have hcell5 := k5.cell (fun e => e) hcell4
      (repeat (first|refine ja ?_|refine jb ?_|refine jc ?_|refine jd ?_|refine je ?_|refine jf ?_|refine jg ?_|refine jh ?_|refine ji ?_|refine jj ?_|refine jk ?_|refine jl ?_|refine jm ?_|refine jn ?_|refine jo ?_|refine jp ?_|refine jq ?_|refine jr ?_|refine js ?_|refine jt ?_|refine ju ?_|refine jv ?_|refine jw ?_|refine jx ?_|refine jy ?_|refine jz ?_|refine jA ?_|refine jB ?_|refine jC ?_|refine jD ?_|refine jE ?_|refine jF ?_|refine jG ?_|refine jH ?_|refine jI ?_|refine jJ ?_|refine jK ?_|refine jL ?_|refine jM (by assumption) ?_|refine jN (by assumption) rfl ?_|refine jO (by assumption) ?_|refine jP (by assumption) rfl ?_|refine jQ ?_|refine jR ?_|refine jS ?_|refine jT ?_|refine jU (by assumption) rfl ?_))
      have hll := sz_by hbl
      refine M.append1_i (GC.keep hgl k5 (fun _ _ _ e => e)) (Row.of_blk' (D := fun _ => True) b5 trivial) rfl (by omega) (fun v6 w6 g6 k6 => ?_)
      have hB6 := hB5.keep k6 (by have := hT3.wb.oq; omega)
      (repeat (first|refine ja ?_|refine jb ?_|refine jc ?_|refine jd ?_|refine je ?_|refine jf ?_|refine jg ?_|refine jh ?_|refine ji ?_|refine jj ?_|refine jk ?_|refine jl ?_|refine jm ?_|refine jn ?_|refine jo ?_|refine jp ?_|refine jq ?_|refine jr ?_|refine js ?_|refine jt ?_|refine ju ?_|refine jv ?_|refine jw ?_|refine jx ?_|refine jy ?_|refine jz ?_|refine jA ?_|refine jB ?_|refine jC ?_|refine jD ?_|refine jE ?_|refine jF ?_|refine jG ?_|refine jH ?_|refine jI ?_|refine jJ ?_|refine jK ?_|refine jL ?_|refine jM (by assumption) ?_|refine jN (by assumption) rfl ?_|refine jO (by assumption) ?_|refine jP (by assumption) rfl ?_|refine jQ ?_|refine jR ?_|refine jS ?_|refine jT ?_|refine jU (by assumption) rfl ?_))
      refine hT5.byStore_i (by omega) g6 (fun b e => e) k6 (fun w7 O7 h7 m7 => ?_)
      (repeat (first|refine ja ?_|refine jb ?_|refine jc ?_|refine jd ?_|refine je ?_|refine jf ?_|refine jg ?_|refine jh ?_|refine ji ?_|refine jj ?_|refine jk ?_|refine jl ?_|refine jm ?_|refine jn ?_|refine jo ?_|refine jp ?_|refine jq ?_|refine jr ?_|refine js ?_|refine jt ?_|refine ju ?_|refine jv ?_|refine jw ?_|refine jx ?_|refine jy ?_|refine jz ?_|refine jA ?_|refine jB ?_|refine jC ?_|refine jD ?_|refine jE ?_|refine jF ?_|refine jG ?_|refine jH ?_|refine jI ?_|refine jJ ?_|refine jK ?_|refine jL ?_|refine jM (by assumption) ?_|refine jN (by assumption) rfl ?_|refine jO (by assumption) ?_|refine jP (by assumption) rfl ?_|refine jQ ?_|refine jR ?_|refine jS ?_|refine jT ?_|refine jU (by assumption) rfl ?_))
      have m47 := (OMod.of (O := O3) k5).trans m7
      refine hK (i + 1) _ _ (by omega) ⟨rfl, by omega, O7, ?_, m3.trans m47⟩
      have e := hnx { s3 with by1 := s3.by1.set xn (l ++ [(c.n : Int)]) } (by
        unfold addBy
        rw [Int.toNat_natCast, getD_of hbl])
      rw [← e]
      exact h7
    · have e : i = 2 := by omega
      subst e
      (repeat (first|refine ja ?_|refine jb ?_|refine jc ?_|refine jd ?_|refine je ?_|refine jf ?_|refine jg ?_|refine jh ?_|refine ji ?_|refine jj ?_|refine jk ?_|refine jl ?_|refine jm ?_|refine jn ?_|refine jo ?_|refine jp ?_|refine jq ?_|refine jr ?_|refine js ?_|refine jt ?_|refine ju ?_|refine jv ?_|refine jw ?_|refine jx ?_|refine jy ?_|refine jz ?_|refine jA ?_|refine jB ?_|refine jC ?_|refine jD ?_|refine jE ?_|refine jF ?_|refine jG ?_|refine jH ?_|refine jI ?_|refine jJ ?_|refine jK ?_|refine jL ?_|refine jM (by assumption) ?_|refine jN (by assumption) rfl ?_|refine jO (by assumption) ?_|refine jP (by assumption) rfl ?_|refine jQ ?_|refine jR ?_|refine jS ?_|refine jT ?_|refine jU (by assumption) rfl ?_))
      exact ⟨t, _, O3, .two a b rest hF.perm ha hb2, h3, m02.trans m3⟩
  · (repeat (first|refine ja ?_|refine jb ?_|refine jc ?_|refine jd ?_|refine je ?_|refine jf ?_|refine jg ?_|refine jh ?_|refine ji ?_|refine jj ?_|refine jk ?_|refine jl ?_|refine jm ?_|refine jn ?_|refine jo ?_|refine jp ?_|refine jq ?_|refine jr ?_|refine js ?_|refine jt ?_|refine ju ?_|refine jv ?_|refine jw ?_|refine jx ?_|refine jy ?_|refine jz ?_|refine jA ?_|refine jB ?_|refine jC ?_|refine jD ?_|refine jE ?_|refine jF ?_|refine jG ?_|refine jH ?_|refine jI ?_|refine jJ ?_|refine jK ?_|refine jL ?_|refine jM (by assumption) ?_|refine jN (by assumption) rfl ?_|refine jO (by assumption) ?_|refine jP (by assumption) rfl ?_|refine jQ ?_|refine jR ?_|refine jS ?_|refine jT ?_|refine jU (by assumption) rfl ?_|refine jG ?_ (by decide)|refine jH ?_ (by decide)|refine jI ?_ (by decide)|refine jJ ?_ (by decide)|refine jC ?_ (by decide)|refine jy ?_ (by decide)))
    exact ⟨t, _, O, .none L hF.perm (fun x hx => by
      obtain ⟨j, hj⟩ := List.mem_iff_getElem?.1 hx
      exact hF.lt (by omega) j x (by omega) hj), h1, m1⟩
  · obtain ⟨a, rest, rfl⟩ := one_of hF.len
    obtain ⟨b0, cap, tl0, hcv, hL0, hBl, hcap⟩ := hl.pos (by simp)
    (repeat (first|refine ja ?_|refine jb ?_|refine jc ?_|refine jd ?_|refine je ?_|refine jf ?_|refine jg ?_|refine jh ?_|refine ji ?_|refine jj ?_|refine jk ?_|refine jl ?_|refine jm ?_|refine jn ?_|refine jo ?_|refine jp ?_|refine jq ?_|refine jr ?_|refine js ?_|refine jt ?_|refine ju ?_|refine jv ?_|refine jw ?_|refine jx ?_|refine jy ?_|refine jz ?_|refine jA ?_|refine jB ?_|refine jC ?_|refine jD ?_|refine jE ?_|refine jF ?_|refine jG ?_|refine jH ?_|refine jI ?_|refine jJ ?_|refine jK ?_|refine jL ?_|refine jM (by assumption) ?_|refine jN (by assumption) rfl ?_|refine jO (by assumption) ?_|refine jP (by assumption) rfl ?_|refine jQ ?_|refine jR ?_|refine jS ?_|refine jT ?_|refine jU (by assumption) rfl ?_|refine jG ?_ (by decide)|refine jH ?_ (by decide)|refine jI ?_ (by decide)|refine jJ ?_ (by decide)|refine jC ?_ (by decide)|refine jy ?_ (by decide)))
    rw [hcv]
    have hcell : w1.cell? ⟨b0, 0, none⟩ = some (vi a) := hBl.cell rfl
    refine M.idx_i (by omega) (by simp) ?_
    refine M.load_i hcell ?_
    refine M.call_i (asg_tw h1 a c.n) ?_; rintro _ w2 ⟨rfl, O2, h2, m2⟩
    exact ⟨_, _, O2, .one a rest hF.perm (hF.ge 0 a (by omega) rfl) (fun x hx => by
      obtain ⟨j, hj⟩ := List.mem_iff_getElem?.1 hx
      exact hF.lt (by omega) (j + 1) x (by omega) hj), h2, m1.trans m2⟩
end
end Go.Proofs.Ytnmbgfonlpjicaa
