import Derived.Test.YtnmbgfonlpjicaaAn12i
import Derived.Test.YtnmbgfonlpjicaaW11iw
namespace Go.Proofs.Ytnmbgfonlpjicaa
open Go.Mw
set_option linter.unusedVariables false
set_option linter.unusedSimpArgs false
set_option maxRecDepth 100000
attribute [local irreducible] M.val M.unit M.next M.pick M.new M.nilCheck M.load1 M.loadA M.store M.fieldAddr M.indexSl M.indexArr M.slice M.makeSlice M.buildSlice M.len M.lenS M.cap M.append M.extract M.conv M.not M.neg M.bin M.shift M.eqB M.eqNil M.call M.callv M.gd M.share M.cond M.loop M.draw pureW readW Ret
/-! breakwater/breakwaterlaw12.AnalyzeLearns: function 4 -/
def sh4 (x0 x1 x2 : Value) (R : Kt) (w : World) : Prop :=
  M.bin .lss x0 (Value.int IntKind.i64 1) (fun t19 w =>
  M.gd t19 false (fun k w => k x0 w) (fun t21 w =>
  M.gd t19 false (fun k w => M.bin .gtr t21 (Value.int IntKind.i64 20) k w) (fun t22 w =>
  M.pick t19 (Value.bool true) t22 (fun t23 w =>
  M.gd t23 false (fun k w => k x1 w) (fun t25 w =>
  M.gd t23 false (fun k w => M.call Try.prog 5 #[t25, (Value.int IntKind.i64 40)] k w) (fun t26 w =>
  M.gd t23 false (fun k w => M.bin .eql t26 (Value.int IntKind.i64 0) k w) (fun t27 w =>
  M.pick t23 (Value.bool true) t27 (fun t28 w =>
  M.gd t28 false (fun k w => k x2 w) (fun t30 w =>
  M.gd t28 false (fun k w => M.len t30 k w) (fun t31 w =>
  M.gd t28 false (fun k w => M.bin .gtr t31 (Value.int IntKind.i64 30) k w) (fun t32 w =>
  M.pick t28 (Value.bool true) t32 (fun t33 w =>
  M.cond t33
  (M.call Try.prog 6 #[] (fun t34 w =>
  R t34 w) w)
  (M.call Try.prog 9 #[x0] (fun t36 w =>
  M.call Try.prog 10 #[x0] (fun t38 w =>
  M.eqNil 0 false t36 (fun t40 w =>
  M.gd t40 false (fun k w => k t38 w) (fun t42 w =>
  M.gd t40 false (fun k w => M.eqNil 0 false t42 k w) (fun t43 w =>
  M.pick t40 (Value.bool true) t43 (fun t44 w =>
  M.cond t44
  (R (Value.bool false) w)
  (M.loop [(Value.slice none 0 0), (Value.int IntKind.i64 0)] (fun s1 K1 w => ∀ _ : List Value,
  M.len x1 (fun t47 w =>
  M.bin .lss (s1.getD 1 undef) t47 (fun t48 w =>
  M.cond t48
  (M.indexSl 1 x1 (s1.getD 1 undef) (fun t56 w =>
  M.load1 t56 (fun t57 w =>
  M.call Try.prog 11 #[t38, t36, t57] (fun t58 w =>
  M.extract 0 t58 (fun t59 w =>
  M.extract 1 t58 (fun t60 w =>
  M.bin .neq t60 (Value.int IntKind.i64 0) (fun t62 w =>
  M.cond t62
  (M.call Try.prog 6 #[] (fun t63 w =>
  R t63 w) w)
  (M.bin .neq t59 (s1.getD 1 undef) (fun t66 w =>
  M.cond t66
  (R (Value.bool false) w)
  (M.indexSl 1 x1 (s1.getD 1 undef) (fun t70 w =>
  M.load1 t70 (fun t71 w =>
  M.buildSlice 25 1 #[.slice none 0 0] 1 [(0, t71)] (fun t72 w =>
  M.append 25 1 24 #[.slice none 0 0] (s1.getD 0 undef) t72 (fun t73 w =>
  M.bin .add (s1.getD 1 undef) (Value.int IntKind.i64 1) (fun t50 w =>
  K1 [t73, t50] w) w) w) w) w) w)) w)) w) w) w) w) w) w)
  (M.call Try.prog 12 #[t38, t36] (fun t77 w =>
  M.extract 0 t77 (fun t78 w =>
  M.extract 1 t77 (fun t79 w =>
  M.loop [t78, t79, (Value.int IntKind.i64 0)] (fun s2 K2 w => ∀ _ : List Value,
  M.len x2 (fun t82 w =>
  M.bin .lss (s2.getD 2 undef) t82 (fun t83 w =>
  M.gd t83 true (fun k w => k (s2.getD 1 undef) w) (fun t85 w =>
  M.pick t83 t85 (Value.bool false) (fun t86 w =>
  M.cond t86
  (M.share (fun K3 w =>
  M.indexSl 1 x2 (s2.getD 2 undef) (fun t92 w =>
  M.load1 t92 (fun t93 w =>
  M.call Try.prog 13 #[t36, t93] (fun t94 w =>
  M.cond t94
  (M.call Try.prog 12 #[t38, t36] (fun t98 w =>
  M.extract 0 t98 (fun t99 w =>
  M.extract 1 t98 (fun t100 w =>
  K3 [t99, t100] w) w) w) w)
  (K3 [(s2.getD 0 undef), (s2.getD 1 undef)] w)) w) w) w) (fun s3 w => ∀ _ : List Value,
  M.bin .add (s2.getD 2 undef) (Value.int IntKind.i64 1) (fun t88 w =>
  K2 [(s3.getD 0 undef), (s3.getD 1 undef), t88] w) w) w)
  (M.gd (s2.getD 1 undef) false (fun k w => k t36 w) (fun t105 w =>
  M.gd (s2.getD 1 undef) false (fun k w => M.call Try.prog 14 #[t105] k w) (fun t106 w =>
  M.gd (s2.getD 1 undef) false (fun k w => M.bin .eql t106 (Value.int IntKind.i64 0) k w) (fun t107 w =>
  M.pick (s2.getD 1 undef) (Value.bool true) t107 (fun t108 w =>
  M.cond t108
  (M.call Try.prog 6 #[] (fun t109 w =>
  R t109 w) w)
  (M.call Try.prog 15 #[t36, (s1.getD 0 undef), (s2.getD 0 undef)] (fun t113 w =>
  M.gd t113 true (fun k w => M.call Try.prog 6 #[] k w) (fun t115 w =>
  M.pick t113 t115 (Value.bool false) (fun t116 w =>
  R t116 w) w) w) w)) w) w) w) w)) w) w) w) w) w) w) w) w)) w) w) w)) w) w) w) w) w) w)) w) w) w) w) w) w) w) w) w) w) w) w
theorem ok4 (x0 x1 x2 : Value) (R : Kt) (w : World) (h : sh4 x0 x1 x2 R w) : Ret Try.prog 4 #[x0, x1, x2] w R :=
  ret_mk <| calls_of_comp mixed (c := Try.f4.body.getD .skip) (args := [x0, x1, x2]) (rs := [(ResultVar.tmp 6)]) (Ann.seq Ann.text (Ann.seq (Ann.seq Ann.text (Ann.cond (Ann.seq Ann.text Ann.leaf) Ann.leaf)) (Ann.seq Ann.text (Ann.seq (Ann.seq Ann.text (Ann.cond (Ann.seq Ann.text Ann.leaf) Ann.leaf)) (Ann.seq Ann.text (Ann.seq (Ann.seq Ann.text (Ann.block (Ann.loop [9, 10] [6, 11, 12, 45, 46, 47, 48, 49, 50, 51, 52, 53, 54, 55, 56, 57, 58, 59, 60, 61, 62, 63, 64, 65, 66, 67, 68, 69, 70, 71, 72, 73] (Ann.seq (Ann.seq Ann.text (Ann.cond Ann.leaf Ann.leaf)) (Ann.seq (Ann.block (Ann.seq Ann.text (Ann.seq (Ann.seq Ann.text (Ann.cond (Ann.seq Ann.text Ann.leaf) Ann.leaf)) (Ann.seq (Ann.seq Ann.text (Ann.cond (Ann.seq Ann.text Ann.leaf) Ann.leaf)) Ann.text)))) Ann.text))))) (Ann.seq Ann.text (Ann.seq (Ann.seq Ann.text (Ann.block (Ann.loop [13, 14, 15] [16, 17, 80, 81, 82, 83, 84, 85, 86, 87, 88, 89, 90, 91, 92, 93, 94, 95, 96, 97, 98, 99, 100, 101, 102] (Ann.seq (Ann.seq Ann.text (Ann.cond Ann.leaf Ann.leaf)) (Ann.seq (Ann.jblock [13, 14] [16, 17, 89, 90, 91, 92, 93, 94, 95, 96, 97, 98, 99, 100, 101, 102] (Ann.seq Ann.text (Ann.cond (Ann.seq Ann.text (Ann.seq Ann.text Ann.text)) Ann.leaf))) Ann.text))))) (Ann.seq (Ann.seq Ann.text (Ann.cond (Ann.seq Ann.text Ann.leaf) Ann.leaf)) (Ann.seq Ann.text Ann.leaf))))))))))
    Try.func4 (by kernel_rfl) (by kernel_rfl)
    (Eq.mp (by kernel_rfl) h)

/-! ### between the deeds of the law: no program here -/
structure RelL (s : Wt) (l : List (List Int)) (k : Nat) : Prop where
  mem : ∀ c ∈ s.cls, ∃ d, l[c.n]? = some d ∧ ∀ y, y ∈ d ↔ y ∈ c.lits
  ever : s.ever = k
def Dcs (t : Tr) : Prop := ∀ (i : Nat) e, t.L[i]? = some e → e.rea < 0 → ∃ k : Nat, t.begins[k]? = some (i : Int)
def OutL (t : Tr) (s : Wt) (l : List (List Int)) (ok : Bool) (ii : Int) : Prop := (ok = true ∧ ∀ c ∈ s.cls, Shut t c) ∨ (ok = false ∧ 0 ≤ ii ∧ ∃ d, l[ii.toNat]? = some d ∧ (∀ y ∈ d, t.val y = -1) ∧ (t.begins.length ≠ 0 → ∃ y ∈ d, t.lev (varOf y) = (t.begins.length : Int)))
section
variable {t t' : Tr} {s s' : Wt} {l : List (List Int)} {k : Nat}
theorem RelL.ceq (h : RelL s l k) (hc : CEq s.cls s'.cls) (he : s'.ever = s.ever) : RelL s' l k := by
  refine ⟨fun c hc' => ?_, by rw [he]; exact h.ever⟩
  obtain ⟨d, hd, h1, h2⟩ := hc.mem' hc'
  obtain ⟨e, h3, h4⟩ := h.mem d hd
  exact ⟨e, by rw [h1]; exact h3, fun y => by rw [h4 y]; exact h2.mem_iff.symm⟩
theorem RelL.add (h : RelL s l k) {c : List Int} (hc : l[k]? = some c) : RelL (s.add c) l (k + 1) := by
  refine ⟨fun d hd => ?_, by show s.ever + 1 = _; rw [h.ever]⟩
  rcases List.mem_append.1 hd with hd | hd
  · exact h.mem d hd
  · simp only [List.mem_singleton] at hd
    subst hd
    exact ⟨c, by show l[s.ever]? = _; rw [h.ever]; exact hc, fun y => ((ddp_spec _ c rfl).2.1 y).symm⟩
theorem why_of (h : RelL s l k) (ri : RI t s.cls) (dc : Dcs t) (hr : ∀ c ∈ s.cls, ∀ x ∈ c.lits, 0 ≤ x) : Why t l := by
  intro i e he
  refine ⟨fun h0 => ?_, dc i e he⟩
  obtain ⟨c, hc, h1, h2, h3⟩ := ri i e he h0
  obtain ⟨d, hd, h4⟩ := h.mem c hc
  refine ⟨d, by rw [← h1, Int.toNat_natCast]; exact hd, (h4 _).2 h2, fun y hy => ⟨hr c hc y ((h4 y).1 hy), fun hne => ?_⟩⟩
  obtain ⟨j, f, hj, hf, hfl⟩ := h3 y ((h4 y).1 hy) hne
  refine List.mem_of_getElem? (i := j) ?_
  rw [List.getElem?_take, if_pos hj, List.getElem?_map, hf, ← hfl]; rfl
theorem Dcs.ext {new : List Ent} {nb : List Int} (h : Dcs t) (x : Ext t t' new nb) : Dcs t' := by
  intro i e he hr
  rw [x.L] at he
  by_cases hi : i < t.L.length
  · rw [List.getElem?_append_left hi] at he
    rw [x.begins]
    exact h i e he hr
  · rw [List.getElem?_append_right (by omega)] at he
    have := x.rea e (List.mem_of_getElem? he)
    omega
theorem dec_L (t : Tr) (x : Int) (hm : t.may x = true) : (t.dec x).L = t.L ++ [⟨x, (t.begins.length : Int) + 1, -1⟩] ∧ (t.dec x).begins = t.begins ++ [(t.L.length : Int)] ∧ (t.dec x).vars = t.vars := by
  unfold Tr.dec
  rw [if_pos hm]
  refine ⟨?_, rfl, rfl⟩
  simp [Tr.push, Tr.up]
theorem Dcs.dec (h : Dcs t) (x : Int) (hm : t.may x = true) : Dcs (t.dec x) := by
  obtain ⟨e1, e2, _⟩ := dec_L t x hm
  intro i e he hr
  rw [e1] at he
  rw [e2]
  by_cases hi : i < t.L.length
  · rw [List.getElem?_append_left hi] at he
    obtain ⟨k, hk⟩ := h i e he hr
    exact ⟨k, by rw [List.getElem?_append_left (List.getElem?_eq_some_iff.1 hk).1]; exact hk⟩
  · rw [List.getElem?_append_right (by omega)] at he
    have := (List.getElem?_eq_some_iff.1 he).1
    simp only [List.length_singleton] at this
    have : i = t.L.length := by omega
    subst this
    exact ⟨t.begins.length, by simp⟩
theorem out_first (hf : t'.Fine) (hr : RelL s' l k) (rng : ∀ c ∈ s'.cls, ∀ x ∈ c.lits, 0 ≤ x) {ii : Int} {ok : Bool} (hb : t'.begins.length = 0)
    (h : (ok = true ∧ ii = -1 ∧ ∀ c ∈ s'.cls, Shut t' c) ∨ (ok = false ∧ ∃ c ∈ s'.cls, (c.n : Int) = ii ∧ ∀ x ∈ c.lits, t'.val x < 0)) : OutL t' s' l ok ii := by
  rcases h with ⟨h1, _, h2⟩ | ⟨h1, c, hc, h2, h3⟩
  · exact .inl ⟨h1, h2⟩
  · obtain ⟨d, hd, h4⟩ := hr.mem c hc
    refine .inr ⟨h1, by omega, d, by rw [← h2, Int.toNat_natCast]; exact hd, fun y hy => ?_, fun h => absurd hb h⟩
    have g1 := h3 y ((h4 y).1 hy)
    rcases hf.val (rng c hc y ((h4 y).1 hy)) with ⟨h, _⟩ | ⟨h, _⟩ | ⟨h, _⟩ <;> omega
theorem out_step {new : List Ent} {nb : List Int} {x : Int} (hf : t.Fine) (hf' : t'.Fine) (hm : t.may x = true) (hx : Ext (t.dec x) t' new nb) (hc : CEq s.cls s'.cls) (hr : RelL s' l k) (rng : ∀ c ∈ s.cls, ∀ x ∈ c.lits, 0 ≤ x) (rng' : ∀ c ∈ s'.cls, ∀ x ∈ c.lits, 0 ≤ x) {ii : Int} {ok : Bool}
    (hs : ∀ c ∈ s.cls, Shut t c)
    (h : (ok = true ∧ ii = -1 ∧ ∀ c ∈ s'.cls, Shut t' c) ∨ (ok = false ∧ ∃ c ∈ s'.cls, (c.n : Int) = ii ∧ ∀ x ∈ c.lits, t'.val x < 0)) : OutL t' s' l ok ii := by
  obtain ⟨e1, e2, _⟩ := dec_L t x hm
  rcases h with ⟨h1, _, h2⟩ | ⟨h1, c, hcm, h2, h3⟩
  · exact .inl ⟨h1, h2⟩
  · obtain ⟨d, hd, h4⟩ := hr.mem c hcm
    have hv : ∀ y ∈ c.lits, t'.val y = -1 := fun y hy => by
      have g1 := h3 y hy
      rcases hf'.val (rng' c hcm y hy) with ⟨h, _⟩ | ⟨h, _⟩ | ⟨h, _⟩ <;> omega
    refine .inr ⟨h1, by omega, d, by rw [← h2, Int.toNat_natCast]; exact hd, fun y hy => hv y ((h4 y).1 hy), fun _ => ?_⟩
    obtain ⟨c0, hc0, _, hp⟩ := hc.mem' hcm
    have key : ∃ y ∈ c0.lits, 0 ≤ t.val y := by
      rcases hs c0 hc0 with ⟨y, hy, hyh⟩ | ⟨a, b, r, h5, h6, _⟩
      · exact ⟨y, hy, by have := (hf.val_pos (rng c0 hc0 y hy)).2 hyh; omega⟩
      · exact ⟨a, by rw [h5]; simp, h6⟩
    obtain ⟨y, hy, hy0⟩ := key
    have hyc : y ∈ c.lits := hp.mem_iff.2 hy
    refine ⟨y, (h4 y).2 hyc, ?_⟩
    obtain ⟨hyn, e, he, hel, hve⟩ := hf'.neg (hv y hyc)
    rw [hve, hf'.levE he]
    have hnot : e ∉ t.L := fun hm' => by
      have := (hf.val_neg hyn).2 ⟨e, hm', hel⟩
      omega
    rw [hx.L, e1] at he
    rcases List.mem_append.1 he with he | he
    · rcases List.mem_append.1 he with he | he
      · exact absurd he hnot
      · simp only [List.mem_singleton] at he
        subst he
        rw [hx.begins, e2, List.length_append]; simp
    · rw [hx.lev e he, hx.begins]
end
def Frs (w0 w : World) (O : Nat → Prop) : Prop := Keep w0 w No ∧ ∀ b, O b → w0.heap.size ≤ b
theorem Frs.step {w0 a b : World} {O O' : Nat → Prop} (h : Frs w0 a O) (m : OMod a b O O') : Frs w0 b O' :=
  ⟨h.1.trans m.1 (fun i hi e => by have := h.2 i e; omega), fun i e => by
    have := h.1.size
    by_cases hlt : i < a.heap.size
    · exact h.2 i (m.2 i hlt e)
    · omega⟩
theorem Frs.keep {w0 a b : World} {O : Nat → Prop} (h : Frs w0 a O) (k : Keep a b No) : Frs w0 b O := h.step (OMod.of k)
/-- The list that was handed to the watch. -/
structure AL (w0 w : World) (O : Nat → Prop) (v : Value) (us : List Value) (l : List (List Int)) : Prop where
  gc : GC w (fun b => w0.heap.size ≤ b ∧ ¬ O b) 1 v us.length us
  len : us.length = l.length
  all : ∀ (i : Nat) c, l[i]? = some c → ∃ u, us[i]? = some u ∧ LV vi w (· < w0.heap.size) u c
section
variable {w0 w w' : World} {O O' : Nat → Prop} {v : Value} {us : List Value} {l : List (List Int)}
theorem AL.nil (w0 w : World) (O : Nat → Prop) : AL w0 w O (.slice none 0 0) [] [] := ⟨GC.nil _ _ _, rfl, fun i c h => by simp at h⟩
theorem AL.step (h : AL w0 w O v us l) (m : OMod w w' O O') (fr : Frs w0 w O) : AL w0 w' O' v us l := by
  refine ⟨?_, h.len, fun i c hc => ?_⟩
  · exact ((h.gc.mono (L' := fun b => b < w.heap.size ∧ w0.heap.size ≤ b ∧ ¬ O b) (fun b hb e => ⟨hb, e⟩)).keep m.1 (fun b hb e e2 => e.2.2 e2)).mono (fun b hb e => ⟨e.2.1, fun e2 => e.2.2 (m.2 b e.1 e2)⟩)
  · obtain ⟨u, g1, g2⟩ := h.all i c hc
    exact ⟨u, g1, g2.keep m.1 (fun b hb e e2 => by have := fr.2 b e2; have e : b < w0.heap.size := e; omega)⟩
theorem AL.ll (h : AL w0 w O v us l) : LL w (fun _ => True) v l := by
  obtain ⟨A, c, rfl, hr, hc⟩ := GC.row2 h.gc (by omega)
  rw [h.len] at hc ⊢
  exact ⟨A, c, us, rfl, ⟨hr.mono (fun _ _ _ => trivial), h.len, fun i c hc => by
    obtain ⟨u, h1, h2⟩ := h.all i c hc; exact ⟨u, h1, h2.mono (fun _ _ _ => trivial)⟩⟩, hc⟩
theorem M.appendAL_i {k : Kt} {el : Nat} {u : Value} {c : List Int} (h : AL w0 w O v us l) (hu : LV vi w (· < w0.heap.size) u c) (hO : ∀ b, O b → b < w.heap.size) (hs : w0.heap.size ≤ w.heap.size) (hb : l.length ≤ 1000000)
    (hk : ∀ v' us' w', AL w0 w' O v' us' (l ++ [c]) → Keep w w' (fun b => w0.heap.size ≤ b ∧ ¬ O b) → k v' w') :
    M.buildSlice el 1 #[.slice none 0 0] 1 [(0, u)] (fun t w => M.append el 1 24 #[.slice none 0 0] v t (fun t' w => k t' w) w) w := by
  obtain ⟨B, nc, rfl, _⟩ := id hu
  refine M.buildSlice_i [.slice B c.length nc] (by kernel_rfl) (fun w1 b1 k1 s1 => ?_)
  have h1 : GC w1 (fun b => w0.heap.size ≤ b ∧ ¬ O b) 1 v us.length us := h.gc.keep k1 (fun _ _ _ h => h)
  have e := h.len
  refine M.append_i (GC.own h1) (Row.of_blk' (D := fun _ => True) b1 trivial) rfl (by simp; rfl) rfl (by omega) (by omega) (fun v2 w2 g2 k2 => ?_)
  have q1 := k1.size
  have hl : ∀ b, blkOf v b → w0.heap.size ≤ b ∧ ¬ O b := fun b hb => (GC.blkOf h1 hb).1
  have k12 : Keep w w2 (fun b => w0.heap.size ≤ b ∧ ¬ O b) := (k1.mono (fun _ _ h => h.elim)).trans k2 (fun b hb h => hl b h)
  refine hk _ (us ++ [.slice B c.length nc]) _ ⟨by
    have := g2.mono (L' := fun b => w0.heap.size ≤ b ∧ ¬ O b) (fun b hb h => by
      rcases h with h | h
      · exact hl b h
      · exact ⟨by omega, fun e => by have := hO b e; omega⟩)
    simpa using this, by simp [e], fun i d hd => ?_⟩ k12
  by_cases hi : i < l.length
  · rw [List.getElem?_append_left hi] at hd
    obtain ⟨x, g, gx⟩ := h.all i d hd
    exact ⟨x, by rw [List.getElem?_append_left (by omega)]; exact g, gx.keep k12 (fun b hb h1 h2 => by have h1 : b < w0.heap.size := h1; omega)⟩
  · rw [List.getElem?_append_right (by omega)] at hd
    have : i - l.length = 0 := by
      have := (List.getElem?_eq_some_iff.1 hd).1; simp at this; omega
    rw [this] at hd
    simp at hd; subst hd
    exact ⟨_, by rw [List.getElem?_append_right (by omega), e, this]; rfl, hu.keep k12 (fun b hb h1 h2 => by have h1 : b < w0.heap.size := h1; omega)⟩
end
theorem run_inv {w : World} {p q a b c : Nat} {O : Nat → Prop} {bk : Nat → Nat} {cv : Nat → Value} {wv : Value} {t : Tr} {s : Wt} (h : TWR w p q O bk cv wv t s) (I : Inv t s a b c) (ha : a ≤ 10000) (hb : b ≤ 200000) (hc : c ≤ 40) :
    Ret Try.prog 12 #[ptr q, ptr p] w (fun v w' => ∃ t' s' O' wv' i ok, v = .tuple #[vi i, .bool ok] ∧ TWR w' p q O' bk cv wv' t' s' ∧ OMod w w' O O' ∧ RunR t s t' s' i ok) := by
  have h1 := I.len
  have h2 := I.vars
  have h3 := I.sz
  have h4 : (2 * t.vars + 2) * s.cls.length ≤ 82 * 40 := Nat.mul_le_mul (by omega) (by omega)
  exact run_ret h I.wi I.ri I.bi (by omega) (fun c hc => by have := I.cl c hc; omega) I.c0 (by have := I.cc; omega)
end Go.Proofs.Ytnmbgfonlpjicaa
