import Derived.Test.YtanjlgafjgoaaaaGreatK7
import Derived.Laws.Build
namespace Go.Proofs.YtanjlgafjgoaaaaGreat
open Go.Mw
set_option linter.unusedVariables false
set_option linter.unusedSimpArgs false
set_option maxRecDepth 100000
attribute [local irreducible] M.val M.unit M.next M.pick M.new M.nilCheck M.load1 M.loadA M.store M.fieldAddr M.indexSl M.indexArr M.slice M.makeSlice M.buildSlice M.len M.lenS M.cap M.append M.extract M.conv M.not M.neg M.bin M.shift M.eqB M.eqNil M.scat M.call M.callv M.gd M.share M.cond M.loop M.draw pureW readW Ret
variable {Z : Nat → Prop}
def sh83 (x0 : Value) (R : Kt) (w : World) : Prop :=
  M.len x0 (fun t5 w =>
  M.len x0 (fun t7 w =>
  M.slice 1 x0 none (some t5) (some t7) (fun t8 w =>
  R t8 w) w) w) w
theorem ok83 (x0 : Value) (R : Kt) (w : World) (h : sh83 x0 R w) : Ret Tryz.prog 83 #[x0] w R :=
  ret_mk <| calls_of_comp mixed (c := Tryz.f83.body.getD .skip) (args := [x0]) (rs := [(ResultVar.tmp 2)]) (Ann.seq Ann.text (Ann.seq Ann.text Ann.leaf))
    Tryz.func83 (by kernel_rfl) (by kernel_rfl)
    (Eq.mp (by kernel_rfl) h)
def sh93 (x0 : Value) (R : Kt) (w : World) : Prop :=
  M.eqNil 1 false x0 (fun t4 w =>
  M.cond t4
  (R (Value.slice none 0 0) w)
  (M.buildSlice 3 1 #[.int .i64 0] 0 [] (fun t5 w =>
  M.append 3 1 8 #[.int .i64 0] t5 x0 (fun t7 w =>
  R t7 w) w) w)) w
theorem ok93 (x0 : Value) (R : Kt) (w : World) (h : sh93 x0 R w) : Ret Tryz.prog 93 #[x0] w R :=
  ret_mk <| calls_of_comp mixed (c := Tryz.f93.body.getD .skip) (args := [x0]) (rs := [(ResultVar.tmp 2)]) (Ann.seq Ann.text (Ann.seq (Ann.seq Ann.text (Ann.cond (Ann.seq Ann.text Ann.leaf) Ann.leaf)) (Ann.seq Ann.text Ann.leaf)))
    Tryz.func93 (by kernel_rfl) (by kernel_rfl)
    (Eq.mp (by kernel_rfl) h)
def sh97 (x0 : Value) (R : Kt) (w : World) : Prop :=
  M.len x0 (fun t5 w =>
  M.len x0 (fun t7 w =>
  M.slice 3 x0 none (some t5) (some t7) (fun t8 w =>
  R t8 w) w) w) w
theorem ok97 (x0 : Value) (R : Kt) (w : World) (h : sh97 x0 R w) : Ret Tryz.prog 97 #[x0] w R :=
  ret_mk <| calls_of_comp mixed (c := Tryz.f97.body.getD .skip) (args := [x0]) (rs := [(ResultVar.tmp 2)]) (Ann.seq Ann.text (Ann.seq Ann.text Ann.leaf))
    Tryz.func97 (by kernel_rfl) (by kernel_rfl)
    (Eq.mp (by kernel_rfl) h)
def sh43 (x0 x1 x2 : Value) (R : Kt) (w : World) : Prop :=
  M.new 39 (Value.cells x1) (fun t4 w =>
  M.nilCheck x0 (fun t9 w =>
  M.fieldAddr 28 t9 (fun t10 w =>
  M.load1 t10 (fun t11 w =>
  M.bin .neq t11 (Value.int IntKind.i64 0) (fun t12 w =>
  M.cond t12
  (R (.tuple #[]) w)
  (M.share (fun K1 w =>
  M.bin .geq x2 (Value.int IntKind.i64 0) (fun t14 w =>
  M.cond t14
  (M.nilCheck x0 (fun t17 w =>
  M.fieldAddr 0 t17 (fun t18 w =>
  M.load1 t18 (fun t19 w =>
  M.call Tryz.prog 82 #[t19, x2] (fun t21 w =>
  M.extract 0 t21 (fun t22 w =>
  M.extract 1 t21 (fun t23 w =>
  M.share (fun K2 w =>
  M.gd t23 true (fun k w => k t22 w) (fun t27 w =>
  M.gd t23 true (fun k w => M.bin .eql t27 (Value.int IntKind.u64 0) k w) (fun t28 w =>
  M.pick t23 t28 (Value.bool false) (fun t29 w =>
  M.cond t29
  (R (.tuple #[]) w)
  (M.not t23 (fun t32 w =>
  M.cond t32
  (M.fieldAddr 18 t4 (fun t33 w =>
  M.load1 t33 (fun t34 w =>
  M.call Tryz.prog 83 #[t34] (fun t35 w =>
  M.buildSlice 3 1 #[.int .i64 0] 1 [(0, x2)] (fun t37 w =>
  M.append 3 1 8 #[.int .i64 0] t35 t37 (fun t38 w =>
  M.fieldAddr 18 t4 (fun t39 w =>
  M.store 1 t39 t38 (fun _ w =>
  K2 [] w) w) w) w) w) w) w) w)
  (K2 [] w)) w)) w) w) w) (fun s2 w => ∀ _ : List Value,
  K1 [] w) w) w) w) w) w) w) w)
  (K1 [] w)) w) (fun s1 w => ∀ _ : List Value,
  M.draw (fun w =>
  M.nilCheck x0 (fun t42 w =>
  M.fieldAddr 27 t42 (fun t43 w =>
  M.load1 t43 (fun t44 w =>
  M.loadA 19 t4 (fun t45 w =>
  M.buildSlice 39 19 #[.int .i64 0, .int .i64 0, .int .i64 0, .int .i64 0, .int .i64 0, .int .i64 0, .int .i64 0, .int .i64 0, .slice none 0 0, .int .i64 0, .int .i64 0, .int .i64 0, .int .i64 0, .int .i64 0, .int .i64 0, .slice none 0 0, .slice none 0 0, .int .i64 0, .slice none 0 0] 1 [(0, t45)] (fun t46 w =>
  ((M.load1 t43 (fun v' _ => v' = t44) w) ∧ M.append 39 19 216 #[.int .i64 0, .int .i64 0, .int .i64 0, .int .i64 0, .int .i64 0, .int .i64 0, .int .i64 0, .int .i64 0, .slice none 0 0, .int .i64 0, .int .i64 0, .int .i64 0, .int .i64 0, .int .i64 0, .int .i64 0, .slice none 0 0, .slice none 0 0, .int .i64 0, .slice none 0 0] t44 t46 (fun t47 w =>
  M.nilCheck x0 (fun t48 w =>
  M.fieldAddr 27 t48 (fun t49 w =>
  M.store 1 t49 t47 (fun _ w =>
  R (.tuple #[]) w) w) w) w) w)) w) w) w) w) w) w) w)) w) w) w) w) w
theorem ok43 (x0 x1 x2 : Value) (R : Kt) (w : World) (h : sh43 x0 x1 x2 R w) : Ret Tryz.prog 43 #[x0, x1, x2] w R :=
  ret_mk <| calls_of_comp mixed (c := Tryz.f43.body.getD .skip) (args := [x0, x1, x2]) (rs := []) (Ann.seq Ann.text (Ann.seq (Ann.seq Ann.text (Ann.cond Ann.leaf Ann.leaf)) (Ann.join [] [6, 7, 13, 14, 15, 16, 17, 18, 19, 20, 21, 22, 23, 24, 25, 26, 27, 28, 29, 30, 31, 32, 33, 34, 35, 36, 37, 38, 39] (Ann.seq Ann.text (Ann.cond (Ann.seq Ann.text (Ann.jblock [] [24, 25, 26, 27, 28, 29, 30, 31, 32, 33, 34, 35, 36, 37, 38, 39] (Ann.seq Ann.text (Ann.cond Ann.leaf (Ann.seq Ann.text (Ann.cond Ann.text Ann.leaf)))))) Ann.leaf)) (Ann.draw (Sch.take 0 (Sch.take 1 (Sch.take 2 (Sch.take 3 (Sch.take 4 (Sch.take 5 (Sch.one 6 (Sch.one 7 (Sch.take 8 (Sch.take 9 (Sch.one 10 Sch.done)))))))))))))))
    Tryz.func43 (by kernel_rfl) (by kernel_rfl)
    (Eq.mp (by kernel_rfl) h)
theorem M.appendF_i {k : Kt} {w : World} {el sz bytes : Nat} {zero : Array Value} {D D' : Nat → Prop} {A B : Option Addr} {n m c : Nat} {xs ys : List Value}
    (h : Row w D A xs) (hx : xs.length = n * sz) (hr : Row w D' B ys) (hm : ys.length = m * sz) (hm0 : 0 < m) (hz : zero.size = sz) (hb0 : 0 < bytes)
    (hb : (2 * (n + m) + 512) * bytes ≤ 281474976710656)
    (hk : ∀ v' w', GC w' (w.heap.size ≤ ·) sz v' (n + m) (xs ++ ys) → Keep w w' No → k v' w') : M.append el sz bytes zero (.slice A n n) (.slice B m c) k w := by
  have hsrc := hr.srcL hm.symm
  have hold := h.srcL hx.symm
  have hlen : (xs ++ ys).length = (n + m) * sz := by simp [hx, hm, Nat.add_mul]
  unfold M.append
  refine ⟨ys, hsrc, ?_⟩
  rw [if_neg (by omega)]
  have hn := Go.Mw.nextslicecap_le (n := n + m) (c := n) (by omega)
  refine ⟨⟨Nat.le_trans (Nat.mul_le_mul_right bytes hn) hb, hb0⟩, xs, hold, fun c' h1 h2 => ?_⟩
  refine hk _ _ ⟨hlen, .inr ⟨_, c', (Builtin.zeroCells zero (c' - (n + m))).toList, rfl, Nat.le_refl _, ?_, ?_⟩⟩ ?_
  · have := Blk.alloc w.drew (xs ++ ys ++ (Builtin.zeroCells zero (c' - (n + m))).toList) el
    simpa using this
  · have e1 : (Builtin.zeroCells zero (c' - (n + m))).toList.length = (c' - (n + m)) * sz := by simp [Builtin.zeroCells, hz]
    rw [e1, hlen, ← Nat.add_mul]
    congr 1; omega
  · exact (Keep.drew w No).trans (Keep.alloc w.drew _ No) (fun _ _ h => h)
theorem sl3_full {n c : Nat} (h : n ≤ c) : sl3 n c none (some (vi n)) (some (vi n)) = some (0, n, n) := by
  unfold sl3; simp only [sb_i h, sb_i (Nat.le_refl n)]
theorem Row.samez {w : World} {D : Nat → Prop} {A : Option Addr} {l : List Value} {sz n : Nat} (h : Row w D A l) (hn : l.length = n * sz) : Row w D (if n = 0 then A else A.map (·.add (0 * sz))) l := by
  split
  · exact h
  · have := h.drop 0
    simpa [add_mk] using this
section
variable {w : World} {D : Nat → Prop}
theorem clip1_ret {A : Option Addr} {n c : Nat} (hc : n ≤ c) : Ret Tryz.prog 83 #[.slice A n c] w (fun r w' => r = .slice (if n = 0 then A else A.map (·.add (0 * 1))) n n ∧ w = w') := by
  refine ok83 _ _ _ ?_
  unfold sh83
  (repeat (refine ja ?_))
  refine M.slice_i 0 n n (sl3_full hc) ?_
  exact ⟨rfl, rfl⟩
theorem clip3_ret {A : Option Addr} {n c : Nat} (hc : n ≤ c) : Ret Tryz.prog 97 #[.slice A n c] w (fun r w' => r = .slice (if n = 0 then A else A.map (·.add (0 * 3))) n n ∧ w = w') := by
  refine ok97 _ _ _ ?_
  unfold sh97
  (repeat (refine ja ?_))
  refine M.slice_i 0 n n (sl3_full hc) ?_
  exact ⟨rfl, rfl⟩
theorem clone37_ret {v : Value} {xs : List Int} (h : LV vi w D v xs) (hf : xs.length ≤ 1000000) : Ret Tryz.prog 93 #[v] w (fun r w' => GI w' (w.heap.size ≤ ·) r xs ∧ Keep w w' No) := by
  obtain ⟨A, c, rfl, hr, hc⟩ := h
  refine ok93 _ _ _ ?_
  unfold sh93
  cases A with
  | none =>
    have hx : xs = [] := by
      rcases hr with h | ⟨_, _, _, _, _, h, _⟩
      · simpa using h
      · cases h
    subst hx
    (repeat (first|refine jo ?_|refine jw ?_))
    exact ⟨GI.nil _ _, Keep.refl _ _⟩
  | some ad =>
    (repeat (first|refine jp ?_|refine jx ?_))
    refine M.buildSlice_i [] (by kernel_rfl) (fun w1 b1 k1 s1 => ?_)
    have g1 : GI w1 (w.heap.size ≤ ·) (.slice (some ⟨w.heap.size, 0, none⟩) 0 0) [] := GC.of_blk b1 (Nat.le_refl _) rfl
    refine M.appendI_i rfl g1 (hr.keep k1 (fun _ _ _ h => h)) rfl (by simp; omega) (fun v2 w2 g2 k2 => ?_)
    have q1 := k1.size
    exact ⟨g2.mono (fun b hb h => by
      rcases h with h | h
      · exact h
      · show w.heap.size ≤ b; omega), k1.trans k2 (fun b hb h => by have h : w.heap.size ≤ b := h; omega)⟩
end
section
variable {w : World} {F : Nat → Prop} {p pb : Nat} {N : List Nd} {most : Int} {s : Sy} {sv : List Value} {i : Ins} {inputs mw : Int} {ov : Value} {outs : List Sy} {e : Int}
theorem Stp.fresh (h : Stp Z w F p pb N most s sv i inputs mw ov outs e) {b : Nat} (hb : w.heap.size ≤ b) : Fr Z F pb ov b := by
  refine ⟨fun hf => by have := h.dag.lt hf; omega, fun e => by have := h.blk.lt; omega, fun ho => ?_, h.zn b hb⟩
  obtain ⟨cs, h1, _⟩ := h.oo
  obtain ⟨_, l, hl⟩ := GC.blkOf h1 ho
  have := hl.lt
  omega
theorem Stp.push {w1 w2 : World} {ov' : Value} {L : List Value} {s' : Sy} (h : Stp Z w F p pb N most s sv i inputs mw ov outs e) (k1 : Keep w w1 (blkOf ov)) {cs : List (List Value)} (h2 : cs.length = outs.length) (h3 : ∀ (k : Nat) v s, cs[k]? = some v → outs[k]? = some s → SyO w (Fr Z F pb ov) (.agg ⟨v⟩) s) (g : GC w1 (fun b => blkOf ov b ∨ w.heap.size ≤ b) 19 ov' (outs.length + 1) (cs.flatten ++ L)) (hs : SyO w (Fr Z F pb ov) (.agg ⟨L⟩) s')
    (hb : Blk w2 pb (stpL p sv i inputs mw ov' e)) (k2 : Keep w1 w2 (· = pb)) : Stp Z w2 F p pb N most s sv i inputs mw ov' (outs ++ [s']) e ∧ Mv w F pb ov w2 F ov' := by
  have k12 : Keep w w2 (Ch F pb ov) := (k1.mono (fun _ _ h => .inr (.inr h))).trans k2 (fun b hb h => .inr (.inl h))
  have hov' : ∀ b, blkOf ov' b → blkOf ov b ∨ w.heap.size ≤ b := fun b hb => (GC.blkOf g hb).1
  have m : Mv w F pb ov w2 F ov' := ⟨k12, fun _ _ h => h, fun b hb hx => (hov' b hx).resolve_right (by omega)⟩
  have hon : ∀ x, blkOf ov' x → ¬ F x ∧ x ≠ pb := fun x hx => by
    rcases hov' x hx with hx | hx
    · exact h.on x hx
    · have := h.fresh hx
      exact ⟨this.1, this.2.1⟩
  refine ⟨⟨(h.dag.keep k1 (fun b hf hx => (h.on b hx).1 hf)).keep k2 (fun b hf hx => h.nF (by have hx : b = pb := hx; rw [← hx]; exact hf)), h.nF, hb, ?_, hon, h.sy.mv m, fun x hx => h.zn x (Nat.le_trans k12.size hx)⟩, m⟩
  refine ⟨cs ++ [L], ?_, by simp [h2], fun k v t g1 g2 => ?_⟩
  · rw [List.flatten_append, List.length_append]
    simp only [List.flatten_cons, List.flatten_nil, List.append_nil, List.length_singleton]
    exact (GC.own g).keep k2 (fun b _ hx e => (hon b hx).2 e)
  · by_cases hk : k < cs.length
    · rw [List.getElem?_append_left hk] at g1
      rw [List.getElem?_append_left (by omega)] at g2
      exact (h3 k v t g1 g2).mv m
    · have hkl := (List.getElem?_eq_some_iff.1 g1).1
      rw [List.length_append, List.length_singleton] at hkl
      have ek : k = cs.length := by omega
      subst ek
      rw [List.getElem?_append_right (Nat.le_refl _), Nat.sub_self] at g1
      rw [List.getElem?_append_right (by omega), h2, Nat.sub_self] at g2
      simp only [List.getElem?_cons_zero, Option.some.injEq] at g1 g2
      subst g1 g2
      exact hs.mv m
theorem addP_err {s' : Sy} {cnd : Int} (h : e ≠ 0) : addP N e outs s' cnd = outs := by unfold addP; rw [if_pos h]
theorem addP_neg {s' : Sy} {cnd : Int} (h : e = 0) (hc : ¬ 0 ≤ cnd) : addP N e outs s' cnd = outs ++ [s'] := by unfold addP; rw [if_neg (fun x => x h), if_neg hc]
theorem addP_zero {s' : Sy} {cnd : Int} (h : e = 0) (hc : 0 ≤ cnd) (hk : knownN N cnd = some 0) : addP N e outs s' cnd = outs := by unfold addP; rw [if_neg (fun x => x h), if_pos hc, hk]; simp
theorem addP_some {s' : Sy} {cnd : Int} {x : W64} (h : e = 0) (hc : 0 ≤ cnd) (hk : knownN N cnd = some x) (hx : x ≠ 0) : addP N e outs s' cnd = outs ++ [s'] := by unfold addP; rw [if_neg (fun x => x h), if_pos hc, hk]; simp only []; rw [if_neg hx]
theorem addP_none {s' : Sy} {cnd : Int} (h : e = 0) (hc : 0 ≤ cnd) (hk : knownN N cnd = none) : addP N e outs s' cnd = outs ++ [{ s' with conds := s'.conds ++ [cnd] }] := by unfold addP; rw [if_neg (fun x => x h), if_pos hc, hk]
theorem addP_len {s' : Sy} {cnd : Int} : (addP N e outs s' cnd).length ≤ outs.length + 1 := by
  unfold addP
  split
  · omega
  · split
    · split
      · split
        · omega
        · simp
      · simp
    · simp
set_option maxHeartbeats 2000000 in
theorem add37_ret {v : Value} {s' : Sy} (h : Stp Z w F p pb N most s sv i inputs mw ov outs e) (hs : SyO w (Fr Z F pb ov) v s') (hcl : s'.conds.length ≤ 1000000) (hol : outs.length ≤ 1000000) (cnd : Int) :
    Ret Tryz.prog 43 #[ptr pb, v, vi cnd] w (fun r w' => r = .tuple #[] ∧ ∃ ov', Stp Z w' F p pb N most s sv i inputs mw ov' (addP N e outs s' cnd) e ∧ Mv w F pb ov w' F ov') := by
  obtain ⟨h8, c, a, b, d, rfl, hc, hdv, hcd⟩ := hs
  obtain ⟨regs, cells, pc, steps, calls, en, code, value, ⟨disk, pend, ep⟩, conds⟩ := s'
  obtain ⟨r0, r1, r2, r3, r4, r5, r6, r7, rfl⟩ := eight h8
  refine ok43 _ _ _ _ _ ?_
  unfold sh43
  refine M.new_i (l := [vi r0, vi r1, vi r2, vi r3, vi r4, vi r5, vi r6, vi r7, c, vi pc, vi steps, vi calls, vi en, vi code, vi value, a, b, vi ep, d]) (fun w1 b1 k1 s1 => ?_)
  have h1 := h.keepN k1
  have hce := h1.ce
  by_cases h0 : e = 0
  case neg =>
    (repeat (first|refine jb ?_|refine jc ?_|refine jo ?_|refine jI ?_|refine jM (by assumption) ?_))
    exact ⟨rfl, ov, by rw [addP_err h0]; exact h1, Mv.none k1⟩
  (repeat (first|refine jb ?_|refine jc ?_|refine jp ?_|refine jJ ?_|refine jM (by assumption) ?_))
  have hc1 := hc.keep k1 (fun _ _ _ h => h)
  have hdv1 := hdv.keep k1 (fun _ _ _ h => h)
  have hcd1 := hcd.keep k1 (fun _ _ _ h => h)
  have goal2 : ∀ (n0 : Nat), n0 = w.heap.size → ∀ (w2 : World) (d' : Value) (conds' : List Int) (R : Kt), Stp Z w2 F p pb N most s sv i inputs mw ov outs e → Mv w F pb ov w2 F ov → Blk w2 w.heap.size [vi r0, vi r1, vi r2, vi r3, vi r4, vi r5, vi r6, vi r7, c, vi pc, vi steps, vi calls, vi en, vi code, vi value, a, b, vi ep, d'] → LV vi w2 (Fr Z F pb ov) c cells → SDvO w2 (Fr Z F pb ov) a b ⟨disk, pend, ep⟩ → LV vi w2 (Fr Z F pb ov) d' conds' →
      (∀ w3, (∃ ov', Stp Z w3 F p pb N most s sv i inputs mw ov' (outs ++ [⟨[r0, r1, r2, r3, r4, r5, r6, r7], cells, pc, steps, calls, en, code, value, ⟨disk, pend, ep⟩, conds'⟩]) e ∧ Mv w F pb ov w3 F ov') → R (.tuple #[]) w3) →
      M.draw (fun w => M.nilCheck (ptr pb) (fun t42 w => M.fieldAddr 27 t42 (fun t43 w => M.load1 t43 (fun t44 w => M.loadA 19 (ptr n0) (fun t45 w =>
        M.buildSlice 39 19 #[.int .i64 0, .int .i64 0, .int .i64 0, .int .i64 0, .int .i64 0, .int .i64 0, .int .i64 0, .int .i64 0, .slice none 0 0, .int .i64 0, .int .i64 0, .int .i64 0, .int .i64 0, .int .i64 0, .int .i64 0, .slice none 0 0, .slice none 0 0, .int .i64 0, .slice none 0 0] 1 [(0, t45)] (fun t46 w =>
        ((M.load1 t43 (fun v' _ => v' = t44) w) ∧ M.append 39 19 216 #[.int .i64 0, .int .i64 0, .int .i64 0, .int .i64 0, .int .i64 0, .int .i64 0, .int .i64 0, .int .i64 0, .slice none 0 0, .int .i64 0, .int .i64 0, .int .i64 0, .int .i64 0, .int .i64 0, .int .i64 0, .slice none 0 0, .slice none 0 0, .int .i64 0, .slice none 0 0] t44 t46 (fun t47 w =>
        M.nilCheck (ptr pb) (fun t48 w => M.fieldAddr 27 t48 (fun t49 w => M.store 1 t49 t47 (fun _ w => R (.tuple #[]) w) w) w) w) w)) w) w) w) w) w) w2 := by
    intro n0 en0 w2 d' conds' R h2 m2 b2 hc2 hdv2 hcd2 hR
    subst en0
    have kd := Keep.drew w2 No
    have h3 := h2.keepN kd
    have hco := h3.co
    have b3 := b2.keep kd (fun h => h)
    (repeat (first|refine jb ?_|refine jc ?_|refine jd ?_|refine jM (by assumption) ?_))
    refine M.loadAll_i b3 rfl ?_
    refine M.buildSlice_i [vi r0, vi r1, vi r2, vi r3, vi r4, vi r5, vi r6, vi r7, c, vi pc, vi steps, vi calls, vi en, vi code, vi value, a, b, vi ep, d'] (by kernel_rfl) (fun w5 b5 k5 s5 => ?_)
    have h5 := h3.keepN k5
    have hco5 := h5.co
    refine M.st_i hco5 ?_
    have k25 : Keep w2 w5 No := kd.trans k5 (fun _ _ h => h)
    have o1 := LV.one hc2
    have o2 := LV.one hdv2.1
    have o3 := LN.one hdv2.2
    have o4 := LV.one hcd2
    obtain ⟨cs, g1, g2, g3⟩ := h5.oo
    refine M.append_i g1 (Row.of_blk' (D := fun _ => True) b5 trivial) rfl (vals_one (s := ⟨[r0, r1, r2, r3, r4, r5, r6, r7], cells, pc, steps, calls, en, code, value, ⟨disk, pend, ep⟩, conds'⟩) o1 o2 o3 o4) rfl (by omega) (by omega) (fun v6 w6 g6 k6 => ?_)
    (repeat (first|refine jb ?_|refine jc ?_))
    have b6 : Blk w6 pb _ := h5.blk.keep k6 (fun hx => (h5.on pb hx).2 rfl)
    have hl := h5.sy.len19
    refine M.store_i b6 (by rw [stpL_len hl]; omega) (GC.one g6) (fun w7 b7 k7 s7 => ?_)
    rw [show 0 + 27 = 27 from rfl, stpL_setO hl] at b7
    have hs5 : SyO w5 (Fr Z F pb ov) (.agg ⟨[vi r0, vi r1, vi r2, vi r3, vi r4, vi r5, vi r6, vi r7, c, vi pc, vi steps, vi calls, vi en, vi code, vi value, a, b, vi ep, d']⟩) ⟨[r0, r1, r2, r3, r4, r5, r6, r7], cells, pc, steps, calls, en, code, value, ⟨disk, pend, ep⟩, conds'⟩ := ⟨rfl, c, a, b, d', rfl, hc2.keep k25 (fun _ _ _ h => h), hdv2.keep k25 (fun _ _ _ h => h), hcd2.keep k25 (fun _ _ _ h => h)⟩
    obtain ⟨h7, m7⟩ := h5.push (w2 := w7) k6 g2 g3 g6 hs5 b7 k7
    exact hR w7 ⟨v6, h7, (m2.trans (Mv.none k25)).trans m7⟩
  refine M.share_j (fun vals w' => vals = [] ∧ ∃ (d' : Value) (conds' : List Int), Stp Z w' F p pb N most s sv i inputs mw ov outs e ∧ Mv w F pb ov w' F ov ∧ Blk w' w.heap.size [vi r0, vi r1, vi r2, vi r3, vi r4, vi r5, vi r6, vi r7, c, vi pc, vi steps, vi calls, vi en, vi code, vi value, a, b, vi ep, d'] ∧ LV vi w' (Fr Z F pb ov) c cells ∧ SDvO w' (Fr Z F pb ov) a b ⟨disk, pend, ep⟩ ∧ LV vi w' (Fr Z F pb ov) d' conds' ∧ addP N e outs ⟨[r0, r1, r2, r3, r4, r5, r6, r7], cells, pc, steps, calls, en, code, value, ⟨disk, pend, ep⟩, conds⟩ cnd = outs ++ [⟨[r0, r1, r2, r3, r4, r5, r6, r7], cells, pc, steps, calls, en, code, value, ⟨disk, pend, ep⟩, conds'⟩]) ?_ ?_
  · rintro vals w2 ⟨rfl, d', conds', h2, m2, b2, q1, q2, q3, q4⟩ _
    refine goal2 _ rfl w2 d' conds' (fun r w' => r = .tuple #[] ∧ ∃ ov', Stp Z w' F p pb N most s sv i inputs mw ov' (addP N e outs ⟨[r0, r1, r2, r3, r4, r5, r6, r7], cells, pc, steps, calls, en, code, value, ⟨disk, pend, ep⟩, conds⟩ cnd) e ∧ Mv w F pb ov w' F ov') h2 m2 b2 q1 q2 q3 (fun w3 h3 => ⟨rfl, ?_⟩)
    obtain ⟨ov', h4, m4⟩ := h3
    exact ⟨ov', by rw [q4]; exact h4, m4⟩
  intro K hK
  by_cases hc0 : 0 ≤ cnd
  case neg =>
    (repeat (first|refine jp ?_|refine jF ?_))
    exact hK [] w1 ⟨rfl, d, conds, h1, Mv.none k1, b1, hc1, hdv1, hcd1, addP_neg h0 hc0⟩
  have hcp := h1.cp
  (repeat (first|refine jb ?_|refine jc ?_|refine jo ?_|refine jE ?_|refine jM (by assumption) ?_))
  refine M.call_i (known_ret h1.dag cnd) ?_; rintro _ w2 ⟨rfl, k2⟩
  refine M.extract_i (v := vw ((knownN N cnd).getD 0)) rfl ?_
  refine M.extract_i (v := .bool (knownN N cnd).isSome) rfl ?_
  have h2 := h1.keepN k2
  have k02 := k1.trans k2 (fun _ _ h => h)
  have b2 := b1.keep k2 (fun h => h)
  have hc2 := hc1.keep k2 (fun _ _ _ h => h)
  have hdv2 := hdv1.keep k2 (fun _ _ _ h => h)
  have hcd2 := hcd1.keep k2 (fun _ _ _ h => h)
  cases hk : knownN N cnd with
  | some x =>
    by_cases hx : x = 0
    · subst hx
      refine M.share_j (fun _ _ => False) (fun _ _ h => h.elim) ?_
      intro K2 hK2
      have h00 : (((some (0 : W64)).getD 0).toNat : Int) = 0 := rfl
      (repeat (first|refine jf ?_|refine jk ?_|refine jo ?_|refine jG ?_))
      exact ⟨rfl, ov, by rw [addP_zero h0 hc0 hk]; exact h2, Mv.none k02⟩
    · refine M.share_j (fun vals w' => vals = [] ∧ w2 = w') ?_ ?_
      · rintro vals w' ⟨rfl, rfl⟩ _
        exact hK [] w2 ⟨rfl, d, conds, h2, Mv.none k02, b2, hc2, hdv2, hcd2, addP_some h0 hc0 hk hx⟩
      · intro K2 hK2
        have hx' : ¬ (x.toNat : Int) = 0 := fun h => hx (by apply BitVec.eq_of_toNat_eq; simpa using h)
        have hx2 : ¬ ((((some x).getD 0 : W64).toNat : Int) = 0) := hx'
        (repeat (first|refine jf ?_|refine jk ?_|refine jm ?_|refine jp ?_|refine jH ?_))
        exact hK2 _ _ ⟨rfl, rfl⟩
  | none =>
    refine M.share_j (fun vals w' => vals = [] ∧ ∃ (d' : Value), Stp Z w' F p pb N most s sv i inputs mw ov outs e ∧ Mv w F pb ov w' F ov ∧ Blk w' w.heap.size [vi r0, vi r1, vi r2, vi r3, vi r4, vi r5, vi r6, vi r7, c, vi pc, vi steps, vi calls, vi en, vi code, vi value, a, b, vi ep, d'] ∧ LV vi w' (Fr Z F pb ov) c cells ∧ SDvO w' (Fr Z F pb ov) a b ⟨disk, pend, ep⟩ ∧ LV vi w' (Fr Z F pb ov) d' (conds ++ [cnd])) ?_ ?_
    · rintro vals w' ⟨rfl, d', q1, q2, q3, q4, q5, q6⟩ _
      exact hK [] w' ⟨rfl, d', _, q1, q2, q3, q4, q5, q6, addP_none h0 hc0 hk⟩
    intro K2 hK2
    (repeat (first|refine jc ?_|refine jh ?_|refine jl ?_|refine jn ?_|refine jo ?_|refine jp ?_|refine jN (by assumption) rfl ?_))
    obtain ⟨A, cc, rfl, hr, hcc⟩ := id hcd2
    refine M.call_i (clip1_ret hcc) ?_; rintro _ w3 ⟨rfl, rfl⟩
    refine M.buildSlice_i [vi cnd] (by kernel_rfl) (fun w4 b4 k4 s4 => ?_)
    have hr4 := (Row.samez hr (sz := 1) (n := conds.length) (by simp)).keep k4 (fun _ _ _ h => h)
    refine M.appendF_i hr4 (by simp) (Row.of_blk' (D := fun _ => True) b4 trivial) rfl (by omega) rfl (by omega) (by have hcl : conds.length ≤ 1000000 := hcl; omega) (fun v5 w5 g5 k5 => ?_)
    have h5 := (h2.keepN k4).keepN k5
    have k05 := (k02.trans k4 (fun _ _ h => h)).trans k5 (fun _ _ h => h)
    have k25 := k4.trans k5 (fun _ _ h => h)
    have b5 := b2.keep k25 (fun h => h)
    (repeat (refine jc ?_))
    refine M.store_i b5 (by simp) (GC.one g5) (fun w6 b6 k6 s6 => ?_)
    have hne : ∀ x, x = w.heap.size → w.heap.size ≤ x := fun x hx => by omega
    have k06 : Keep w w6 No := k05.trans k6 (fun x hx e => by have e : x = w.heap.size := e; omega)
    have q4 := k4.size
    have q2 := k02.size
    refine hK2 [] w6 ⟨rfl, v5, h.keepN k06, Mv.none k06, b6, hc.keep k06 (fun _ _ _ h => h), hdv.keep k06 (fun _ _ _ h => h), ?_⟩
    have g6 : GI w6 (w4.heap.size ≤ ·) v5 (conds ++ [cnd]) := by
      have : (conds ++ [cnd]).map vi = conds.map vi ++ [vi cnd] := by simp
      unfold GI
      rw [this, List.length_append]
      have hb1 := b1.lt
      exact g5.keep k6 (fun b hb hx e => by have hx : w4.heap.size ≤ b := hx; have e : b = w.heap.size := e; omega)
    exact (GI.lv g6).mono (fun b hb hx => h.fresh (by have hx : w4.heap.size ≤ b := hx; omega))
end
end Go.Proofs.YtanjlgafjgoaaaaGreat
namespace Go.Proofs.YtanjlgafjgoaaaaGreat
open Go.Mw
set_option linter.unusedVariables false
set_option linter.unusedSimpArgs false
set_option maxRecDepth 100000
attribute [local irreducible] M.val M.unit M.next M.pick M.new M.nilCheck M.load1 M.loadA M.store M.fieldAddr M.indexSl M.indexArr M.slice M.makeSlice M.buildSlice M.len M.lenS M.cap M.append M.extract M.conv M.not M.neg M.bin M.shift M.eqB M.eqNil M.scat M.call M.callv M.gd M.share M.cond M.loop M.draw pureW readW Ret
variable {Z : Nat → Prop}
def sh118 (x0 x1 : Value) (R : Kt) (w : World) : Prop :=
  M.nilCheck x0 (fun t10 w =>
  M.fieldAddr 1 t10 (fun t11 w =>
  M.fieldAddr 0 t11 (fun t12 w =>
  M.indexArr 8 1 t12 x1 (fun t13 w =>
  M.load1 t13 (fun t14 w =>
  M.nilCheck x0 (fun t17 w =>
  M.fieldAddr 0 t17 (fun t18 w =>
  M.load1 t18 (fun t19 w =>
  M.call Tryz.prog 82 #[t19, t14] (fun t21 w =>
  M.extract 0 t21 (fun t22 w =>
  M.extract 1 t21 (fun t23 w =>
  M.cond t23
  (pureW Tryz.prog (Instr.build 165 #[(0, t14), (1, t22)]) (fun t27 w =>
  M.val Tryz.prog (Instr.makeInterface 165 t27) (fun t28 w =>
  R t28 w) w) w)
  (pureW Tryz.prog (Instr.build 167 #[(0, t14)]) (fun t30 w =>
  M.val Tryz.prog (Instr.makeInterface 167 t30) (fun t31 w =>
  R t31 w) w) w)) w) w) w) w) w) w) w) w) w) w) w
theorem ok118 (x0 x1 : Value) (R : Kt) (w : World) (h : sh118 x0 x1 R w) : Ret Tryz.prog 118 #[x0, x1] w R :=
  ret_mk <| calls_of_comp mixed (c := Tryz.f118.body.getD .skip) (args := [x0, x1]) (rs := [(ResultVar.tmp 4)]) (Ann.seq Ann.text (Ann.seq Ann.text (Ann.seq (Ann.seq Ann.text (Ann.seq Ann.text (Ann.cond (Ann.seq Ann.text Ann.leaf) Ann.leaf))) (Ann.seq Ann.text Ann.leaf))))
    Tryz.func118 (by kernel_rfl) (by kernel_rfl)
    (Eq.mp (by kernel_rfl) h)
def sh90 (x0 x1 x2 x3 x4 : Value) (R : Kt) (w : World) : Prop :=
  M.call Tryz.prog 118 #[x0, x1] (fun t16 w =>
  M.share (fun K1 w =>
  M.val Tryz.prog (Instr.typeAssert t16 162 165 true) (fun t17 w =>
  M.extract 1 t17 (fun t18 w =>
  M.extract 0 t17 (fun t19 w =>
  M.cond t18
  (M.new 165 #[.int .i64 0, .int .u64 0] (fun t10 w =>
  M.store 2 t10 t19 (fun _ w =>
  M.fieldAddr 1 t10 (fun t20 w =>
  M.load1 t20 (fun t21 w =>
  M.conv .u64 x2 (fun t23 w =>
  M.bin .lss t21 t23 (fun t24 w =>
  M.cond t24
  (M.fieldAddr 1 t10 (fun t27 w =>
  M.load1 t27 (fun t28 w =>
  M.conv .i64 t28 (fun t29 w =>
  M.callv Tryz.prog x4 #[t29] (fun t30 w =>
  M.call Tryz.prog 43 #[x0, t30, (Value.int IntKind.i64 (-1))] (fun t31 w =>
  K1 [] w) w) w) w) w) w)
  (M.call Tryz.prog 22 #[x0, x3] (fun t35 w =>
  M.call Tryz.prog 43 #[x0, t35, (Value.int IntKind.i64 (-1))] (fun t36 w =>
  K1 [] w) w) w)) w) w) w) w) w) w)
  (M.val Tryz.prog (Instr.typeAssert t16 162 167 true) (fun t37 w =>
  M.extract 1 t37 (fun t38 w =>
  M.extract 0 t37 (fun t39 w =>
  M.cond t38
  (M.new 167 #[.int .i64 0] (fun t11 w =>
  M.store 1 t11 t39 (fun _ w =>
  M.loop [(Value.int IntKind.i64 0)] (fun s2 K2 w => ∀ _ : List Value,
  M.bin .lss (s2.getD 0 undef) x2 (fun t42 w =>
  M.cond t42
  (M.draw (fun w =>
  M.fieldAddr 0 t11 (fun t49 w =>
  M.load1 t49 (fun t50 w =>
  M.conv .u64 (s2.getD 0 undef) (fun t52 w =>
  M.callv Tryz.prog x4 #[(s2.getD 0 undef)] (fun t47 w =>
  ((M.load1 t49 (fun v' _ => v' = t50) w) ∧ M.call Tryz.prog 88 #[x0, t50, t52] (fun t53 w =>
  M.call Tryz.prog 43 #[x0, t47, t53] (fun t54 w =>
  M.bin .add (s2.getD 0 undef) (Value.int IntKind.i64 1) (fun t55 w =>
  K2 [t55] w) w) w) w)) w) w) w) w) w)
  (M.draw (fun w =>
  M.nilCheck x0 (fun t58 w =>
  M.fieldAddr 0 t58 (fun t59 w =>
  M.load1 t59 (fun t60 w =>
  M.fieldAddr 0 t11 (fun t61 w =>
  M.load1 t61 (fun t62 w =>
  M.conv .u64 x2 (fun t65 w =>
  M.call Tryz.prog 45 #[x0, t65] (fun t66 w =>
  ((M.load1 t61 (fun v' _ => v' = t62) w) ∧ ((M.load1 t59 (fun v' _ => v' = t60) w) ∧ M.call Tryz.prog 85 #[t60, (Value.int IntKind.i64 13), t62, t66] (fun t67 w =>
  M.extract 0 t67 (fun t68 w =>
  M.extract 1 t67 (fun t69 w =>
  M.call Tryz.prog 47 #[x0, t68, t69] (fun t70 w =>
  M.call Tryz.prog 22 #[x0, x3] (fun t74 w =>
  M.call Tryz.prog 89 #[x0, t70] (fun t77 w =>
  M.call Tryz.prog 43 #[x0, t74, t77] (fun t78 w =>
  K1 [] w) w) w) w) w) w) w) w))) w) w) w) w) w) w) w) w)) w) w) w) w)
  (K1 [] w)) w) w) w)) w) w) w) (fun s1 w => ∀ _ : List Value,
  R (.tuple #[]) w) w) w
theorem ok90 (x0 x1 x2 x3 x4 : Value) (R : Kt) (w : World) (h : sh90 x0 x1 x2 x3 x4 R w) : Ret Tryz.prog 90 #[x0, x1, x2, x3, x4] w R :=
  ret_mk <| calls_of_comp mixed (c := Tryz.f90.body.getD .skip) (args := [x0, x1, x2, x3, x4]) (rs := []) (Ann.seq Ann.text (Ann.jblock [] [10, 11, 12, 13, 17, 18, 19, 20, 21, 22, 23, 24, 25, 26, 27, 28, 29, 30, 31, 32, 33, 34, 35, 36, 37, 38, 39, 40, 41, 42, 43, 44, 45, 46, 47, 48, 49, 50, 51, 52, 53, 54, 55, 56, 57, 58, 59, 60, 61, 62, 63, 64, 65, 66, 67, 68, 69, 70, 71, 72, 73, 74, 75, 76, 77, 78] (Ann.seq Ann.text (Ann.cond (Ann.seq Ann.text (Ann.seq Ann.text (Ann.cond Ann.text Ann.text))) (Ann.seq Ann.text (Ann.cond (Ann.seq Ann.text (Ann.seq (Ann.seq Ann.text (Ann.block (Ann.loop [41] [12, 42, 43, 44, 45, 46, 47, 48, 49, 50, 51, 52, 53, 54, 55] (Ann.seq Ann.text (Ann.seq (Ann.cond Ann.leaf Ann.leaf) (Ann.seq (Ann.block (Ann.seq Ann.text (Ann.draw (Sch.take 0 (Sch.take 1 (Sch.take 2 (Sch.take 4 (Sch.take 5 (Sch.take 6 (Sch.take 7 (Sch.take 8 (Sch.one 3 (Sch.one 9 (Sch.one 10 Sch.done)))))))))))))) Ann.text)))))) (Ann.seq (Ann.draw (Sch.take 0 (Sch.take 1 (Sch.take 2 (Sch.take 3 (Sch.take 4 (Sch.take 5 (Sch.take 6 (Sch.take 7 (Sch.take 8 (Sch.take 9 (Sch.one 10 (Sch.one 11 (Sch.take 12 (Sch.take 13 (Sch.one 14 (Sch.take 15 Sch.done))))))))))))))))) Ann.text))) Ann.leaf))))))
    Tryz.func90 (by kernel_rfl) (by kernel_rfl)
    (Eq.mp (by kernel_rfl) h)
section
variable {w : World} {F : Nat → Prop} {p pb : Nat} {N : List Nd} {most : Int} {s : Sy} {sv : List Value} {i : Ins} {inputs mw : Int} {ov : Value} {outs : List Sy} {e : Int} {c a b d : Value}
def plV (N : List Nd) (id : Int) : Value := match knownN N id with
  | some x => .iface 165 (.agg #[vi id, vw x])
  | none => .iface 167 (.agg #[vi id])
theorem place37_ret (h : Stp Z w F p pb N most s sv i inputs mw ov outs e) {r : Int} (h0 : 0 ≤ r) (h7 : r ≤ 7) :
    Ret Tryz.prog 118 #[ptr pb, vi r] w (fun v w' => v = plV N (s.reg r) ∧ Keep w w' No) := by
  have hr := h.creg h0 h7
  have hcp := h.cp
  refine ok118 _ _ _ _ ?_
  unfold sh118
  (repeat (first|refine jb ?_|refine jc ?_))
  refine M.arr8_i h0 (by omega) ?_
  (repeat (first|refine jb ?_|refine jc ?_|refine jM (by assumption) ?_))
  refine M.call_i (known_ret h.dag (s.reg r)) ?_; rintro _ w1 ⟨rfl, k1⟩
  refine M.extract_i (v := vw ((knownN N (s.reg r)).getD 0)) rfl ?_
  refine M.extract_i (v := .bool (knownN N (s.reg r)).isSome) rfl ?_
  unfold plV
  cases hk : knownN N (s.reg r) with
  | some x =>
    (repeat (refine jo ?_))
    refine M.pure_i (.agg ⟨[vi (s.reg r), vw x]⟩) (fun _ => by kernel_rfl) ?_
    refine M.val_i (run_makeInterface _ _ _ (by kernel_rfl)) ?_
    exact ⟨rfl, k1⟩
  | none =>
    (repeat (refine jp ?_))
    refine M.pure_i (.agg ⟨[vi (s.reg r)]⟩) (fun _ => by kernel_rfl) ?_
    refine M.val_i (run_makeInterface _ _ _ (by kernel_rfl)) ?_
    exact ⟨rfl, k1⟩
def Clo (Z : Nat → Prop) (g : Value) (p pb : Nat) (most : Int) (s : Sy) (sv : List Value) (i : Ins) (inputs mw : Int) (q n : Nat) (f : Nat → Sy) : Prop :=
  ∀ (k : Nat) (w : World) (F : Nat → Prop) (N : List Nd) (ov : Value) (outs : List Sy) (e : Int) (kt : Kt), k < n → Stp Z w F p pb N most s sv i inputs mw ov outs e → Blk w q [ptr pb] → Fr Z F pb ov q →
    (∀ v w', SyO w' (Fr Z F pb ov) v (f k) → (f k).conds.length ≤ 1000000 → Keep w w' No → kt v w') → M.callv Tryz.prog g #[vi k] kt w
theorem addR_len {r : Rs} {out : List Sy} {t : Sy} : (addR r out t).2.2.length ≤ out.length + 1 := addP_len
theorem eachK_len (most id : Int) (f : Nat → Sy) : ∀ (k : Nat) (r : Rp), (eachK most id f k r).2.2.length ≤ r.2.2.length + k
  | 0, r => Nat.le_refl _
  | k + 1, r => by
    have h1 := eachK_len most id f k r
    have : (eachK most id f (k + 1) r).2.2.length ≤ (eachK most id f k r).2.2.length + 1 := addR_len
    omega
def Adds (Z : Nat → Prop) (w : World) (F : Nat → Prop) (p pb : Nat) (most : Int) (s : Sy) (sv : List Value) (i : Ins) (inputs mw : Int) (ov : Value) (R : Rp) (v : Value) (w' : World) : Prop :=
  v = .tuple #[] ∧ ∃ F' ov', Stp Z w' F' p pb R.1 most s sv i inputs mw ov' R.2.2 R.2.1 ∧ Mv w F pb ov w' F' ov'
theorem SyO.of_vals {D : Nat → Prop} {t : Sy} (h8 : t.regs.length = 8) (h : LV vi w D c t.cells ∧ SDvO w D a b t.dev ∧ LV vi w D d t.conds) : SyO w D (.agg ⟨t.vals c a b d⟩) t := ⟨h8, c, a, b, d, rfl, h.1, h.2.1, h.2.2⟩
theorem SDvO.ep' {D : Nat → Prop} {v u : SDv} (h : SDvO w D a b v) (h1 : u.disk = v.disk) (h2 : u.pend = v.pend) : SDvO w D a b u := by
  unfold SDvO at h ⊢
  rw [h1, h2]; exact h
set_option maxHeartbeats 4000000 in
theorem each37_ret {q n : Nat} {f : Nat → Sy} {g : Value} {code r : Int} (h : Stp Z w F p pb N most s sv i inputs mw ov [] e) (hsv : sv = s.vals c a b d) (hq : Blk w q [ptr pb]) (hqf : Fr Z F pb ov q) (hg : Clo Z g p pb most s sv i inputs mw q n f) (h0 : 0 ≤ r) (h7 : r ≤ 7) (hn : n ≤ 100000) (hcs : s.conds.length ≤ 1000000) :
    Ret Tryz.prog 90 #[ptr pb, vi r, vi n, vi code, g] w (Adds Z w F p pb most s sv i inputs mw ov (eachP most N e s (s.reg r) n code f)) := by
  refine ok90 _ _ _ _ _ _ _ ?_
  unfold sh90
  refine M.call_i (place37_ret h h0 h7) ?_; rintro _ w1 ⟨rfl, k1⟩
  have h1 := h.keepN k1
  have hq1 := hq.keep k1 (fun h => h)
  have htrap : ∀ {w' : World} {F' : Nat → Prop} {N' : List Nd} {ov' : Value} {outs' : List Sy} {e' : Int}, Stp Z w' F' p pb N' most s sv i inputs mw ov' outs' e' → SyO w' (Fr Z F' pb ov') (.agg ⟨(s.trap code).vals c a b d⟩) (s.trap code) := fun h' => SyO.of_vals h'.sy.1 (h'.lists hsv)
  refine M.share_j (fun vals w' => Adds Z w F p pb most s sv i inputs mw ov (eachP most N e s (s.reg r) n code f) (.tuple #[]) w') (fun vals w' hA _ => hA) ?_
  intro K hK
  have hK : ∀ w', (∃ F' ov', Stp Z w' F' p pb (eachP most N e s (s.reg r) n code f).1 most s sv i inputs mw ov' (eachP most N e s (s.reg r) n code f).2.2 (eachP most N e s (s.reg r) n code f).2.1 ∧ Mv w F pb ov w' F' ov') → K [] w' := fun w' hh => hK [] w' ⟨rfl, hh⟩
  unfold plV
  unfold eachP at hK
  generalize s.reg r = id at hK ⊢
  cases hk : knownN N id with
  | some x =>
    simp only [hk] at hK
    refine M.val_i (v := .tuple #[.agg #[vi id, vw x], .bool true]) (w' := w1) (by rfl) ?_
    refine M.extract_i (v := .bool true) rfl ?_
    refine M.extract_i (v := .agg #[vi id, vw x]) rfl ?_
    (repeat (refine jo ?_))
    refine M.new_i (l := [vi 0, .int .u64 0]) (fun w2 b2 k2 s2 => ?_)
    refine M.storeAll_i (vs := [vi id, vw x]) b2 rfl rfl (by simp only [List.mem_cons, List.not_mem_nil, or_false, forall_eq_or_imp, forall_eq]; exact ⟨rfl, rfl⟩) (fun w3 b3 k3 s3 => ?_)
    have k13 : Keep w1 w3 No := k2.trans k3 (fun y hy e => by have e : y = w1.heap.size := e; omega)
    have k03 := k1.trans k13 (fun _ _ h => h)
    have h3 := h1.keepN k13
    have hq3 := hq1.keep k13 (fun h => h)
    (repeat (first|refine jc ?_|refine jN (by assumption) rfl ?_))
    refine M.u64_i (by omega) ?_
    by_cases hx : x.toNat < n
    · rw [if_pos hx] at hK
      (repeat (first|refine jc ?_|refine jo ?_|refine jy ?_|refine jN (by assumption) rfl ?_))
      refine M.toIntW_i ?_
      have eI : x.toInt = (x.toNat : Int) := by rw [BitVec.toInt_eq_toNat_cond]; rw [if_pos (by omega)]
      rw [eI]
      refine hg x.toNat w3 F N ov [] e _ hx h3 hq3 hqf (fun v w4 hv hvc k4 => ?_)
      have h4 := h3.keepN k4
      refine M.call_i (add37_ret h4 hv hvc (by simp) (-1)) ?_
      rintro _ w5 ⟨rfl, ov5, h5, m5⟩
      exact hK w5 ⟨F, ov5, h5, (Mv.none (k03.trans k4 (fun _ _ h => h))).trans m5⟩
    · rw [if_neg hx] at hK
      (repeat (first|refine jp ?_|refine jz ?_))
      refine M.call_i (trap37_ret h3 hsv code) ?_; rintro _ w4 ⟨rfl, k4⟩
      have h4 := h3.keepN k4
      refine M.call_i (add37_ret h4 (htrap h4) hcs (by simp) (-1)) ?_
      rintro _ w5 ⟨rfl, ov5, h5, m5⟩
      exact hK w5 ⟨F, ov5, h5, (Mv.none (k03.trans k4 (fun _ _ h => h))).trans m5⟩
  | none =>
    simp only [hk] at hK
    refine M.val_i (v := .tuple #[.agg #[vi 0, .int .u64 0], .bool false]) (w' := w1) (by rfl) ?_
    refine M.extract_i (v := .bool false) rfl ?_
    refine M.extract_i (v := .agg #[vi 0, .int .u64 0]) rfl ?_
    (repeat (refine jp ?_))
    refine M.val_i (v := .tuple #[.agg #[vi id], .bool true]) (w' := w1) (by rfl) ?_
    refine M.extract_i (v := .bool true) rfl ?_
    refine M.extract_i (v := .agg #[vi id]) rfl ?_
    (repeat (refine jo ?_))
    refine M.new_i (l := [vi 0]) (fun w2 b2 k2 s2 => ?_)
    refine M.storeAll_i (vs := [vi id]) b2 rfl rfl (by simp only [List.mem_cons, List.not_mem_nil, or_false, forall_eq]; rfl) (fun w3 b3 k3 s3 => ?_)
    have k13 : Keep w1 w3 No := k2.trans k3 (fun y hy e => by have e : y = w1.heap.size := e; omega)
    have k03 := k1.trans k13 (fun _ _ h => h)
    have h3 := h1.keepN k13
    have hq3 := hq1.keep k13 (fun h => h)
    have ht3 : Fr Z F pb ov w1.heap.size := h1.fresh (Nat.le_refl _)
    refine M.loop_i (σ := Nat) (fun k vals w' => vals = [vi k] ∧ k ≤ n ∧ ∃ F' ov', Stp Z w' F' p pb (eachK most id f k (N, e, [])).1 most s sv i inputs mw ov' (eachK most id f k (N, e, [])).2.2 (eachK most id f k (N, e, [])).2.1 ∧ Mv w F pb ov w' F' ov' ∧ Blk w' q [ptr pb] ∧ Fr Z F' pb ov' q ∧ Blk w' w1.heap.size [vi id] ∧ Fr Z F' pb ov' w1.heap.size) (fun k => n - k) 0
      ⟨rfl, by omega, F, ov, h3, Mv.none k03, hq3, hqf, b3, ht3⟩ ?_
    rintro k vals w4 K4 ⟨rfl, hkn, F4, ov4, h4, m4, hq4, hqf4, b4, ht4⟩ hK4 _
    simp only [List.getD_cons_zero, List.getD_cons_succ]
    have hlen := eachK_len most id f k (N, e, [])
    simp only [List.length_nil, Nat.zero_add] at hlen
    by_cases hlt : k < n
    · have kd := Keep.drew w4 No
      have b4d := b4.keep kd (fun h => h)
      have h4d := h4.keepN kd
      have hq4d := hq4.keep kd (fun h => h)
      (repeat (first|refine jc ?_|refine jd ?_|refine jo ?_|refine jy ?_|refine jN (by assumption) rfl ?_))
      refine M.u64_i (by omega) ?_
      refine hg k w4.drew F4 _ ov4 _ _ _ hlt h4d hq4d hqf4 (fun v w5 hv hvc k5 => ?_)
      have h5 := h4d.keepN k5
      have b5 := b4d.keep k5 (fun h => h)
      have k45 := kd.trans k5 (fun _ _ h => h)
      (repeat (refine jP (by assumption) rfl ?_))
      have ew : (.int .u64 (k : Int) : Value) = vw (BitVec.ofNat 64 k) := by
        show Value.int .u64 (k : Int) = Value.int .u64 (((BitVec.ofNat 64 k).toNat : Nat) : Int)
        rw [BitVec.toNat_ofNat, Nat.mod_eq_of_lt (by omega)]
      rw [ew]
      refine M.call_i (is37_ret h5 id (BitVec.ofNat 64 k)) ?_
      rintro _ w6 ⟨rfl, F6, h6, m6⟩
      refine M.call_i (add37_ret h6 (hv.mv m6) hvc (by omega) _) ?_
      rintro _ w7 ⟨rfl, ov7, h7, m7⟩
      have m47 : Mv w4 F4 pb ov4 w7 F6 ov7 := (Mv.none k45).trans (m6.trans m7)
      obtain ⟨hq7, hqf7⟩ := Blk.mv m47 hq4 hqf4
      obtain ⟨b7, ht7⟩ := Blk.mv m47 b4 ht4
      (repeat (refine jK ?_))
      exact hK4 (k + 1) _ _ (by omega) ⟨rfl, by omega, F6, ov7, h7, m4.trans m47, hq7, hqf7, b7, ht7⟩
    · have ek : k = n := by omega
      subst ek
      have kd := Keep.drew w4 No
      have b4d := b4.keep kd (fun h => h)
      have h4d := h4.keepN kd
      have hcp := h4d.cp
      (repeat (first|refine jb ?_|refine jc ?_|refine jd ?_|refine jp ?_|refine jz ?_|refine jM (by assumption) ?_|refine jN (by assumption) rfl ?_))
      refine M.u64_i (by omega) ?_
      have ew : (.int .u64 (k : Int) : Value) = vw (BitVec.ofNat 64 k) := by
        show Value.int .u64 (k : Int) = Value.int .u64 (((BitVec.ofNat 64 k).toNat : Nat) : Int)
        rw [BitVec.toNat_ofNat, Nat.mod_eq_of_lt (by omega)]
      rw [ew]
      refine M.call_i (word37_ret h4d (BitVec.ofNat 64 k)) ?_
      rintro _ w5 ⟨rfl, F5, h5, m5⟩
      have hcp5 := h5.cp
      obtain ⟨b5, ht5⟩ := Blk.mv m5 b4d ht4
      (repeat (first|refine jO (by assumption) ?_|refine jP (by assumption) rfl ?_))
      refine M.call_i (foldBin_ret h5.dag 13 id _) ?_; rintro _ w6 ⟨F6, rfl, d6, f6, k6⟩
      refine M.extract_i rfl ?_
      refine M.extract_i rfl ?_
      obtain ⟨h6, m6⟩ := h5.ask d6 f6 k6
      refine M.call_i (keep37_ret h6 _ _) ?_
      rintro _ w7 ⟨rfl, F7, h7, m7⟩
      refine M.call_i (trap37_ret h7 hsv code) ?_; rintro _ w8 ⟨rfl, k8⟩
      have h8 := h7.keepN k8
      refine M.call_i (not37_ret h8 _) ?_
      rintro _ w9 ⟨rfl, F9, h9, m9⟩
      refine M.call_i (add37_ret h9 (htrap h9) hcs (by omega) _) ?_
      rintro _ w10 ⟨rfl, ov10, h10, m10⟩
      exact hK w10 ⟨F9, ov10, h10, m4.trans ((Mv.none kd).trans (m5.trans (m6.trans (m7.trans ((Mv.none k8).trans (m9.trans m10))))))⟩
end
end Go.Proofs.YtanjlgafjgoaaaaGreat
namespace Go.Proofs.YtanjlgafjgoaaaaGreat
open Go.Mw
set_option linter.unusedVariables false
set_option linter.unusedSimpArgs false
set_option maxRecDepth 100000
attribute [local irreducible] M.val M.unit M.next M.pick M.new M.nilCheck M.load1 M.loadA M.store M.fieldAddr M.indexSl M.indexArr M.slice M.makeSlice M.buildSlice M.len M.lenS M.cap M.append M.extract M.conv M.not M.neg M.bin M.shift M.eqB M.eqNil M.scat M.call M.callv M.gd M.share M.cond M.loop M.draw pureW readW Ret
variable {Z : Nat → Prop}
def sh91 (x0 x1 : Value) (R : Kt) (w : World) : Prop :=
  M.new 39 #[.int .i64 0, .int .i64 0, .int .i64 0, .int .i64 0, .int .i64 0, .int .i64 0, .int .i64 0, .int .i64 0, .slice none 0 0, .int .i64 0, .int .i64 0, .int .i64 0, .int .i64 0, .int .i64 0, .int .i64 0, .slice none 0 0, .slice none 0 0, .int .i64 0, .slice none 0 0] (fun t3 w =>
  M.draw (fun w =>
  M.load1 x1 (fun t4 w =>
  M.load1 x1 (fun t5 w =>
  M.nilCheck t5 (fun t6 w =>
  M.fieldAddr 1 t6 (fun t7 w =>
  M.fieldAddr 8 t7 (fun t8 w =>
  M.load1 t8 (fun t9 w =>
  M.indexSl 1 t9 x0 (fun t11 w =>
  M.load1 t11 (fun t12 w =>
  M.call Tryz.prog 44 #[t4, t12] (fun t13 w =>
  ((M.load1 t8 (fun v' _ => v' = t9) w) ∧ ((M.load1 x1 (fun v' _ => v' = t5) w) ∧ M.store 19 t3 t13 (fun _ w =>
  M.loadA 19 t3 (fun r0 w => R r0 w) w) w))) w) w) w) w) w) w) w) w) w) w) w
theorem ok91 (x0 x1 : Value) (R : Kt) (w : World) (h : sh91 x0 x1 R w) : Ret Tryz.prog 91 #[x0, x1] w R :=
  ret_mk <| calls_of_comp mixed (c := Tryz.f91.body.getD .skip) (args := [x0, x1]) (rs := [(ResultVar.cell 3 39)]) (Ann.seq Ann.text (Ann.seq (Ann.draw (Sch.take 0 (Sch.take 1 (Sch.take 2 (Sch.take 3 (Sch.take 4 (Sch.take 5 (Sch.take 6 (Sch.take 7 (Sch.take 8 (Sch.one 9 (Sch.one 10 Sch.done)))))))))))) Ann.leaf))
    Tryz.func91 (by kernel_rfl) (by kernel_rfl)
    (Eq.mp (by kernel_rfl) h)
def sh92 (x0 x1 : Value) (R : Kt) (w : World) : Prop :=
  M.new 39 #[.int .i64 0, .int .i64 0, .int .i64 0, .int .i64 0, .int .i64 0, .int .i64 0, .int .i64 0, .int .i64 0, .slice none 0 0, .int .i64 0, .int .i64 0, .int .i64 0, .int .i64 0, .int .i64 0, .int .i64 0, .slice none 0 0, .slice none 0 0, .int .i64 0, .slice none 0 0] (fun t3 w =>
  M.load1 x1 (fun t5 w =>
  M.call Tryz.prog 84 #[t5] (fun t6 w =>
  M.new 39 #[.int .i64 0, .int .i64 0, .int .i64 0, .int .i64 0, .int .i64 0, .int .i64 0, .int .i64 0, .int .i64 0, .slice none 0 0, .int .i64 0, .int .i64 0, .int .i64 0, .int .i64 0, .int .i64 0, .int .i64 0, .slice none 0 0, .slice none 0 0, .int .i64 0, .slice none 0 0] (fun t4 w =>
  M.store 19 t4 t6 (fun _ w =>
  M.fieldAddr 8 t4 (fun t7 w =>
  M.load1 t7 (fun t8 w =>
  M.call Tryz.prog 93 #[t8] (fun t9 w =>
  M.fieldAddr 8 t4 (fun t10 w =>
  M.store 1 t10 t9 (fun _ w =>
  M.draw (fun w =>
  M.fieldAddr 8 t4 (fun t11 w =>
  M.load1 t11 (fun t12 w =>
  M.load1 x1 (fun t14 w =>
  M.load1 x1 (fun t15 w =>
  M.nilCheck t15 (fun t16 w =>
  M.fieldAddr 20 t16 (fun t17 w =>
  M.fieldAddr 2 t17 (fun t18 w =>
  M.load1 t18 (fun t19 w =>
  M.nilCheck t14 (fun t20 w =>
  M.fieldAddr 1 t20 (fun t21 w =>
  M.fieldAddr 0 t21 (fun t22 w =>
  M.indexArr 8 1 t22 t19 (fun t23 w =>
  M.load1 t23 (fun t24 w =>
  M.indexSl 1 t12 x0 (fun t25 w =>
  M.store 1 t25 t24 (fun _ w =>
  M.loadA 19 t4 (fun t26 w =>
  M.store 19 t3 t26 (fun _ w =>
  M.loadA 19 t3 (fun r0 w => R r0 w) w) w) w) w) w) w) w) w) w) w) w) w) w) w) w) w) w) w) w) w) w) w) w) w) w) w) w) w) w
theorem ok92 (x0 x1 : Value) (R : Kt) (w : World) (h : sh92 x0 x1 R w) : Ret Tryz.prog 92 #[x0, x1] w R :=
  ret_mk <| calls_of_comp mixed (c := Tryz.f92.body.getD .skip) (args := [x0, x1]) (rs := [(ResultVar.cell 3 39)]) (Ann.seq Ann.text (Ann.seq Ann.text (Ann.seq Ann.text (Ann.seq (Ann.draw (Sch.take 0 (Sch.take 1 (Sch.take 2 (Sch.take 3 (Sch.take 4 (Sch.take 5 (Sch.take 6 (Sch.take 7 (Sch.take 8 (Sch.take 9 (Sch.take 10 (Sch.take 11 (Sch.take 12 (Sch.take 13 (Sch.take 14 (Sch.one 15 Sch.done))))))))))))))))) (Ann.seq Ann.text Ann.leaf)))))
    Tryz.func92 (by kernel_rfl) (by kernel_rfl)
    (Eq.mp (by kernel_rfl) h)
def sh95 (x0 x1 : Value) (R : Kt) (w : World) : Prop :=
  M.new 39 #[.int .i64 0, .int .i64 0, .int .i64 0, .int .i64 0, .int .i64 0, .int .i64 0, .int .i64 0, .int .i64 0, .slice none 0 0, .int .i64 0, .int .i64 0, .int .i64 0, .int .i64 0, .int .i64 0, .int .i64 0, .slice none 0 0, .slice none 0 0, .int .i64 0, .slice none 0 0] (fun t3 w =>
  M.load1 x1 (fun t7 w =>
  M.nilCheck t7 (fun t8 w =>
  M.fieldAddr 1 t8 (fun t9 w =>
  M.fieldAddr 15 t9 (fun t10 w =>
  M.fieldAddr 0 t10 (fun t11 w =>
  M.load1 t11 (fun t12 w =>
  M.indexSl 1 t12 x0 (fun t14 w =>
  M.load1 t14 (fun t15 w =>
  M.load1 x1 (fun t16 w =>
  M.nilCheck t16 (fun t17 w =>
  M.fieldAddr 1 t17 (fun t18 w =>
  M.fieldAddr 15 t18 (fun t19 w =>
  M.fieldAddr 1 t19 (fun t20 w =>
  M.load1 t20 (fun t21 w =>
  M.len t21 (fun t22 w =>
  M.loop [t15, (Value.int IntKind.i64 0)] (fun s1 K1 w => ∀ _ : List Value,
  M.bin .lss (s1.getD 1 undef) t22 (fun t24 w =>
  M.cond t24
  (M.share (fun K2 w =>
  M.indexSl 3 t21 (s1.getD 1 undef) (fun t25 w =>
  M.loadA 3 t25 (fun t26 w =>
  M.new 97 #[.int .i64 0, .int .i64 0, .int .i64 0] (fun t6 w =>
  M.store 3 t6 t26 (fun _ w =>
  M.fieldAddr 0 t6 (fun t27 w =>
  M.load1 t27 (fun t28 w =>
  M.bin .eql t28 x0 (fun t30 w =>
  M.cond t30
  (M.fieldAddr 1 t6 (fun t31 w =>
  M.load1 t31 (fun t32 w =>
  K2 [t32] w) w) w)
  (K2 [(s1.getD 0 undef)] w)) w) w) w) w) w) w) w) (fun s2 w => ∀ _ : List Value,
  M.bin .add (s1.getD 1 undef) (Value.int IntKind.i64 1) (fun t33 w =>
  K1 [(s2.getD 0 undef), t33] w) w) w)
  (M.load1 x1 (fun t34 w =>
  M.call Tryz.prog 44 #[t34, (s1.getD 0 undef)] (fun t36 w =>
  M.store 19 t3 t36 (fun _ w =>
  M.loadA 19 t3 (fun r0 w => R r0 w) w) w) w) w)) w) w) w) w) w) w) w) w) w) w) w) w) w) w) w) w) w) w
theorem ok95 (x0 x1 : Value) (R : Kt) (w : World) (h : sh95 x0 x1 R w) : Ret Tryz.prog 95 #[x0, x1] w R :=
  ret_mk <| calls_of_comp mixed (c := Tryz.f95.body.getD .skip) (args := [x0, x1]) (rs := [(ResultVar.cell 3 39)]) (Ann.seq Ann.text (Ann.seq Ann.text (Ann.seq (Ann.seq Ann.text (Ann.block (Ann.loop [4, 23] [6, 24, 25, 26, 27, 28, 29, 30, 31, 32, 33] (Ann.seq Ann.text (Ann.seq (Ann.cond Ann.leaf Ann.leaf) (Ann.seq (Ann.jblock [4] [6, 25, 26, 27, 28, 29, 30, 31, 32] (Ann.seq Ann.text (Ann.seq Ann.text (Ann.cond Ann.text Ann.leaf)))) Ann.text)))))) (Ann.seq Ann.text Ann.leaf))))
    Tryz.func95 (by kernel_rfl) (by kernel_rfl)
    (Eq.mp (by kernel_rfl) h)
def sh96 (x0 x1 : Value) (R : Kt) (w : World) : Prop :=
  M.new 39 #[.int .i64 0, .int .i64 0, .int .i64 0, .int .i64 0, .int .i64 0, .int .i64 0, .int .i64 0, .int .i64 0, .slice none 0 0, .int .i64 0, .int .i64 0, .int .i64 0, .int .i64 0, .int .i64 0, .int .i64 0, .slice none 0 0, .slice none 0 0, .int .i64 0, .slice none 0 0] (fun t3 w =>
  M.load1 x1 (fun t5 w =>
  M.nilCheck t5 (fun t6 w =>
  M.fieldAddr 1 t6 (fun t7 w =>
  M.fieldAddr 15 t7 (fun t8 w =>
  M.loadA 3 t8 (fun t9 w =>
  M.new 33 #[.slice none 0 0, .slice none 0 0, .int .i64 0] (fun t4 w =>
  M.store 3 t4 t9 (fun _ w =>
  M.draw (fun w =>
  M.fieldAddr 1 t4 (fun t10 w =>
  M.load1 t10 (fun t11 w =>
  M.len t11 (fun t12 w =>
  M.load1 x1 (fun t13 w =>
  M.nilCheck t13 (fun t14 w =>
  M.fieldAddr 26 t14 (fun t15 w =>
  M.load1 t15 (fun t16 w =>
  M.bin .geq t12 t16 (fun t17 w =>
  M.cond t17
  (M.load1 x1 (fun t18 w =>
  M.call Tryz.prog 22 #[t18, (Value.int IntKind.i64 259)] (fun t19 w =>
  M.store 19 t3 t19 (fun _ w =>
  M.loadA 19 t3 (fun r0 w => R r0 w) w) w) w) w)
  (M.share (fun K1 w =>
  M.draw (fun w =>
  M.fieldAddr 1 t4 (fun t20 w =>
  M.load1 t20 (fun t21 w =>
  M.load1 x1 (fun t24 w =>
  M.load1 x1 (fun t25 w =>
  M.nilCheck t25 (fun t26 w =>
  M.fieldAddr 20 t26 (fun t27 w =>
  M.fieldAddr 2 t27 (fun t28 w =>
  M.load1 t28 (fun t29 w =>
  M.nilCheck t24 (fun t30 w =>
  M.fieldAddr 1 t30 (fun t31 w =>
  M.fieldAddr 0 t31 (fun t32 w =>
  M.indexArr 8 1 t32 t29 (fun t33 w =>
  M.load1 t33 (fun t34 w =>
  M.fieldAddr 2 t4 (fun t35 w =>
  M.load1 t35 (fun t36 w =>
  pureW Tryz.prog (Instr.build 97 #[(0, x0), (1, t34), (2, t36)]) (fun t37 w =>
  ((M.call Tryz.prog 97 #[t21] (fun t22 w =>
  ((M.load1 t35 (fun v' _ => v' = t36) w) ∧ ((M.load1 t33 (fun v' _ => v' = t34) w) ∧ ((M.load1 t28 (fun v' _ => v' = t29) w) ∧ ((M.load1 x1 (fun v' _ => v' = t25) w) ∧ ((M.load1 x1 (fun v' _ => v' = t24) w) ∧ M.buildSlice 97 3 #[.int .i64 0, .int .i64 0, .int .i64 0] 1 [(0, t37)] (fun t38 w =>
  ((M.load1 t35 (fun v' _ => v' = t36) w) ∧ ((M.load1 t33 (fun v' _ => v' = t34) w) ∧ ((M.load1 t28 (fun v' _ => v' = t29) w) ∧ ((M.load1 x1 (fun v' _ => v' = t25) w) ∧ ((M.load1 x1 (fun v' _ => v' = t24) w) ∧ M.append 97 3 24 #[.int .i64 0, .int .i64 0, .int .i64 0] t22 t38 (fun t39 w =>
  ((M.load1 t35 (fun v' _ => v' = t36) w) ∧ ((M.load1 t33 (fun v' _ => v' = t34) w) ∧ ((M.load1 t28 (fun v' _ => v' = t29) w) ∧ ((M.load1 x1 (fun v' _ => v' = t25) w) ∧ ((M.load1 x1 (fun v' _ => v' = t24) w) ∧ M.fieldAddr 1 t4 (fun t40 w =>
  M.store 1 t40 t39 (fun _ w =>
  K1 [] w) w) w)))))) w)))))) w)))))) w) ∧
   (M.buildSlice 97 3 #[.int .i64 0, .int .i64 0, .int .i64 0] 1 [(0, t37)] (fun t38_2 w =>
  ((M.load1 t35 (fun v' _ => v' = t36) w) ∧ ((M.load1 t33 (fun v' _ => v' = t34) w) ∧ ((M.load1 t28 (fun v' _ => v' = t29) w) ∧ ((M.load1 x1 (fun v' _ => v' = t25) w) ∧ ((M.load1 x1 (fun v' _ => v' = t24) w) ∧ ((M.load1 t20 (fun v' _ => v' = t21) w) ∧ M.call Tryz.prog 97 #[t21] (fun t22_2 w =>
  ((M.load1 t35 (fun v' _ => v' = t36) w) ∧ ((M.load1 t33 (fun v' _ => v' = t34) w) ∧ ((M.load1 t28 (fun v' _ => v' = t29) w) ∧ ((M.load1 x1 (fun v' _ => v' = t25) w) ∧ ((M.load1 x1 (fun v' _ => v' = t24) w) ∧ M.append 97 3 24 #[.int .i64 0, .int .i64 0, .int .i64 0] t22_2 t38_2 (fun t39_2 w =>
  ((M.load1 t35 (fun v' _ => v' = t36) w) ∧ ((M.load1 t33 (fun v' _ => v' = t34) w) ∧ ((M.load1 t28 (fun v' _ => v' = t29) w) ∧ ((M.load1 x1 (fun v' _ => v' = t25) w) ∧ ((M.load1 x1 (fun v' _ => v' = t24) w) ∧ M.fieldAddr 1 t4 (fun t40_2 w =>
  M.store 1 t40_2 t39_2 (fun _ w =>
  K1 [] w) w) w)))))) w)))))) w))))))) w))) w) w) w) w) w) w) w) w) w) w) w) w) w) w) w) w) w) (fun s1 w => ∀ _ : List Value,
  M.load1 x1 (fun t41 w =>
  M.loadA 3 t4 (fun t42 w =>
  M.call Tryz.prog 98 #[t41, t42] (fun t43 w =>
  M.store 19 t3 t43 (fun _ w =>
  M.loadA 19 t3 (fun r0 w => R r0 w) w) w) w) w) w) w)) w) w) w) w) w) w) w) w) w) w) w) w) w) w) w) w) w
theorem ok96 (x0 x1 : Value) (R : Kt) (w : World) (h : sh96 x0 x1 R w) : Ret Tryz.prog 96 #[x0, x1] w R :=
  ret_mk <| calls_of_comp mixed (c := Tryz.f96.body.getD .skip) (args := [x0, x1]) (rs := [(ResultVar.cell 3 39)]) (Ann.seq Ann.text (Ann.seq Ann.text (Ann.seq (Ann.seq (Ann.draw (Sch.take 0 (Sch.take 1 (Sch.take 2 (Sch.take 3 (Sch.take 4 (Sch.take 5 (Sch.take 6 (Sch.take 7 Sch.done))))))))) (Ann.cond (Ann.seq Ann.text Ann.leaf) Ann.leaf)) (Ann.join [] [20, 21, 22, 23, 24, 25, 26, 27, 28, 29, 30, 31, 32, 33, 34, 35, 36, 37, 38, 39, 40] (Ann.draw (Sch.take 0 (Sch.take 1 (Sch.take 3 (Sch.take 4 (Sch.take 5 (Sch.take 6 (Sch.take 7 (Sch.take 8 (Sch.take 9 (Sch.take 10 (Sch.take 11 (Sch.take 12 (Sch.take 13 (Sch.take 14 (Sch.take 15 (Sch.take 16 (Sch.take 17 (Sch.two 2 18 (Sch.one 18 (Sch.one 19 (Sch.take 20 (Sch.one 21 Sch.done)))) (Sch.one 2 (Sch.one 19 (Sch.take 20 (Sch.one 21 Sch.done))))))))))))))))))))))) (Ann.seq Ann.text Ann.leaf)))))
    Tryz.func96 (by kernel_rfl) (by kernel_rfl)
    (Eq.mp (by kernel_rfl) h)
def sh51 (x0 : Value) (R : Kt) (w : World) : Prop :=
  M.new 76 (Value.cells x0) (fun t1 w =>
  M.draw (fun w =>
  M.load1 t1 (fun t2 w =>
  M.load1 t1 (fun t3 w =>
  M.nilCheck t3 (fun t4 w =>
  M.fieldAddr 20 t4 (fun t5 w =>
  M.fieldAddr 2 t5 (fun t6 w =>
  M.load1 t6 (fun t7 w =>
  M.load1 t1 (fun t8 w =>
  M.nilCheck t8 (fun t9 w =>
  M.fieldAddr 1 t9 (fun t10 w =>
  M.fieldAddr 8 t10 (fun t11 w =>
  M.load1 t11 (fun t12 w =>
  M.len t12 (fun t13 w =>
  M.call Tryz.prog 90 #[t2, t7, t13, (Value.int IntKind.i64 257), (.func (Fn.func 91) #[] #[t1])] (fun t15 w =>
  ((M.load1 t11 (fun v' _ => v' = t12) w) ∧ ((M.load1 t1 (fun v' _ => v' = t8) w) ∧ ((M.load1 t1 (fun v' _ => v' = t3) w) ∧ R (.tuple #[]) w)))) w) w) w) w) w) w) w) w) w) w) w) w) w) w) w
theorem ok51 (x0 : Value) (R : Kt) (w : World) (h : sh51 x0 R w) : Ret Tryz.prog 51 #[x0] w R :=
  ret_mk <| calls_of_comp mixed (c := Tryz.f51.body.getD .skip) (args := [x0]) (rs := []) (Ann.seq Ann.text (Ann.draw (Sch.take 0 (Sch.take 1 (Sch.take 2 (Sch.take 3 (Sch.take 4 (Sch.take 5 (Sch.take 6 (Sch.take 7 (Sch.take 8 (Sch.take 9 (Sch.take 10 (Sch.take 11 (Sch.take 12 (Sch.one 13 Sch.done))))))))))))))))
    Tryz.func51 (by kernel_rfl) (by kernel_rfl)
    (Eq.mp (by kernel_rfl) h)
def sh52 (x0 : Value) (R : Kt) (w : World) : Prop :=
  M.new 76 (Value.cells x0) (fun t1 w =>
  M.draw (fun w =>
  M.load1 t1 (fun t2 w =>
  M.load1 t1 (fun t3 w =>
  M.nilCheck t3 (fun t4 w =>
  M.fieldAddr 20 t4 (fun t5 w =>
  M.fieldAddr 1 t5 (fun t6 w =>
  M.load1 t6 (fun t7 w =>
  M.load1 t1 (fun t8 w =>
  M.nilCheck t8 (fun t9 w =>
  M.fieldAddr 1 t9 (fun t10 w =>
  M.fieldAddr 8 t10 (fun t11 w =>
  M.load1 t11 (fun t12 w =>
  M.len t12 (fun t13 w =>
  M.call Tryz.prog 90 #[t2, t7, t13, (Value.int IntKind.i64 257), (.func (Fn.func 92) #[] #[t1])] (fun t15 w =>
  ((M.load1 t11 (fun v' _ => v' = t12) w) ∧ ((M.load1 t1 (fun v' _ => v' = t8) w) ∧ ((M.load1 t1 (fun v' _ => v' = t3) w) ∧ R (.tuple #[]) w)))) w) w) w) w) w) w) w) w) w) w) w) w) w) w) w
theorem ok52 (x0 : Value) (R : Kt) (w : World) (h : sh52 x0 R w) : Ret Tryz.prog 52 #[x0] w R :=
  ret_mk <| calls_of_comp mixed (c := Tryz.f52.body.getD .skip) (args := [x0]) (rs := []) (Ann.seq Ann.text (Ann.draw (Sch.take 0 (Sch.take 1 (Sch.take 2 (Sch.take 3 (Sch.take 4 (Sch.take 5 (Sch.take 6 (Sch.take 7 (Sch.take 8 (Sch.take 9 (Sch.take 10 (Sch.take 11 (Sch.take 12 (Sch.one 13 Sch.done))))))))))))))))
    Tryz.func52 (by kernel_rfl) (by kernel_rfl)
    (Eq.mp (by kernel_rfl) h)
def sh54 (x0 : Value) (R : Kt) (w : World) : Prop :=
  M.new 76 (Value.cells x0) (fun t1 w =>
  M.draw (fun w =>
  M.load1 t1 (fun t2 w =>
  M.load1 t1 (fun t3 w =>
  M.nilCheck t3 (fun t4 w =>
  M.fieldAddr 20 t4 (fun t5 w =>
  M.fieldAddr 2 t5 (fun t6 w =>
  M.load1 t6 (fun t7 w =>
  M.load1 t1 (fun t8 w =>
  M.nilCheck t8 (fun t9 w =>
  M.fieldAddr 1 t9 (fun t10 w =>
  M.fieldAddr 15 t10 (fun t11 w =>
  M.fieldAddr 0 t11 (fun t12 w =>
  M.load1 t12 (fun t13 w =>
  M.len t13 (fun t14 w =>
  M.call Tryz.prog 90 #[t2, t7, t14, (Value.int IntKind.i64 258), (.func (Fn.func 95) #[] #[t1])] (fun t16 w =>
  ((M.load1 t12 (fun v' _ => v' = t13) w) ∧ ((M.load1 t1 (fun v' _ => v' = t8) w) ∧ ((M.load1 t1 (fun v' _ => v' = t3) w) ∧ R (.tuple #[]) w)))) w) w) w) w) w) w) w) w) w) w) w) w) w) w) w) w
theorem ok54 (x0 : Value) (R : Kt) (w : World) (h : sh54 x0 R w) : Ret Tryz.prog 54 #[x0] w R :=
  ret_mk <| calls_of_comp mixed (c := Tryz.f54.body.getD .skip) (args := [x0]) (rs := []) (Ann.seq Ann.text (Ann.draw (Sch.take 0 (Sch.take 1 (Sch.take 2 (Sch.take 3 (Sch.take 4 (Sch.take 5 (Sch.take 6 (Sch.take 7 (Sch.take 8 (Sch.take 9 (Sch.take 10 (Sch.take 11 (Sch.take 12 (Sch.take 13 (Sch.one 14 Sch.done)))))))))))))))))
    Tryz.func54 (by kernel_rfl) (by kernel_rfl)
    (Eq.mp (by kernel_rfl) h)
def sh55 (x0 : Value) (R : Kt) (w : World) : Prop :=
  M.new 76 (Value.cells x0) (fun t1 w =>
  M.draw (fun w =>
  M.load1 t1 (fun t2 w =>
  M.load1 t1 (fun t3 w =>
  M.nilCheck t3 (fun t4 w =>
  M.fieldAddr 20 t4 (fun t5 w =>
  M.fieldAddr 1 t5 (fun t6 w =>
  M.load1 t6 (fun t7 w =>
  M.load1 t1 (fun t8 w =>
  M.nilCheck t8 (fun t9 w =>
  M.fieldAddr 1 t9 (fun t10 w =>
  M.fieldAddr 15 t10 (fun t11 w =>
  M.fieldAddr 0 t11 (fun t12 w =>
  M.load1 t12 (fun t13 w =>
  M.len t13 (fun t14 w =>
  M.call Tryz.prog 90 #[t2, t7, t14, (Value.int IntKind.i64 258), (.func (Fn.func 96) #[] #[t1])] (fun t16 w =>
  ((M.load1 t12 (fun v' _ => v' = t13) w) ∧ ((M.load1 t1 (fun v' _ => v' = t8) w) ∧ ((M.load1 t1 (fun v' _ => v' = t3) w) ∧ R (.tuple #[]) w)))) w) w) w) w) w) w) w) w) w) w) w) w) w) w) w) w
theorem ok55 (x0 : Value) (R : Kt) (w : World) (h : sh55 x0 R w) : Ret Tryz.prog 55 #[x0] w R :=
  ret_mk <| calls_of_comp mixed (c := Tryz.f55.body.getD .skip) (args := [x0]) (rs := []) (Ann.seq Ann.text (Ann.draw (Sch.take 0 (Sch.take 1 (Sch.take 2 (Sch.take 3 (Sch.take 4 (Sch.take 5 (Sch.take 6 (Sch.take 7 (Sch.take 8 (Sch.take 9 (Sch.take 10 (Sch.take 11 (Sch.take 12 (Sch.take 13 (Sch.one 14 Sch.done)))))))))))))))))
    Tryz.func55 (by kernel_rfl) (by kernel_rfl)
    (Eq.mp (by kernel_rfl) h)
section
variable {w : World} {F : Nat → Prop} {p pb : Nat} {N : List Nd} {most : Int} {s : Sy} {sv : List Value} {i : Ins} {inputs mw : Int} {ov : Value} {outs : List Sy} {e : Int} {c a b d : Value}
structure Bnd (s : Sy) : Prop where
  pc : 0 ≤ s.pc ∧ s.pc ≤ 1000000
  calls : 0 ≤ s.calls ∧ s.calls ≤ 1000000
  ep : 0 ≤ s.dev.ep ∧ s.dev.ep ≤ 1000000
  cells : s.cells.length ≤ 100000
  disk : s.dev.disk.length ≤ 100000
  pend : s.dev.pend.length ≤ 100000
  conds : s.conds.length ≤ 1000000
def RegsOk (i : Ins) : Prop := (0 ≤ i.a ∧ i.a ≤ 7) ∧ (0 ≤ i.b ∧ i.b ≤ 7) ∧ (0 ≤ i.c ∧ i.c ≤ 7)
section
variable (h : Stp Z w F p pb N most s sv i inputs mw ov outs e) (hsv : sv = s.vals c a b d)
include h hsv
theorem Stp.csv {k : Nat} {v : Value} (hk : k < 11) (hv : ([c, vi s.pc, vi s.steps, vi s.calls, vi s.en, vi s.code, vi s.value, a, b, vi s.dev.ep, d] : List Value)[k]? = some v) : w.cell? ⟨pb, k + 9, none⟩ = some v := by
  refine h.blk.cell ?_
  rw [show k + 9 = (k + 8) + 1 by omega, stpL_sv h.sy.len19 (by omega), hsv]
  unfold Sy.vals
  rw [List.getElem?_append_right (by have := h.sy.1; simp; omega)]
  have : (s.regs.map vi).length = 8 := by simpa using h.sy.1
  rw [this, show k + 8 - 8 = k by omega]
  exact hv
theorem Stp.cc : w.cell? ⟨pb, 9, none⟩ = some c := h.csv hsv (k := 0) (by omega) rfl
theorem Stp.ca : w.cell? ⟨pb, 16, none⟩ = some a := h.csv hsv (k := 7) (by omega) rfl
theorem Stp.cb : w.cell? ⟨pb, 17, none⟩ = some b := h.csv hsv (k := 8) (by omega) rfl
theorem Stp.cep : w.cell? ⟨pb, 18, none⟩ = some (vi s.dev.ep) := h.csv hsv (k := 9) (by omega) rfl
end
theorem load1_ret {q k : Nat} (h : Stp Z w F p pb N most s sv i inputs mw ov outs e) (hsv : sv = s.vals c a b d) (hB : Bnd s) (hR : RegsOk i) (hq : Blk w q [ptr pb]) (hk : k < s.cells.length) :
    Ret Tryz.prog 91 #[vi k, ptr q] w (fun v w' => v = .agg ⟨(s.load i k).vals c a b d⟩ ∧ Keep w w' No) := by
  obtain ⟨o1, o2, o3, o4⟩ := h.one4 hsv
  obtain ⟨x, hx⟩ : ∃ x, s.cells[k]? = some x := ⟨_, List.getElem?_eq_getElem hk⟩
  have hxD : s.cells.getD k 0 = x := by rw [List.getD_eq_getElem?_getD, hx]; rfl
  refine ok91 _ _ _ _ ?_
  unfold sh91
  refine M.new_i (l := zSy) (fun w1 b1 k1 s1 => ?_)
  have kd := Keep.drew w1 No
  have k0d := k1.trans kd (fun _ _ h => h)
  have hd := h.keepN k0d
  have hqd := hq.keep k0d (fun h => h)
  have b1d := b1.keep kd (fun h => h)
  have hqc : w1.drew.cell? ⟨q, 0, none⟩ = some (ptr pb) := hqd.cell rfl
  have hcc := hd.cc hsv
  (repeat (first|refine jb ?_|refine jc ?_|refine jd ?_|refine jM (by assumption) ?_))
  obtain ⟨A, cc, ec, hr, _⟩ := (hd.lists hsv).1
  rw [ec]
  refine M.idxLV_i hr rfl (by omega) (by omega) (x := x) (by rw [Int.toNat_natCast]; exact hx) (fun bb oo hA hcx => ?_)
  (repeat (refine jM (by assumption) ?_))
  refine M.call_i (set37_ret hd hsv hB.pc hR.1 x) ?_; rintro _ w2 ⟨rfl, k2⟩
  have hcc2 := (hd.keepN k2).cc hsv
  rw [ec] at hcc2
  have hqc2 : w2.cell? ⟨q, 0, none⟩ = some (ptr pb) := (hqd.keep k2 (fun h => h)).cell rfl
  have b2 := b1d.keep k2 (fun h => h)
  (repeat (refine jO (by assumption) ?_))
  have h8' : (s.load i k).regs.length = 8 := by have := h.sy.1; simp [Sy.load, Sy.set, Sy.next, this]
  have k02 := k0d.trans k2 (fun _ _ h => h)
  have ev : s.set i x = s.load i k := by unfold Sy.load; rw [hxD]
  rw [ev]
  rw [← ec] at *
  exact fin_v b2 rfl (vals_len h8') (vals_one o1 o2 o3 o4) (fun w9 k9 => ⟨rfl, k02.trans k9 (fun x hx e => by have e : x = w.heap.size := e; omega)⟩)
theorem load_clo {q : Nat} (hsv : sv = s.vals c a b d) (hB : Bnd s) (hR : RegsOk i) : Clo Z (.func (.func 91) #[] #[ptr q]) p pb most s sv i inputs mw q s.cells.length (s.load i) := by
  intro k w F N ov outs e kt hk h hq hqf hkt
  refine M.callv_i (fun _ _ => rfl) (load1_ret h hsv hB hR hq hk) ?_
  rintro v w' ⟨rfl, k'⟩
  have h8 : (s.load i k).regs.length = 8 := by have := h.sy.1; simp [Sy.load, Sy.set, Sy.next, this]
  have h' := h.keepN k'
  exact hkt _ _ (SyO.of_vals h8 (h'.lists hsv)) hB.conds k'
theorem load37_ret (h : Stp Z w F p pb N most s sv i inputs mw ov [] e) (hsv : sv = s.vals c a b d) (hB : Bnd s) (hR : RegsOk i) :
    Ret Tryz.prog 51 #[ptr pb] w (Adds Z w F p pb most s sv i inputs mw ov (eachP most N e s (s.reg i.b) s.cells.length 257 (s.load i))) := by
  refine ok51 _ _ _ ?_
  unfold sh51
  refine M.new_i (l := [ptr pb]) (fun w1 b1 k1 s1 => ?_)
  have kd := Keep.drew w1 No
  have k0d := k1.trans kd (fun _ _ h => h)
  have hd := h.keepN k0d
  have b1d := b1.keep kd (fun h => h)
  have hqc : w1.drew.cell? ⟨w.heap.size, 0, none⟩ = some (ptr pb) := b1d.cell rfl
  have hqf : Fr Z F pb ov w.heap.size := h.fresh (Nat.le_refl _)
  have hcc := hd.cc hsv
  have hcB := hd.cB
  obtain ⟨A, cc, ec, hr, _⟩ := (hd.lists hsv).1
  (repeat (first|refine jb ?_|refine jc ?_|refine jd ?_|refine jM (by assumption) ?_))
  rw [ec]
  (repeat (refine ja ?_))
  refine M.call_i (each37_ret hd hsv b1d hqf (load_clo hsv hB hR) hR.2.1.1 hR.2.1.2 hB.cells hB.conds) ?_
  rintro _ w2 ⟨rfl, F2, ov2, h2, m2⟩
  have hcc2 := h2.cc hsv
  rw [ec] at hcc2
  have hqc2 : w2.cell? ⟨w.heap.size, 0, none⟩ = some (ptr pb) := (Blk.mv m2 b1d hqf).1.cell rfl
  (repeat (refine jO (by assumption) ?_))
  exact ⟨rfl, F2, ov2, h2, (Mv.none k0d).trans m2⟩
end
end Go.Proofs.YtanjlgafjgoaaaaGreat
namespace Go.Proofs.YtanjlgafjgoaaaaGreat
open Go.Mw
set_option linter.unusedVariables false
set_option linter.unusedSimpArgs false
set_option maxRecDepth 100000
attribute [local irreducible] M.val M.unit M.next M.pick M.new M.nilCheck M.load1 M.loadA M.store M.fieldAddr M.indexSl M.indexArr M.slice M.makeSlice M.buildSlice M.len M.lenS M.cap M.append M.extract M.conv M.not M.neg M.bin M.shift M.eqB M.eqNil M.scat M.call M.callv M.gd M.share M.cond M.loop M.draw pureW readW Ret
variable {Z : Nat → Prop}
section
variable {w : World} {F : Nat → Prop} {p pb : Nat} {N : List Nd} {most : Int} {s : Sy} {sv : List Value} {i : Ins} {inputs mw : Int} {ov : Value} {outs : List Sy} {e : Int} {c a b d : Value}
theorem store1_ret {q k : Nat} (h : Stp Z w F p pb N most s sv i inputs mw ov outs e) (hsv : sv = s.vals c a b d) (hB : Bnd s) (hR : RegsOk i) (hq : Blk w q [ptr pb]) (hk : k < s.cells.length) :
    Ret Tryz.prog 92 #[vi k, ptr q] w (fun v w' => SyO w' (Fr Z F pb ov) v (s.store i k) ∧ Keep w w' No) := by
  obtain ⟨o1, o2, o3, o4⟩ := h.one4 hsv
  have h8 : s.next.regs.length = 8 := h.sy.1
  refine ok92 _ _ _ _ ?_
  unfold sh92
  refine M.new_i (l := zSy) (fun w1 b1 k1 s1 => ?_)
  have h1 := h.keepN k1
  have hqc1 : w1.cell? ⟨q, 0, none⟩ = some (ptr pb) := (hq.keep k1 (fun h => h)).cell rfl
  (repeat (refine jM (by assumption) ?_))
  refine M.call_i (next37_ret h1 hsv hB.pc) ?_; rintro _ w2 ⟨rfl, k2⟩
  have b2 := b1.keep k2 (fun h => h)
  have q2 := k2.size
  refine M.new_i (l := zSy) (fun w3 b3 k3 s3 => ?_)
  have b3t := b2.keep k3 (fun h => h)
  refine M.storeAll_i b3 (vals_len h8) rfl (vals_one o1 o2 o3 o4) (fun w4 b4 k4 s4 => ?_)
  have hne : w.heap.size ≠ w2.heap.size := by omega
  have b4t := b3t.keep k4 hne
  have k03 := (k1.trans k2 (fun _ _ h => h)).trans k3 (fun _ _ h => h)
  have k04 : Keep w w4 No := k03.trans k4 (fun x hx e => by have e : x = w2.heap.size := e; omega)
  have h4 := h.keepN k04
  have hc4 : w4.cell? ⟨w2.heap.size, 8, none⟩ = some c := by
    refine b4.cell ?_
    unfold Sy.vals
    rw [List.getElem?_append_right (by simp [h8])]
    simp [h8]
  (repeat (first|refine jc ?_|refine jM (by assumption) ?_))
  refine M.call_i (clone37_ret (h4.lists hsv).1 (by have := hB.cells; omega)) ?_
  rintro vc w5 ⟨g5, k5⟩
  have b5 := b4.keep k5 (fun h => h)
  have b5t := b4t.keep k5 (fun h => h)
  have q5 := k5.size
  have oc : vc.oneCell' = true := GC.one g5
  (repeat (refine jc ?_))
  refine M.store_i b5 (by rw [vals_len h8]; omega) oc (fun w6 b6 k6 s6 => ?_)
  have b6t := b5t.keep k6 hne
  have q4lt := b4.lt
  have g6 := g5.keep k6 (fun x hx hl e => by have hl : w4.heap.size ≤ x := hl; have e : x = w2.heap.size := e; omega)
  have ec : (s.next.vals c a b d).set (0 + 8) vc = s.next.vals vc a b d := by
    unfold Sy.vals
    rw [List.set_append_right _ _ (by simp [h8])]
    simp [h8]
  rw [ec] at b6
  have k06 : Keep w w6 No := (k04.trans k5 (fun _ _ h => h)).trans k6 (fun x hx e => by have e : x = w2.heap.size := e; omega)
  have kd := Keep.drew w6 No
  have k0d := k06.trans kd (fun _ _ h => h)
  have hd := h.keepN k0d
  have b6d := b6.keep kd (fun h => h)
  have b6td := b6t.keep kd (fun h => h)
  have g6d := g6.keep kd (fun _ _ _ h => h)
  have hqcd : w6.drew.cell? ⟨q, 0, none⟩ = some (ptr pb) := (hq.keep k0d (fun h => h)).cell rfl
  have hcd : w6.drew.cell? ⟨w2.heap.size, 8, none⟩ = some vc := by
    refine b6d.cell ?_
    unfold Sy.vals
    rw [List.getElem?_append_right (by simp [h8])]
    simp [h8]
  have hcB := hd.cB
  have hreg := hd.creg hR.2.1.1 hR.2.1.2
  (repeat (first|refine jb ?_|refine jc ?_|refine jd ?_|refine jM (by assumption) ?_))
  refine M.arr8_i hR.2.1.1 (by have := hR.2.1.2; omega) ?_
  (repeat (refine jM (by assumption) ?_))
  refine M.idxStore_i g6d (by omega) (by omega) (fun w7 g7 k7 s7 => ?_)
  rw [Int.toNat_natCast] at g7
  have hsz := g6d
  have b7 := b6d.keep k7 (fun x => by have x : w4.heap.size ≤ w2.heap.size := x; omega)
  have b7t := b6td.keep k7 (fun x => by have x : w4.heap.size ≤ w.heap.size := x; omega)
  have k07 : Keep w w7 No := k0d.trans k7 (fun x hx e => by have e : w4.heap.size ≤ x := e; omega)
  refine M.loadAll_i b7 (vals_len h8) ?_
  obtain ⟨_, l2, l3⟩ := h.lists hsv
  have l2 := (l2.mono (D' := fun x => Fr Z F pb ov x ∧ x ≠ w.heap.size) (fun x hx hf => ⟨hf, by omega⟩)).keep k07 (fun _ _ _ h => h)
  have l3 := (l3.mono (D' := fun x => Fr Z F pb ov x ∧ x ≠ w.heap.size) (fun x hx hf => ⟨hf, by omega⟩)).keep k07 (fun _ _ _ h => h)
  have hb1 := b1.lt
  have hq04 := k04.size
  have gl : LV vi w7 (fun x => Fr Z F pb ov x ∧ x ≠ w.heap.size) vc (s.store i k).cells := (GI.lv g7).mono (fun x hx hl => ⟨h4.fresh hl, by have hl : w4.heap.size ≤ x := hl; omega⟩)
  have h8' : (s.store i k).regs.length = 8 := h8
  have hsy : SyO w7 (fun x => Fr Z F pb ov x ∧ x ≠ w.heap.size) (.agg ⟨(s.store i k).vals vc a b d⟩) (s.store i k) := SyO.of_vals h8' ⟨gl, l2, l3⟩
  exact fin_v b7t rfl (vals_len h8') (vals_one oc o2 o3 o4) (fun w9 k9 => ⟨(hsy.keep k9 (fun x hx hf e => hf.2 e)).mono (fun x _ hf => hf.1), k07.trans k9 (fun x hx e => by have e : x = w.heap.size := e; omega)⟩)
theorem store_clo {q : Nat} (hsv : sv = s.vals c a b d) (hB : Bnd s) (hR : RegsOk i) : Clo Z (.func (.func 92) #[] #[ptr q]) p pb most s sv i inputs mw q s.cells.length (s.store i) := by
  intro k w F N ov outs e kt hk h hq hqf hkt
  refine M.callv_i (fun _ _ => rfl) (store1_ret h hsv hB hR hq hk) ?_
  rintro v w' ⟨h', k'⟩
  exact hkt _ _ h' hB.conds k'
theorem store37_ret (h : Stp Z w F p pb N most s sv i inputs mw ov [] e) (hsv : sv = s.vals c a b d) (hB : Bnd s) (hR : RegsOk i) :
    Ret Tryz.prog 52 #[ptr pb] w (Adds Z w F p pb most s sv i inputs mw ov (eachP most N e s (s.reg i.a) s.cells.length 257 (s.store i))) := by
  refine ok52 _ _ _ ?_
  unfold sh52
  refine M.new_i (l := [ptr pb]) (fun w1 b1 k1 s1 => ?_)
  have kd := Keep.drew w1 No
  have k0d := k1.trans kd (fun _ _ h => h)
  have hd := h.keepN k0d
  have b1d := b1.keep kd (fun h => h)
  have hqc : w1.drew.cell? ⟨w.heap.size, 0, none⟩ = some (ptr pb) := b1d.cell rfl
  have hqf : Fr Z F pb ov w.heap.size := h.fresh (Nat.le_refl _)
  have hcc := hd.cc hsv
  have hcA := hd.cA
  obtain ⟨A, cc, ec, hr, _⟩ := (hd.lists hsv).1
  (repeat (first|refine jb ?_|refine jc ?_|refine jd ?_|refine jM (by assumption) ?_))
  rw [ec]
  (repeat (refine ja ?_))
  refine M.call_i (each37_ret hd hsv b1d hqf (store_clo hsv hB hR) hR.1.1 hR.1.2 hB.cells hB.conds) ?_
  rintro _ w2 ⟨rfl, F2, ov2, h2, m2⟩
  have hcc2 := h2.cc hsv
  rw [ec] at hcc2
  have hqc2 : w2.cell? ⟨w.heap.size, 0, none⟩ = some (ptr pb) := (Blk.mv m2 b1d hqf).1.cell rfl
  (repeat (refine jO (by assumption) ?_))
  exact ⟨rfl, F2, ov2, h2, (Mv.none k0d).trans m2⟩
theorem read1_ret {q k : Nat} (h : Stp Z w F p pb N most s sv i inputs mw ov outs e) (hsv : sv = s.vals c a b d) (hB : Bnd s) (hR : RegsOk i) (hq : Blk w q [ptr pb]) (hk : k < s.dev.disk.length) :
    Ret Tryz.prog 95 #[vi k, ptr q] w (fun v w' => v = .agg ⟨(s.read i k).vals c a b d⟩ ∧ Keep w w' No) := by
  obtain ⟨o1, o2, o3, o4⟩ := h.one4 hsv
  obtain ⟨x, hx⟩ : ∃ x, s.dev.disk[k]? = some x := ⟨_, List.getElem?_eq_getElem hk⟩
  have hxD : s.dev.disk.getD k 0 = x := by rw [List.getD_eq_getElem?_getD, hx]; rfl
  refine ok95 _ _ _ _ ?_
  unfold sh95
  have hpl := hB.pend
  refine M.new_i (l := zSy) (fun w1 b1 k1 s1 => ?_)
  have h1 := h.keepN k1
  have hqc : w1.cell? ⟨q, 0, none⟩ = some (ptr pb) := (hq.keep k1 (fun h => h)).cell rfl
  have hca := h1.ca hsv
  have hcb := h1.cb hsv
  obtain ⟨⟨A, cA, ea, hra, _⟩, B, cB, eb, hrb, _⟩ := (h1.lists hsv).2.1
  (repeat (first|refine jb ?_|refine jc ?_|refine jM (by assumption) ?_))
  rw [ea]
  refine M.idxLV_i hra rfl (by omega) (by omega) (x := x) (by rw [Int.toNat_natCast]; exact hx) (fun bb oo hA hcx => ?_)
  (repeat (first|refine jb ?_|refine jc ?_|refine jM (by assumption) ?_))
  rw [eb]
  (repeat (refine ja ?_))
  refine M.loop_i (σ := Nat) (fun j vals w' => vals = [vi ((s.dev.pend.take j).foldl (fun id w => if w.b = (k : Int) then w.v else id) x), vi j] ∧ j ≤ s.dev.pend.length ∧ Keep w1 w' No) (fun j => s.dev.pend.length - j) 0 ⟨by simp, by omega, Keep.refl _ _⟩ ?_
  rintro j vals w2 K ⟨rfl, hj, k2⟩ hK _
  simp only [List.getD_cons_zero, List.getD_cons_succ]
  by_cases hlt : j < s.dev.pend.length
  · obtain ⟨y, hy⟩ : ∃ y, s.dev.pend[j]? = some y := ⟨_, List.getElem?_eq_getElem hlt⟩
    have et : (s.dev.pend.take (j + 1)).foldl (fun id w => if w.b = (k : Int) then w.v else id) x = if y.b = (k : Int) then y.v else (s.dev.pend.take j).foldl (fun id w => if w.b = (k : Int) then w.v else id) x := by
      rw [List.take_add_one, hy, List.foldl_append]; rfl
    have hrb2 := hrb.keep k2 (fun _ _ _ h => h)
    (repeat (first|refine jo ?_|refine jy ?_))
    refine M.share_j (fun vals w' => vals = [vi ((s.dev.pend.take (j + 1)).foldl (fun id w => if w.b = (k : Int) then w.v else id) x)] ∧ Keep w1 w' No) ?_ ?_
    · rintro vals w' ⟨rfl, k'⟩ _
      simp only [List.getD_cons_zero, List.getD_cons_succ]
      (repeat (refine jK ?_))
      exact hK (j + 1) _ _ (by omega) ⟨rfl, by omega, k'⟩
    · intro K2 hK2
      refine M.idxF_i sp_len (by omega) hrb2 rfl (by omega) (x := y) (by rw [Int.toNat_natCast]; exact hy) (fun bb oo hcc => ?_)
      refine M.load3_i (hcc 0 (vi y.b) rfl) (hcc 1 (vi y.v) rfl) (hcc 2 (vi y.e) rfl) ?_
      refine M.new_i (l := [vi 0, vi 0, vi 0]) (fun w3 b3 k3 s3 => ?_)
      refine M.storeAll_i (vs := [vi y.b, vi y.v, vi y.e]) b3 rfl rfl (by intro z hz; simp at hz; rcases hz with rfl | rfl | rfl <;> rfl) (fun w4 b4 k4 s4 => ?_)
      have k04 : Keep w1 w4 No := (k2.trans k3 (fun _ _ h => h)).trans k4 (fun z hz e => by have e : z = w2.heap.size := e; have := k2.size; omega)
      by_cases hyb : y.b = (k : Int)
      · (repeat (first|refine jc ?_|refine jo ?_|refine jG ?_|refine jN (by assumption) rfl ?_))
        exact hK2 _ _ ⟨by rw [et, if_pos hyb], k04⟩
      · (repeat (first|refine jc ?_|refine jp ?_|refine jH ?_|refine jN (by assumption) rfl ?_))
        exact hK2 _ _ ⟨by rw [et, if_neg hyb], k04⟩
  · have ej : j = s.dev.pend.length := by omega
    subst ej
    have hqc2 : w2.cell? ⟨q, 0, none⟩ = some (ptr pb) := ((hq.keep k1 (fun h => h)).keep k2 (fun h => h)).cell rfl
    rw [List.take_length]
    have ev : s.dev.pend.foldl (fun id w => if w.b = (k : Int) then w.v else id) x = readN s k := by unfold readN; rw [hxD]
    rw [ev]
    (repeat (first|refine jp ?_|refine jz ?_|refine jM (by assumption) ?_))
    refine M.call_i (set37_ret (h1.keepN k2) hsv hB.pc hR.1 (readN s k)) ?_; rintro _ w3 ⟨rfl, k3⟩
    have b3 := (b1.keep k2 (fun h => h)).keep k3 (fun h => h)
    have h8' : (s.read i k).regs.length = 8 := by have := h.sy.1; simp [Sy.read, Sy.set, Sy.next, this]
    have k03 := (k1.trans k2 (fun _ _ h => h)).trans k3 (fun _ _ h => h)
    rw [← ea, ← eb]
    exact fin_v b3 rfl (vals_len h8') (vals_one o1 o2 o3 o4) (fun w9 k9 => ⟨rfl, k03.trans k9 (fun x hx e => by have e : x = w.heap.size := e; omega)⟩)
theorem read_clo {q : Nat} (hsv : sv = s.vals c a b d) (hB : Bnd s) (hR : RegsOk i) : Clo Z (.func (.func 95) #[] #[ptr q]) p pb most s sv i inputs mw q s.dev.disk.length (s.read i) := by
  intro k w F N ov outs e kt hk h hq hqf hkt
  refine M.callv_i (fun _ _ => rfl) (read1_ret h hsv hB hR hq hk) ?_
  rintro v w' ⟨rfl, k'⟩
  have h8 : (s.read i k).regs.length = 8 := by have := h.sy.1; simp [Sy.read, Sy.set, Sy.next, this]
  have h' := h.keepN k'
  exact hkt _ _ (SyO.of_vals h8 (h'.lists hsv)) hB.conds k'
theorem read37_ret (h : Stp Z w F p pb N most s sv i inputs mw ov [] e) (hsv : sv = s.vals c a b d) (hB : Bnd s) (hR : RegsOk i) :
    Ret Tryz.prog 54 #[ptr pb] w (Adds Z w F p pb most s sv i inputs mw ov (eachP most N e s (s.reg i.b) s.dev.disk.length 258 (s.read i))) := by
  refine ok54 _ _ _ ?_
  unfold sh54
  refine M.new_i (l := [ptr pb]) (fun w1 b1 k1 s1 => ?_)
  have kd := Keep.drew w1 No
  have k0d := k1.trans kd (fun _ _ h => h)
  have hd := h.keepN k0d
  have b1d := b1.keep kd (fun h => h)
  have hqc : w1.drew.cell? ⟨w.heap.size, 0, none⟩ = some (ptr pb) := b1d.cell rfl
  have hqf : Fr Z F pb ov w.heap.size := h.fresh (Nat.le_refl _)
  have hcc := hd.ca hsv
  have hcB := hd.cB
  obtain ⟨A, cc, ec, hr, _⟩ := (hd.lists hsv).2.1.1
  (repeat (first|refine jb ?_|refine jc ?_|refine jd ?_|refine jM (by assumption) ?_))
  rw [ec]
  (repeat (refine ja ?_))
  refine M.call_i (each37_ret hd hsv b1d hqf (read_clo hsv hB hR) hR.2.1.1 hR.2.1.2 hB.disk hB.conds) ?_
  rintro _ w2 ⟨rfl, F2, ov2, h2, m2⟩
  have hcc2 := h2.ca hsv
  rw [ec] at hcc2
  have hqc2 : w2.cell? ⟨w.heap.size, 0, none⟩ = some (ptr pb) := (Blk.mv m2 b1d hqf).1.cell rfl
  (repeat (refine jO (by assumption) ?_))
  exact ⟨rfl, F2, ov2, h2, (Mv.none k0d).trans m2⟩
end
end Go.Proofs.YtanjlgafjgoaaaaGreat
namespace Go.Proofs.YtanjlgafjgoaaaaGreat
open Go.Mw
set_option linter.unusedVariables false
set_option linter.unusedSimpArgs false
set_option maxRecDepth 100000
attribute [local irreducible] M.val M.unit M.next M.pick M.new M.nilCheck M.load1 M.loadA M.store M.fieldAddr M.indexSl M.indexArr M.slice M.makeSlice M.buildSlice M.len M.lenS M.cap M.append M.extract M.conv M.not M.neg M.bin M.shift M.eqB M.eqNil M.scat M.call M.callv M.gd M.share M.cond M.loop M.draw pureW readW Ret
variable {Z : Nat → Prop}
section
variable {w : World} {F : Nat → Prop} {p pb : Nat} {N : List Nd} {most : Int} {s : Sy} {sv : List Value} {i : Ins} {inputs mw : Int} {ov : Value} {outs : List Sy} {e : Int} {c a b d : Value}
set_option maxHeartbeats 2000000 in
theorem write1_ret {q k : Nat} (h : Stp Z w F p pb N most s sv i inputs mw ov outs e) (hsv : sv = s.vals c a b d) (hB : Bnd s) (hR : RegsOk i) (hq : Blk w q [ptr pb]) (hk : k < s.dev.disk.length) :
    Ret Tryz.prog 96 #[vi k, ptr q] w (fun v w' => SyO w' (Fr Z F pb ov) v (s.write i mw k) ∧ Keep w w' No) := by
  obtain ⟨o1, o2, o3, o4⟩ := h.one4 hsv
  have hpl := hB.pend
  refine ok96 _ _ _ _ ?_
  unfold sh96
  refine M.new_i (l := zSy) (fun w1 b1 k1 s1 => ?_)
  have h1 := h.keepN k1
  have hqc1 : w1.cell? ⟨q, 0, none⟩ = some (ptr pb) := (hq.keep k1 (fun h => h)).cell rfl
  have c1 := h1.ca hsv
  have c2 := h1.cb hsv
  have c3 := h1.cep hsv
  (repeat (first|refine jb ?_|refine jc ?_|refine jM (by assumption) ?_))
  refine M.load3_i c1 c2 c3 ?_
  refine M.new_i (l := [.slice none 0 0, .slice none 0 0, vi 0]) (fun w2 b2 k2 s2 => ?_)
  have b2t := b1.keep k2 (fun h => h)
  refine M.storeAll_i (vs := [a, b, vi s.dev.ep]) b2 rfl rfl (by
    simp only [List.mem_cons, List.not_mem_nil, or_false, forall_eq_or_imp, forall_eq]
    exact ⟨o2, o3, rfl⟩) (fun w3 b3 k3 s3 => ?_)
  have hne : w.heap.size ≠ w1.heap.size := by omega
  have b3t := b2t.keep k3 hne
  have k03 : Keep w w3 No := (k1.trans k2 (fun _ _ h => h)).trans k3 (fun x hx e => by have e : x = w1.heap.size := e; omega)
  have kd := Keep.drew w3 No
  have k0d := k03.trans kd (fun _ _ h => h)
  have hd := h.keepN k0d
  have b3d := b3.keep kd (fun h => h)
  have b3td := b3t.keep kd (fun h => h)
  have hqd := hq.keep k0d (fun h => h)
  have hqc : w3.drew.cell? ⟨q, 0, none⟩ = some (ptr pb) := hqd.cell rfl
  have hmw := hd.cmw
  obtain ⟨⟨A, cA, ea, hra, _⟩, B, cB, eb, hrb, hcB⟩ := (hd.lists hsv).2.1
  (repeat (first|refine jc ?_|refine jd ?_|refine jN (by assumption) rfl ?_))
  rw [eb]
  (repeat (first|refine ja ?_|refine jb ?_|refine jc ?_|refine jM (by assumption) ?_))
  by_cases hm : mw ≤ (s.dev.pend.length : Int)
  · have ew : s.write i mw k = s.trap 259 := by unfold Sy.write; rw [if_pos hm]
    rw [ew]
    (repeat (first|refine jo ?_|refine jE ?_|refine jM (by assumption) ?_))
    refine M.call_i (trap37_ret hd hsv 259) ?_; rintro _ w4 ⟨rfl, k4⟩
    have b4t := b3td.keep k4 (fun h => h)
    have h8' : (s.trap 259).regs.length = 8 := h.sy.1
    have l := h.lists hsv
    have hsy : SyO w (fun x => Fr Z F pb ov x ∧ x ≠ w.heap.size) (.agg ⟨(s.trap 259).vals c a b d⟩) (s.trap 259) := (SyO.of_vals (D := Fr Z F pb ov) h8' l).mono (fun x hx hf => ⟨hf, by omega⟩)
    have k04 := k0d.trans k4 (fun _ _ h => h)
    exact fin_v b4t rfl (vals_len h8') (vals_one o1 o2 o3 o4) (fun w9 k9 => ⟨((hsy.keep k04 (fun _ _ _ h => h)).keep k9 (fun x hx hf e => hf.2 e)).mono (fun x _ hf => hf.1), k04.trans k9 (fun x hx e => by have e : x = w.heap.size := e; omega)⟩)
  · have ew : s.write i mw k = s.call { s.dev with pend := s.dev.pend ++ [⟨(k : Int), s.reg i.b, s.dev.ep⟩] } := by unfold Sy.write; rw [if_neg hm]
    rw [ew]
    (repeat (first|refine jp ?_|refine jF ?_))
    refine M.share_j (fun vals w' => ∃ v', vals = [] ∧ Blk w' w1.heap.size [a, v', vi s.dev.ep] ∧ LN SP.cells w' (fun x => w1.heap.size < x) v' (s.dev.pend ++ [⟨(k : Int), s.reg i.b, s.dev.ep⟩]) ∧ Keep w w' No ∧ Blk w' w.heap.size zSy ∧ Blk w' q [ptr pb]) ?_ ?_
    · rintro vals w4 ⟨v', rfl, b4, l4, k4, b4t, hq4⟩ _
      have h4 := h.keepN k4
      have hqc4 : w4.cell? ⟨q, 0, none⟩ = some (ptr pb) := hq4.cell rfl
      (repeat (refine jM (by assumption) ?_))
      refine M.loadAll_i b4 rfl ?_
      have l2 := ((h.lists hsv).2.1.1.mono (D' := fun x => Fr Z F pb ov x ∧ x ≠ w.heap.size) (fun x hx hf => ⟨hf, by omega⟩)).keep k4 (fun _ _ _ h => h)
      have l4' : LN SP.cells w4 (fun x => Fr Z F pb ov x ∧ x ≠ w.heap.size) v' (s.dev.pend ++ [⟨(k : Int), s.reg i.b, s.dev.ep⟩]) := l4.mono (fun x hx hl => ⟨h.fresh (by omega), by omega⟩)
      have hv : SDvO w4 (fun x => Fr Z F pb ov x ∧ x ≠ w.heap.size) a v' { s.dev with pend := s.dev.pend ++ [⟨(k : Int), s.reg i.b, s.dev.ep⟩] } := ⟨l2, l4'⟩
      have p3 : v'.oneCell' = true := LN.one l4
      refine M.call_i (call37_ret (v := { s.dev with pend := s.dev.pend ++ [(⟨(k : Int), s.reg i.b, s.dev.ep⟩ : SP)] }) h4 hsv hB.pc hB.calls hv) ?_; rintro _ w5 ⟨rfl, k5⟩
      have b5t := b4t.keep k5 (fun h => h)
      have k05 := k4.trans k5 (fun _ _ h => h)
      have h8' : (s.call { s.dev with pend := s.dev.pend ++ [⟨(k : Int), s.reg i.b, s.dev.ep⟩] }).regs.length = 8 := h.sy.1
      have lc := (((h.lists hsv).1.mono (D' := fun x => Fr Z F pb ov x ∧ x ≠ w.heap.size) (fun x hx hf => ⟨hf, by omega⟩)).keep k05 (fun _ _ _ h => h))
      have ld := (((h.lists hsv).2.2.mono (D' := fun x => Fr Z F pb ov x ∧ x ≠ w.heap.size) (fun x hx hf => ⟨hf, by omega⟩)).keep k05 (fun _ _ _ h => h))
      have hsy : SyO w5 (fun x => Fr Z F pb ov x ∧ x ≠ w.heap.size) (.agg ⟨(s.call { s.dev with pend := s.dev.pend ++ [⟨(k : Int), s.reg i.b, s.dev.ep⟩] }).vals c a v' d⟩) (s.call { s.dev with pend := s.dev.pend ++ [⟨(k : Int), s.reg i.b, s.dev.ep⟩] }) := SyO.of_vals h8' ⟨lc, hv.keep k5 (fun _ _ _ h => h), ld⟩
      exact fin_v b5t rfl (vals_len h8') (vals_one o1 o2 p3 o4) (fun w9 k9 => ⟨(hsy.keep k9 (fun x hx hf e => hf.2 e)).mono (fun x _ hf => hf.1), k05.trans k9 (fun x hx e => by have e : x = w.heap.size := e; omega)⟩)
    · intro K1 hK1
      have kd2 := Keep.drew w3.drew No
      have k0e := k0d.trans kd2 (fun _ _ h => h)
      refine M.draw_i ?_
      have bE := b3d.keep kd2 (fun h => h)
      have bEt := b3td.keep kd2 (fun h => h)
      have hqE := hqd.keep kd2 (fun h => h)
      have hrE := hrb.keep kd2 (fun _ _ _ h => h)
      have hE := hd.keepN kd2
      generalize w3.drew.drew = w4 at k0e bE bEt hqE hrE hE ⊢
      clear kd2
      rw [eb] at bE
      have fact : ∀ w', Keep w4 w' No → w'.cell? ⟨w1.heap.size, 1, none⟩ = some (.slice B s.dev.pend.length cB) ∧ w'.cell? ⟨w1.heap.size, 2, none⟩ = some (vi s.dev.ep) ∧ w'.cell? ⟨pb, 1 + i.b.toNat, none⟩ = some (vi (s.reg i.b)) ∧ w'.cell? ⟨pb, 22, none⟩ = some (vi i.b) ∧ w'.cell? ⟨q, 0, none⟩ = some (ptr pb) := fun w' k' =>
        ⟨(bE.keep k' (fun h => h)).cell rfl, (bE.keep k' (fun h => h)).cell rfl, (hE.keepN k').creg hR.2.1.1 hR.2.1.2, (hE.keepN k').cB, (hqE.keep k' (fun h => h)).cell rfl⟩
      obtain ⟨f1, f2, f3, f4, f5⟩ := fact w4 (Keep.refl _ _)
      (repeat (first|refine jb ?_|refine jc ?_|refine jM (by assumption) ?_))
      refine M.arr8_i hR.2.1.1 (by have := hR.2.1.2; omega) ?_
      (repeat (first|refine jc ?_|refine jM (by assumption) ?_))
      refine M.pure_i (.agg ⟨[vi k, vi (s.reg i.b), vi s.dev.ep]⟩) (fun _ => by kernel_rfl) ?_
      have fin : ∀ (w5 w6 : World) (bl : Nat) (cap : Nat), Keep w4 w5 No → Blk w5 bl [vi k, vi (s.reg i.b), vi s.dev.ep] → ∀ (R : Kt), (∀ v' w6, GC w6 (w5.heap.size ≤ ·) 3 v' (s.dev.pend.length + 1) (s.dev.pend.flatMap SP.cells ++ [vi k, vi (s.reg i.b), vi s.dev.ep]) → Keep w5 w6 No → R v' w6) →
          M.append 97 3 24 #[.int .i64 0, .int .i64 0, .int .i64 0] (.slice (if s.dev.pend.length = 0 then B else B.map (·.add (0 * 3))) s.dev.pend.length s.dev.pend.length) (.slice (some ⟨bl, 0, none⟩) 1 cap) R w5 := by
        intro w5 w6 bl cap k5 b5 R hR'
        have hlen : (s.dev.pend.flatMap SP.cells).length = s.dev.pend.length * 3 := by
          generalize s.dev.pend = l
          induction l with
          | nil => rfl
          | cons x l ih => rw [List.flatMap_cons, List.length_append, ih, List.length_cons, sp_len]; omega
        refine M.appendF_i (Row.samez (hrE.keep k5 (fun _ _ _ h => h)) (sz := 3) (n := s.dev.pend.length) hlen) hlen (Row.of_blk' (D := fun _ => True) b5 trivial) rfl (by omega) rfl (by omega) (by omega) (fun v' w6 g6 k6 => hR' v' w6 g6 k6)
      have done : ∀ (v' : Value) (w6 : World), GC w6 (w4.heap.size ≤ ·) 3 v' (s.dev.pend.length + 1) (s.dev.pend.flatMap SP.cells ++ [vi k, vi (s.reg i.b), vi s.dev.ep]) → Keep w4 w6 No → M.fieldAddr 1 (ptr w1.heap.size) (fun t40 w => M.store 1 t40 v' (fun _ w => K1 [] w) w) w6 := by
        intro v' w6 g6 k6
        have b6 := bE.keep k6 (fun h => h)
        (repeat (refine jc ?_))
        refine M.store_i b6 (by simp) (GC.one g6) (fun w7 b7 k7 s7 => ?_)
        have hbE := bE.lt
        have hbEt := bEt.lt
        have hqlt := hq.lt
        have k07 : Keep w w7 No := (k0e.trans k6 (fun _ _ h => h)).trans k7 (fun x hx e => by have e : x = w1.heap.size := e; omega)
        refine hK1 [] w7 ⟨v', rfl, b7, ?_, k07, (bEt.keep k6 (fun h => h)).keep k7 hne, (hqE.keep k6 (fun h => h)).keep k7 (fun e => by have e : q = w1.heap.size := e; omega)⟩
        have g7 := g6.keep k7 (fun x hx hl e => by have hl : w4.heap.size ≤ x := hl; have e : x = w1.heap.size := e; omega)
        obtain ⟨A7, c7, e7, r7, hc7⟩ := GC.row2 g7 (by omega)
        refine ⟨A7, c7, by rw [e7]; simp, ?_, by simpa using hc7⟩
        have : (s.dev.pend ++ [(⟨(k : Int), s.reg i.b, s.dev.ep⟩ : SP)]).flatMap SP.cells = s.dev.pend.flatMap SP.cells ++ [vi k, vi (s.reg i.b), vi s.dev.ep] := by rw [List.flatMap_append]; simp [SP.cells]
        rw [this]
        exact r7.mono (fun x hx hl => by have hl : w4.heap.size ≤ x := hl; omega)
      refine ⟨?_, ?_⟩
      · refine M.call_i (clip3_ret hcB) ?_; rintro _ w5 ⟨rfl, rfl⟩
        (repeat (refine jO (by assumption) ?_))
        refine M.buildSlice_i [vi k, vi (s.reg i.b), vi s.dev.ep] (by kernel_rfl) (fun w6 b6 k6 s6 => ?_)
        obtain ⟨f1, f2, f3, f4, f5⟩ := fact w6 k6
        (repeat (refine jO (by assumption) ?_))
        refine fin w6 w6 _ _ k6 b6 _ (fun v' w7 g7 k7 => ?_)
        have k47 := k6.trans k7 (fun _ _ h => h)
        have q6 := k6.size
        obtain ⟨f1, f2, f3, f4, f5⟩ := fact w7 k47
        repeat (first | refine M.st_i f2 ?_ | refine M.st_i f3 ?_ | refine M.st_i f4 ?_ | refine M.st_i f5 ?_)
        exact done v' w7 (g7.mono (fun x hx hl => by have hl : w6.heap.size ≤ x := hl; show w4.heap.size ≤ x; omega)) k47
      · refine M.buildSlice_i [vi k, vi (s.reg i.b), vi s.dev.ep] (by kernel_rfl) (fun w6 b6 k6 s6 => ?_)
        obtain ⟨f1, f2, f3, f4, f5⟩ := fact w6 k6
        (repeat (refine jO (by assumption) ?_))
        refine M.call_i (clip3_ret hcB) ?_; rintro _ w5 ⟨rfl, rfl⟩
        (repeat (refine jO (by assumption) ?_))
        refine fin w6 w6 _ _ k6 b6 _ (fun v' w7 g7 k7 => ?_)
        have k47 := k6.trans k7 (fun _ _ h => h)
        have q6 := k6.size
        obtain ⟨f1, f2, f3, f4, f5⟩ := fact w7 k47
        repeat (first | refine M.st_i f2 ?_ | refine M.st_i f3 ?_ | refine M.st_i f4 ?_ | refine M.st_i f5 ?_)
        exact done v' w7 (g7.mono (fun x hx hl => by have hl : w6.heap.size ≤ x := hl; show w4.heap.size ≤ x; omega)) k47
theorem write_clo {q : Nat} (hsv : sv = s.vals c a b d) (hB : Bnd s) (hR : RegsOk i) : Clo Z (.func (.func 96) #[] #[ptr q]) p pb most s sv i inputs mw q s.dev.disk.length (s.write i mw) := by
  intro k w F N ov outs e kt hk h hq hqf hkt
  refine M.callv_i (fun _ _ => rfl) (write1_ret h hsv hB hR hq hk) ?_
  rintro v w' ⟨h', k'⟩
  refine hkt _ _ h' ?_ k'
  unfold Sy.write
  split <;> exact hB.conds
theorem write37_ret (h : Stp Z w F p pb N most s sv i inputs mw ov [] e) (hsv : sv = s.vals c a b d) (hB : Bnd s) (hR : RegsOk i) :
    Ret Tryz.prog 55 #[ptr pb] w (Adds Z w F p pb most s sv i inputs mw ov (eachP most N e s (s.reg i.a) s.dev.disk.length 258 (s.write i mw))) := by
  refine ok55 _ _ _ ?_
  unfold sh55
  refine M.new_i (l := [ptr pb]) (fun w1 b1 k1 s1 => ?_)
  have kd := Keep.drew w1 No
  have k0d := k1.trans kd (fun _ _ h => h)
  have hd := h.keepN k0d
  have b1d := b1.keep kd (fun h => h)
  have hqc : w1.drew.cell? ⟨w.heap.size, 0, none⟩ = some (ptr pb) := b1d.cell rfl
  have hqf : Fr Z F pb ov w.heap.size := h.fresh (Nat.le_refl _)
  have hcc := hd.ca hsv
  have hcA := hd.cA
  obtain ⟨A, cc, ec, hr, _⟩ := (hd.lists hsv).2.1.1
  (repeat (first|refine jb ?_|refine jc ?_|refine jd ?_|refine jM (by assumption) ?_))
  rw [ec]
  (repeat (refine ja ?_))
  refine M.call_i (each37_ret hd hsv b1d hqf (write_clo hsv hB hR) hR.1.1 hR.1.2 hB.disk hB.conds) ?_
  rintro _ w2 ⟨rfl, F2, ov2, h2, m2⟩
  have hcc2 := h2.ca hsv
  rw [ec] at hcc2
  have hqc2 : w2.cell? ⟨w.heap.size, 0, none⟩ = some (ptr pb) := (Blk.mv m2 b1d hqf).1.cell rfl
  (repeat (refine jO (by assumption) ?_))
  exact ⟨rfl, F2, ov2, h2, (Mv.none k0d).trans m2⟩
end
end Go.Proofs.YtanjlgafjgoaaaaGreat
