import Derived.Test.YtanjlgafjgoaaaaDag
import Derived.Test.YtanjlgafjgoaaaaRef03
namespace Go.Proofs.Ytanjlgafjgoaaaa
open Go.Mw Go.Maps Go.MapKept
set_option linter.unusedVariables false
set_option linter.unusedSimpArgs false
set_option maxRecDepth 100000
attribute [local irreducible] M.val M.unit M.next M.pick M.new M.nilCheck M.load1 M.loadA M.store M.fieldAddr M.indexSl M.indexArr M.slice M.makeSlice M.buildSlice M.len M.lenS M.cap M.append M.extract M.conv M.not M.neg M.bin M.shift M.eqB M.eqNil M.scat M.call M.callv M.gd M.share M.cond M.loop M.draw pureW readW Ret
/-! breakwater/term.New: function 6 -/
def sh6 (x0 : Value) (R : Kt) (w : World) : Prop :=
  M.share (fun K1 w =>
  M.bin .lss x0 (Value.int IntKind.i64 0) (fun t4 w =>
  M.gd t4 false (fun k w => k x0 w) (fun t6 w =>
  M.gd t4 false (fun k w => M.bin .gtr t6 (Value.int IntKind.i64 65536) k w) (fun t7 w =>
  M.pick t4 (Value.bool true) t7 (fun t8 w =>
  M.cond t8
  (K1 [(Value.int IntKind.i64 0)] w)
  (K1 [x0] w)) w) w) w) w) (fun s1 w => ∀ _ : List Value,
  M.val Try.prog (Instr.makeMap 52 none) (fun t9 w =>
  M.val Try.prog (Instr.makeMap 53 none) (fun t10 w =>
  pureW Try.prog (Instr.build 56 #[(1, t9), (2, t10), (3, (s1.getD 0 undef))]) (fun t12 w =>
  M.new 56 (Value.cells t12) (fun t13 w =>
  R t13 w) w) w) w) w) w
theorem ok6 (x0 : Value) (R : Kt) (w : World) (h : sh6 x0 R w) : Ret Try.prog 6 #[x0] w R :=
  ret_mk <| calls_of_comp mixed (c := Try.f6.body.getD .skip) (args := [x0]) (rs := [(ResultVar.tmp 2)]) (Ann.seq Ann.text (Ann.join [0] [3, 4, 5, 6, 7, 8] (Ann.seq Ann.text (Ann.cond Ann.text Ann.leaf)) (Ann.seq Ann.text Ann.leaf)))
    Try.func6 (by kernel_rfl) (by kernel_rfl)
    (Eq.mp (by kernel_rfl) h)
/-! (*breakwater/term.Dag).make: function 13 -/
def sh13 (x0 x1 : Value) (R : Kt) (w : World) : Prop :=
  M.new 61 (Value.cells x1) (fun t3 w =>
  M.draw (fun w =>
  M.nilCheck x0 (fun t10 w =>
  M.fieldAddr 1 t10 (fun t11 w =>
  M.load1 t11 (fun t12 w =>
  M.loadA 6 t3 (fun t13 w =>
  readW Try.prog (Instr.lookup 52 t12 t13 true) (fun t14 w =>
  M.extract 0 t14 (fun t15 w =>
  M.extract 1 t14 (fun t16 w =>
  M.cond t16
  (R (.tuple #[t15, (Value.int IntKind.i64 0)]) w)
  (M.draw (fun w =>
  M.nilCheck x0 (fun t20 w =>
  M.fieldAddr 0 t20 (fun t21 w =>
  M.load1 t21 (fun t22 w =>
  M.len t22 (fun t23 w =>
  M.nilCheck x0 (fun t25 w =>
  M.fieldAddr 3 t25 (fun t26 w =>
  M.load1 t26 (fun t27 w =>
  M.bin .geq t23 t27 (fun t28 w =>
  M.cond t28
  (R (.tuple #[(Value.int IntKind.i64 0), (Value.int IntKind.i64 8)]) w)
  (M.draw (fun w =>
  M.nilCheck x0 (fun t30 w =>
  M.fieldAddr 1 t30 (fun t31 w =>
  M.load1 t31 (fun t32 w =>
  M.loadA 6 t3 (fun t33 w =>
  M.nilCheck x0 (fun t35 w =>
  M.fieldAddr 0 t35 (fun t36 w =>
  M.load1 t36 (fun t37 w =>
  M.len t37 (fun t38 w =>
  M.unit Try.prog (Instr.mapUpdate 52 t32 t33 t38) (fun _ w =>
  M.draw (fun w =>
  M.nilCheck x0 (fun t41 w =>
  M.fieldAddr 0 t41 (fun t42 w =>
  M.load1 t42 (fun t43 w =>
  M.loadA 6 t3 (fun t44 w =>
  M.buildSlice 61 6 #[.int .i64 0, .int .i64 0, .int .i64 0, .int .i64 0, .int .i64 0, .int .u64 0] 1 [(0, t44)] (fun t45 w =>
  ((M.load1 t42 (fun v' _ => v' = t43) w) ∧ M.append 61 6 48 #[.int .i64 0, .int .i64 0, .int .i64 0, .int .i64 0, .int .i64 0, .int .u64 0] t43 t45 (fun t46 w =>
  M.nilCheck x0 (fun t47 w =>
  M.fieldAddr 0 t47 (fun t48 w =>
  M.store 1 t48 t46 (fun _ w =>
  M.draw (fun w =>
  M.nilCheck x0 (fun t50 w =>
  M.fieldAddr 1 t50 (fun t51 w =>
  M.load1 t51 (fun t52 w =>
  M.loadA 6 t3 (fun t53 w =>
  readW Try.prog (Instr.lookup 52 t52 t53 false) (fun t54 w =>
  R (.tuple #[t54, (Value.int IntKind.i64 0)]) w) w) w) w) w) w) w) w) w) w) w)) w) w) w) w) w) w) w) w) w) w) w) w) w) w) w) w)) w) w) w) w) w) w) w) w) w)) w) w) w) w) w) w) w) w) w
theorem ok13 (x0 x1 : Value) (R : Kt) (w : World) (h : sh13 x0 x1 R w) : Ret Try.prog 13 #[x0, x1] w R :=
  ret_mk <| calls_of_comp mixed (c := Try.f13.body.getD .skip) (args := [x0, x1]) (rs := [(ResultVar.tmp 4), (ResultVar.tmp 5)]) (Ann.seq Ann.text (Ann.seq (Ann.seq (Ann.draw (Sch.take 0 (Sch.take 1 (Sch.take 2 (Sch.take 3 (Sch.take 4 (Sch.take 5 (Sch.take 6 (Sch.take 7 (Sch.take 8 (Sch.take 9 (Sch.take 10 Sch.done)))))))))))) (Ann.seq Ann.text (Ann.cond (Ann.seq Ann.text Ann.leaf) Ann.leaf))) (Ann.seq (Ann.seq (Ann.draw (Sch.take 0 (Sch.take 1 (Sch.take 2 (Sch.take 3 (Sch.take 4 (Sch.take 5 (Sch.take 6 (Sch.take 7 (Sch.take 8 (Sch.take 9 Sch.done))))))))))) (Ann.cond (Ann.seq Ann.text Ann.leaf) Ann.leaf)) (Ann.seq (Ann.draw (Sch.take 0 (Sch.take 1 (Sch.take 2 (Sch.take 3 (Sch.take 4 (Sch.take 5 (Sch.take 6 (Sch.take 7 (Sch.take 8 (Sch.take 9 (Sch.one 10 Sch.done)))))))))))) (Ann.seq (Ann.draw (Sch.take 0 (Sch.take 1 (Sch.take 2 (Sch.take 3 (Sch.take 4 (Sch.take 5 (Sch.one 6 (Sch.one 7 (Sch.take 8 (Sch.take 9 (Sch.one 10 Sch.done)))))))))))) (Ann.seq (Ann.draw (Sch.take 0 (Sch.take 1 (Sch.take 2 (Sch.take 3 (Sch.take 4 (Sch.take 5 (Sch.take 6 (Sch.take 7 Sch.done))))))))) Ann.leaf))))))
    Try.func13 (by kernel_rfl) (by kernel_rfl)
    (Eq.mp (by kernel_rfl) h)
/-! (*breakwater/term.Dag).none: function 66 -/
def sh66 (x0 x1 : Value) (R : Kt) (w : World) : Prop :=
  M.len x1 (fun t8 w =>
  M.loop [(Value.int IntKind.i64 0)] (fun s1 K1 w => ∀ _ : List Value,
  M.bin .lss (s1.getD 0 undef) t8 (fun t10 w =>
  M.cond t10
  (M.indexSl 1 x1 (s1.getD 0 undef) (fun t11 w =>
  M.load1 t11 (fun t12 w =>
  M.bin .lss t12 (Value.int IntKind.i64 0) (fun t14 w =>
  M.gd t14 false (fun k w => k t12 w) (fun t16 w =>
  M.gd t14 false (fun k w => k x0 w) (fun t17 w =>
  M.gd t14 false (fun k w => M.nilCheck t17 k w) (fun t18 w =>
  M.gd t14 false (fun k w => M.fieldAddr 0 t18 k w) (fun t19 w =>
  M.gd t14 false (fun k w => M.load1 t19 k w) (fun t20 w =>
  M.gd t14 false (fun k w => M.len t20 k w) (fun t21 w =>
  M.gd t14 false (fun k w => M.bin .geq t16 t21 k w) (fun t22 w =>
  M.pick t14 (Value.bool true) t22 (fun t23 w =>
  M.cond t23
  (R (Value.bool true) w)
  (M.bin .add (s1.getD 0 undef) (Value.int IntKind.i64 1) (fun t24 w =>
  K1 [t24] w) w)) w) w) w) w) w) w) w) w) w) w) w)
  (R (Value.bool false) w)) w) w) w
theorem ok66 (x0 x1 : Value) (R : Kt) (w : World) (h : sh66 x0 x1 R w) : Ret Try.prog 66 #[x0, x1] w R :=
  ret_mk <| calls_of_comp mixed (c := Try.f66.body.getD .skip) (args := [x0, x1]) (rs := [(ResultVar.tmp 4)]) (Ann.seq Ann.text (Ann.seq (Ann.seq Ann.text (Ann.block (Ann.loop [9] [4, 6, 10, 11, 12, 13, 14, 15, 16, 17, 18, 19, 20, 21, 22, 23, 24] (Ann.seq Ann.text (Ann.seq (Ann.cond Ann.leaf Ann.leaf) (Ann.seq (Ann.block (Ann.seq Ann.text (Ann.seq Ann.text (Ann.cond (Ann.seq Ann.text Ann.leaf) Ann.leaf)))) Ann.text)))))) (Ann.seq Ann.text Ann.leaf)))
    Try.func66 (by kernel_rfl) (by kernel_rfl)
    (Eq.mp (by kernel_rfl) h)
/-! (*breakwater/term.Dag).Node: function 42 -/
def sh42 (x0 x1 : Value) (R : Kt) (w : World) : Prop :=
  M.new 61 #[.int .i64 0, .int .i64 0, .int .i64 0, .int .i64 0, .int .i64 0, .int .u64 0] (fun t4 w =>
  M.eqNil 0 false x0 (fun t7 w =>
  M.gd t7 false (fun k w => k x0 w) (fun t9 w =>
  M.gd t7 false (fun k w => k x1 w) (fun t10 w =>
  M.gd t7 false (fun k w => M.buildSlice 3 1 #[.int .i64 0] 1 [(0, t10)] k w) (fun t11 w =>
  M.gd t7 false (fun k w => M.call Try.prog 66 #[t9, t11] k w) (fun t12 w =>
  M.pick t7 (Value.bool true) t12 (fun t13 w =>
  M.cond t13
  (pureW Try.prog (Instr.build 61 #[]) (fun t14 w =>
  M.store 6 t4 t14 (fun _ w =>
  M.loadA 6 t4 (fun r0 w => R (.tuple #[r0, (Value.bool false)]) w) w) w) w)
  (M.nilCheck x0 (fun t16 w =>
  M.fieldAddr 0 t16 (fun t17 w =>
  M.load1 t17 (fun t18 w =>
  M.indexSl 6 t18 x1 (fun t20 w =>
  M.loadA 6 t20 (fun t21 w =>
  M.store 6 t4 t21 (fun _ w =>
  M.loadA 6 t4 (fun r0 w => R (.tuple #[r0, (Value.bool true)]) w) w) w) w) w) w) w) w)) w) w) w) w) w) w) w
theorem ok42 (x0 x1 : Value) (R : Kt) (w : World) (h : sh42 x0 x1 R w) : Ret Try.prog 42 #[x0, x1] w R :=
  ret_mk <| calls_of_comp mixed (c := Try.f42.body.getD .skip) (args := [x0, x1]) (rs := [(ResultVar.cell 4 61), (ResultVar.tmp 5)]) (Ann.seq Ann.text (Ann.seq (Ann.seq Ann.text (Ann.cond (Ann.seq Ann.text Ann.leaf) Ann.leaf)) (Ann.seq Ann.text Ann.leaf)))
    Try.func42 (by kernel_rfl) (by kernel_rfl)
    (Eq.mp (by kernel_rfl) h)
/-! (*breakwater/term.Dag).Width: function 23 -/
def sh23 (x0 x1 : Value) (R : Kt) (w : World) : Prop :=
  M.call Try.prog 42 #[x0, x1] (fun t10 w =>
  M.extract 0 t10 (fun t11 w =>
  M.extract 1 t10 (fun t12 w =>
  M.new 61 #[.int .i64 0, .int .i64 0, .int .i64 0, .int .i64 0, .int .i64 0, .int .u64 0] (fun t5 w =>
  M.store 6 t5 t11 (fun _ w =>
  M.fieldAddr 1 t5 (fun t13 w =>
  M.load1 t13 (fun t14 w =>
  R t14 w) w) w) w) w) w) w) w
theorem ok23 (x0 x1 : Value) (R : Kt) (w : World) (h : sh23 x0 x1 R w) : Ret Try.prog 23 #[x0, x1] w R :=
  ret_mk <| calls_of_comp mixed (c := Try.f23.body.getD .skip) (args := [x0, x1]) (rs := [(ResultVar.tmp 4)]) (Ann.seq Ann.text (Ann.seq Ann.text (Ann.seq Ann.text Ann.leaf)))
    Try.func23 (by kernel_rfl) (by kernel_rfl)
    (Eq.mp (by kernel_rfl) h)
/-! (*breakwater/term.Dag).Len: function 11 -/
def sh11 (x0 : Value) (R : Kt) (w : World) : Prop :=
  M.eqNil 0 false x0 (fun t4 w =>
  M.cond t4
  (R (Value.int IntKind.i64 0) w)
  (M.nilCheck x0 (fun t6 w =>
  M.fieldAddr 0 t6 (fun t7 w =>
  M.load1 t7 (fun t8 w =>
  M.len t8 (fun t9 w =>
  R t9 w) w) w) w) w)) w
theorem ok11 (x0 : Value) (R : Kt) (w : World) (h : sh11 x0 R w) : Ret Try.prog 11 #[x0] w R :=
  ret_mk <| calls_of_comp mixed (c := Try.f11.body.getD .skip) (args := [x0]) (rs := [(ResultVar.tmp 2)]) (Ann.seq Ann.text (Ann.seq (Ann.seq Ann.text (Ann.cond (Ann.seq Ann.text Ann.leaf) Ann.leaf)) (Ann.seq Ann.text Ann.leaf)))
    Try.func11 (by kernel_rfl) (by kernel_rfl)
    (Eq.mp (by kernel_rfl) h)

abbrev ptr (p : Nat) : Value := .pointer (some ⟨p, 0, none⟩)
/-! ### the block of a slice that grows -/
def blkOf (v : Value) (b : Nat) : Prop := ∃ n c, v = .slice (some ⟨b, 0, none⟩) n c
theorem GC.own {w : World} {L : Nat → Prop} {sz n : Nat} {v : Value} {l : List Value} (h : GC w L sz v n l) : GC w (blkOf v) sz v n l := by
  obtain ⟨h0, h | ⟨b, c, rest, h1, h2, h3, h4⟩⟩ := h
  · exact ⟨h0, .inl h⟩
  · exact ⟨h0, .inr ⟨b, c, rest, h1, ⟨n, c, h1⟩, h3, h4⟩⟩
theorem GC.blkOf {w : World} {L : Nat → Prop} {sz n : Nat} {v : Value} {l : List Value} (h : GC w L sz v n l) {b : Nat} (hb : blkOf v b) : L b ∧ ∃ l', Blk w b l' := by
  obtain ⟨n', c', rfl⟩ := hb
  obtain ⟨h0, ⟨h, _⟩ | ⟨b', c, rest, h1, h2, h3, h4⟩⟩ := h
  · simp at h
  · simp only [Value.slice.injEq, Option.some.injEq, Addr.mk.injEq] at h1
    obtain ⟨⟨rfl, _⟩, _⟩ := h1
    exact ⟨h2, _, h3⟩
theorem NL_len : ∀ N : List Nd, (NL N).length = N.length * 6
  | [] => rfl
  | n :: N => by
    have := NL_len N
    simp only [NL, List.flatMap_cons, List.length_append, List.length_cons] at this ⊢
    rw [this]; simp [Nd.cells]; omega
theorem NL_snoc (N : List Nd) (n : Nd) : NL (N ++ [n]) = NL N ++ n.cells := by simp [NL]
theorem NL_get : ∀ {N : List Nd} {i : Nat} {n : Nd} (j : Nat), N[i]? = some n → j < 6 → (NL N)[i * 6 + j]? = n.cells[j]?
  | [], i, n, j, h, _ => by simp at h
  | m :: N, 0, n, j, h, hj => by
    simp at h; subst h
    simp only [NL, List.flatMap_cons]
    rw [List.getElem?_append_left (by simp [Nd.cells]; omega)]
    congr 1; omega
  | m :: N, i + 1, n, j, h, hj => by
    simp only [List.getElem?_cons_succ] at h
    simp only [NL, List.flatMap_cons]
    rw [List.getElem?_append_right (by simp [Nd.cells]; omega), ← NL_get j h hj]
    congr 1
    simp [Nd.cells]; omega
theorem cells_one (n : Nd) : ∀ y ∈ n.cells, y.oneCell' = true := by
  intro y hy
  simp only [Nd.cells, List.mem_cons, List.not_mem_nil, or_false] at hy
  rcases hy with rfl | rfl | rfl | rfl | rfl | rfl <;> rfl
theorem NL_one (N : List Nd) : ∀ y ∈ NL N, y.oneCell' = true := fun y hy => by
  obtain ⟨n, _, h⟩ := List.mem_flatMap.1 hy
  exact cells_one n y h
/-- The cells of an element. -/
theorem M.idxN_i {k : Kt} {w : World} {D : Nat → Prop} {A : Option Addr} {N : List Nd} {m c : Nat} {d : IntKind} {i : Int} {n : Nd} (hr : Row w D A (NL N)) (hm : N.length = m) (h0 : 0 ≤ i) (hn : N[i.toNat]? = some n)
    (h : ∀ b o, (∀ (j : Nat) v, n.cells[j]? = some v → w.cell? ⟨b, o + j, none⟩ = some v) → k (.pointer (some ⟨b, o, none⟩)) w) : M.indexSl 6 (.slice A m c) (.int d i) k w := by
  have hlt := (List.getElem?_eq_some_iff.1 hn).1
  refine M.idxRowN_i hr (by rw [NL_len, hm]) (by omega) h0 (by omega) (fun b o _ hc => h b _ (fun j v hv => ?_))
  have hj : j < 6 := by
    have := (List.getElem?_eq_some_iff.1 hv).1
    simpa [Nd.cells] using this
  rw [hc j hj, NL_get j hn hj, hv]
theorem M.loadN_i {k : Kt} {w : World} {b o : Nat} {n : Nd} (hc : ∀ (j : Nat) v, n.cells[j]? = some v → w.cell? ⟨b, o + j, none⟩ = some v) (h : k (encN n) w) : M.loadA 6 (.pointer (some ⟨b, o, none⟩)) k w := by
  have := rdL_cells (w := w) (b := b) (o := o) (cs := n.cells) 6 0 (fun j hj => hc j _ (List.getElem?_eq_getElem hj)) rfl
  unfold M.loadA
  simp only [this]
  exact h
/-! ### maps: what is looked up behind a store -/
theorem find_map_upd {α : Type} [DecidableEq α] (kv : List (α × Value)) (x y : α) (v : Value) :
    (kv.map (fun p => if p.1 = x then (x, v) else p)).find? (fun p => decide (p.1 = y)) = (kv.find? (fun p => decide (p.1 = y))).map (fun p => if p.1 = x then (x, v) else p) := by
  induction kv with
  | nil => rfl
  | cons p kv ih =>
    simp only [List.map_cons, List.find?_cons]
    by_cases hpx : p.1 = x
    · rw [if_pos hpx]
      by_cases hxy : x = y
      · simp [hxy, hpx]
      · have : ¬ p.1 = y := fun e => hxy (hpx.symm.trans e)
        simp only [hxy, this, decide_false]
        exact ih
    · rw [if_neg hpx]
      by_cases hpy : p.1 = y
      · simp [hpy, hpx]
        intro h; exact absurd (hpy.trans h) (fun e => hpx e)
      · simp only [hpy, decide_false]
        exact ih
theorem lkpA_upd {α : Type} [DecidableEq α] (kv : List (α × Value)) (x y : α) (v : Value) : lkpA (updA kv x v) y = if y = x then some v else lkpA kv y := by
  unfold updA
  split
  · rename_i ha
    unfold lkpA
    rw [find_map_upd]
    by_cases hyx : y = x
    · subst hyx
      obtain ⟨p, hp, h1⟩ := List.any_eq_true.1 ha
      cases hf : kv.find? (fun p => decide (p.1 = y)) with
      | none =>
        rw [List.find?_eq_none] at hf
        exact absurd h1 (hf p hp)
      | some q =>
        have := List.find?_some hf
        simp at this
        simp [this]
    · rw [if_neg hyx]
      cases hf : kv.find? (fun p => decide (p.1 = y)) with
      | none => rfl
      | some q =>
        have := List.find?_some hf
        simp at this
        have : ¬ q.1 = x := fun e => hyx (this.symm.trans e)
        simp [this]
  · rename_i ha
    unfold lkpA
    rw [List.find?_append]
    by_cases hyx : y = x
    · subst hyx
      have : kv.find? (fun p => decide (p.1 = y)) = none := by
        rw [List.find?_eq_none]
        intro p hp h
        exact ha (List.any_eq_true.2 ⟨p, hp, h⟩)
      rw [this]
      simp
    · rw [if_neg hyx]
      cases hf : kv.find? (fun p => decide (p.1 = y)) with
      | none =>
        have : ¬ x = y := fun e => hyx e.symm
        simp [this]
      | some q => rfl
theorem lkp_upd (kv : List (Int × Value)) (x y : Int) (v : Value) : lkp (upd kv x v) y = if y = x then some v else lkp kv y := lkpA_upd kv x y v
/-! ### the key's type -/
theorem intLit {d : Nat} {x : Int} (h : I64 x) : Try.prog.keyLits (d + 1) 3 [vi x] = some [.int .i64 x] := by
  unfold Program.keyLits
  have hu : Try.prog.underlying 3 = some (.int .i64) := by kernel_rfl
  simp only [hu]
  have : (Lit.int .i64 x).wf = true := by
    obtain ⟨h1, h2⟩ := h
    simp [Lit.wf, IntKind.min, IntKind.max, IntKind.signed, IntKind.bits]
    omega
  simp [this]
theorem wordLit {d : Nat} {x : W64} : Try.prog.keyLits (d + 1) 33 [vw x] = some [.int .u64 (x.toNat : Int)] := by
  unfold Program.keyLits
  have hu : Try.prog.underlying 33 = some (.int .u64) := by kernel_rfl
  simp only [hu]
  have : (Lit.int .u64 (x.toNat : Int)).wf = true := by
    have := x.isLt
    simp [Lit.wf, IntKind.min, IntKind.max, IntKind.signed, IntKind.bits]
    omega
  simp [this]
theorem keyE : KeyE Try.prog 61 encN Nd.Ok where
  K := Keyed.of_law (deep_law_laid (by kernel_rfl) (m := 5) (by omega) (Nat.le_of_ble_eq_true (by kernel_rfl)) (by kernel_rfl) (by kernel_rfl))
  inj := fun a b h => by
    obtain ⟨a1, a2, a3, a4, a5, a6⟩ := a
    obtain ⟨b1, b2, b3, b4, b5, b6⟩ := b
    simp only [encN, Nd.cells, Value.agg.injEq, Array.mk.injEq, List.cons.injEq, Value.int.injEq, true_and, and_true] at h
    obtain ⟨rfl, rfl, rfl, rfl, rfl, h6⟩ := h
    have := vw_inj.1 h6
    subst this; rfl
  ok := fun a h => by
    unfold keyOf
    rw [Try.underlying61]
    simp only
    rw [if_pos (by kernel_rfl)]
    obtain ⟨d, hd⟩ : ∃ d, Try.prog.types.size = d + 1 := by
      have h1 : 1 ≤ Try.prog.types.size := Nat.le_of_ble_eq_true (by kernel_rfl)
      exact ⟨Try.prog.types.size - 1, by omega⟩
    have hc : Try.prog.cellsOf 3 = 1 := by kernel_rfl
    have hcu : Try.prog.cellsOf 33 = 1 := by kernel_rfl
    obtain ⟨h1, h2, h3, h4, h5⟩ := h
    have key : ∃ ls, Try.prog.keyLits (Try.prog.types.size + 1) 61 a.cells = some ls := by
      unfold Program.keyLits
      simp only [Try.underlying61]
      rw [if_pos ⟨by kernel_rfl, by kernel_rfl⟩]
      simp [hd, hc, hcu, Nd.cells, intLit h1, intLit h2, intLit h3, intLit h4, intLit h5, wordLit]
    obtain ⟨ls, hls⟩ := key
    show ∃ l, Option.map _ (Try.prog.keyLits (Try.prog.types.size + 1) 61 a.cells) = some l
    rw [hls]
    exact ⟨_, rfl⟩
end Go.Proofs.Ytanjlgafjgoaaaa
