import Derived.Test.YtanjlgafjgoaaaaSt37l
import Derived.Test.YtanjlgafjgoaaaaSym36d
namespace Go.Proofs.Ytanjlgafjgoaaaa
open Go.Mw
set_option linter.unusedVariables false
set_option linter.unusedSimpArgs false
set_option maxRecDepth 100000
attribute [local irreducible] M.val M.unit M.next M.pick M.new M.nilCheck M.load1 M.loadA M.store M.fieldAddr M.indexSl M.indexArr M.slice M.makeSlice M.buildSlice M.len M.lenS M.cap M.append M.extract M.conv M.not M.neg M.bin M.shift M.eqB M.eqNil M.scat M.call M.callv M.gd M.share M.cond M.loop M.draw pureW readW Ret
/-! breakwater/breakwaterlaw37.awake: function 5 -/
def sh5 (R : Kt) (w : World) : Prop :=
  M.call Try.prog 6 #[(Value.int IntKind.i64 200)] (fun t19 w =>
  M.eqNil 0 false t19 (fun t21 w =>
  M.cond t21
  (R (Value.bool false) w)
  (M.buildSlice 33 1 #[.int .u64 0] 2 [(0, (Value.int IntKind.u64 5)), (1, (Value.int IntKind.u64 6))] (fun t24 w =>
  M.call Try.prog 8 #[t19, t24] (fun t25 w =>
  M.extract 0 t25 (fun t26 w =>
  M.extract 1 t25 (fun t27 w =>
  M.new 37 #[.slice none 0 0, .slice none 0 0, .int .i64 0] (fun t2 w =>
  M.store 3 t2 t26 (fun _ w =>
  M.loadA 3 t2 (fun t30 w =>
  M.call Try.prog 9 #[t19, t30, (Value.int IntKind.i64 0), (Value.slice none 0 0)] (fun t31 w =>
  M.extract 0 t31 (fun t32 w =>
  M.extract 1 t31 (fun t33 w =>
  M.new 42 #[.int .i64 0, .int .i64 0, .int .i64 0, .int .i64 0, .int .i64 0, .int .i64 0, .int .i64 0, .int .i64 0, .slice none 0 0, .int .i64 0, .int .i64 0, .int .i64 0, .int .i64 0, .int .i64 0, .int .i64 0, .slice none 0 0, .slice none 0 0, .int .i64 0, .slice none 0 0] (fun t4 w =>
  M.store 19 t4 t32 (fun _ w =>
  pureW Try.prog (Instr.build 51 #[(0, (Value.int IntKind.i64 9))]) (fun t34 w =>
  pureW Try.prog (Instr.build 51 #[(0, (Value.int IntKind.i64 6)), (4, (Value.int IntKind.u64 0))]) (fun t35 w =>
  pureW Try.prog (Instr.build 51 #[(0, (Value.int IntKind.i64 10)), (1, (Value.int IntKind.i64 1))]) (fun t36 w =>
  M.buildSlice 51 5 #[.int .i64 0, .int .i64 0, .int .i64 0, .int .i64 0, .int .u64 0] 3 [(0, t34), (1, t35), (2, t36)] (fun t37 w =>
  M.loadA 19 t4 (fun t41 w =>
  M.call Try.prog 10 #[t19, t37, t41, (Value.int IntKind.i64 1), (Value.int IntKind.i64 2)] (fun t42 w =>
  M.extract 0 t42 (fun t43 w =>
  M.extract 1 t42 (fun t44 w =>
  M.len t43 (fun t46 w =>
  M.bin .neq t46 (Value.int IntKind.i64 1) (fun t47 w =>
  M.gd t47 false (fun k w => k t44 w) (fun t49 w =>
  M.gd t47 false (fun k w => M.bin .neq t49 (Value.int IntKind.i64 0) k w) (fun t50 w =>
  M.pick t47 (Value.bool true) t50 (fun t51 w =>
  M.cond t51
  (R (Value.bool false) w)
  (M.indexSl 19 t43 (Value.int IntKind.i64 0) (fun t56 w =>
  M.loadA 19 t56 (fun t57 w =>
  M.call Try.prog 10 #[t19, t37, t57, (Value.int IntKind.i64 1), (Value.int IntKind.i64 2)] (fun t58 w =>
  M.extract 0 t58 (fun t59 w =>
  M.extract 1 t58 (fun t60 w =>
  M.len t59 (fun t62 w =>
  M.bin .neq t62 (Value.int IntKind.i64 2) (fun t63 w =>
  M.gd t63 false (fun k w => k t60 w) (fun t65 w =>
  M.gd t63 false (fun k w => M.bin .neq t65 (Value.int IntKind.i64 0) k w) (fun t66 w =>
  M.pick t63 (Value.bool true) t66 (fun t67 w =>
  M.cond t67
  (R (Value.bool false) w)
  (M.indexSl 19 t59 (Value.int IntKind.i64 1) (fun t72 w =>
  M.loadA 19 t72 (fun t73 w =>
  M.call Try.prog 10 #[t19, t37, t73, (Value.int IntKind.i64 1), (Value.int IntKind.i64 2)] (fun t74 w =>
  M.extract 0 t74 (fun t75 w =>
  M.extract 1 t74 (fun t76 w =>
  M.fieldAddr 9 t4 (fun t77 w =>
  M.store 1 t77 (Value.int IntKind.i64 2) (fun _ w =>
  M.loadA 19 t4 (fun t81 w =>
  M.call Try.prog 10 #[t19, t37, t81, (Value.int IntKind.i64 1), (Value.int IntKind.i64 2)] (fun t82 w =>
  M.extract 0 t82 (fun t83 w =>
  M.extract 1 t82 (fun t84 w =>
  M.fieldAddr 0 t4 (fun t85 w =>
  M.indexArr 8 1 t85 (Value.int IntKind.i64 3) (fun t86 w =>
  M.store 1 t86 (Value.int IntKind.i64 999) (fun _ w =>
  M.loadA 19 t4 (fun t90 w =>
  M.call Try.prog 10 #[t19, t37, t90, (Value.int IntKind.i64 1), (Value.int IntKind.i64 2)] (fun t91 w =>
  M.extract 0 t91 (fun t92 w =>
  M.extract 1 t91 (fun t93 w =>
  M.fieldAddr 12 t4 (fun t94 w =>
  M.store 1 t94 (Value.int IntKind.i64 1) (fun _ w =>
  M.loadA 19 t4 (fun t98 w =>
  M.call Try.prog 10 #[t19, t37, t98, (Value.int IntKind.i64 1), (Value.int IntKind.i64 2)] (fun t99 w =>
  M.extract 0 t99 (fun t100 w =>
  M.extract 1 t99 (fun t101 w =>
  M.indexSl 19 t59 (Value.int IntKind.i64 0) (fun t103 w =>
  M.fieldAddr 9 t103 (fun t104 w =>
  M.load1 t104 (fun t105 w =>
  M.bin .eql t105 (Value.int IntKind.i64 0) (fun t106 w =>
  M.gd t106 true (fun k w => k t59 w) (fun t108 w =>
  M.gd t106 true (fun k w => M.indexSl 19 t108 (Value.int IntKind.i64 1) k w) (fun t109 w =>
  M.gd t106 true (fun k w => M.fieldAddr 9 t109 k w) (fun t110 w =>
  M.gd t106 true (fun k w => M.load1 t110 k w) (fun t111 w =>
  M.gd t106 true (fun k w => M.bin .eql t111 (Value.int IntKind.i64 2) k w) (fun t112 w =>
  M.pick t106 t112 (Value.bool false) (fun t113 w =>
  M.gd t113 true (fun k w => k t59 w) (fun t115 w =>
  M.gd t113 true (fun k w => M.indexSl 19 t115 (Value.int IntKind.i64 0) k w) (fun t116 w =>
  M.gd t113 true (fun k w => M.fieldAddr 18 t116 k w) (fun t117 w =>
  M.gd t113 true (fun k w => M.load1 t117 k w) (fun t118 w =>
  M.gd t113 true (fun k w => M.len t118 k w) (fun t119 w =>
  M.gd t113 true (fun k w => M.bin .eql t119 (Value.int IntKind.i64 1) k w) (fun t120 w =>
  M.pick t113 t120 (Value.bool false) (fun t121 w =>
  M.gd t121 true (fun k w => k t75 w) (fun t123 w =>
  M.gd t121 true (fun k w => M.len t123 k w) (fun t124 w =>
  M.gd t121 true (fun k w => M.bin .eql t124 (Value.int IntKind.i64 3) k w) (fun t125 w =>
  M.pick t121 t125 (Value.bool false) (fun t126 w =>
  M.gd t126 true (fun k w => k t76 w) (fun t128 w =>
  M.gd t126 true (fun k w => M.bin .eql t128 (Value.int IntKind.i64 0) k w) (fun t129 w =>
  M.pick t126 t129 (Value.bool false) (fun t130 w =>
  M.gd t130 true (fun k w => k t75 w) (fun t132 w =>
  M.gd t130 true (fun k w => M.indexSl 19 t132 (Value.int IntKind.i64 2) k w) (fun t133 w =>
  M.gd t130 true (fun k w => M.fieldAddr 12 t133 k w) (fun t134 w =>
  M.gd t130 true (fun k w => M.load1 t134 k w) (fun t135 w =>
  M.gd t130 true (fun k w => M.bin .eql t135 (Value.int IntKind.i64 2) k w) (fun t136 w =>
  M.pick t130 t136 (Value.bool false) (fun t137 w =>
  M.gd t137 true (fun k w => k t75 w) (fun t139 w =>
  M.gd t137 true (fun k w => M.indexSl 19 t139 (Value.int IntKind.i64 2) k w) (fun t140 w =>
  M.gd t137 true (fun k w => M.fieldAddr 13 t140 k w) (fun t141 w =>
  M.gd t137 true (fun k w => M.load1 t141 k w) (fun t142 w =>
  M.gd t137 true (fun k w => M.bin .eql t142 (Value.int IntKind.i64 258) k w) (fun t143 w =>
  M.pick t137 t143 (Value.bool false) (fun t144 w =>
  M.gd t144 true (fun k w => k t83 w) (fun t146 w =>
  M.gd t144 true (fun k w => M.len t146 k w) (fun t147 w =>
  M.gd t144 true (fun k w => M.bin .eql t147 (Value.int IntKind.i64 1) k w) (fun t148 w =>
  M.pick t144 t148 (Value.bool false) (fun t149 w =>
  M.gd t149 true (fun k w => k t84 w) (fun t151 w =>
  M.gd t149 true (fun k w => M.bin .eql t151 (Value.int IntKind.i64 0) k w) (fun t152 w =>
  M.pick t149 t152 (Value.bool false) (fun t153 w =>
  M.gd t153 true (fun k w => k t93 w) (fun t155 w =>
  M.gd t153 true (fun k w => M.bin .eql t155 (Value.int IntKind.i64 11) k w) (fun t156 w =>
  M.pick t153 t156 (Value.bool false) (fun t157 w =>
  M.gd t157 true (fun k w => k t100 w) (fun t159 w =>
  M.gd t157 true (fun k w => M.len t159 k w) (fun t160 w =>
  M.gd t157 true (fun k w => M.bin .eql t160 (Value.int IntKind.i64 0) k w) (fun t161 w =>
  M.pick t157 t161 (Value.bool false) (fun t162 w =>
  M.gd t162 true (fun k w => k t101 w) (fun t164 w =>
  M.gd t162 true (fun k w => M.bin .eql t164 (Value.int IntKind.i64 0) k w) (fun t165 w =>
  M.pick t162 t165 (Value.bool false) (fun t166 w =>
  R t166 w) w) w) w) w) w) w) w) w) w) w) w) w) w) w) w) w) w) w) w) w) w) w) w) w) w) w) w) w) w) w) w) w) w) w) w) w) w) w) w) w) w) w) w) w) w) w) w) w) w) w) w) w) w) w) w) w) w) w) w) w) w) w) w) w) w) w) w) w) w) w) w) w) w) w) w) w) w)) w) w) w) w) w) w) w) w) w) w)) w) w) w) w) w) w) w) w) w) w) w) w) w) w) w) w) w) w) w) w) w) w) w) w) w)) w) w
theorem ok5 (R : Kt) (w : World) (h : sh5 R w) : Ret Try.prog 5 #[] w R :=
  ret_mk <| calls_of_comp mixed (c := Try.f5.body.getD .skip) (args := []) (rs := [(ResultVar.tmp 0)]) (Ann.seq Ann.text (Ann.seq Ann.text (Ann.seq (Ann.seq Ann.text (Ann.cond (Ann.seq Ann.text Ann.leaf) Ann.leaf)) (Ann.seq Ann.text (Ann.seq Ann.text (Ann.seq Ann.text (Ann.seq Ann.text (Ann.seq (Ann.seq Ann.text (Ann.cond (Ann.seq Ann.text Ann.leaf) Ann.leaf)) (Ann.seq Ann.text (Ann.seq (Ann.seq Ann.text (Ann.cond (Ann.seq Ann.text Ann.leaf) Ann.leaf)) (Ann.seq Ann.text (Ann.seq Ann.text (Ann.seq Ann.text (Ann.seq Ann.text (Ann.seq Ann.text (Ann.seq Ann.text (Ann.seq Ann.text (Ann.seq Ann.text Ann.leaf))))))))))))))))))
    Try.func5 (by kernel_rfl) (by kernel_rfl)
    (Eq.mp (by kernel_rfl) h)

theorem dev37_ok {w : World} {F D : Nat → Prop} {p : Nat} {N N' : List Nd} {most e : Int} {ids : List Int} {u : Value} {xs : List W64} (hd : DagO w F p N most) (hl : LV vw w D u xs) (hf : xs.length ≤ 1000000) (hD : ∀ b, D b → ¬ F b) (h : devN most N xs [] = (N', ids, e)) :
    Ret Try.prog 8 #[ptr p, u] w (fun r w' => ∃ F' A c, r = .tuple #[.agg ⟨[.slice A ids.length c, .slice none 0 0, vi 0]⟩, vi e] ∧ DagO w' F' p N' most ∧ (∀ b, b < w.heap.size → F' b → F b) ∧ Keep w w' F ∧ LV vi w' (fun b => ¬ F' b) (.slice A ids.length c) ids) :=
  (device_ret hd hl hf hD).mono (fun r w' ⟨F', a, h1, h2, h3, h4, h5⟩ => by
    rw [h] at h1 h2 h5
    obtain ⟨A, c, rfl, g1, g2⟩ := h5
    exact ⟨F', A, c, h1, h2, h3, h4, A, c, rfl, g1.mono (fun b _ h => h.2), g2⟩)
theorem start37_ok {w : World} {F D : Nat → Prop} {p : Nat} {N N' : List Nd} {most z : Int} {a b cv : Value} {d : SDv} {conds : List Int} (hd : DagO w F p N most) (hs : SDvO w D a b d) (hcv : LV vi w D cv conds) (hD : ∀ b, D b → ¬ F b) (n : Int) (h : constN most N 64 0 = (N', z, 0)) :
    Ret Try.prog 9 #[ptr p, .agg ⟨[a, b, vi d.ep]⟩, vi n, cv] w (fun r w' => ∃ F' v, r = .tuple #[v, vi 0] ∧ DagO w' F' p N' most ∧ (∀ b, b < w.heap.size → F' b → F b) ∧ Keep w w' F ∧ SyO w' (fun b => ¬ F' b) v ⟨List.replicate 8 z, List.replicate (cellsOk n) z, 0, 0, 0, 0, 0, -1, d, conds⟩) :=
  (sstart_ret hd hs hcv hD n (by rw [h])).mono (fun r w' ⟨F', v, h1, h2, h3, h4, h5⟩ => by
    rw [h] at h2 h5
    exact ⟨F', v, h1, h2, h3, h4, h5.mono (fun b _ h => h.2)⟩)
theorem lvw37_of_blk {w : World} {b n : Nat} {xs : List W64} (h : Blk w b (xs.map vw)) (hn : n = xs.length) {D : Nat → Prop} (hD : D b) : LV vw w D (.slice (some ⟨b, 0, none⟩) n n) xs := by
  subst hn
  exact ⟨_, _, rfl, Row.of_blk' h hD, Nat.le_refl _⟩
theorem SyO.rowlen {w : World} {D : Nat → Prop} {u : List Value} {t : Sy} (h : SyO w D (.agg ⟨u⟩) t) : u.length = 19 := h.len19
theorem flat19 : ∀ (cs : List (List Value)), (∀ u ∈ cs, u.length = 19) → cs.flatten.length = cs.length * 19
  | [], _ => rfl
  | u :: cs, h => by
    rw [List.flatten_cons, List.length_append, flat19 cs (fun x hx => h x (List.mem_cons_of_mem _ hx)), h u List.mem_cons_self, List.length_cons]; omega
theorem flat19_get : ∀ (cs : List (List Value)) (k j : Nat) {u : List Value}, (∀ u ∈ cs, u.length = 19) → cs[k]? = some u → j < 19 → cs.flatten[k * 19 + j]? = u[j]?
  | [], k, j, u, _, h, _ => by simp at h
  | v :: cs, 0, j, u, hl, h, hj => by
    simp only [List.getElem?_cons_zero, Option.some.injEq] at h
    subst h
    rw [List.flatten_cons, List.getElem?_append_left (by rw [hl v List.mem_cons_self]; omega), Nat.zero_mul, Nat.zero_add]
  | v :: cs, k + 1, j, u, hl, h, hj => by
    rw [List.flatten_cons, List.getElem?_append_right (by rw [hl v List.mem_cons_self]; omega), hl v List.mem_cons_self]
    have := flat19_get cs k j (fun x hx => hl x (List.mem_cons_of_mem _ hx)) (by simpa using h) hj
    rw [← this]
    congr 1; omega
/-- A state out of a list. -/
theorem M.idxOut_i {kt : Kt} {w : World} {D : Nat → Prop} {v : Value} {outs : List Sy} {dd : IntKind} {i : Int} {t : Sy} (h : OutS w D v outs) (h0 : 0 ≤ i) (ht : outs[i.toNat]? = some t)
    (hK : ∀ bb oo (L : List Value), (∀ (j : Nat) y, L[j]? = some y → w.cell? ⟨bb, oo + j, none⟩ = some y) → SyO w D (.agg ⟨L⟩) t → kt (.pointer (some ⟨bb, oo, none⟩)) w) : M.indexSl 19 v (.int dd i) kt w := by
  obtain ⟨A, cap, cs, rfl, hr, h2, _, h3⟩ := h
  have hlt := (List.getElem?_eq_some_iff.1 ht).1
  have hall : ∀ u ∈ cs, u.length = 19 := fun u hu => by
    obtain ⟨k, hk⟩ := List.mem_iff_getElem?.1 hu
    have hkl := (List.getElem?_eq_some_iff.1 hk).1
    exact (h3 k u outs[k] hk (List.getElem?_eq_getElem (by omega))).len19
  obtain ⟨u, hu⟩ : ∃ u, cs[i.toNat]? = some u := ⟨_, List.getElem?_eq_getElem (by omega)⟩
  refine M.idxRowN_i hr (by rw [flat19 cs hall, h2]) (by omega) h0 (by omega) (fun b o hA hc => ?_)
  have hs := h3 _ u t hu ht
  refine hK b (o + i.toNat * 19) u (fun j y hy => ?_) hs
  have hj : j < 19 := by
    have := (List.getElem?_eq_some_iff.1 hy).1
    rw [hs.len19] at this; exact this
  rw [hc j hj, flat19_get cs _ j hall hu hj, hy]
theorem M.load19_i {kt : Kt} {w : World} {bb oo : Nat} {L : List Value} (hl : L.length = 19) (hc : ∀ (j : Nat) y, L[j]? = some y → w.cell? ⟨bb, oo + j, none⟩ = some y) (h : kt (.agg ⟨L⟩) w) : M.loadA 19 (.pointer (some ⟨bb, oo, none⟩)) kt w := by
  have := rdL_cells (w := w) (b := bb) (o := oo) (cs := L) 19 0 (fun j hj => hc j _ (List.getElem?_eq_getElem hj)) (by omega)
  unfold M.loadA
  simp only [this]
  exact h
theorem OutS.keep {w w' : World} {D S : Nat → Prop} {v : Value} {outs : List Sy} (h : OutS w D v outs) (k : Keep w w' S) (hs : ∀ b, b < w.heap.size → D b → ¬ S b) : OutS w' D v outs := by
  obtain ⟨A, cap, cs, h1, h2, h3, h4, h5⟩ := h
  exact ⟨A, cap, cs, h1, h2.keep k hs, h3, h4, fun k' u t g1 g2 => (h5 k' u t g1 g2).keep k hs⟩
theorem OutS.mono {w : World} {D D' : Nat → Prop} {v : Value} {outs : List Sy} (h : OutS w D v outs) (hd : ∀ b, b < w.heap.size → D b → D' b) : OutS w D' v outs := by
  obtain ⟨A, cap, cs, h1, h2, h3, h4, h5⟩ := h
  exact ⟨A, cap, cs, h1, h2.mono hd, h3, h4, fun k' u t g1 g2 => (h5 k' u t g1 g2).mono hd⟩
/-- What the terms do not hold stays. -/
theorem OutS.stepF {w w' : World} {F F' : Nat → Prop} {v : Value} {outs : List Sy} (h : OutS w (fun x => ¬ F x) v outs) (k : Keep w w' F) (hF : ∀ x, x < w.heap.size → F' x → F x) : OutS w' (fun x => ¬ F' x) v outs :=
  ((h.mono (D' := fun x => ¬ F x ∧ x < w.heap.size) (fun x hx h => ⟨h, hx⟩)).keep k (fun x _ h => h.1)).mono (fun x _ h hf => h.1 (hF x h.2 hf))
theorem SyO.stepF {w w' : World} {F F' : Nat → Prop} {v : Value} {t : Sy} (h : SyO w (fun x => ¬ F x) v t) (k : Keep w w' F) (hF : ∀ x, x < w.heap.size → F' x → F x) : SyO w' (fun x => ¬ F' x) v t :=
  ((h.mono (D' := fun x => ¬ F x ∧ x < w.heap.size) (fun x hx h => ⟨h, hx⟩)).keep k (fun x _ h => h.1)).mono (fun x _ h hf => h.1 (hF x h.2 hf))
theorem Step37_ok {w : World} {F : Nat → Prop} {p : Nat} {N : List Nd} {most : Int} {s : Sy} {D1 : Nat → Prop} {code : List Ins} {cv v : Value} {inputs mw : Int} {R : Rp} (hd : DagO w F p N most) (hcode : LN Ins.cells w D1 cv code) (hcl : code.length ≤ 1000000) (hs : SyO w (fun x => ¬ F x) v s) (hB : Bnd s) (hst : 0 ≤ s.steps ∧ s.steps ≤ 1000000) (hin : inputs ≤ 1000000) (hR : stepN most N code s inputs mw = R) :
    Ret Try.prog 10 #[ptr p, cv, v, vi inputs, vi mw] w (StepP w F p most R) := by
  subst hR
  exact Step37_ret hd hcode hcl hs (fun _ h => h) hB hst hin
/-- What of a list of states is read behind: no lists of theirs. -/
def OutR (w : World) (D : Nat → Prop) (v : Value) (outs : List Sy) : Prop :=
  ∃ A cap cs, v = .slice A outs.length cap ∧ Row w D A (List.flatten cs) ∧ cs.length = outs.length ∧ ∀ (k : Nat) u t, cs[k]? = some u → outs[k]? = some t → t.regs.length = 8 ∧ ∃ c a b d, u = t.vals c a b d ∧ ∃ A' cp, d = .slice A' t.conds.length cp
theorem OutS.r {w : World} {D : Nat → Prop} {v : Value} {outs : List Sy} (h : OutS w D v outs) : OutR w D v outs := by
  obtain ⟨A, cap, cs, h1, h2, h3, h4, h5⟩ := h
  refine ⟨A, cap, cs, h1, h2, h3, fun k u t g1 g2 => ?_⟩
  obtain ⟨h8, c, a, b, d, e, _, _, A', cp, hd, _⟩ := h5 k u t g1 g2
  simp only [Value.agg.injEq, Array.mk.injEq] at e
  exact ⟨h8, c, a, b, d, e, A', cp, hd⟩
theorem OutR.keep {w w' : World} {D S : Nat → Prop} {v : Value} {outs : List Sy} (h : OutR w D v outs) (k : Keep w w' S) (hs : ∀ b, b < w.heap.size → D b → ¬ S b) : OutR w' D v outs := by
  obtain ⟨A, cap, cs, h1, h2, h3, h4⟩ := h
  exact ⟨A, cap, cs, h1, h2.keep k hs, h3, h4⟩
theorem OutR.mono {w : World} {D D' : Nat → Prop} {v : Value} {outs : List Sy} (h : OutR w D v outs) (hd : ∀ b, b < w.heap.size → D b → D' b) : OutR w D' v outs := by
  obtain ⟨A, cap, cs, h1, h2, h3, h4⟩ := h
  exact ⟨A, cap, cs, h1, h2.mono hd, h3, h4⟩
/-- A run of more cells than a block has lies in another one. -/
theorem Row.off {w : World} {D : Nat → Prop} {A : Option Addr} {l L : List Value} {t : Nat} (h : Row w D A l) (hb : Blk w t L) (hl : L.length < l.length) : Row w (fun x => D x ∧ x ≠ t) A l := by
  rcases h with h | ⟨b, o, c, T, fz, h1, h2, h3, h4⟩
  · exact .inl h
  · refine .inr ⟨b, o, c, T, fz, h1, ⟨h2, fun e => ?_⟩, h3, h4⟩
    subst e
    obtain ⟨T', hT'⟩ := hb
    rw [h3] at hT'
    simp only [Option.some.injEq, Obj.cells.injEq] at hT'
    obtain ⟨rfl, _⟩ := hT'
    have := h4 (l.length - 1) (by omega)
    rw [List.getElem?_eq_getElem (show l.length - 1 < l.length by omega)] at this
    have h5 := (List.getElem?_eq_some_iff.1 (by simpa using this)).1
    omega
theorem OutR.off {w : World} {D : Nat → Prop} {v : Value} {outs : List Sy} {t : Nat} {L : List Value} (h : OutR w D v outs) (hb : Blk w t L) (hL : L.length = 19) (h2 : 2 ≤ outs.length) : OutR w (fun x => D x ∧ x ≠ t) v outs := by
  obtain ⟨A, cap, cs, h1, hr, h3, h4⟩ := h
  have hall : ∀ u ∈ cs, u.length = 19 := fun u hu => by
    obtain ⟨k, hk⟩ := List.mem_iff_getElem?.1 hu
    have hkl := (List.getElem?_eq_some_iff.1 hk).1
    obtain ⟨h8, c, a, b, d, e, _⟩ := h4 k u outs[k] hk (List.getElem?_eq_getElem (by omega))
    rw [e]; exact vals_len h8
  exact ⟨A, cap, cs, h1, Row.off hr hb (by rw [flat19 cs hall]; omega), h3, h4⟩
theorem OutR.stepF {w w' : World} {F F' Z : Nat → Prop} {v : Value} {outs : List Sy} (h : OutR w (fun x => ¬ F x ∧ Z x) v outs) (k : Keep w w' F) (hF : ∀ x, x < w.heap.size → F' x → F x) : OutR w' (fun x => ¬ F' x ∧ Z x) v outs :=
  ((h.mono (D' := fun x => (¬ F x ∧ Z x) ∧ x < w.heap.size) (fun x hx h => ⟨h, hx⟩)).keep k (fun x _ h => h.1.1)).mono (fun x _ h => ⟨fun hf => h.1.1 (hF x h.2 hf), h.1.2⟩)
theorem M.idxOutR_i {kt : Kt} {w : World} {D : Nat → Prop} {v : Value} {outs : List Sy} {dd : IntKind} {i : Int} {t : Sy} (h : OutR w D v outs) (h0 : 0 ≤ i) (ht : outs[i.toNat]? = some t)
    (hK : ∀ bb oo c a b d, t.regs.length = 8 → (∃ A' cp, d = .slice A' t.conds.length cp) → (∀ (j : Nat) y, (t.vals c a b d)[j]? = some y → w.cell? ⟨bb, oo + j, none⟩ = some y) → kt (.pointer (some ⟨bb, oo, none⟩)) w) : M.indexSl 19 v (.int dd i) kt w := by
  obtain ⟨A, cap, cs, rfl, hr, h2, h3⟩ := h
  have hlt := (List.getElem?_eq_some_iff.1 ht).1
  have hall : ∀ u ∈ cs, u.length = 19 := fun u hu => by
    obtain ⟨k, hk⟩ := List.mem_iff_getElem?.1 hu
    have hkl := (List.getElem?_eq_some_iff.1 hk).1
    obtain ⟨h8, c, a, b, d, e, _⟩ := h3 k u outs[k] hk (List.getElem?_eq_getElem (by omega))
    rw [e]; exact vals_len h8
  obtain ⟨u, hu⟩ : ∃ u, cs[i.toNat]? = some u := ⟨_, List.getElem?_eq_getElem (by omega)⟩
  obtain ⟨h8, c, a, b, d, e, hd⟩ := h3 _ u t hu ht
  refine M.idxRowN_i hr (by rw [flat19 cs hall, h2]) (by omega) h0 (by omega) (fun bb o hA hc => ?_)
  refine hK bb (o + i.toNat * 19) c a b d h8 hd (fun j y hy => ?_)
  rw [← e] at hy
  have hj : j < 19 := by
    have := (List.getElem?_eq_some_iff.1 hy).1
    rw [e, vals_len h8] at this; exact this
  rw [hc j hj, flat19_get cs _ j hall hu hj, hy]
def L3 (w : World) (D : Nat → Prop) (c a b d : Value) (s : Sy) : Prop := LV vi w D c s.cells ∧ SDvO w D a b s.dev ∧ LV vi w D d s.conds
theorem L3.keep {w w' : World} {D S : Nat → Prop} {c a b d : Value} {s : Sy} (h : L3 w D c a b d s) (k : Keep w w' S) (hs : ∀ x, x < w.heap.size → D x → ¬ S x) : L3 w' D c a b d s := ⟨h.1.keep k hs, h.2.1.keep k hs, h.2.2.keep k hs⟩
theorem L3.mono {w : World} {D D' : Nat → Prop} {c a b d : Value} {s : Sy} (h : L3 w D c a b d s) (hd : ∀ x, x < w.heap.size → D x → D' x) : L3 w D' c a b d s := ⟨h.1.mono hd, h.2.1.mono hd, h.2.2.mono hd⟩
theorem L3.stepF {w w' : World} {F F' Z : Nat → Prop} {c a b d : Value} {s : Sy} (h : L3 w (fun x => ¬ F x ∧ Z x) c a b d s) (k : Keep w w' F) (hF : ∀ x, x < w.heap.size → F' x → F x) : L3 w' (fun x => ¬ F' x ∧ Z x) c a b d s :=
  ((h.mono (D' := fun x => (¬ F x ∧ Z x) ∧ x < w.heap.size) (fun x hx h => ⟨h, hx⟩)).keep k (fun x _ h => h.1.1)).mono (fun x _ h => ⟨fun hf => h.1.1 (hF x h.2 hf), h.1.2⟩)
theorem LN.stepF {α : Type} {f : α → List Value} {w w' : World} {F F' Z : Nat → Prop} {v : Value} {xs : List α} (h : LN f w (fun x => ¬ F x ∧ Z x) v xs) (k : Keep w w' F) (hF : ∀ x, x < w.heap.size → F' x → F x) : LN f w' (fun x => ¬ F' x ∧ Z x) v xs :=
  ((h.mono (D' := fun x => (¬ F x ∧ Z x) ∧ x < w.heap.size) (fun x hx h => ⟨h, hx⟩)).keep k (fun x _ h => h.1.1)).mono (fun x _ h => ⟨fun hf => h.1.1 (hF x h.2 hf), h.1.2⟩)
theorem SyO.of3 {w : World} {D : Nat → Prop} {c a b d : Value} {t s : Sy} (h8 : t.regs.length = 8) (h : L3 w D c a b d s) (h1 : t.cells = s.cells) (h2 : t.dev = s.dev) (h3 : t.conds = s.conds) : SyO w D (.agg ⟨t.vals c a b d⟩) t := SyO.of_vals h8 ⟨by rw [h1]; exact h.1, by rw [h2]; exact h.2.1, by rw [h3]; exact h.2.2⟩
abbrev xN2 : List Nd := [⟨20, 64, 0, 0, 0, 5⟩, ⟨20, 64, 0, 0, 0, 6⟩]
abbrev xN3 : List Nd := xN2 ++ [⟨20, 64, 0, 0, 0, 0⟩]
abbrev xS : Sy := ⟨List.replicate 8 2, List.replicate (cellsOk 0) 2, 0, 0, 0, 0, 0, -1, ⟨[0, 1], [], 0⟩, []⟩
abbrev xCode : List Ins := [⟨9, 0, 0, 0, 0⟩, ⟨6, 0, 0, 0, 0⟩, ⟨10, 1, 0, 0, 0⟩]
def xR1 : Rp := stepN 200 xN3 xCode xS 1 2
def xS1 : Sy := xR1.2.2.getD 0 xS
def xR2 : Rp := stepN 200 xR1.1 xCode xS1 1 2
def xM0 : Sy := xR2.2.2.getD 0 xS
def xM1 : Sy := xR2.2.2.getD 1 xS
def xR3 : Rp := stepN 200 xR2.1 xCode xM1 1 2
def xT2 : Sy := xR3.2.2.getD 2 xS
abbrev xSo : Sy := { xS with pc := 2 }
def xR4 : Rp := stepN 200 xR3.1 xCode xSo 1 2
abbrev xSi : Sy := { xSo with regs := [2, 2, 2, 999, 2, 2, 2, 2] }
abbrev xSp : Sy := { xSi with en := 1 }
theorem eR1 : stepN 200 xN3 xCode xS 1 2 = xR1 := rfl
theorem eR2 : stepN 200 xR1.1 xCode xS1 1 2 = xR2 := rfl
theorem eR3 : stepN 200 xR2.1 xCode xM1 1 2 = xR3 := rfl
theorem eR4 : stepN 200 xR3.1 xCode xSo 1 2 = xR4 := rfl
theorem x1 : xR1.2.1 = 0 ∧ xR1.2.2.length = 1 ∧ xR1.2.2[0]? = some xS1 := ⟨by kernel_rfl, by kernel_rfl, by kernel_rfl⟩
theorem x2 : xR2.2.1 = 0 ∧ xR2.2.2.length = 2 ∧ xR2.2.2[0]? = some xM0 ∧ xR2.2.2[1]? = some xM1 := ⟨by kernel_rfl, by kernel_rfl, by kernel_rfl, by kernel_rfl⟩
theorem x3 : xR3.2.1 = 0 ∧ xR3.2.2.length = 3 ∧ xR3.2.2[2]? = some xT2 := ⟨by kernel_rfl, by kernel_rfl, by kernel_rfl⟩
theorem x4 : xR4.2.1 = 0 ∧ xR4.2.2.length = 1 := ⟨by kernel_rfl, by kernel_rfl⟩
theorem x5 : stepN 200 xR4.1 xCode xSi 1 2 = (xR4.1, 11, []) := by kernel_rfl
theorem x6 : stepN 200 xR4.1 xCode xSp 1 2 = (xR4.1, 0, []) := by kernel_rfl
theorem x7 : xM0.pc = 0 ∧ xM1.pc = 2 ∧ xM0.conds.length = 1 ∧ xT2.en = 2 ∧ xT2.code = 258 := ⟨by kernel_rfl, by kernel_rfl, by kernel_rfl, by kernel_rfl, by kernel_rfl⟩
theorem bnd_dec {s : Sy} (h : (decide (0 ≤ s.pc ∧ s.pc ≤ 1000000) && (decide (0 ≤ s.calls ∧ s.calls ≤ 1000000) && (decide (0 ≤ s.dev.ep ∧ s.dev.ep ≤ 1000000) && (decide (s.cells.length ≤ 100000) && (decide (s.dev.disk.length ≤ 100000) && (decide (s.dev.pend.length ≤ 100000) && (decide (s.conds.length ≤ 1000000) && decide (0 ≤ s.steps ∧ s.steps ≤ 1000000)))))))) = true) : Bnd s ∧ (0 ≤ s.steps ∧ s.steps ≤ 1000000) := by
  simp only [Bool.and_eq_true, decide_eq_true_eq] at h
  exact ⟨⟨h.1, h.2.1, h.2.2.1, h.2.2.2.1, h.2.2.2.2.1, h.2.2.2.2.2.1, h.2.2.2.2.2.2.1⟩, h.2.2.2.2.2.2.2⟩
theorem bxS : Bnd xS ∧ (0 ≤ xS.steps ∧ xS.steps ≤ 1000000) := bnd_dec (by kernel_rfl)
theorem bxS1 : Bnd xS1 ∧ (0 ≤ xS1.steps ∧ xS1.steps ≤ 1000000) := bnd_dec (by kernel_rfl)
theorem bxM1 : Bnd xM1 ∧ (0 ≤ xM1.steps ∧ xM1.steps ≤ 1000000) := bnd_dec (by kernel_rfl)
theorem bxSo : Bnd xSo ∧ (0 ≤ xSo.steps ∧ xSo.steps ≤ 1000000) := bnd_dec (by kernel_rfl)
theorem bxSi : Bnd xSi ∧ (0 ≤ xSi.steps ∧ xSi.steps ≤ 1000000) := bnd_dec (by kernel_rfl)
theorem bxSp : Bnd xSp ∧ (0 ≤ xSp.steps ∧ xSp.steps ≤ 1000000) := bnd_dec (by kernel_rfl)
end Go.Proofs.Ytanjlgafjgoaaaa
