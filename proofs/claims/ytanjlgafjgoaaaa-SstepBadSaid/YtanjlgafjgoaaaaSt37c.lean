import Derived.Test.YtanjlgafjgoaaaaSt37b
import Derived.Test.YtanjlgafjgoaaaaCon37
namespace Go.Proofs.Ytanjlgafjgoaaaa
open Go.Mw
set_option linter.unusedVariables false
set_option linter.unusedSimpArgs false
set_option maxRecDepth 100000
attribute [local irreducible] M.val M.unit M.next M.pick M.new M.nilCheck M.load1 M.loadA M.store M.fieldAddr M.indexSl M.indexArr M.slice M.makeSlice M.buildSlice M.len M.lenS M.cap M.append M.extract M.conv M.not M.neg M.bin M.shift M.eqB M.eqNil M.scat M.call M.callv M.gd M.share M.cond M.loop M.draw pureW readW Ret
/-! slices.Clip[[]int,int]: function 47 -/
def sh47 (x0 : Value) (R : Kt) (w : World) : Prop :=
  M.len x0 (fun t5 w =>
  M.len x0 (fun t7 w =>
  M.slice 1 x0 none (some t5) (some t7) (fun t8 w =>
  R t8 w) w) w) w
theorem ok47 (x0 : Value) (R : Kt) (w : World) (h : sh47 x0 R w) : Ret Try.prog 47 #[x0] w R :=
  ret_mk <| calls_of_comp mixed (c := Try.f47.body.getD .skip) (args := [x0]) (rs := [(ResultVar.tmp 2)]) (Ann.seq Ann.text (Ann.seq Ann.text Ann.leaf))
    Try.func47 (by kernel_rfl) (by kernel_rfl)
    (Eq.mp (by kernel_rfl) h)
/-! slices.Clone[[]int,int]: function 58 -/
def sh58 (x0 : Value) (R : Kt) (w : World) : Prop :=
  M.eqNil 1 false x0 (fun t4 w =>
  M.cond t4
  (R (Value.slice none 0 0) w)
  (M.buildSlice 3 1 #[.int .i64 0] 0 [] (fun t5 w =>
  M.append 3 1 8 #[.int .i64 0] t5 x0 (fun t7 w =>
  R t7 w) w) w)) w
theorem ok58 (x0 : Value) (R : Kt) (w : World) (h : sh58 x0 R w) : Ret Try.prog 58 #[x0] w R :=
  ret_mk <| calls_of_comp mixed (c := Try.f58.body.getD .skip) (args := [x0]) (rs := [(ResultVar.tmp 2)]) (Ann.seq Ann.text (Ann.seq (Ann.seq Ann.text (Ann.cond (Ann.seq Ann.text Ann.leaf) Ann.leaf)) (Ann.seq Ann.text Ann.leaf)))
    Try.func58 (by kernel_rfl) (by kernel_rfl)
    (Eq.mp (by kernel_rfl) h)
/-! slices.Clip[[]breakwater/api.SymPend,breakwater/api.SymPend]: function 62 -/
def sh62 (x0 : Value) (R : Kt) (w : World) : Prop :=
  M.len x0 (fun t5 w =>
  M.len x0 (fun t7 w =>
  M.slice 3 x0 none (some t5) (some t7) (fun t8 w =>
  R t8 w) w) w) w
theorem ok62 (x0 : Value) (R : Kt) (w : World) (h : sh62 x0 R w) : Ret Try.prog 62 #[x0] w R :=
  ret_mk <| calls_of_comp mixed (c := Try.f62.body.getD .skip) (args := [x0]) (rs := [(ResultVar.tmp 2)]) (Ann.seq Ann.text (Ann.seq Ann.text Ann.leaf))
    Try.func62 (by kernel_rfl) (by kernel_rfl)
    (Eq.mp (by kernel_rfl) h)
/-! (*breakwater/sstep.stepper).add: function 25 -/
def sh25 (x0 x1 x2 : Value) (R : Kt) (w : World) : Prop :=
  M.new 42 (Value.cells x1) (fun t4 w =>
  M.nilCheck x0 (fun t9 w =>
  M.fieldAddr 28 t9 (fun t10 w =>
  M.load1 t10 (fun t11 w =>
  M.bin .neq t11 (Value.int IntKind.i64 0) (fun t12 w =>
  M.cond t12
  (R (.tuple #[]) w)
  (M.share (fun K1 w =>
  M.bin .geq x2 (Value.int IntKind.i64 0) (fun t14 w =>
  M.cond t14
  (M.nilCheck x0 (fun t17 w =>
  M.fieldAddr 0 t17 (fun t18 w =>
  M.load1 t18 (fun t19 w =>
  M.call Try.prog 46 #[t19, x2] (fun t21 w =>
  M.extract 0 t21 (fun t22 w =>
  M.extract 1 t21 (fun t23 w =>
  M.share (fun K2 w =>
  M.gd t23 true (fun k w => k t22 w) (fun t27 w =>
  M.gd t23 true (fun k w => M.bin .eql t27 (Value.int IntKind.u64 0) k w) (fun t28 w =>
  M.pick t23 t28 (Value.bool false) (fun t29 w =>
  M.cond t29
  (R (.tuple #[]) w)
  (M.not t23 (fun t32 w =>
  M.cond t32
  (M.fieldAddr 18 t4 (fun t33 w =>
  M.load1 t33 (fun t34 w =>
  M.call Try.prog 47 #[t34] (fun t35 w =>
  M.buildSlice 3 1 #[.int .i64 0] 1 [(0, x2)] (fun t37 w =>
  M.append 3 1 8 #[.int .i64 0] t35 t37 (fun t38 w =>
  M.fieldAddr 18 t4 (fun t39 w =>
  M.store 1 t39 t38 (fun _ w =>
  K2 [] w) w) w) w) w) w) w) w)
  (K2 [] w)) w)) w) w) w) (fun s2 w => ∀ _ : List Value,
  K1 [] w) w) w) w) w) w) w) w)
  (K1 [] w)) w) (fun s1 w => ∀ _ : List Value,
  M.draw (fun w =>
  M.nilCheck x0 (fun t42 w =>
  M.fieldAddr 27 t42 (fun t43 w =>
  M.load1 t43 (fun t44 w =>
  M.loadA 19 t4 (fun t45 w =>
  M.buildSlice 42 19 #[.int .i64 0, .int .i64 0, .int .i64 0, .int .i64 0, .int .i64 0, .int .i64 0, .int .i64 0, .int .i64 0, .slice none 0 0, .int .i64 0, .int .i64 0, .int .i64 0, .int .i64 0, .int .i64 0, .int .i64 0, .slice none 0 0, .slice none 0 0, .int .i64 0, .slice none 0 0] 1 [(0, t45)] (fun t46 w =>
  ((M.load1 t43 (fun v' _ => v' = t44) w) ∧ M.append 42 19 216 #[.int .i64 0, .int .i64 0, .int .i64 0, .int .i64 0, .int .i64 0, .int .i64 0, .int .i64 0, .int .i64 0, .slice none 0 0, .int .i64 0, .int .i64 0, .int .i64 0, .int .i64 0, .int .i64 0, .int .i64 0, .slice none 0 0, .slice none 0 0, .int .i64 0, .slice none 0 0] t44 t46 (fun t47 w =>
  M.nilCheck x0 (fun t48 w =>
  M.fieldAddr 27 t48 (fun t49 w =>
  M.store 1 t49 t47 (fun _ w =>
  R (.tuple #[]) w) w) w) w) w)) w) w) w) w) w) w) w)) w) w) w) w) w
theorem ok25 (x0 x1 x2 : Value) (R : Kt) (w : World) (h : sh25 x0 x1 x2 R w) : Ret Try.prog 25 #[x0, x1, x2] w R :=
  ret_mk <| calls_of_comp mixed (c := Try.f25.body.getD .skip) (args := [x0, x1, x2]) (rs := []) (Ann.seq Ann.text (Ann.seq (Ann.seq Ann.text (Ann.cond Ann.leaf Ann.leaf)) (Ann.join [] [6, 7, 13, 14, 15, 16, 17, 18, 19, 20, 21, 22, 23, 24, 25, 26, 27, 28, 29, 30, 31, 32, 33, 34, 35, 36, 37, 38, 39] (Ann.seq Ann.text (Ann.cond (Ann.seq Ann.text (Ann.jblock [] [24, 25, 26, 27, 28, 29, 30, 31, 32, 33, 34, 35, 36, 37, 38, 39] (Ann.seq Ann.text (Ann.cond Ann.leaf (Ann.seq Ann.text (Ann.cond Ann.text Ann.leaf)))))) Ann.leaf)) (Ann.draw (Sch.take 0 (Sch.take 1 (Sch.take 2 (Sch.take 3 (Sch.take 4 (Sch.take 5 (Sch.one 6 (Sch.one 7 (Sch.take 8 (Sch.take 9 (Sch.one 10 Sch.done)))))))))))))))
    Try.func25 (by kernel_rfl) (by kernel_rfl)
    (Eq.mp (by kernel_rfl) h)

theorem M.appendF_i {k : Kt} {w : World} {el sz bytes : Nat} {zero : Array Value} {D D' : Nat → Prop} {A B : Option Addr} {n m c : Nat} {xs ys : List Value}
    (h : Row w D A xs) (hx : xs.length = n * sz) (hr : Row w D' B ys) (hm : ys.length = m * sz) (hm0 : 0 < m) (hz : zero.size = sz) (hb0 : 0 < bytes)
    (hb : (2 * (n + m) + 512) * bytes ≤ 281474976710656)
    (hk : ∀ v' w', GC w' (w.heap.size ≤ ·) sz v' (n + m) (xs ++ ys) → Keep w w' No → k v' w') : M.append el sz bytes zero (.slice A n n) (.slice B m c) k w := by
  have hsrc := hr.srcL hm.symm
  have hold := h.srcL hx.symm
  have hlen : (xs ++ ys).length = (n + m) * sz := by simp [hx, hm, Nat.add_mul]
  unfold M.append
  refine ⟨ys, hsrc, ?_⟩
  rw [if_neg (by omega)]
  have hn := Go.Mw.nextslicecap_le (n := n + m) (c := n) (by omega)
  refine ⟨⟨Nat.le_trans (Nat.mul_le_mul_right bytes hn) hb, hb0⟩, xs, hold, fun c' h1 h2 => ?_⟩
  refine hk _ _ ⟨hlen, .inr ⟨_, c', (Builtin.zeroCells zero (c' - (n + m))).toList, rfl, Nat.le_refl _, ?_, ?_⟩⟩ ?_
  · have := Blk.alloc w.drew (xs ++ ys ++ (Builtin.zeroCells zero (c' - (n + m))).toList) el
    simpa using this
  · have e1 : (Builtin.zeroCells zero (c' - (n + m))).toList.length = (c' - (n + m)) * sz := by simp [Builtin.zeroCells, hz]
    rw [e1, hlen, ← Nat.add_mul]
    congr 1; omega
  · exact (Keep.drew w No).trans (Keep.alloc w.drew _ No) (fun _ _ h => h)
theorem sl3_full {n c : Nat} (h : n ≤ c) : sl3 n c none (some (vi n)) (some (vi n)) = some (0, n, n) := by
  unfold sl3; simp only [sb_i h, sb_i (Nat.le_refl n)]
theorem Row.samez {w : World} {D : Nat → Prop} {A : Option Addr} {l : List Value} {sz n : Nat} (h : Row w D A l) (hn : l.length = n * sz) : Row w D (if n = 0 then A else A.map (·.add (0 * sz))) l := by
  split
  · exact h
  · have := h.drop 0
    simpa [add_mk] using this
section
variable {w : World} {D : Nat → Prop}
theorem clip1_ret {A : Option Addr} {n c : Nat} (hc : n ≤ c) : Ret Try.prog 47 #[.slice A n c] w (fun r w' => r = .slice (if n = 0 then A else A.map (·.add (0 * 1))) n n ∧ w = w') := by
  refine ok47 _ _ _ ?_
  unfold sh47
  (repeat (first|refine ja ?_|refine jb ?_|refine jc ?_|refine jd ?_|refine je ?_|refine jf ?_|refine jg ?_|refine jh ?_|refine ji ?_|refine jj ?_|refine jk ?_|refine jl ?_|refine jm ?_|refine jn ?_|refine jo ?_|refine jp ?_|refine jq ?_|refine jr ?_|refine js ?_|refine jt ?_|refine ju ?_|refine jv ?_|refine jw ?_|refine jx ?_|refine jy ?_|refine jz ?_|refine jA ?_|refine jB ?_|refine jC ?_|refine jD ?_|refine jE ?_|refine jF ?_|refine jG ?_|refine jH ?_|refine jI ?_|refine jJ ?_|refine jK ?_|refine jL ?_|refine jM (by assumption) ?_|refine jN (by assumption) rfl ?_|refine jO (by assumption) ?_|refine jP (by assumption) rfl ?_|refine jQ ?_|refine jR ?_|refine jS ?_|refine jT ?_|refine jU (by assumption) rfl ?_))
  refine M.slice_i 0 n n (sl3_full hc) ?_
  exact ⟨rfl, rfl⟩
theorem clip3_ret {A : Option Addr} {n c : Nat} (hc : n ≤ c) : Ret Try.prog 62 #[.slice A n c] w (fun r w' => r = .slice (if n = 0 then A else A.map (·.add (0 * 3))) n n ∧ w = w') := by
  refine ok62 _ _ _ ?_
  unfold sh62
  (repeat (first|refine ja ?_|refine jb ?_|refine jc ?_|refine jd ?_|refine je ?_|refine jf ?_|refine jg ?_|refine jh ?_|refine ji ?_|refine jj ?_|refine jk ?_|refine jl ?_|refine jm ?_|refine jn ?_|refine jo ?_|refine jp ?_|refine jq ?_|refine jr ?_|refine js ?_|refine jt ?_|refine ju ?_|refine jv ?_|refine jw ?_|refine jx ?_|refine jy ?_|refine jz ?_|refine jA ?_|refine jB ?_|refine jC ?_|refine jD ?_|refine jE ?_|refine jF ?_|refine jG ?_|refine jH ?_|refine jI ?_|refine jJ ?_|refine jK ?_|refine jL ?_|refine jM (by assumption) ?_|refine jN (by assumption) rfl ?_|refine jO (by assumption) ?_|refine jP (by assumption) rfl ?_|refine jQ ?_|refine jR ?_|refine jS ?_|refine jT ?_|refine jU (by assumption) rfl ?_))
  refine M.slice_i 0 n n (sl3_full hc) ?_
  exact ⟨rfl, rfl⟩
theorem clone37_ret {v : Value} {xs : List Int} (h : LV vi w D v xs) (hf : xs.length ≤ 1000000) : Ret Try.prog 58 #[v] w (fun r w' => GI w' (w.heap.size ≤ ·) r xs ∧ Keep w w' No) := by
  obtain ⟨A, c, rfl, hr, hc⟩ := h
  refine ok58 _ _ _ ?_
  unfold sh58
  cases A with
  | none =>
    have hx : xs = [] := by
      rcases hr with h | ⟨_, _, _, _, _, h, _⟩
      · simpa using h
      · cases h
    subst hx
    (repeat (first|refine ja ?_|refine jb ?_|refine jc ?_|refine jd ?_|refine je ?_|refine jf ?_|refine jg ?_|refine jh ?_|refine ji ?_|refine jj ?_|refine jk ?_|refine jl ?_|refine jm ?_|refine jn ?_|refine jo ?_|refine jp ?_|refine jq ?_|refine jr ?_|refine js ?_|refine jt ?_|refine ju ?_|refine jv ?_|refine jw ?_|refine jx ?_|refine jy ?_|refine jz ?_|refine jA ?_|refine jB ?_|refine jC ?_|refine jD ?_|refine jE ?_|refine jF ?_|refine jG ?_|refine jH ?_|refine jI ?_|refine jJ ?_|refine jK ?_|refine jL ?_|refine jM (by assumption) ?_|refine jN (by assumption) rfl ?_|refine jO (by assumption) ?_|refine jP (by assumption) rfl ?_|refine jQ ?_|refine jR ?_|refine jS ?_|refine jT ?_|refine jU (by assumption) rfl ?_))
    exact ⟨GI.nil _ _, Keep.refl _ _⟩
  | some ad =>
    (repeat (first|refine ja ?_|refine jb ?_|refine jc ?_|refine jd ?_|refine je ?_|refine jf ?_|refine jg ?_|refine jh ?_|refine ji ?_|refine jj ?_|refine jk ?_|refine jl ?_|refine jm ?_|refine jn ?_|refine jo ?_|refine jp ?_|refine jq ?_|refine jr ?_|refine js ?_|refine jt ?_|refine ju ?_|refine jv ?_|refine jw ?_|refine jx ?_|refine jy ?_|refine jz ?_|refine jA ?_|refine jB ?_|refine jC ?_|refine jD ?_|refine jE ?_|refine jF ?_|refine jG ?_|refine jH ?_|refine jI ?_|refine jJ ?_|refine jK ?_|refine jL ?_|refine jM (by assumption) ?_|refine jN (by assumption) rfl ?_|refine jO (by assumption) ?_|refine jP (by assumption) rfl ?_|refine jQ ?_|refine jR ?_|refine jS ?_|refine jT ?_|refine jU (by assumption) rfl ?_))
    refine M.buildSlice_i [] (by kernel_rfl) (fun w1 b1 k1 s1 => ?_)
    have g1 : GI w1 (w.heap.size ≤ ·) (.slice (some ⟨w.heap.size, 0, none⟩) 0 0) [] := GC.of_blk b1 (Nat.le_refl _) rfl
    refine M.appendI_i rfl g1 (hr.keep k1 (fun _ _ _ h => h)) rfl (by simp; omega) (fun v2 w2 g2 k2 => ?_)
    have q1 := k1.size
    exact ⟨g2.mono (fun b hb h => by
      rcases h with h | h
      · exact h
      · show w.heap.size ≤ b; omega), k1.trans k2 (fun b hb h => by have h : w.heap.size ≤ b := h; omega)⟩
end
section
variable {w : World} {F : Nat → Prop} {p pb : Nat} {N : List Nd} {most : Int} {s : Sy} {sv : List Value} {i : Ins} {inputs mw : Int} {ov : Value} {outs : List Sy} {e : Int}
theorem Stp.fresh (h : Stp w F p pb N most s sv i inputs mw ov outs e) {b : Nat} (hb : w.heap.size ≤ b) : Fr F pb ov b := by
  refine ⟨fun hf => by have := h.dag.lt hf; omega, fun e => by have := h.blk.lt; omega, fun ho => ?_⟩
  obtain ⟨cs, h1, _⟩ := h.oo
  obtain ⟨_, l, hl⟩ := GC.blkOf h1 ho
  have := hl.lt
  omega
theorem Stp.ovlt (h : Stp w F p pb N most s sv i inputs mw ov outs e) {b : Nat} (hb : blkOf ov b) : b < w.heap.size := by
  obtain ⟨cs, h1, _⟩ := h.oo
  obtain ⟨_, l, hl⟩ := GC.blkOf h1 hb
  exact hl.lt
/-- One more state. -/
theorem Stp.push {w1 w2 : World} {ov' : Value} {L : List Value} {s' : Sy} (h : Stp w F p pb N most s sv i inputs mw ov outs e) (k1 : Keep w w1 (blkOf ov)) {cs : List (List Value)} (h2 : cs.length = outs.length) (h3 : ∀ (k : Nat) v s, cs[k]? = some v → outs[k]? = some s → SyO w (Fr F pb ov) (.agg ⟨v⟩) s) (g : GC w1 (fun b => blkOf ov b ∨ w.heap.size ≤ b) 19 ov' (outs.length + 1) (cs.flatten ++ L)) (hs : SyO w (Fr F pb ov) (.agg ⟨L⟩) s')
    (hb : Blk w2 pb (stpL p sv i inputs mw ov' e)) (k2 : Keep w1 w2 (· = pb)) : Stp w2 F p pb N most s sv i inputs mw ov' (outs ++ [s']) e ∧ Mv w F pb ov w2 F ov' := by
  have k12 : Keep w w2 (Ch F pb ov) := (k1.mono (fun _ _ h => .inr (.inr h))).trans k2 (fun b hb h => .inr (.inl h))
  have hov' : ∀ b, blkOf ov' b → blkOf ov b ∨ w.heap.size ≤ b := fun b hb => (GC.blkOf g hb).1
  have m : Mv w F pb ov w2 F ov' := ⟨k12, fun _ _ h => h, fun b hb hx => (hov' b hx).resolve_right (by omega)⟩
  have hon : ∀ x, blkOf ov' x → ¬ F x ∧ x ≠ pb := fun x hx => by
    rcases hov' x hx with hx | hx
    · exact h.on x hx
    · have := h.fresh hx
      exact ⟨this.1, this.2.1⟩
  refine ⟨⟨(h.dag.keep k1 (fun b hf hx => (h.on b hx).1 hf)).keep k2 (fun b hf hx => h.nF (by have hx : b = pb := hx; rw [← hx]; exact hf)), h.nF, hb, ?_, hon, h.sy.mv m⟩, m⟩
  refine ⟨cs ++ [L], ?_, by simp [h2], fun k v t g1 g2 => ?_⟩
  · rw [List.flatten_append, List.length_append]
    simp only [List.flatten_cons, List.flatten_nil, List.append_nil, List.length_singleton]
    exact (GC.own g).keep k2 (fun b _ hx e => (hon b hx).2 e)
  · by_cases hk : k < cs.length
    · rw [List.getElem?_append_left hk] at g1
      rw [List.getElem?_append_left (by omega)] at g2
      exact (h3 k v t g1 g2).mv m
    · have hkl := (List.getElem?_eq_some_iff.1 g1).1
      rw [List.length_append, List.length_singleton] at hkl
      have ek : k = cs.length := by omega
      subst ek
      rw [List.getElem?_append_right (Nat.le_refl _), Nat.sub_self] at g1
      rw [List.getElem?_append_right (by omega), h2, Nat.sub_self] at g2
      simp only [List.getElem?_cons_zero, Option.some.injEq] at g1 g2
      subst g1 g2
      exact hs.mv m
theorem addP_err {s' : Sy} {cnd : Int} (h : e ≠ 0) : addP N e outs s' cnd = outs := by unfold addP; rw [if_pos h]
theorem addP_neg {s' : Sy} {cnd : Int} (h : e = 0) (hc : ¬ 0 ≤ cnd) : addP N e outs s' cnd = outs ++ [s'] := by unfold addP; rw [if_neg (fun x => x h), if_neg hc]
theorem addP_zero {s' : Sy} {cnd : Int} (h : e = 0) (hc : 0 ≤ cnd) (hk : knownN N cnd = some 0) : addP N e outs s' cnd = outs := by unfold addP; rw [if_neg (fun x => x h), if_pos hc, hk]; simp
theorem addP_some {s' : Sy} {cnd : Int} {x : W64} (h : e = 0) (hc : 0 ≤ cnd) (hk : knownN N cnd = some x) (hx : x ≠ 0) : addP N e outs s' cnd = outs ++ [s'] := by unfold addP; rw [if_neg (fun x => x h), if_pos hc, hk]; simp only []; rw [if_neg hx]
theorem addP_none {s' : Sy} {cnd : Int} (h : e = 0) (hc : 0 ≤ cnd) (hk : knownN N cnd = none) : addP N e outs s' cnd = outs ++ [{ s' with conds := s'.conds ++ [cnd] }] := by unfold addP; rw [if_neg (fun x => x h), if_pos hc, hk]
theorem addP_len {s' : Sy} {cnd : Int} : (addP N e outs s' cnd).length ≤ outs.length + 1 := by
  unfold addP
  split
  · omega
  · split
    · split
      · split
        · omega
        · simp
      · simp
    · simp
set_option maxHeartbeats 2000000 in
theorem add37_ret {v : Value} {s' : Sy} (h : Stp w F p pb N most s sv i inputs mw ov outs e) (hs : SyO w (Fr F pb ov) v s') (hcl : s'.conds.length ≤ 1000000) (hol : outs.length ≤ 1000000) (cnd : Int) :
    Ret Try.prog 25 #[ptr pb, v, vi cnd] w (fun r w' => r = .tuple #[] ∧ ∃ ov', Stp w' F p pb N most s sv i inputs mw ov' (addP N e outs s' cnd) e ∧ Mv w F pb ov w' F ov') := by
  obtain ⟨h8, c, a, b, d, rfl, hc, hdv, hcd⟩ := hs
  obtain ⟨regs, cells, pc, steps, calls, en, code, value, ⟨disk, pend, ep⟩, conds⟩ := s'
  obtain ⟨r0, r1, r2, r3, r4, r5, r6, r7, rfl⟩ := eight h8
  refine ok25 _ _ _ _ _ ?_
  unfold sh25
  refine M.new_i (l := [vi r0, vi r1, vi r2, vi r3, vi r4, vi r5, vi r6, vi r7, c, vi pc, vi steps, vi calls, vi en, vi code, vi value, a, b, vi ep, d]) (fun w1 b1 k1 s1 => ?_)
  have h1 := h.keepN k1
  have hce := h1.ce
  by_cases h0 : e = 0
  case neg =>
    (repeat (first|refine ja ?_|refine jb ?_|refine jc ?_|refine jd ?_|refine je ?_|refine jf ?_|refine jg ?_|refine jh ?_|refine ji ?_|refine jj ?_|refine jk ?_|refine jl ?_|refine jm ?_|refine jn ?_|refine jo ?_|refine jp ?_|refine jq ?_|refine jr ?_|refine js ?_|refine jt ?_|refine ju ?_|refine jv ?_|refine jw ?_|refine jx ?_|refine jy ?_|refine jz ?_|refine jA ?_|refine jB ?_|refine jC ?_|refine jD ?_|refine jE ?_|refine jF ?_|refine jG ?_|refine jH ?_|refine jI ?_|refine jJ ?_|refine jK ?_|refine jL ?_|refine jM (by assumption) ?_|refine jN (by assumption) rfl ?_|refine jO (by assumption) ?_|refine jP (by assumption) rfl ?_|refine jQ ?_|refine jR ?_|refine jS ?_|refine jT ?_|refine jU (by assumption) rfl ?_))
    exact ⟨rfl, ov, by rw [addP_err h0]; exact h1, Mv.none k1⟩
  (repeat (first|refine ja ?_|refine jb ?_|refine jc ?_|refine jd ?_|refine je ?_|refine jf ?_|refine jg ?_|refine jh ?_|refine ji ?_|refine jj ?_|refine jk ?_|refine jl ?_|refine jm ?_|refine jn ?_|refine jo ?_|refine jp ?_|refine jq ?_|refine jr ?_|refine js ?_|refine jt ?_|refine ju ?_|refine jv ?_|refine jw ?_|refine jx ?_|refine jy ?_|refine jz ?_|refine jA ?_|refine jB ?_|refine jC ?_|refine jD ?_|refine jE ?_|refine jF ?_|refine jG ?_|refine jH ?_|refine jI ?_|refine jJ ?_|refine jK ?_|refine jL ?_|refine jM (by assumption) ?_|refine jN (by assumption) rfl ?_|refine jO (by assumption) ?_|refine jP (by assumption) rfl ?_|refine jQ ?_|refine jR ?_|refine jS ?_|refine jT ?_|refine jU (by assumption) rfl ?_))
  have hc1 := hc.keep k1 (fun _ _ _ h => h)
  have hdv1 := hdv.keep k1 (fun _ _ _ h => h)
  have hcd1 := hcd.keep k1 (fun _ _ _ h => h)
  have goal2 : ∀ (n0 : Nat), n0 = w.heap.size → ∀ (w2 : World) (d' : Value) (conds' : List Int) (R : Kt), Stp w2 F p pb N most s sv i inputs mw ov outs e → Mv w F pb ov w2 F ov → Blk w2 w.heap.size [vi r0, vi r1, vi r2, vi r3, vi r4, vi r5, vi r6, vi r7, c, vi pc, vi steps, vi calls, vi en, vi code, vi value, a, b, vi ep, d'] → LV vi w2 (Fr F pb ov) c cells → SDvO w2 (Fr F pb ov) a b ⟨disk, pend, ep⟩ → LV vi w2 (Fr F pb ov) d' conds' →
      (∀ w3, (∃ ov', Stp w3 F p pb N most s sv i inputs mw ov' (outs ++ [⟨[r0, r1, r2, r3, r4, r5, r6, r7], cells, pc, steps, calls, en, code, value, ⟨disk, pend, ep⟩, conds'⟩]) e ∧ Mv w F pb ov w3 F ov') → R (.tuple #[]) w3) →
      M.draw (fun w => M.nilCheck (ptr pb) (fun t42 w => M.fieldAddr 27 t42 (fun t43 w => M.load1 t43 (fun t44 w => M.loadA 19 (ptr n0) (fun t45 w =>
        M.buildSlice 42 19 #[.int .i64 0, .int .i64 0, .int .i64 0, .int .i64 0, .int .i64 0, .int .i64 0, .int .i64 0, .int .i64 0, .slice none 0 0, .int .i64 0, .int .i64 0, .int .i64 0, .int .i64 0, .int .i64 0, .int .i64 0, .slice none 0 0, .slice none 0 0, .int .i64 0, .slice none 0 0] 1 [(0, t45)] (fun t46 w =>
        ((M.load1 t43 (fun v' _ => v' = t44) w) ∧ M.append 42 19 216 #[.int .i64 0, .int .i64 0, .int .i64 0, .int .i64 0, .int .i64 0, .int .i64 0, .int .i64 0, .int .i64 0, .slice none 0 0, .int .i64 0, .int .i64 0, .int .i64 0, .int .i64 0, .int .i64 0, .int .i64 0, .slice none 0 0, .slice none 0 0, .int .i64 0, .slice none 0 0] t44 t46 (fun t47 w =>
        M.nilCheck (ptr pb) (fun t48 w => M.fieldAddr 27 t48 (fun t49 w => M.store 1 t49 t47 (fun _ w => R (.tuple #[]) w) w) w) w) w)) w) w) w) w) w) w2 := by
    intro n0 en0 w2 d' conds' R h2 m2 b2 hc2 hdv2 hcd2 hR
    subst en0
    have kd := Keep.drew w2 No
    have h3 := h2.keepN kd
    have hco := h3.co
    have b3 := b2.keep kd (fun h => h)
    (repeat (first|refine ja ?_|refine jb ?_|refine jc ?_|refine jd ?_|refine je ?_|refine jf ?_|refine jg ?_|refine jh ?_|refine ji ?_|refine jj ?_|refine jk ?_|refine jl ?_|refine jm ?_|refine jn ?_|refine jo ?_|refine jp ?_|refine jq ?_|refine jr ?_|refine js ?_|refine jt ?_|refine ju ?_|refine jv ?_|refine jw ?_|refine jx ?_|refine jy ?_|refine jz ?_|refine jA ?_|refine jB ?_|refine jC ?_|refine jD ?_|refine jE ?_|refine jF ?_|refine jG ?_|refine jH ?_|refine jI ?_|refine jJ ?_|refine jK ?_|refine jL ?_|refine jM (by assumption) ?_|refine jN (by assumption) rfl ?_|refine jO (by assumption) ?_|refine jP (by assumption) rfl ?_|refine jQ ?_|refine jR ?_|refine jS ?_|refine jT ?_|refine jU (by assumption) rfl ?_))
    refine M.loadAll_i b3 rfl ?_
    refine M.buildSlice_i [vi r0, vi r1, vi r2, vi r3, vi r4, vi r5, vi r6, vi r7, c, vi pc, vi steps, vi calls, vi en, vi code, vi value, a, b, vi ep, d'] (by kernel_rfl) (fun w5 b5 k5 s5 => ?_)
    have h5 := h3.keepN k5
    have hco5 := h5.co
    refine M.st_i hco5 ?_
    have k25 : Keep w2 w5 No := kd.trans k5 (fun _ _ h => h)
    have o1 := LV.one hc2
    have o2 := LV.one hdv2.1
    have o3 := LN.one hdv2.2
    have o4 := LV.one hcd2
    obtain ⟨cs, g1, g2, g3⟩ := h5.oo
    refine M.append_i g1 (Row.of_blk' (D := fun _ => True) b5 trivial) rfl (vals_one (s := ⟨[r0, r1, r2, r3, r4, r5, r6, r7], cells, pc, steps, calls, en, code, value, ⟨disk, pend, ep⟩, conds'⟩) o1 o2 o3 o4) rfl (by omega) (by omega) (fun v6 w6 g6 k6 => ?_)
    (repeat (first|refine ja ?_|refine jb ?_|refine jc ?_|refine jd ?_|refine je ?_|refine jf ?_|refine jg ?_|refine jh ?_|refine ji ?_|refine jj ?_|refine jk ?_|refine jl ?_|refine jm ?_|refine jn ?_|refine jo ?_|refine jp ?_|refine jq ?_|refine jr ?_|refine js ?_|refine jt ?_|refine ju ?_|refine jv ?_|refine jw ?_|refine jx ?_|refine jy ?_|refine jz ?_|refine jA ?_|refine jB ?_|refine jC ?_|refine jD ?_|refine jE ?_|refine jF ?_|refine jG ?_|refine jH ?_|refine jI ?_|refine jJ ?_|refine jK ?_|refine jL ?_|refine jM (by assumption) ?_|refine jN (by assumption) rfl ?_|refine jO (by assumption) ?_|refine jP (by assumption) rfl ?_|refine jQ ?_|refine jR ?_|refine jS ?_|refine jT ?_|refine jU (by assumption) rfl ?_))
    have b6 : Blk w6 pb _ := h5.blk.keep k6 (fun hx => (h5.on pb hx).2 rfl)
    have hl := h5.sy.len19
    refine M.store_i b6 (by rw [stpL_len hl]; omega) (GC.one g6) (fun w7 b7 k7 s7 => ?_)
    rw [show 0 + 27 = 27 from rfl, stpL_setO hl] at b7
    have hs5 : SyO w5 (Fr F pb ov) (.agg ⟨[vi r0, vi r1, vi r2, vi r3, vi r4, vi r5, vi r6, vi r7, c, vi pc, vi steps, vi calls, vi en, vi code, vi value, a, b, vi ep, d']⟩) ⟨[r0, r1, r2, r3, r4, r5, r6, r7], cells, pc, steps, calls, en, code, value, ⟨disk, pend, ep⟩, conds'⟩ := ⟨rfl, c, a, b, d', rfl, hc2.keep k25 (fun _ _ _ h => h), hdv2.keep k25 (fun _ _ _ h => h), hcd2.keep k25 (fun _ _ _ h => h)⟩
    obtain ⟨h7, m7⟩ := h5.push (w2 := w7) k6 g2 g3 g6 hs5 b7 k7
    exact hR w7 ⟨v6, h7, (m2.trans (Mv.none k25)).trans m7⟩
  refine M.share_j (fun vals w' => vals = [] ∧ ∃ (d' : Value) (conds' : List Int), Stp w' F p pb N most s sv i inputs mw ov outs e ∧ Mv w F pb ov w' F ov ∧ Blk w' w.heap.size [vi r0, vi r1, vi r2, vi r3, vi r4, vi r5, vi r6, vi r7, c, vi pc, vi steps, vi calls, vi en, vi code, vi value, a, b, vi ep, d'] ∧ LV vi w' (Fr F pb ov) c cells ∧ SDvO w' (Fr F pb ov) a b ⟨disk, pend, ep⟩ ∧ LV vi w' (Fr F pb ov) d' conds' ∧ addP N e outs ⟨[r0, r1, r2, r3, r4, r5, r6, r7], cells, pc, steps, calls, en, code, value, ⟨disk, pend, ep⟩, conds⟩ cnd = outs ++ [⟨[r0, r1, r2, r3, r4, r5, r6, r7], cells, pc, steps, calls, en, code, value, ⟨disk, pend, ep⟩, conds'⟩]) ?_ ?_
  · rintro vals w2 ⟨rfl, d', conds', h2, m2, b2, q1, q2, q3, q4⟩ _
    refine goal2 _ rfl w2 d' conds' (fun r w' => r = .tuple #[] ∧ ∃ ov', Stp w' F p pb N most s sv i inputs mw ov' (addP N e outs ⟨[r0, r1, r2, r3, r4, r5, r6, r7], cells, pc, steps, calls, en, code, value, ⟨disk, pend, ep⟩, conds⟩ cnd) e ∧ Mv w F pb ov w' F ov') h2 m2 b2 q1 q2 q3 (fun w3 h3 => ⟨rfl, ?_⟩)
    obtain ⟨ov', h4, m4⟩ := h3
    exact ⟨ov', by rw [q4]; exact h4, m4⟩
  intro K hK
  by_cases hc0 : 0 ≤ cnd
  case neg =>
    (repeat (first|refine ja ?_|refine jb ?_|refine jc ?_|refine jd ?_|refine je ?_|refine jf ?_|refine jg ?_|refine jh ?_|refine ji ?_|refine jj ?_|refine jk ?_|refine jl ?_|refine jm ?_|refine jn ?_|refine jo ?_|refine jp ?_|refine jq ?_|refine jr ?_|refine js ?_|refine jt ?_|refine ju ?_|refine jv ?_|refine jw ?_|refine jx ?_|refine jy ?_|refine jz ?_|refine jA ?_|refine jB ?_|refine jC ?_|refine jD ?_|refine jE ?_|refine jF ?_|refine jG ?_|refine jH ?_|refine jI ?_|refine jJ ?_|refine jK ?_|refine jL ?_|refine jM (by assumption) ?_|refine jN (by assumption) rfl ?_|refine jO (by assumption) ?_|refine jP (by assumption) rfl ?_|refine jQ ?_|refine jR ?_|refine jS ?_|refine jT ?_|refine jU (by assumption) rfl ?_))
    exact hK [] w1 ⟨rfl, d, conds, h1, Mv.none k1, b1, hc1, hdv1, hcd1, addP_neg h0 hc0⟩
  have hcp := h1.cp
  (repeat (first|refine ja ?_|refine jb ?_|refine jc ?_|refine jd ?_|refine je ?_|refine jf ?_|refine jg ?_|refine jh ?_|refine ji ?_|refine jj ?_|refine jk ?_|refine jl ?_|refine jm ?_|refine jn ?_|refine jo ?_|refine jp ?_|refine jq ?_|refine jr ?_|refine js ?_|refine jt ?_|refine ju ?_|refine jv ?_|refine jw ?_|refine jx ?_|refine jy ?_|refine jz ?_|refine jA ?_|refine jB ?_|refine jC ?_|refine jD ?_|refine jE ?_|refine jF ?_|refine jG ?_|refine jH ?_|refine jI ?_|refine jJ ?_|refine jK ?_|refine jL ?_|refine jM (by assumption) ?_|refine jN (by assumption) rfl ?_|refine jO (by assumption) ?_|refine jP (by assumption) rfl ?_|refine jQ ?_|refine jR ?_|refine jS ?_|refine jT ?_|refine jU (by assumption) rfl ?_))
  refine M.call_i (known_ret h1.dag cnd) ?_; rintro _ w2 ⟨rfl, k2⟩
  refine M.extract_i (v := vw ((knownN N cnd).getD 0)) rfl ?_
  refine M.extract_i (v := .bool (knownN N cnd).isSome) rfl ?_
  have h2 := h1.keepN k2
  have k02 := k1.trans k2 (fun _ _ h => h)
  have b2 := b1.keep k2 (fun h => h)
  have hc2 := hc1.keep k2 (fun _ _ _ h => h)
  have hdv2 := hdv1.keep k2 (fun _ _ _ h => h)
  have hcd2 := hcd1.keep k2 (fun _ _ _ h => h)
  cases hk : knownN N cnd with
  | some x =>
    by_cases hx : x = 0
    · subst hx
      refine M.share_j (fun _ _ => False) (fun _ _ h => h.elim) ?_
      intro K2 hK2
      have h00 : (((some (0 : W64)).getD 0).toNat : Int) = 0 := rfl
      (repeat (first|refine ja ?_|refine jb ?_|refine jc ?_|refine jd ?_|refine je ?_|refine jf ?_|refine jg ?_|refine jh ?_|refine ji ?_|refine jj ?_|refine jk ?_|refine jl ?_|refine jm ?_|refine jn ?_|refine jo ?_|refine jp ?_|refine jq ?_|refine jr ?_|refine js ?_|refine jt ?_|refine ju ?_|refine jv ?_|refine jw ?_|refine jx ?_|refine jy ?_|refine jz ?_|refine jA ?_|refine jB ?_|refine jC ?_|refine jD ?_|refine jE ?_|refine jF ?_|refine jG ?_|refine jH ?_|refine jI ?_|refine jJ ?_|refine jK ?_|refine jL ?_|refine jM (by assumption) ?_|refine jN (by assumption) rfl ?_|refine jO (by assumption) ?_|refine jP (by assumption) rfl ?_|refine jQ ?_|refine jR ?_|refine jS ?_|refine jT ?_|refine jU (by assumption) rfl ?_))
      exact ⟨rfl, ov, by rw [addP_zero h0 hc0 hk]; exact h2, Mv.none k02⟩
    · refine M.share_j (fun vals w' => vals = [] ∧ w2 = w') ?_ ?_
      · rintro vals w' ⟨rfl, rfl⟩ _
        exact hK [] w2 ⟨rfl, d, conds, h2, Mv.none k02, b2, hc2, hdv2, hcd2, addP_some h0 hc0 hk hx⟩
      · intro K2 hK2
        have hx' : ¬ (x.toNat : Int) = 0 := fun h => hx (by apply BitVec.eq_of_toNat_eq; simpa using h)
        have hx2 : ¬ ((((some x).getD 0 : W64).toNat : Int) = 0) := hx'
        (repeat (first|refine ja ?_|refine jb ?_|refine jc ?_|refine jd ?_|refine je ?_|refine jf ?_|refine jg ?_|refine jh ?_|refine ji ?_|refine jj ?_|refine jk ?_|refine jl ?_|refine jm ?_|refine jn ?_|refine jo ?_|refine jp ?_|refine jq ?_|refine jr ?_|refine js ?_|refine jt ?_|refine ju ?_|refine jv ?_|refine jw ?_|refine jx ?_|refine jy ?_|refine jz ?_|refine jA ?_|refine jB ?_|refine jC ?_|refine jD ?_|refine jE ?_|refine jF ?_|refine jG ?_|refine jH ?_|refine jI ?_|refine jJ ?_|refine jK ?_|refine jL ?_|refine jM (by assumption) ?_|refine jN (by assumption) rfl ?_|refine jO (by assumption) ?_|refine jP (by assumption) rfl ?_|refine jQ ?_|refine jR ?_|refine jS ?_|refine jT ?_|refine jU (by assumption) rfl ?_))
        exact hK2 _ _ ⟨rfl, rfl⟩
  | none =>
    refine M.share_j (fun vals w' => vals = [] ∧ ∃ (d' : Value), Stp w' F p pb N most s sv i inputs mw ov outs e ∧ Mv w F pb ov w' F ov ∧ Blk w' w.heap.size [vi r0, vi r1, vi r2, vi r3, vi r4, vi r5, vi r6, vi r7, c, vi pc, vi steps, vi calls, vi en, vi code, vi value, a, b, vi ep, d'] ∧ LV vi w' (Fr F pb ov) c cells ∧ SDvO w' (Fr F pb ov) a b ⟨disk, pend, ep⟩ ∧ LV vi w' (Fr F pb ov) d' (conds ++ [cnd])) ?_ ?_
    · rintro vals w' ⟨rfl, d', q1, q2, q3, q4, q5, q6⟩ _
      exact hK [] w' ⟨rfl, d', _, q1, q2, q3, q4, q5, q6, addP_none h0 hc0 hk⟩
    intro K2 hK2
    (repeat (first|refine ja ?_|refine jb ?_|refine jc ?_|refine jd ?_|refine je ?_|refine jf ?_|refine jg ?_|refine jh ?_|refine ji ?_|refine jj ?_|refine jk ?_|refine jl ?_|refine jm ?_|refine jn ?_|refine jo ?_|refine jp ?_|refine jq ?_|refine jr ?_|refine js ?_|refine jt ?_|refine ju ?_|refine jv ?_|refine jw ?_|refine jx ?_|refine jy ?_|refine jz ?_|refine jA ?_|refine jB ?_|refine jC ?_|refine jD ?_|refine jE ?_|refine jF ?_|refine jG ?_|refine jH ?_|refine jI ?_|refine jJ ?_|refine jK ?_|refine jL ?_|refine jM (by assumption) ?_|refine jN (by assumption) rfl ?_|refine jO (by assumption) ?_|refine jP (by assumption) rfl ?_|refine jQ ?_|refine jR ?_|refine jS ?_|refine jT ?_|refine jU (by assumption) rfl ?_))
    obtain ⟨A, cc, rfl, hr, hcc⟩ := id hcd2
    refine M.call_i (clip1_ret hcc) ?_; rintro _ w3 ⟨rfl, rfl⟩
    refine M.buildSlice_i [vi cnd] (by kernel_rfl) (fun w4 b4 k4 s4 => ?_)
    have hr4 := (Row.samez hr (sz := 1) (n := conds.length) (by simp)).keep k4 (fun _ _ _ h => h)
    refine M.appendF_i hr4 (by simp) (Row.of_blk' (D := fun _ => True) b4 trivial) rfl (by omega) rfl (by omega) (by have hcl : conds.length ≤ 1000000 := hcl; omega) (fun v5 w5 g5 k5 => ?_)
    have h5 := (h2.keepN k4).keepN k5
    have k05 := (k02.trans k4 (fun _ _ h => h)).trans k5 (fun _ _ h => h)
    have k25 := k4.trans k5 (fun _ _ h => h)
    have b5 := b2.keep k25 (fun h => h)
    (repeat (first|refine ja ?_|refine jb ?_|refine jc ?_|refine jd ?_|refine je ?_|refine jf ?_|refine jg ?_|refine jh ?_|refine ji ?_|refine jj ?_|refine jk ?_|refine jl ?_|refine jm ?_|refine jn ?_|refine jo ?_|refine jp ?_|refine jq ?_|refine jr ?_|refine js ?_|refine jt ?_|refine ju ?_|refine jv ?_|refine jw ?_|refine jx ?_|refine jy ?_|refine jz ?_|refine jA ?_|refine jB ?_|refine jC ?_|refine jD ?_|refine jE ?_|refine jF ?_|refine jG ?_|refine jH ?_|refine jI ?_|refine jJ ?_|refine jK ?_|refine jL ?_|refine jM (by assumption) ?_|refine jN (by assumption) rfl ?_|refine jO (by assumption) ?_|refine jP (by assumption) rfl ?_|refine jQ ?_|refine jR ?_|refine jS ?_|refine jT ?_|refine jU (by assumption) rfl ?_))
    refine M.store_i b5 (by simp) (GC.one g5) (fun w6 b6 k6 s6 => ?_)
    have hne : ∀ x, x = w.heap.size → w.heap.size ≤ x := fun x hx => by omega
    have k06 : Keep w w6 No := k05.trans k6 (fun x hx e => by have e : x = w.heap.size := e; omega)
    have q4 := k4.size
    have q2 := k02.size
    refine hK2 [] w6 ⟨rfl, v5, h.keepN k06, Mv.none k06, b6, hc.keep k06 (fun _ _ _ h => h), hdv.keep k06 (fun _ _ _ h => h), ?_⟩
    have g6 : GI w6 (w4.heap.size ≤ ·) v5 (conds ++ [cnd]) := by
      have : (conds ++ [cnd]).map vi = conds.map vi ++ [vi cnd] := by simp
      unfold GI
      rw [this, List.length_append]
      have hb1 := b1.lt
      exact g5.keep k6 (fun b hb hx e => by have hx : w4.heap.size ≤ b := hx; have e : b = w.heap.size := e; omega)
    exact (GI.lv g6).mono (fun b hb hx => h.fresh (by have hx : w4.heap.size ≤ b := hx; omega))
end
end Go.Proofs.Ytanjlgafjgoaaaa
