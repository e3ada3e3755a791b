import Derived.Test.YtanjlgafjgoaaaaDagO
namespace Go.Proofs.Ytanjlgafjgoaaaa
open Go.Mw Go.Maps Go.MapKept
set_option linter.unusedVariables false
set_option linter.unusedSimpArgs false
set_option maxRecDepth 100000
attribute [local irreducible] M.val M.unit M.next M.pick M.new M.nilCheck M.load1 M.loadA M.store M.fieldAddr M.indexSl M.indexArr M.slice M.makeSlice M.buildSlice M.len M.lenS M.cap M.append M.extract M.conv M.not M.neg M.bin M.shift M.eqB M.eqNil M.scat M.call M.callv M.gd M.share M.cond M.loop M.draw pureW readW Ret
/-! (*breakwater/term.Dag).Const: function 7 -/
def sh7 (x0 x1 x2 : Value) (R : Kt) (w : World) : Prop :=
  M.eqNil 0 false x0 (fun t10 w =>
  M.cond t10
  (R (.tuple #[(Value.int IntKind.i64 0), (Value.int IntKind.i64 8)]) w)
  (M.call Try.prog 12 #[x1] (fun t13 w =>
  M.bin .eql t13 (Value.int IntKind.u64 0) (fun t14 w =>
  M.cond t14
  (R (.tuple #[(Value.int IntKind.i64 0), (Value.int IntKind.i64 2)]) w)
  (M.call Try.prog 14 #[x1, x2] (fun t19 w =>
  pureW Try.prog (Instr.build 61 #[(0, (Value.int IntKind.i64 20)), (1, x1), (5, t19)]) (fun t20 w =>
  M.call Try.prog 13 #[x0, t20] (fun t21 w =>
  M.extract 0 t21 (fun t22 w =>
  M.extract 1 t21 (fun t23 w =>
  R (.tuple #[t22, t23]) w) w) w) w) w) w)) w) w)) w
theorem ok7 (x0 x1 x2 : Value) (R : Kt) (w : World) (h : sh7 x0 x1 x2 R w) : Ret Try.prog 7 #[x0, x1, x2] w R :=
  ret_mk <| calls_of_comp mixed (c := Try.f7.body.getD .skip) (args := [x0, x1, x2]) (rs := [(ResultVar.tmp 6), (ResultVar.tmp 7)]) (Ann.seq Ann.text (Ann.seq (Ann.block (Ann.seq Ann.text (Ann.cond (Ann.seq Ann.text Ann.leaf) (Ann.seq Ann.text (Ann.cond (Ann.seq Ann.text Ann.leaf) Ann.leaf))))) (Ann.seq Ann.text Ann.leaf)))
    Try.func7 (by kernel_rfl) (by kernel_rfl)
    (Eq.mp (by kernel_rfl) h)
/-! (*breakwater/term.Dag).Var: function 59 -/
def sh59 (x0 x1 x2 : Value) (R : Kt) (w : World) : Prop :=
  M.eqNil 0 false x0 (fun t14 w =>
  M.cond t14
  (R (.tuple #[(Value.int IntKind.i64 0), (Value.int IntKind.i64 8)]) w)
  (M.call Try.prog 12 #[x1] (fun t17 w =>
  M.bin .eql t17 (Value.int IntKind.u64 0) (fun t18 w =>
  M.cond t18
  (R (.tuple #[(Value.int IntKind.i64 0), (Value.int IntKind.i64 2)]) w)
  (M.bin .lss x2 (Value.int IntKind.i64 0) (fun t21 w =>
  M.gd t21 false (fun k w => k x2 w) (fun t23 w =>
  M.gd t21 false (fun k w => M.bin .geq t23 (Value.int IntKind.i64 256) k w) (fun t24 w =>
  M.pick t21 (Value.bool true) t24 (fun t25 w =>
  M.cond t25
  (R (.tuple #[(Value.int IntKind.i64 0), (Value.int IntKind.i64 10)]) w)
  (M.nilCheck x0 (fun t28 w =>
  M.fieldAddr 2 t28 (fun t29 w =>
  M.load1 t29 (fun t30 w =>
  readW Try.prog (Instr.lookup 53 t30 x2 true) (fun t32 w =>
  M.extract 0 t32 (fun t33 w =>
  M.extract 1 t32 (fun t34 w =>
  M.gd t34 true (fun k w => k t33 w) (fun t37 w =>
  M.gd t34 true (fun k w => k x1 w) (fun t38 w =>
  M.gd t34 true (fun k w => M.bin .neq t37 t38 k w) (fun t39 w =>
  M.pick t34 t39 (Value.bool false) (fun t40 w =>
  M.cond t40
  (R (.tuple #[(Value.int IntKind.i64 0), (Value.int IntKind.i64 2)]) w)
  (pureW Try.prog (Instr.build 61 #[(0, (Value.int IntKind.i64 21)), (1, x1), (2, x2)]) (fun t45 w =>
  M.call Try.prog 13 #[x0, t45] (fun t46 w =>
  M.extract 0 t46 (fun t47 w =>
  M.extract 1 t46 (fun t48 w =>
  M.share (fun K1 w =>
  M.bin .eql t48 (Value.int IntKind.i64 0) (fun t50 w =>
  M.cond t50
  (M.nilCheck x0 (fun t52 w =>
  M.fieldAddr 2 t52 (fun t53 w =>
  M.load1 t53 (fun t54 w =>
  M.unit Try.prog (Instr.mapUpdate 53 t54 x2 x1) (fun _ w =>
  K1 [] w) w) w) w) w)
  (K1 [] w)) w) (fun s1 w => ∀ _ : List Value,
  R (.tuple #[t47, t48]) w) w) w) w) w) w)) w) w) w) w) w) w) w) w) w) w)) w) w) w) w)) w) w)) w
theorem ok59 (x0 x1 x2 : Value) (R : Kt) (w : World) (h : sh59 x0 x1 x2 R w) : Ret Try.prog 59 #[x0, x1, x2] w R :=
  ret_mk <| calls_of_comp mixed (c := Try.f59.body.getD .skip) (args := [x0, x1, x2]) (rs := [(ResultVar.tmp 6), (ResultVar.tmp 7)]) (Ann.seq Ann.text (Ann.seq (Ann.block (Ann.seq Ann.text (Ann.cond (Ann.seq Ann.text Ann.leaf) (Ann.seq Ann.text (Ann.cond (Ann.seq Ann.text Ann.leaf) (Ann.seq Ann.text (Ann.cond (Ann.seq Ann.text Ann.leaf) Ann.leaf))))))) (Ann.seq (Ann.seq Ann.text (Ann.seq Ann.text (Ann.cond (Ann.seq Ann.text Ann.leaf) Ann.leaf))) (Ann.seq Ann.text (Ann.join [] [49, 50, 51, 52, 53, 54, 55, 56] (Ann.seq Ann.text (Ann.cond Ann.text Ann.leaf)) (Ann.seq Ann.text Ann.leaf))))))
    Try.func59 (by kernel_rfl) (by kernel_rfl)
    (Eq.mp (by kernel_rfl) h)
/-! (*breakwater/term.Dag).Unary: function 51 -/
def sh51 (x0 x1 x2 : Value) (R : Kt) (w : World) : Prop :=
  M.eqNil 0 false x0 (fun t10 w =>
  M.cond t10
  (R (.tuple #[(Value.int IntKind.i64 0), (Value.int IntKind.i64 8)]) w)
  (M.bin .neq x1 (Value.int IntKind.i64 15) (fun t13 w =>
  M.gd t13 true (fun k w => k x1 w) (fun t15 w =>
  M.gd t13 true (fun k w => M.bin .neq t15 (Value.int IntKind.i64 16) k w) (fun t16 w =>
  M.pick t13 t16 (Value.bool false) (fun t17 w =>
  M.cond t17
  (R (.tuple #[(Value.int IntKind.i64 0), (Value.int IntKind.i64 3)]) w)
  (M.buildSlice 3 1 #[.int .i64 0] 1 [(0, x2)] (fun t21 w =>
  M.call Try.prog 66 #[x0, t21] (fun t22 w =>
  M.cond t22
  (R (.tuple #[(Value.int IntKind.i64 0), (Value.int IntKind.i64 11)]) w)
  (M.call Try.prog 23 #[x0, x2] (fun t27 w =>
  pureW Try.prog (Instr.build 61 #[(0, x1), (1, t27), (2, x2)]) (fun t29 w =>
  M.call Try.prog 13 #[x0, t29] (fun t30 w =>
  M.extract 0 t30 (fun t31 w =>
  M.extract 1 t30 (fun t32 w =>
  R (.tuple #[t31, t32]) w) w) w) w) w) w)) w) w)) w) w) w) w)) w
theorem ok51 (x0 x1 x2 : Value) (R : Kt) (w : World) (h : sh51 x0 x1 x2 R w) : Ret Try.prog 51 #[x0, x1, x2] w R :=
  ret_mk <| calls_of_comp mixed (c := Try.f51.body.getD .skip) (args := [x0, x1, x2]) (rs := [(ResultVar.tmp 6), (ResultVar.tmp 7)]) (Ann.seq Ann.text (Ann.seq (Ann.block (Ann.seq Ann.text (Ann.cond (Ann.seq Ann.text Ann.leaf) (Ann.seq Ann.text (Ann.cond (Ann.seq Ann.text Ann.leaf) (Ann.seq Ann.text (Ann.cond (Ann.seq Ann.text Ann.leaf) Ann.leaf))))))) (Ann.seq Ann.text Ann.leaf)))
    Try.func51 (by kernel_rfl) (by kernel_rfl)
    (Eq.mp (by kernel_rfl) h)
/-! (*breakwater/term.Dag).Binary: function 68 -/
def sh68 (x0 x1 x2 x3 : Value) (R : Kt) (w : World) : Prop :=
  M.eqNil 0 false x0 (fun t13 w =>
  M.cond t13
  (R (.tuple #[(Value.int IntKind.i64 0), (Value.int IntKind.i64 8)]) w)
  (M.bin .lss x1 (Value.int IntKind.i64 1) (fun t16 w =>
  M.gd t16 false (fun k w => k x1 w) (fun t18 w =>
  M.gd t16 false (fun k w => M.bin .gtr t18 (Value.int IntKind.i64 14) k w) (fun t19 w =>
  M.pick t16 (Value.bool true) t19 (fun t20 w =>
  M.cond t20
  (R (.tuple #[(Value.int IntKind.i64 0), (Value.int IntKind.i64 3)]) w)
  (M.buildSlice 3 1 #[.int .i64 0] 2 [(0, x2), (1, x3)] (fun t25 w =>
  M.call Try.prog 66 #[x0, t25] (fun t26 w =>
  M.cond t26
  (R (.tuple #[(Value.int IntKind.i64 0), (Value.int IntKind.i64 11)]) w)
  (M.call Try.prog 23 #[x0, x2] (fun t30 w =>
  M.call Try.prog 23 #[x0, x3] (fun t33 w =>
  M.bin .neq t30 t33 (fun t34 w =>
  M.cond t34
  (R (.tuple #[(Value.int IntKind.i64 0), (Value.int IntKind.i64 2)]) w)
  (M.call Try.prog 23 #[x0, x2] (fun t37 w =>
  M.share (fun K1 w =>
  M.bin .eql x1 (Value.int IntKind.i64 12) (fun t39 w =>
  M.gd t39 false (fun k w => k x1 w) (fun t41 w =>
  M.gd t39 false (fun k w => M.bin .eql t41 (Value.int IntKind.i64 13) k w) (fun t42 w =>
  M.pick t39 (Value.bool true) t42 (fun t43 w =>
  M.gd t43 false (fun k w => k x1 w) (fun t45 w =>
  M.gd t43 false (fun k w => M.bin .eql t45 (Value.int IntKind.i64 14) k w) (fun t46 w =>
  M.pick t43 (Value.bool true) t46 (fun t47 w =>
  M.cond t47
  (K1 [(Value.int IntKind.i64 1)] w)
  (K1 [t37] w)) w) w) w) w) w) w) w) (fun s1 w => ∀ _ : List Value,
  pureW Try.prog (Instr.build 61 #[(0, x1), (1, (s1.getD 0 undef)), (2, x2), (3, x3)]) (fun t53 w =>
  M.call Try.prog 13 #[x0, t53] (fun t54 w =>
  M.extract 0 t54 (fun t55 w =>
  M.extract 1 t54 (fun t56 w =>
  R (.tuple #[t55, t56]) w) w) w) w) w) w) w)) w) w) w)) w) w)) w) w) w) w)) w
theorem ok68 (x0 x1 x2 x3 : Value) (R : Kt) (w : World) (h : sh68 x0 x1 x2 x3 R w) : Ret Try.prog 68 #[x0, x1, x2, x3] w R :=
  ret_mk <| calls_of_comp mixed (c := Try.f68.body.getD .skip) (args := [x0, x1, x2, x3]) (rs := [(ResultVar.tmp 8), (ResultVar.tmp 9)]) (Ann.seq Ann.text (Ann.seq (Ann.block (Ann.seq Ann.text (Ann.cond (Ann.seq Ann.text Ann.leaf) (Ann.seq Ann.text (Ann.cond (Ann.seq Ann.text Ann.leaf) (Ann.seq Ann.text (Ann.cond (Ann.seq Ann.text Ann.leaf) (Ann.seq Ann.text (Ann.cond (Ann.seq Ann.text Ann.leaf) Ann.leaf))))))))) (Ann.seq Ann.text (Ann.join [10] [38, 39, 40, 41, 42, 43, 44, 45, 46, 47] (Ann.seq Ann.text (Ann.cond Ann.text Ann.leaf)) (Ann.seq Ann.text Ann.leaf)))))
    Try.func68 (by kernel_rfl) (by kernel_rfl)
    (Eq.mp (by kernel_rfl) h)
/-! (*breakwater/term.Dag).Extend: function 73 -/
def sh73 (x0 x1 x2 x3 : Value) (R : Kt) (w : World) : Prop :=
  M.eqNil 0 false x0 (fun t13 w =>
  M.cond t13
  (R (.tuple #[(Value.int IntKind.i64 0), (Value.int IntKind.i64 8)]) w)
  (M.buildSlice 3 1 #[.int .i64 0] 1 [(0, x1)] (fun t17 w =>
  M.call Try.prog 66 #[x0, t17] (fun t18 w =>
  M.cond t18
  (R (.tuple #[(Value.int IntKind.i64 0), (Value.int IntKind.i64 11)]) w)
  (M.call Try.prog 23 #[x0, x1] (fun t23 w =>
  M.bin .lss x2 t23 (fun t24 w =>
  M.gd t24 false (fun k w => k x2 w) (fun t26 w =>
  M.gd t24 false (fun k w => M.bin .gtr t26 (Value.int IntKind.i64 64) k w) (fun t27 w =>
  M.pick t24 (Value.bool true) t27 (fun t28 w =>
  M.cond t28
  (R (.tuple #[(Value.int IntKind.i64 0), (Value.int IntKind.i64 2)]) w)
  (M.call Try.prog 23 #[x0, x1] (fun t33 w =>
  M.bin .eql x2 t33 (fun t34 w =>
  M.cond t34
  (R (.tuple #[x1, (Value.int IntKind.i64 0)]) w)
  (pureW Try.prog (Instr.build 61 #[(0, (Value.int IntKind.i64 25)), (1, x2), (2, x1)]) (fun t38 w =>
  M.new 61 #[.int .i64 0, .int .i64 0, .int .i64 0, .int .i64 0, .int .i64 0, .int .u64 0] (fun t10 w =>
  M.store 6 t10 t38 (fun _ w =>
  M.share (fun K1 w =>
  M.cond x3
  (M.fieldAddr 0 t10 (fun t40 w =>
  M.store 1 t40 (Value.int IntKind.i64 26) (fun _ w =>
  K1 [] w) w) w)
  (K1 [] w)) (fun s1 w => ∀ _ : List Value,
  M.loadA 6 t10 (fun t42 w =>
  M.call Try.prog 13 #[x0, t42] (fun t43 w =>
  M.extract 0 t43 (fun t44 w =>
  M.extract 1 t43 (fun t45 w =>
  R (.tuple #[t44, t45]) w) w) w) w) w) w) w) w) w)) w) w)) w) w) w) w) w)) w) w)) w
theorem ok73 (x0 x1 x2 x3 : Value) (R : Kt) (w : World) (h : sh73 x0 x1 x2 x3 R w) : Ret Try.prog 73 #[x0, x1, x2, x3] w R :=
  ret_mk <| calls_of_comp mixed (c := Try.f73.body.getD .skip) (args := [x0, x1, x2, x3]) (rs := [(ResultVar.tmp 8), (ResultVar.tmp 9)]) (Ann.seq Ann.text (Ann.seq (Ann.block (Ann.seq Ann.text (Ann.cond (Ann.seq Ann.text Ann.leaf) (Ann.seq Ann.text (Ann.cond (Ann.seq Ann.text Ann.leaf) (Ann.seq Ann.text (Ann.cond (Ann.seq Ann.text Ann.leaf) (Ann.seq Ann.text (Ann.cond (Ann.seq Ann.text Ann.leaf) Ann.leaf))))))))) (Ann.seq Ann.text (Ann.join [] [39, 40] (Ann.seq Ann.text (Ann.cond Ann.text Ann.leaf)) (Ann.seq Ann.text Ann.leaf)))))
    Try.func73 (by kernel_rfl) (by kernel_rfl)
    (Eq.mp (by kernel_rfl) h)

def WdR (N : List Nd) (kw : List (Int × Value)) : Prop := (∀ n ∈ N, n.op = 21 → lkp kw n.a = some (vi n.wd)) ∧ ∀ i v, lkp kw i = some v → ∃ n ∈ N, n.op = 21 ∧ n.a = i ∧ v = vi n.wd
def DagO (w : World) (F : Nat → Prop) (p : Nat) (N : List Nd) (most : Int) : Prop := ∃ kw, DagC w F p N most kw ∧ WdR N kw ∧ GoodN N ∧ N.length ≤ 65536 ∧ most ≤ 65536
theorem DagO.keep {w w' : World} {F S : Nat → Prop} {p : Nat} {N : List Nd} {most : Int} (h : DagO w F p N most) (k : Keep w w' S) (hs : ∀ b, F b → ¬ S b) : DagO w' F p N most := by
  obtain ⟨kw, h1, h2⟩ := h
  exact ⟨kw, h1.keep k hs, h2⟩
theorem DagO.keepN {w w' : World} {F : Nat → Prop} {p : Nat} {N : List Nd} {most : Int} (h : DagO w F p N most) (k : Keep w w' No) : DagO w' F p N most := h.keep k (fun _ _ h => h)
theorem DagO.lt {w : World} {F : Nat → Prop} {p : Nat} {N : List Nd} {most : Int} (h : DagO w F p N most) {b : Nat} (hb : F b) : b < w.heap.size := by
  obtain ⟨kw, h1, _⟩ := h
  exact h1.lt hb
theorem DagO.good {w : World} {F : Nat → Prop} {p : Nat} {N : List Nd} {most : Int} (h : DagO w F p N most) : GoodN N := by
  obtain ⟨kw, _, _, h, _⟩ := h; exact h
theorem DagO.len {w : World} {F : Nat → Prop} {p : Nat} {N : List Nd} {most : Int} (h : DagO w F p N most) : N.length ≤ 65536 ∧ most ≤ 65536 := by
  obtain ⟨kw, _, _, _, h⟩ := h; exact h
/-- What an asking answers, and leaves. -/
def AskO (w : World) (F : Nat → Prop) (p : Nat) (most : Int) (res : List Nd × Int × Int) (r : Value) (w' : World) : Prop :=
  ∃ F', r = .tuple #[vi res.2.1, vi res.2.2] ∧ DagO w' F' p res.1 most ∧ (∀ b, b < w.heap.size → F' b → F b) ∧ Keep w w' F
theorem AskO.from {w w1 : World} {F : Nat → Prop} {p : Nat} {most : Int} {res : List Nd × Int × Int} {r : Value} {w' : World} (k : Keep w w1 No) (h : AskO w1 F p most res r w') : AskO w F p most res r w' := by
  obtain ⟨F', h1, h2, h3, h4⟩ := h
  exact ⟨F', h1, h2, fun b hb => h3 b (Nat.lt_of_lt_of_le hb k.size), (k.mono (fun _ _ h => h.elim)).trans h4 (fun _ _ h => h)⟩
theorem AskO.same {w w1 : World} {F : Nat → Prop} {p : Nat} {N : List Nd} {most : Int} (k : Keep w w1 No) (h : DagO w1 F p N most) (i e : Int) : AskO w F p most (N, i, e) (.tuple #[vi i, vi e]) w1 :=
  ⟨F, rfl, h, fun _ _ h => h, k.mono (fun _ _ h => h.elim)⟩
section
variable {w : World} {F : Nat → Prop} {p : Nat} {N : List Nd} {most : Int}
theorem makeO (h : DagO w F p N most) {n : Nd} (hg : goodN N n) (ho : n.op ≠ 21) :
    Ret Try.prog 13 #[ptr p, encN n] w (AskO w F p most (madeN most N n)) := by
  obtain ⟨kw, hd, hw, hG, hN, hm⟩ := h
  refine (make_ret hd (by omega) (hg.ok (by omega))).mono ?_
  rintro r w' ⟨F', rfl, h1, h2, h3⟩
  have ha := ask_made (most := most) hG hg
  refine ⟨F', rfl, ⟨kw, h1, ?_, ha.good, ?_, hm⟩, h2, h3⟩
  · unfold madeN
    split
    · exact hw
    · split
      · exact hw
      · refine ⟨fun m hmem h21 => ?_, fun i v hv => ?_⟩
        · rcases List.mem_append.1 hmem with h | h
          · exact hw.1 m h h21
          · simp at h; subst h; exact absurd h21 ho
        · obtain ⟨m, h, h'⟩ := hw.2 i v hv
          exact ⟨m, List.mem_append_left _ h, h'⟩
  · rcases ha.len with h | h
    · omega
    · rw [h]; exact hN
theorem const_ret (h : DagO w F p N most) (n : Int) (x : W64) :
    Ret Try.prog 7 #[ptr p, vi n, vw x] w (AskO w F p most (constN most N n x)) := by
  refine ok7 _ _ _ _ _ ?_
  unfold sh7
  (repeat (first|refine ja ?_|refine jb ?_|refine jc ?_|refine jd ?_|refine je ?_|refine jf ?_|refine jg ?_|refine jh ?_|refine ji ?_|refine jj ?_|refine jk ?_|refine jl ?_|refine jm ?_|refine jn ?_|refine jo ?_|refine jp ?_|refine jq ?_|refine jr ?_|refine js ?_|refine jt ?_|refine ju ?_|refine jv ?_|refine jw ?_|refine jx ?_|refine jy ?_|refine jz ?_|refine jA ?_|refine jB ?_|refine jC ?_|refine jD ?_|refine jE ?_|refine jF ?_|refine jG ?_|refine jH ?_|refine jI ?_|refine jJ ?_|refine jK ?_|refine jL ?_|refine jM (by assumption) ?_|refine jN (by assumption) rfl ?_|refine jO (by assumption) ?_|refine jP (by assumption) rfl ?_|refine jQ ?_|refine jR ?_|refine jS ?_|refine jT ?_|refine jU (by assumption) rfl ?_))
  refine M.call_i (mask_ret n w) ?_; rintro _ w1 ⟨rfl, rfl⟩
  change M.bin .eql (vw (maskW n)) (vw 0) _ _
  refine M.eqlW_i ?_
  have hz : decide (maskW n = 0) = !fitsB n := by
    cases hf : fitsB n with
    | false =>
      have : maskW n = 0 := by unfold maskW; rw [hf]; rfl
      rw [this]; rfl
    | true =>
      obtain ⟨m, rfl, h1, h2⟩ := fits_nat hf
      rw [decide_eq_false]
      · rfl
      · intro e
        have := maskW_bit h1 h2 0
        rw [e, decide_eq_true (by omega)] at this
        simp at this
  rw [hz]
  unfold constN
  cases hf : fitsB n with
  | false =>
    (repeat (first|refine ja ?_|refine jb ?_|refine jc ?_|refine jd ?_|refine je ?_|refine jf ?_|refine jg ?_|refine jh ?_|refine ji ?_|refine jj ?_|refine jk ?_|refine jl ?_|refine jm ?_|refine jn ?_|refine jo ?_|refine jp ?_|refine jq ?_|refine jr ?_|refine js ?_|refine jt ?_|refine ju ?_|refine jv ?_|refine jw ?_|refine jx ?_|refine jy ?_|refine jz ?_|refine jA ?_|refine jB ?_|refine jC ?_|refine jD ?_|refine jE ?_|refine jF ?_|refine jG ?_|refine jH ?_|refine jI ?_|refine jJ ?_|refine jK ?_|refine jL ?_|refine jM (by assumption) ?_|refine jN (by assumption) rfl ?_|refine jO (by assumption) ?_|refine jP (by assumption) rfl ?_|refine jQ ?_|refine jR ?_|refine jS ?_|refine jT ?_|refine jU (by assumption) rfl ?_))
    exact AskO.same (Keep.refl _ _) h 0 2
  | true =>
    have hm : ∃ m : Nat, n = m ∧ 1 ≤ m ∧ m ≤ 64 := fits_nat hf
    (repeat (first|refine ja ?_|refine jb ?_|refine jc ?_|refine jd ?_|refine je ?_|refine jf ?_|refine jg ?_|refine jh ?_|refine ji ?_|refine jj ?_|refine jk ?_|refine jl ?_|refine jm ?_|refine jn ?_|refine jo ?_|refine jp ?_|refine jq ?_|refine jr ?_|refine js ?_|refine jt ?_|refine ju ?_|refine jv ?_|refine jw ?_|refine jx ?_|refine jy ?_|refine jz ?_|refine jA ?_|refine jB ?_|refine jC ?_|refine jD ?_|refine jE ?_|refine jF ?_|refine jG ?_|refine jH ?_|refine jI ?_|refine jJ ?_|refine jK ?_|refine jL ?_|refine jM (by assumption) ?_|refine jN (by assumption) rfl ?_|refine jO (by assumption) ?_|refine jP (by assumption) rfl ?_|refine jQ ?_|refine jR ?_|refine jS ?_|refine jT ?_|refine jU (by assumption) rfl ?_))
    refine M.call_i (cut_ret n x w1) ?_; rintro _ w2 ⟨rfl, rfl⟩
    refine M.pure_i (encN ⟨20, n, 0, 0, 0, cutW n x⟩) (fun _ => by kernel_rfl) ?_
    obtain ⟨m, rfl, h1, h2⟩ := hm
    have hg : goodN N ⟨20, m, 0, 0, 0, cutW m x⟩ := ⟨by show 1 ≤ (m : Int) ∧ (m : Int) ≤ 64; omega, by intro k hk; simp [kidsN] at hk, .inl ⟨rfl, rfl, rfl, rfl, by
      show cutW m (cutW m x) = cutW m x
      unfold cutW
      rw [BitVec.and_assoc, BitVec.and_self]⟩⟩
    refine M.call_i (makeO h hg (by show (20 : Int) ≠ 21; omega)) ?_
    rintro _ w3 ⟨F', rfl, h3⟩
    refine M.extract_i rfl ?_
    refine M.extract_i rfl ?_
    exact ⟨F', rfl, h3⟩
theorem mask_zero (n : Int) : decide (maskW n = 0) = !fitsB n := by
  cases hf : fitsB n with
  | false =>
    have : maskW n = 0 := by unfold maskW; rw [hf]; rfl
    rw [this]; rfl
  | true =>
    obtain ⟨m, rfl, h1, h2⟩ := fits_nat hf
    rw [decide_eq_false]
    · rfl
    · intro e
      have := maskW_bit h1 h2 0
      rw [e, decide_eq_true (by omega)] at this
      simp at this
theorem otherW_of {kw : List (Int × Value)} (h : WdR N kw) (w i : Int) : otherW N w i = match lkp kw i with
    | some (.int _ x) => decide (x ≠ w)
    | _ => false := by
  cases hl : lkp kw i with
  | none =>
    simp only
    unfold otherW
    rw [List.any_eq_false]
    intro n hn hh
    simp only [Bool.and_eq_true, decide_eq_true_eq] at hh
    have := h.1 n hn hh.1.1
    rw [hh.1.2, hl] at this
    simp at this
  | some v =>
    obtain ⟨n, hn, h1, h2, rfl⟩ := h.2 i v hl
    simp only
    unfold otherW
    by_cases hw : n.wd = w
    · rw [decide_eq_false (by simpa using hw), List.any_eq_false]
      intro m hm hh
      simp only [Bool.and_eq_true, decide_eq_true_eq] at hh
      have := h.1 m hm hh.1.1
      rw [hh.1.2, hl] at this
      simp only [Option.some.injEq, Value.int.injEq, true_and] at this
      exact hh.2 (by rw [← this]; exact hw)
    · rw [decide_eq_true (by simpa using hw)]
      exact List.any_eq_true.2 ⟨n, hn, by simp [h1, h2, hw]⟩
set_option maxHeartbeats 1000000 in
theorem var_ret (h : DagO w F p N most) (n i : Int) :
    Ret Try.prog 59 #[ptr p, vi n, vi i] w (AskO w F p most (varN most N n i)) := by
  refine ok59 _ _ _ _ _ ?_
  unfold sh59
  (repeat (first|refine ja ?_|refine jb ?_|refine jc ?_|refine jd ?_|refine je ?_|refine jf ?_|refine jg ?_|refine jh ?_|refine ji ?_|refine jj ?_|refine jk ?_|refine jl ?_|refine jm ?_|refine jn ?_|refine jo ?_|refine jp ?_|refine jq ?_|refine jr ?_|refine js ?_|refine jt ?_|refine ju ?_|refine jv ?_|refine jw ?_|refine jx ?_|refine jy ?_|refine jz ?_|refine jA ?_|refine jB ?_|refine jC ?_|refine jD ?_|refine jE ?_|refine jF ?_|refine jG ?_|refine jH ?_|refine jI ?_|refine jJ ?_|refine jK ?_|refine jL ?_|refine jM (by assumption) ?_|refine jN (by assumption) rfl ?_|refine jO (by assumption) ?_|refine jP (by assumption) rfl ?_|refine jQ ?_|refine jR ?_|refine jS ?_|refine jT ?_|refine jU (by assumption) rfl ?_))
  refine M.call_i (mask_ret n w) ?_; rintro _ w1 ⟨rfl, rfl⟩
  change M.bin .eql (vw (maskW n)) (vw 0) _ _
  refine M.eqlW_i ?_
  rw [mask_zero]
  unfold varN
  cases hf : fitsB n with
  | false =>
    rw [if_pos rfl]
    (repeat (first|refine ja ?_|refine jb ?_|refine jc ?_|refine jd ?_|refine je ?_|refine jf ?_|refine jg ?_|refine jh ?_|refine ji ?_|refine jj ?_|refine jk ?_|refine jl ?_|refine jm ?_|refine jn ?_|refine jo ?_|refine jp ?_|refine jq ?_|refine jr ?_|refine js ?_|refine jt ?_|refine ju ?_|refine jv ?_|refine jw ?_|refine jx ?_|refine jy ?_|refine jz ?_|refine jA ?_|refine jB ?_|refine jC ?_|refine jD ?_|refine jE ?_|refine jF ?_|refine jG ?_|refine jH ?_|refine jI ?_|refine jJ ?_|refine jK ?_|refine jL ?_|refine jM (by assumption) ?_|refine jN (by assumption) rfl ?_|refine jO (by assumption) ?_|refine jP (by assumption) rfl ?_|refine jQ ?_|refine jR ?_|refine jS ?_|refine jT ?_|refine jU (by assumption) rfl ?_))
    exact AskO.same (Keep.refl _ _) h 0 2
  | true =>
    rw [if_neg (by simp)]
    by_cases hi0 : i < 0
    · rw [if_pos (.inl hi0)]
      (repeat (first|refine ja ?_|refine jb ?_|refine jc ?_|refine jd ?_|refine je ?_|refine jf ?_|refine jg ?_|refine jh ?_|refine ji ?_|refine jj ?_|refine jk ?_|refine jl ?_|refine jm ?_|refine jn ?_|refine jo ?_|refine jp ?_|refine jq ?_|refine jr ?_|refine js ?_|refine jt ?_|refine ju ?_|refine jv ?_|refine jw ?_|refine jx ?_|refine jy ?_|refine jz ?_|refine jA ?_|refine jB ?_|refine jC ?_|refine jD ?_|refine jE ?_|refine jF ?_|refine jG ?_|refine jH ?_|refine jI ?_|refine jJ ?_|refine jK ?_|refine jL ?_|refine jM (by assumption) ?_|refine jN (by assumption) rfl ?_|refine jO (by assumption) ?_|refine jP (by assumption) rfl ?_|refine jQ ?_|refine jR ?_|refine jS ?_|refine jT ?_|refine jU (by assumption) rfl ?_))
      exact AskO.same (Keep.refl _ _) h 0 10
    by_cases hi1 : 255 < i
    · rw [if_pos (.inr hi1)]
      (repeat (first|refine ja ?_|refine jb ?_|refine jc ?_|refine jd ?_|refine je ?_|refine jf ?_|refine jg ?_|refine jh ?_|refine ji ?_|refine jj ?_|refine jk ?_|refine jl ?_|refine jm ?_|refine jn ?_|refine jo ?_|refine jp ?_|refine jq ?_|refine jr ?_|refine js ?_|refine jt ?_|refine ju ?_|refine jv ?_|refine jw ?_|refine jx ?_|refine jy ?_|refine jz ?_|refine jA ?_|refine jB ?_|refine jC ?_|refine jD ?_|refine jE ?_|refine jF ?_|refine jG ?_|refine jH ?_|refine jI ?_|refine jJ ?_|refine jK ?_|refine jL ?_|refine jM (by assumption) ?_|refine jN (by assumption) rfl ?_|refine jO (by assumption) ?_|refine jP (by assumption) rfl ?_|refine jQ ?_|refine jR ?_|refine jS ?_|refine jT ?_|refine jU (by assumption) rfl ?_))
      exact AskO.same (Keep.refl _ _) h 0 10
    rw [if_neg (by omega)]
    obtain ⟨kw, hd, hw, hG, hN, hm⟩ := id h
    obtain ⟨v, r1, r2, kv, g1, g2, g3, g4, g5, g6, g7, g8, g9, g10⟩ := id hd
    have ho := otherW_of hw n i
    (repeat (first|refine ja ?_|refine jb ?_|refine jc ?_|refine jd ?_|refine je ?_|refine jf ?_|refine jg ?_|refine jh ?_|refine ji ?_|refine jj ?_|refine jk ?_|refine jl ?_|refine jm ?_|refine jn ?_|refine jo ?_|refine jp ?_|refine jq ?_|refine jr ?_|refine js ?_|refine jt ?_|refine ju ?_|refine jv ?_|refine jw ?_|refine jx ?_|refine jy ?_|refine jz ?_|refine jA ?_|refine jB ?_|refine jC ?_|refine jD ?_|refine jE ?_|refine jF ?_|refine jG ?_|refine jH ?_|refine jI ?_|refine jJ ?_|refine jK ?_|refine jL ?_|refine jM (by assumption) ?_|refine jN (by assumption) rfl ?_|refine jO (by assumption) ?_|refine jP (by assumption) rfl ?_|refine jQ ?_|refine jR ?_|refine jS ?_|refine jT ?_|refine jU (by assumption) rfl ?_))
    refine M.lookupOk_i (kt := 3) (et := 3) (z := vi 0) (by kernel_rfl) (by kernel_rfl) (fun w => Try.zeroValue3 w) g4 ?_
    have go : otherW N n i = false → AskO w1 F p most (madeN most N ⟨21, n, i, 0, 0, 0⟩) = AskO w1 F p most (madeN most N ⟨21, n, i, 0, 0, 0⟩) := fun _ => rfl
    have hgood : goodN N ⟨21, n, i, 0, 0, 0⟩ := by
      obtain ⟨m, rfl, h1, h2⟩ := fits_nat hf
      exact ⟨by show 1 ≤ (m : Int) ∧ (m : Int) ≤ 64; omega, by intro k hk; simp [kidsN] at hk, .inr (.inl ⟨rfl, by show 0 ≤ i; omega, by show i ≤ 255; omega, rfl, rfl, rfl⟩)⟩
    have rest : ∀ {R : Kt}, otherW N n i = false → R = AskO w1 F p most (madeN most N ⟨21, n, i, 0, 0, 0⟩) → M.call Try.prog 13 #[ptr p, encN ⟨21, n, i, 0, 0, 0⟩] (fun t46 w => M.extract 0 t46 (fun t47 w => M.extract 1 t46 (fun t48 w =>
        M.share (fun K1 w => M.bin .eql t48 (vi 0) (fun t50 w => M.cond t50 (M.nilCheck (ptr p) (fun t52 w => M.fieldAddr 2 t52 (fun t53 w => M.load1 t53 (fun t54 w => M.unit Try.prog (Instr.mapUpdate 53 t54 (vi i) (vi n)) (fun _ w => K1 [] w) w) w) w) w) (K1 [] w)) w)
          (fun s1 w => ∀ _ : List Value, R (.tuple #[t47, t48]) w) w) w) w) w1 := by
      rintro R hno rfl
      refine M.call_i (make_ret hd (by omega) (hgood.ok (by omega))) ?_
      rintro _ w2 ⟨F', rfl, h1, h2, h3⟩
      have ha := ask_made (most := most) hG hgood
      have hlen : (madeN most N ⟨21, n, i, 0, 0, 0⟩).1.length ≤ 65536 := by
        rcases ha.len with h | h
        · omega
        · rw [h]; exact hN
      refine M.extract_i rfl ?_
      refine M.extract_i rfl ?_
      refine M.share_i ?_
      refine M.eql_i ?_
      have hcase : (madeN most N ⟨21, n, i, 0, 0, 0⟩ = (N, ((N.idxOf (⟨21, n, i, 0, 0, 0⟩ : Nd) : Nat) : Int), 0) ∧ (⟨21, n, i, 0, 0, 0⟩ : Nd) ∈ N) ∨ madeN most N ⟨21, n, i, 0, 0, 0⟩ = (N, 0, 8) ∨ madeN most N ⟨21, n, i, 0, 0, 0⟩ = (N ++ [⟨21, n, i, 0, 0, 0⟩], (N.length : Int), 0) := by
        unfold madeN
        split
        · rename_i hh; exact .inl ⟨rfl, hh⟩
        · split
          · exact .inr (.inl rfl)
          · exact .inr (.inr rfl)
      have same : ∀ m ∈ N, m.op = 21 → m.a = i → m.wd = n := fun m hm h21 hmi => by
        unfold otherW at hno
        rw [List.any_eq_false] at hno
        have := hno m hm
        simp only [h21, hmi, decide_true, Bool.true_and, decide_eq_true_eq, ne_eq, Classical.not_not] at this
        exact this
      have upd : ∀ (N' : List Nd), (N' = N ∧ (⟨21, n, i, 0, 0, 0⟩ : Nd) ∈ N) ∨ N' = N ++ [⟨21, n, i, 0, 0, 0⟩] → WdR N' (upd kw i (vi n)) := fun N' hN' => by
        have hin : (⟨21, n, i, 0, 0, 0⟩ : Nd) ∈ N' := by
          rcases hN' with ⟨rfl, h⟩ | rfl
          · exact h
          · simp
        have hsub : ∀ m ∈ N', m ∈ N ∨ m = ⟨21, n, i, 0, 0, 0⟩ := fun m hm => by
          rcases hN' with ⟨rfl, h⟩ | rfl
          · exact .inl hm
          · rcases List.mem_append.1 hm with h | h
            · exact .inl h
            · simp at h; exact .inr h
        have hsup : ∀ m ∈ N, m ∈ N' := fun m hm => by
          rcases hN' with ⟨rfl, h⟩ | rfl
          · exact hm
          · exact List.mem_append_left _ hm
        refine ⟨fun m hmem h21 => ?_, fun j v hv => ?_⟩
        · rw [lkp_upd]
          rcases hsub m hmem with h | rfl
          · by_cases hmi : m.a = i
            · rw [if_pos hmi, same m h h21 hmi]
            · rw [if_neg hmi]; exact hw.1 m h h21
          · rw [if_pos rfl]
        · rw [lkp_upd] at hv
          by_cases hji : j = i
          · rw [if_pos hji] at hv
            cases hv
            exact ⟨_, hin, rfl, hji.symm, rfl⟩
          · rw [if_neg hji] at hv
            obtain ⟨m, h, h'⟩ := hw.2 j v hv
            exact ⟨m, hsup m h, h'⟩
      obtain ⟨v', s1, s2, kv', e1, e2, e3, e4, e5, e6, e7, e8, e9, e10⟩ := id h1
      by_cases he : (madeN most N ⟨21, n, i, 0, 0, 0⟩).2.2 = 0
      · rw [decide_eq_true he]
        (repeat (first|refine ja ?_|refine jb ?_|refine jc ?_|refine jd ?_|refine je ?_|refine jf ?_|refine jg ?_|refine jh ?_|refine ji ?_|refine jj ?_|refine jk ?_|refine jl ?_|refine jm ?_|refine jn ?_|refine jo ?_|refine jp ?_|refine jq ?_|refine jr ?_|refine js ?_|refine jt ?_|refine ju ?_|refine jv ?_|refine jw ?_|refine jx ?_|refine jy ?_|refine jz ?_|refine jA ?_|refine jB ?_|refine jC ?_|refine jD ?_|refine jE ?_|refine jF ?_|refine jG ?_|refine jH ?_|refine jI ?_|refine jJ ?_|refine jK ?_|refine jL ?_|refine jM (by assumption) ?_|refine jN (by assumption) rfl ?_|refine jO (by assumption) ?_|refine jP (by assumption) rfl ?_|refine jQ ?_|refine jR ?_|refine jS ?_|refine jT ?_|refine jU (by assumption) rfl ?_))
        refine M.mapUpdate_i (kt := 3) (et := 3) (by kernel_rfl) (by kernel_rfl) e4 (fun w3 m3 k3 s3 => ?_)
        intro _
        have hs2 : F' s2 := (e6 s2).2 (.inr (.inr (.inl rfl)))
        refine ⟨F', rfl, ⟨_, ⟨v', s1, s2, kv', e1.keep k3 e9, (GC.own e2).keep k3 (fun b _ hb h => (e10 b hb).2.2 h) |>.mono (fun b _ hb => (e6 b).2 (.inr (.inr (.inr hb)))), e3.keep k3 e7, m3, e5, e6, e7, e8, e9, e10⟩, ?_, ha.good, hlen, hm⟩, h2, ?_⟩
        · rcases hcase with ⟨hc, hmem⟩ | hc | hc
          · exact upd _ (.inl ⟨by rw [hc], hmem⟩)
          · rw [hc] at he; exact absurd he (by show ¬ (8 : Int) = 0; omega)
          · exact upd _ (.inr (by rw [hc]))
        · refine h3.trans k3 (fun b hb h => ?_)
          exact h2 b hb (h ▸ hs2)
      · rw [decide_eq_false he]
        (repeat (first|refine ja ?_|refine jb ?_|refine jc ?_|refine jd ?_|refine je ?_|refine jf ?_|refine jg ?_|refine jh ?_|refine ji ?_|refine jj ?_|refine jk ?_|refine jl ?_|refine jm ?_|refine jn ?_|refine jo ?_|refine jp ?_|refine jq ?_|refine jr ?_|refine js ?_|refine jt ?_|refine ju ?_|refine jv ?_|refine jw ?_|refine jx ?_|refine jy ?_|refine jz ?_|refine jA ?_|refine jB ?_|refine jC ?_|refine jD ?_|refine jE ?_|refine jF ?_|refine jG ?_|refine jH ?_|refine jI ?_|refine jJ ?_|refine jK ?_|refine jL ?_|refine jM (by assumption) ?_|refine jN (by assumption) rfl ?_|refine jO (by assumption) ?_|refine jP (by assumption) rfl ?_|refine jQ ?_|refine jR ?_|refine jS ?_|refine jT ?_|refine jU (by assumption) rfl ?_))
        intro _
        refine ⟨F', rfl, ⟨kw, h1, ?_, ha.good, hlen, hm⟩, h2, h3⟩
        rcases hcase with ⟨hc, hmem⟩ | hc | hc
        · rw [hc] at he; exact absurd rfl he
        · rw [hc]; exact hw
        · rw [hc] at he; exact absurd rfl he
    refine M.extract_i rfl ?_
    refine M.extract_i rfl ?_
    cases hl : lkp kw i with
    | none =>
      rw [hl] at ho
      simp only at ho
      rw [if_neg (by simp [ho])]
      (repeat (first|refine ja ?_|refine jb ?_|refine jc ?_|refine jd ?_|refine je ?_|refine jf ?_|refine jg ?_|refine jh ?_|refine ji ?_|refine jj ?_|refine jk ?_|refine jl ?_|refine jm ?_|refine jn ?_|refine jo ?_|refine jp ?_|refine jq ?_|refine jr ?_|refine js ?_|refine jt ?_|refine ju ?_|refine jv ?_|refine jw ?_|refine jx ?_|refine jy ?_|refine jz ?_|refine jA ?_|refine jB ?_|refine jC ?_|refine jD ?_|refine jE ?_|refine jF ?_|refine jG ?_|refine jH ?_|refine jI ?_|refine jJ ?_|refine jK ?_|refine jL ?_|refine jM (by assumption) ?_|refine jN (by assumption) rfl ?_|refine jO (by assumption) ?_|refine jP (by assumption) rfl ?_|refine jQ ?_|refine jR ?_|refine jS ?_|refine jT ?_|refine jU (by assumption) rfl ?_))
      refine M.pure_i (encN ⟨21, n, i, 0, 0, 0⟩) (fun _ => by kernel_rfl) ?_
      exact rest ho rfl
    | some v0 =>
      obtain ⟨m0, hm0, h21, hmi, rfl⟩ := hw.2 i v0 hl
      rw [hl] at ho
      simp only at ho
      by_cases hne : m0.wd = n
      · rw [decide_eq_false (by simpa using hne)] at ho
        rw [if_neg (by simp [ho])]
        (repeat (first|refine ja ?_|refine jb ?_|refine jc ?_|refine jd ?_|refine je ?_|refine jf ?_|refine jg ?_|refine jh ?_|refine ji ?_|refine jj ?_|refine jk ?_|refine jl ?_|refine jm ?_|refine jn ?_|refine jo ?_|refine jp ?_|refine jq ?_|refine jr ?_|refine js ?_|refine jt ?_|refine ju ?_|refine jv ?_|refine jw ?_|refine jx ?_|refine jy ?_|refine jz ?_|refine jA ?_|refine jB ?_|refine jC ?_|refine jD ?_|refine jE ?_|refine jF ?_|refine jG ?_|refine jH ?_|refine jI ?_|refine jJ ?_|refine jK ?_|refine jL ?_|refine jM (by assumption) ?_|refine jN (by assumption) rfl ?_|refine jO (by assumption) ?_|refine jP (by assumption) rfl ?_|refine jQ ?_|refine jR ?_|refine jS ?_|refine jT ?_|refine jU (by assumption) rfl ?_))
        refine M.pure_i (encN ⟨21, n, i, 0, 0, 0⟩) (fun _ => by kernel_rfl) ?_
        exact rest ho rfl
      · rw [decide_eq_true (by simpa using hne)] at ho
        rw [if_pos ho]
        (repeat (first|refine ja ?_|refine jb ?_|refine jc ?_|refine jd ?_|refine je ?_|refine jf ?_|refine jg ?_|refine jh ?_|refine ji ?_|refine jj ?_|refine jk ?_|refine jl ?_|refine jm ?_|refine jn ?_|refine jo ?_|refine jp ?_|refine jq ?_|refine jr ?_|refine js ?_|refine jt ?_|refine ju ?_|refine jv ?_|refine jw ?_|refine jx ?_|refine jy ?_|refine jz ?_|refine jA ?_|refine jB ?_|refine jC ?_|refine jD ?_|refine jE ?_|refine jF ?_|refine jG ?_|refine jH ?_|refine jI ?_|refine jJ ?_|refine jK ?_|refine jL ?_|refine jM (by assumption) ?_|refine jN (by assumption) rfl ?_|refine jO (by assumption) ?_|refine jP (by assumption) rfl ?_|refine jQ ?_|refine jR ?_|refine jS ?_|refine jT ?_|refine jU (by assumption) rfl ?_))
        exact AskO.same (Keep.refl _ _) h 0 2
end
end Go.Proofs.Ytanjlgafjgoaaaa
