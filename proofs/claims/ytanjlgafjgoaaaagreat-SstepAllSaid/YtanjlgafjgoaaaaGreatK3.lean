import Derived.Test.YtanjlgafjgoaaaaGreatK2
import Derived.Laws.StructEq
import Derived.Tactics
namespace Go.Proofs.YtanjlgafjgoaaaaGreat
open Go.Mw Go.Maps Go.MapKept
set_option linter.unusedVariables false
set_option linter.unusedSimpArgs false
set_option maxRecDepth 100000
attribute [local irreducible] M.val M.unit M.next M.pick M.new M.nilCheck M.load1 M.loadA M.store M.fieldAddr M.indexSl M.indexArr M.slice M.makeSlice M.buildSlice M.len M.lenS M.cap M.append M.extract M.conv M.not M.neg M.bin M.shift M.eqB M.eqNil M.scat M.call M.callv M.gd M.share M.cond M.loop M.draw pureW readW Ret
def sh16 (x0 x1 x2 : Value) (R : Kt) (w : World) : Prop :=
  M.eqNil 0 false x0 (fun t10 w =>
  M.cond t10
  (R (.tuple #[(Value.int IntKind.i64 0), (Value.int IntKind.i64 8)]) w)
  (M.call Tryz.prog 32 #[x1] (fun t13 w =>
  M.bin .eql t13 (Value.int IntKind.u64 0) (fun t14 w =>
  M.cond t14
  (R (.tuple #[(Value.int IntKind.i64 0), (Value.int IntKind.i64 2)]) w)
  (M.call Tryz.prog 34 #[x1, x2] (fun t19 w =>
  pureW Tryz.prog (Instr.build 93 #[(0, (Value.int IntKind.i64 20)), (1, x1), (5, t19)]) (fun t20 w =>
  M.call Tryz.prog 33 #[x0, t20] (fun t21 w =>
  M.extract 0 t21 (fun t22 w =>
  M.extract 1 t21 (fun t23 w =>
  R (.tuple #[t22, t23]) w) w) w) w) w) w)) w) w)) w
theorem ok16 (x0 x1 x2 : Value) (R : Kt) (w : World) (h : sh16 x0 x1 x2 R w) : Ret Tryz.prog 16 #[x0, x1, x2] w R :=
  ret_mk <| calls_of_comp mixed (c := Tryz.f16.body.getD .skip) (args := [x0, x1, x2]) (rs := [(ResultVar.tmp 6), (ResultVar.tmp 7)]) (Ann.seq Ann.text (Ann.seq (Ann.block (Ann.seq Ann.text (Ann.cond (Ann.seq Ann.text Ann.leaf) (Ann.seq Ann.text (Ann.cond (Ann.seq Ann.text Ann.leaf) Ann.leaf))))) (Ann.seq Ann.text Ann.leaf)))
    Tryz.func16 (by kernel_rfl) (by kernel_rfl)
    (Eq.mp (by kernel_rfl) h)
def sh94 (x0 x1 x2 : Value) (R : Kt) (w : World) : Prop :=
  M.eqNil 0 false x0 (fun t14 w =>
  M.cond t14
  (R (.tuple #[(Value.int IntKind.i64 0), (Value.int IntKind.i64 8)]) w)
  (M.call Tryz.prog 32 #[x1] (fun t17 w =>
  M.bin .eql t17 (Value.int IntKind.u64 0) (fun t18 w =>
  M.cond t18
  (R (.tuple #[(Value.int IntKind.i64 0), (Value.int IntKind.i64 2)]) w)
  (M.bin .lss x2 (Value.int IntKind.i64 0) (fun t21 w =>
  M.gd t21 false (fun k w => k x2 w) (fun t23 w =>
  M.gd t21 false (fun k w => M.bin .geq t23 (Value.int IntKind.i64 256) k w) (fun t24 w =>
  M.pick t21 (Value.bool true) t24 (fun t25 w =>
  M.cond t25
  (R (.tuple #[(Value.int IntKind.i64 0), (Value.int IntKind.i64 10)]) w)
  (M.nilCheck x0 (fun t28 w =>
  M.fieldAddr 2 t28 (fun t29 w =>
  M.load1 t29 (fun t30 w =>
  readW Tryz.prog (Instr.lookup 63 t30 x2 true) (fun t32 w =>
  M.extract 0 t32 (fun t33 w =>
  M.extract 1 t32 (fun t34 w =>
  M.gd t34 true (fun k w => k t33 w) (fun t37 w =>
  M.gd t34 true (fun k w => k x1 w) (fun t38 w =>
  M.gd t34 true (fun k w => M.bin .neq t37 t38 k w) (fun t39 w =>
  M.pick t34 t39 (Value.bool false) (fun t40 w =>
  M.cond t40
  (R (.tuple #[(Value.int IntKind.i64 0), (Value.int IntKind.i64 2)]) w)
  (pureW Tryz.prog (Instr.build 93 #[(0, (Value.int IntKind.i64 21)), (1, x1), (2, x2)]) (fun t45 w =>
  M.call Tryz.prog 33 #[x0, t45] (fun t46 w =>
  M.extract 0 t46 (fun t47 w =>
  M.extract 1 t46 (fun t48 w =>
  M.share (fun K1 w =>
  M.bin .eql t48 (Value.int IntKind.i64 0) (fun t50 w =>
  M.cond t50
  (M.nilCheck x0 (fun t52 w =>
  M.fieldAddr 2 t52 (fun t53 w =>
  M.load1 t53 (fun t54 w =>
  M.unit Tryz.prog (Instr.mapUpdate 63 t54 x2 x1) (fun _ w =>
  K1 [] w) w) w) w) w)
  (K1 [] w)) w) (fun s1 w => ∀ _ : List Value,
  R (.tuple #[t47, t48]) w) w) w) w) w) w)) w) w) w) w) w) w) w) w) w) w)) w) w) w) w)) w) w)) w
theorem ok94 (x0 x1 x2 : Value) (R : Kt) (w : World) (h : sh94 x0 x1 x2 R w) : Ret Tryz.prog 94 #[x0, x1, x2] w R :=
  ret_mk <| calls_of_comp mixed (c := Tryz.f94.body.getD .skip) (args := [x0, x1, x2]) (rs := [(ResultVar.tmp 6), (ResultVar.tmp 7)]) (Ann.seq Ann.text (Ann.seq (Ann.block (Ann.seq Ann.text (Ann.cond (Ann.seq Ann.text Ann.leaf) (Ann.seq Ann.text (Ann.cond (Ann.seq Ann.text Ann.leaf) (Ann.seq Ann.text (Ann.cond (Ann.seq Ann.text Ann.leaf) Ann.leaf))))))) (Ann.seq (Ann.seq Ann.text (Ann.seq Ann.text (Ann.cond (Ann.seq Ann.text Ann.leaf) Ann.leaf))) (Ann.seq Ann.text (Ann.join [] [49, 50, 51, 52, 53, 54, 55, 56] (Ann.seq Ann.text (Ann.cond Ann.text Ann.leaf)) (Ann.seq Ann.text Ann.leaf))))))
    Tryz.func94 (by kernel_rfl) (by kernel_rfl)
    (Eq.mp (by kernel_rfl) h)
def sh87 (x0 x1 x2 : Value) (R : Kt) (w : World) : Prop :=
  M.eqNil 0 false x0 (fun t10 w =>
  M.cond t10
  (R (.tuple #[(Value.int IntKind.i64 0), (Value.int IntKind.i64 8)]) w)
  (M.bin .neq x1 (Value.int IntKind.i64 15) (fun t13 w =>
  M.gd t13 true (fun k w => k x1 w) (fun t15 w =>
  M.gd t13 true (fun k w => M.bin .neq t15 (Value.int IntKind.i64 16) k w) (fun t16 w =>
  M.pick t13 t16 (Value.bool false) (fun t17 w =>
  M.cond t17
  (R (.tuple #[(Value.int IntKind.i64 0), (Value.int IntKind.i64 3)]) w)
  (M.buildSlice 3 1 #[.int .i64 0] 1 [(0, x2)] (fun t21 w =>
  M.call Tryz.prog 106 #[x0, t21] (fun t22 w =>
  M.cond t22
  (R (.tuple #[(Value.int IntKind.i64 0), (Value.int IntKind.i64 11)]) w)
  (M.call Tryz.prog 41 #[x0, x2] (fun t27 w =>
  pureW Tryz.prog (Instr.build 93 #[(0, x1), (1, t27), (2, x2)]) (fun t29 w =>
  M.call Tryz.prog 33 #[x0, t29] (fun t30 w =>
  M.extract 0 t30 (fun t31 w =>
  M.extract 1 t30 (fun t32 w =>
  R (.tuple #[t31, t32]) w) w) w) w) w) w)) w) w)) w) w) w) w)) w
theorem ok87 (x0 x1 x2 : Value) (R : Kt) (w : World) (h : sh87 x0 x1 x2 R w) : Ret Tryz.prog 87 #[x0, x1, x2] w R :=
  ret_mk <| calls_of_comp mixed (c := Tryz.f87.body.getD .skip) (args := [x0, x1, x2]) (rs := [(ResultVar.tmp 6), (ResultVar.tmp 7)]) (Ann.seq Ann.text (Ann.seq (Ann.block (Ann.seq Ann.text (Ann.cond (Ann.seq Ann.text Ann.leaf) (Ann.seq Ann.text (Ann.cond (Ann.seq Ann.text Ann.leaf) (Ann.seq Ann.text (Ann.cond (Ann.seq Ann.text Ann.leaf) Ann.leaf))))))) (Ann.seq Ann.text Ann.leaf)))
    Tryz.func87 (by kernel_rfl) (by kernel_rfl)
    (Eq.mp (by kernel_rfl) h)
def sh113 (x0 x1 x2 x3 : Value) (R : Kt) (w : World) : Prop :=
  M.eqNil 0 false x0 (fun t13 w =>
  M.cond t13
  (R (.tuple #[(Value.int IntKind.i64 0), (Value.int IntKind.i64 8)]) w)
  (M.bin .lss x1 (Value.int IntKind.i64 1) (fun t16 w =>
  M.gd t16 false (fun k w => k x1 w) (fun t18 w =>
  M.gd t16 false (fun k w => M.bin .gtr t18 (Value.int IntKind.i64 14) k w) (fun t19 w =>
  M.pick t16 (Value.bool true) t19 (fun t20 w =>
  M.cond t20
  (R (.tuple #[(Value.int IntKind.i64 0), (Value.int IntKind.i64 3)]) w)
  (M.buildSlice 3 1 #[.int .i64 0] 2 [(0, x2), (1, x3)] (fun t25 w =>
  M.call Tryz.prog 106 #[x0, t25] (fun t26 w =>
  M.cond t26
  (R (.tuple #[(Value.int IntKind.i64 0), (Value.int IntKind.i64 11)]) w)
  (M.call Tryz.prog 41 #[x0, x2] (fun t30 w =>
  M.call Tryz.prog 41 #[x0, x3] (fun t33 w =>
  M.bin .neq t30 t33 (fun t34 w =>
  M.cond t34
  (R (.tuple #[(Value.int IntKind.i64 0), (Value.int IntKind.i64 2)]) w)
  (M.call Tryz.prog 41 #[x0, x2] (fun t37 w =>
  M.share (fun K1 w =>
  M.bin .eql x1 (Value.int IntKind.i64 12) (fun t39 w =>
  M.gd t39 false (fun k w => k x1 w) (fun t41 w =>
  M.gd t39 false (fun k w => M.bin .eql t41 (Value.int IntKind.i64 13) k w) (fun t42 w =>
  M.pick t39 (Value.bool true) t42 (fun t43 w =>
  M.gd t43 false (fun k w => k x1 w) (fun t45 w =>
  M.gd t43 false (fun k w => M.bin .eql t45 (Value.int IntKind.i64 14) k w) (fun t46 w =>
  M.pick t43 (Value.bool true) t46 (fun t47 w =>
  M.cond t47
  (K1 [(Value.int IntKind.i64 1)] w)
  (K1 [t37] w)) w) w) w) w) w) w) w) (fun s1 w => ∀ _ : List Value,
  pureW Tryz.prog (Instr.build 93 #[(0, x1), (1, (s1.getD 0 undef)), (2, x2), (3, x3)]) (fun t53 w =>
  M.call Tryz.prog 33 #[x0, t53] (fun t54 w =>
  M.extract 0 t54 (fun t55 w =>
  M.extract 1 t54 (fun t56 w =>
  R (.tuple #[t55, t56]) w) w) w) w) w) w) w)) w) w) w)) w) w)) w) w) w) w)) w
theorem ok113 (x0 x1 x2 x3 : Value) (R : Kt) (w : World) (h : sh113 x0 x1 x2 x3 R w) : Ret Tryz.prog 113 #[x0, x1, x2, x3] w R :=
  ret_mk <| calls_of_comp mixed (c := Tryz.f113.body.getD .skip) (args := [x0, x1, x2, x3]) (rs := [(ResultVar.tmp 8), (ResultVar.tmp 9)]) (Ann.seq Ann.text (Ann.seq (Ann.block (Ann.seq Ann.text (Ann.cond (Ann.seq Ann.text Ann.leaf) (Ann.seq Ann.text (Ann.cond (Ann.seq Ann.text Ann.leaf) (Ann.seq Ann.text (Ann.cond (Ann.seq Ann.text Ann.leaf) (Ann.seq Ann.text (Ann.cond (Ann.seq Ann.text Ann.leaf) Ann.leaf))))))))) (Ann.seq Ann.text (Ann.join [10] [38, 39, 40, 41, 42, 43, 44, 45, 46, 47] (Ann.seq Ann.text (Ann.cond Ann.text Ann.leaf)) (Ann.seq Ann.text Ann.leaf)))))
    Tryz.func113 (by kernel_rfl) (by kernel_rfl)
    (Eq.mp (by kernel_rfl) h)
def sh117 (x0 x1 x2 x3 : Value) (R : Kt) (w : World) : Prop :=
  M.eqNil 0 false x0 (fun t13 w =>
  M.cond t13
  (R (.tuple #[(Value.int IntKind.i64 0), (Value.int IntKind.i64 8)]) w)
  (M.buildSlice 3 1 #[.int .i64 0] 1 [(0, x1)] (fun t17 w =>
  M.call Tryz.prog 106 #[x0, t17] (fun t18 w =>
  M.cond t18
  (R (.tuple #[(Value.int IntKind.i64 0), (Value.int IntKind.i64 11)]) w)
  (M.call Tryz.prog 41 #[x0, x1] (fun t23 w =>
  M.bin .lss x2 t23 (fun t24 w =>
  M.gd t24 false (fun k w => k x2 w) (fun t26 w =>
  M.gd t24 false (fun k w => M.bin .gtr t26 (Value.int IntKind.i64 64) k w) (fun t27 w =>
  M.pick t24 (Value.bool true) t27 (fun t28 w =>
  M.cond t28
  (R (.tuple #[(Value.int IntKind.i64 0), (Value.int IntKind.i64 2)]) w)
  (M.call Tryz.prog 41 #[x0, x1] (fun t33 w =>
  M.bin .eql x2 t33 (fun t34 w =>
  M.cond t34
  (R (.tuple #[x1, (Value.int IntKind.i64 0)]) w)
  (pureW Tryz.prog (Instr.build 93 #[(0, (Value.int IntKind.i64 25)), (1, x2), (2, x1)]) (fun t38 w =>
  M.new 93 #[.int .i64 0, .int .i64 0, .int .i64 0, .int .i64 0, .int .i64 0, .int .u64 0] (fun t10 w =>
  M.store 6 t10 t38 (fun _ w =>
  M.share (fun K1 w =>
  M.cond x3
  (M.fieldAddr 0 t10 (fun t40 w =>
  M.store 1 t40 (Value.int IntKind.i64 26) (fun _ w =>
  K1 [] w) w) w)
  (K1 [] w)) (fun s1 w => ∀ _ : List Value,
  M.loadA 6 t10 (fun t42 w =>
  M.call Tryz.prog 33 #[x0, t42] (fun t43 w =>
  M.extract 0 t43 (fun t44 w =>
  M.extract 1 t43 (fun t45 w =>
  R (.tuple #[t44, t45]) w) w) w) w) w) w) w) w) w)) w) w)) w) w) w) w) w)) w) w)) w
theorem ok117 (x0 x1 x2 x3 : Value) (R : Kt) (w : World) (h : sh117 x0 x1 x2 x3 R w) : Ret Tryz.prog 117 #[x0, x1, x2, x3] w R :=
  ret_mk <| calls_of_comp mixed (c := Tryz.f117.body.getD .skip) (args := [x0, x1, x2, x3]) (rs := [(ResultVar.tmp 8), (ResultVar.tmp 9)]) (Ann.seq Ann.text (Ann.seq (Ann.block (Ann.seq Ann.text (Ann.cond (Ann.seq Ann.text Ann.leaf) (Ann.seq Ann.text (Ann.cond (Ann.seq Ann.text Ann.leaf) (Ann.seq Ann.text (Ann.cond (Ann.seq Ann.text Ann.leaf) (Ann.seq Ann.text (Ann.cond (Ann.seq Ann.text Ann.leaf) Ann.leaf))))))))) (Ann.seq Ann.text (Ann.join [] [39, 40] (Ann.seq Ann.text (Ann.cond Ann.text Ann.leaf)) (Ann.seq Ann.text Ann.leaf)))))
    Tryz.func117 (by kernel_rfl) (by kernel_rfl)
    (Eq.mp (by kernel_rfl) h)
def WdR (N : List Nd) (kw : List (Int × Value)) : Prop := (∀ n ∈ N, n.op = 21 → lkp kw n.a = some (vi n.wd)) ∧ ∀ i v, lkp kw i = some v → ∃ n ∈ N, n.op = 21 ∧ n.a = i ∧ v = vi n.wd
def DagO (w : World) (F : Nat → Prop) (p : Nat) (N : List Nd) (most : Int) : Prop := ∃ kw, DagC w F p N most kw ∧ WdR N kw ∧ GoodN N ∧ N.length ≤ 65536 ∧ most ≤ 65536
theorem DagO.keep {w w' : World} {F S : Nat → Prop} {p : Nat} {N : List Nd} {most : Int} (h : DagO w F p N most) (k : Keep w w' S) (hs : ∀ b, F b → ¬ S b) : DagO w' F p N most := by
  obtain ⟨kw, h1, h2⟩ := h
  exact ⟨kw, h1.keep k hs, h2⟩
theorem DagO.keepN {w w' : World} {F : Nat → Prop} {p : Nat} {N : List Nd} {most : Int} (h : DagO w F p N most) (k : Keep w w' No) : DagO w' F p N most := h.keep k (fun _ _ h => h)
theorem DagO.lt {w : World} {F : Nat → Prop} {p : Nat} {N : List Nd} {most : Int} (h : DagO w F p N most) {b : Nat} (hb : F b) : b < w.heap.size := by
  obtain ⟨kw, h1, _⟩ := h
  exact h1.lt hb
theorem DagO.good {w : World} {F : Nat → Prop} {p : Nat} {N : List Nd} {most : Int} (h : DagO w F p N most) : GoodN N := by
  obtain ⟨kw, _, _, h, _⟩ := h; exact h
theorem DagO.len {w : World} {F : Nat → Prop} {p : Nat} {N : List Nd} {most : Int} (h : DagO w F p N most) : N.length ≤ 65536 ∧ most ≤ 65536 := by
  obtain ⟨kw, _, _, _, h⟩ := h; exact h
def AskO (w : World) (F : Nat → Prop) (p : Nat) (most : Int) (res : List Nd × Int × Int) (r : Value) (w' : World) : Prop :=
  ∃ F', r = .tuple #[vi res.2.1, vi res.2.2] ∧ DagO w' F' p res.1 most ∧ (∀ b, b < w.heap.size → F' b → F b) ∧ Keep w w' F
theorem AskO.from {w w1 : World} {F : Nat → Prop} {p : Nat} {most : Int} {res : List Nd × Int × Int} {r : Value} {w' : World} (k : Keep w w1 No) (h : AskO w1 F p most res r w') : AskO w F p most res r w' := by
  obtain ⟨F', h1, h2, h3, h4⟩ := h
  exact ⟨F', h1, h2, fun b hb => h3 b (Nat.lt_of_lt_of_le hb k.size), (k.mono (fun _ _ h => h.elim)).trans h4 (fun _ _ h => h)⟩
theorem AskO.same {w w1 : World} {F : Nat → Prop} {p : Nat} {N : List Nd} {most : Int} (k : Keep w w1 No) (h : DagO w1 F p N most) (i e : Int) : AskO w F p most (N, i, e) (.tuple #[vi i, vi e]) w1 :=
  ⟨F, rfl, h, fun _ _ h => h, k.mono (fun _ _ h => h.elim)⟩
section
variable {w : World} {F : Nat → Prop} {p : Nat} {N : List Nd} {most : Int}
theorem makeO (h : DagO w F p N most) {n : Nd} (hg : goodN N n) (ho : n.op ≠ 21) :
    Ret Tryz.prog 33 #[ptr p, encN n] w (AskO w F p most (madeN most N n)) := by
  obtain ⟨kw, hd, hw, hG, hN, hm⟩ := h
  refine (make_ret hd (by omega) (hg.ok (by omega))).mono ?_
  rintro r w' ⟨F', rfl, h1, h2, h3⟩
  have ha := ask_made (most := most) hG hg
  refine ⟨F', rfl, ⟨kw, h1, ?_, ha.good, ?_, hm⟩, h2, h3⟩
  · unfold madeN
    split
    · exact hw
    · split
      · exact hw
      · refine ⟨fun m hmem h21 => ?_, fun i v hv => ?_⟩
        · rcases List.mem_append.1 hmem with h | h
          · exact hw.1 m h h21
          · simp at h; subst h; exact absurd h21 ho
        · obtain ⟨m, h, h'⟩ := hw.2 i v hv
          exact ⟨m, List.mem_append_left _ h, h'⟩
  · rcases ha.len with h | h
    · omega
    · rw [h]; exact hN
theorem const_ret (h : DagO w F p N most) (n : Int) (x : W64) :
    Ret Tryz.prog 16 #[ptr p, vi n, vw x] w (AskO w F p most (constN most N n x)) := by
  refine ok16 _ _ _ _ _ ?_
  unfold sh16
  (repeat (first|refine jp ?_|refine jt ?_))
  refine M.call_i (mask_ret n w) ?_; rintro _ w1 ⟨rfl, rfl⟩
  change M.bin .eql (vw (maskW n)) (vw 0) _ _
  refine M.eqlW_i ?_
  have hz : decide (maskW n = 0) = !fitsB n := by
    cases hf : fitsB n with
    | false =>
      have : maskW n = 0 := by unfold maskW; rw [hf]; rfl
      rw [this]; rfl
    | true =>
      obtain ⟨m, rfl, h1, h2⟩ := fits_nat hf
      rw [decide_eq_false]
      · rfl
      · intro e
        have := maskW_bit h1 h2 0
        rw [e, decide_eq_true (by omega)] at this
        simp at this
  rw [hz]
  unfold constN
  cases hf : fitsB n with
  | false =>
    (repeat (refine jo ?_))
    exact AskO.same (Keep.refl _ _) h 0 2
  | true =>
    have hm : ∃ m : Nat, n = m ∧ 1 ≤ m ∧ m ≤ 64 := fits_nat hf
    (repeat (refine jp ?_))
    refine M.call_i (cut_ret n x w1) ?_; rintro _ w2 ⟨rfl, rfl⟩
    refine M.pure_i (encN ⟨20, n, 0, 0, 0, cutW n x⟩) (fun _ => by kernel_rfl) ?_
    obtain ⟨m, rfl, h1, h2⟩ := hm
    have hg : goodN N ⟨20, m, 0, 0, 0, cutW m x⟩ := ⟨by show 1 ≤ (m : Int) ∧ (m : Int) ≤ 64; omega, by intro k hk; simp [kidsN] at hk, .inl ⟨rfl, rfl, rfl, rfl, by
      show cutW m (cutW m x) = cutW m x
      unfold cutW
      rw [BitVec.and_assoc, BitVec.and_self]⟩⟩
    refine M.call_i (makeO h hg (by show (20 : Int) ≠ 21; omega)) ?_
    rintro _ w3 ⟨F', rfl, h3⟩
    refine M.extract_i rfl ?_
    refine M.extract_i rfl ?_
    exact ⟨F', rfl, h3⟩
theorem mask_zero (n : Int) : decide (maskW n = 0) = !fitsB n := by
  cases hf : fitsB n with
  | false =>
    have : maskW n = 0 := by unfold maskW; rw [hf]; rfl
    rw [this]; rfl
  | true =>
    obtain ⟨m, rfl, h1, h2⟩ := fits_nat hf
    rw [decide_eq_false]
    · rfl
    · intro e
      have := maskW_bit h1 h2 0
      rw [e, decide_eq_true (by omega)] at this
      simp at this
theorem otherW_of {kw : List (Int × Value)} (h : WdR N kw) (w i : Int) : otherW N w i = match lkp kw i with
    | some (.int _ x) => decide (x ≠ w)
    | _ => false := by
  cases hl : lkp kw i with
  | none =>
    simp only
    unfold otherW
    rw [List.any_eq_false]
    intro n hn hh
    simp only [Bool.and_eq_true, decide_eq_true_eq] at hh
    have := h.1 n hn hh.1.1
    rw [hh.1.2, hl] at this
    simp at this
  | some v =>
    obtain ⟨n, hn, h1, h2, rfl⟩ := h.2 i v hl
    simp only
    unfold otherW
    by_cases hw : n.wd = w
    · rw [decide_eq_false (by simpa using hw), List.any_eq_false]
      intro m hm hh
      simp only [Bool.and_eq_true, decide_eq_true_eq] at hh
      have := h.1 m hm hh.1.1
      rw [hh.1.2, hl] at this
      simp only [Option.some.injEq, Value.int.injEq, true_and] at this
      exact hh.2 (by rw [← this]; exact hw)
    · rw [decide_eq_true (by simpa using hw)]
      exact List.any_eq_true.2 ⟨n, hn, by simp [h1, h2, hw]⟩
set_option maxHeartbeats 1000000 in
theorem var_ret (h : DagO w F p N most) (n i : Int) :
    Ret Tryz.prog 94 #[ptr p, vi n, vi i] w (AskO w F p most (varN most N n i)) := by
  refine ok94 _ _ _ _ _ ?_
  unfold sh94
  (repeat (first|refine jp ?_|refine jt ?_))
  refine M.call_i (mask_ret n w) ?_; rintro _ w1 ⟨rfl, rfl⟩
  change M.bin .eql (vw (maskW n)) (vw 0) _ _
  refine M.eqlW_i ?_
  rw [mask_zero]
  unfold varN
  cases hf : fitsB n with
  | false =>
    rw [if_pos rfl]
    (repeat (refine jo ?_))
    exact AskO.same (Keep.refl _ _) h 0 2
  | true =>
    rw [if_neg (by simp)]
    by_cases hi0 : i < 0
    · rw [if_pos (.inl hi0)]
      (repeat (first|refine ji ?_|refine jk ?_|refine jo ?_|refine jp ?_|refine jy ?_))
      exact AskO.same (Keep.refl _ _) h 0 10
    by_cases hi1 : 255 < i
    · rw [if_pos (.inr hi1)]
      (repeat (first|refine jg ?_|refine jl ?_|refine jo ?_|refine jp ?_|refine jz ?_|refine jE ?_))
      exact AskO.same (Keep.refl _ _) h 0 10
    rw [if_neg (by omega)]
    obtain ⟨kw, hd, hw, hG, hN, hm⟩ := id h
    obtain ⟨v, r1, r2, kv, g1, g2, g3, g4, g5, g6, g7, g8, g9, g10⟩ := id hd
    have ho := otherW_of hw n i
    (repeat (first|refine jb ?_|refine jc ?_|refine jg ?_|refine jl ?_|refine jp ?_|refine jz ?_|refine jF ?_|refine jN (by assumption) rfl ?_))
    refine M.lookupOk_i (kt := 3) (et := 3) (z := vi 0) (by kernel_rfl) (by kernel_rfl) (fun w => Tryz.zeroValue3 w) g4 ?_
    have go : otherW N n i = false → AskO w1 F p most (madeN most N ⟨21, n, i, 0, 0, 0⟩) = AskO w1 F p most (madeN most N ⟨21, n, i, 0, 0, 0⟩) := fun _ => rfl
    have hgood : goodN N ⟨21, n, i, 0, 0, 0⟩ := by
      obtain ⟨m, rfl, h1, h2⟩ := fits_nat hf
      exact ⟨by show 1 ≤ (m : Int) ∧ (m : Int) ≤ 64; omega, by intro k hk; simp [kidsN] at hk, .inr (.inl ⟨rfl, by show 0 ≤ i; omega, by show i ≤ 255; omega, rfl, rfl, rfl⟩)⟩
    have rest : ∀ {R : Kt}, otherW N n i = false → R = AskO w1 F p most (madeN most N ⟨21, n, i, 0, 0, 0⟩) → M.call Tryz.prog 33 #[ptr p, encN ⟨21, n, i, 0, 0, 0⟩] (fun t46 w => M.extract 0 t46 (fun t47 w => M.extract 1 t46 (fun t48 w =>
        M.share (fun K1 w => M.bin .eql t48 (vi 0) (fun t50 w => M.cond t50 (M.nilCheck (ptr p) (fun t52 w => M.fieldAddr 2 t52 (fun t53 w => M.load1 t53 (fun t54 w => M.unit Tryz.prog (Instr.mapUpdate 63 t54 (vi i) (vi n)) (fun _ w => K1 [] w) w) w) w) w) (K1 [] w)) w)
          (fun s1 w => ∀ _ : List Value, R (.tuple #[t47, t48]) w) w) w) w) w1 := by
      rintro R hno rfl
      refine M.call_i (make_ret hd (by omega) (hgood.ok (by omega))) ?_
      rintro _ w2 ⟨F', rfl, h1, h2, h3⟩
      have ha := ask_made (most := most) hG hgood
      have hlen : (madeN most N ⟨21, n, i, 0, 0, 0⟩).1.length ≤ 65536 := by
        rcases ha.len with h | h
        · omega
        · rw [h]; exact hN
      refine M.extract_i rfl ?_
      refine M.extract_i rfl ?_
      refine M.share_i ?_
      refine M.eql_i ?_
      have hcase : (madeN most N ⟨21, n, i, 0, 0, 0⟩ = (N, ((N.idxOf (⟨21, n, i, 0, 0, 0⟩ : Nd) : Nat) : Int), 0) ∧ (⟨21, n, i, 0, 0, 0⟩ : Nd) ∈ N) ∨ madeN most N ⟨21, n, i, 0, 0, 0⟩ = (N, 0, 8) ∨ madeN most N ⟨21, n, i, 0, 0, 0⟩ = (N ++ [⟨21, n, i, 0, 0, 0⟩], (N.length : Int), 0) := by
        unfold madeN
        split
        · rename_i hh; exact .inl ⟨rfl, hh⟩
        · split
          · exact .inr (.inl rfl)
          · exact .inr (.inr rfl)
      have same : ∀ m ∈ N, m.op = 21 → m.a = i → m.wd = n := fun m hm h21 hmi => by
        unfold otherW at hno
        rw [List.any_eq_false] at hno
        have := hno m hm
        simp only [h21, hmi, decide_true, Bool.true_and, decide_eq_true_eq, ne_eq, Classical.not_not] at this
        exact this
      have upd : ∀ (N' : List Nd), (N' = N ∧ (⟨21, n, i, 0, 0, 0⟩ : Nd) ∈ N) ∨ N' = N ++ [⟨21, n, i, 0, 0, 0⟩] → WdR N' (upd kw i (vi n)) := fun N' hN' => by
        have hin : (⟨21, n, i, 0, 0, 0⟩ : Nd) ∈ N' := by
          rcases hN' with ⟨rfl, h⟩ | rfl
          · exact h
          · simp
        have hsub : ∀ m ∈ N', m ∈ N ∨ m = ⟨21, n, i, 0, 0, 0⟩ := fun m hm => by
          rcases hN' with ⟨rfl, h⟩ | rfl
          · exact .inl hm
          · rcases List.mem_append.1 hm with h | h
            · exact .inl h
            · simp at h; exact .inr h
        have hsup : ∀ m ∈ N, m ∈ N' := fun m hm => by
          rcases hN' with ⟨rfl, h⟩ | rfl
          · exact hm
          · exact List.mem_append_left _ hm
        refine ⟨fun m hmem h21 => ?_, fun j v hv => ?_⟩
        · rw [lkp_upd]
          rcases hsub m hmem with h | rfl
          · by_cases hmi : m.a = i
            · rw [if_pos hmi, same m h h21 hmi]
            · rw [if_neg hmi]; exact hw.1 m h h21
          · rw [if_pos rfl]
        · rw [lkp_upd] at hv
          by_cases hji : j = i
          · rw [if_pos hji] at hv
            cases hv
            exact ⟨_, hin, rfl, hji.symm, rfl⟩
          · rw [if_neg hji] at hv
            obtain ⟨m, h, h'⟩ := hw.2 j v hv
            exact ⟨m, hsup m h, h'⟩
      obtain ⟨v', s1, s2, kv', e1, e2, e3, e4, e5, e6, e7, e8, e9, e10⟩ := id h1
      by_cases he : (madeN most N ⟨21, n, i, 0, 0, 0⟩).2.2 = 0
      · rw [decide_eq_true he]
        (repeat (first|refine jb ?_|refine jc ?_|refine jo ?_|refine jN (by assumption) rfl ?_))
        refine M.mapUpdate_i (kt := 3) (et := 3) (by kernel_rfl) (by kernel_rfl) e4 (fun w3 m3 k3 s3 => ?_)
        intro _
        have hs2 : F' s2 := (e6 s2).2 (.inr (.inr (.inl rfl)))
        refine ⟨F', rfl, ⟨_, ⟨v', s1, s2, kv', e1.keep k3 e9, (GC.own e2).keep k3 (fun b _ hb h => (e10 b hb).2.2 h) |>.mono (fun b _ hb => (e6 b).2 (.inr (.inr (.inr hb)))), e3.keep k3 e7, m3, e5, e6, e7, e8, e9, e10⟩, ?_, ha.good, hlen, hm⟩, h2, ?_⟩
        · rcases hcase with ⟨hc, hmem⟩ | hc | hc
          · exact upd _ (.inl ⟨by rw [hc], hmem⟩)
          · rw [hc] at he; exact absurd he (by show ¬ (8 : Int) = 0; omega)
          · exact upd _ (.inr (by rw [hc]))
        · refine h3.trans k3 (fun b hb h => ?_)
          exact h2 b hb (h ▸ hs2)
      · rw [decide_eq_false he]
        (repeat (refine jp ?_))
        intro _
        refine ⟨F', rfl, ⟨kw, h1, ?_, ha.good, hlen, hm⟩, h2, h3⟩
        rcases hcase with ⟨hc, hmem⟩ | hc | hc
        · rw [hc] at he; exact absurd rfl he
        · rw [hc]; exact hw
        · rw [hc] at he; exact absurd rfl he
    refine M.extract_i rfl ?_
    refine M.extract_i rfl ?_
    cases hl : lkp kw i with
    | none =>
      rw [hl] at ho
      simp only at ho
      rw [if_neg (by simp [ho])]
      (repeat (first|refine jh ?_|refine jl ?_|refine jp ?_))
      refine M.pure_i (encN ⟨21, n, i, 0, 0, 0⟩) (fun _ => by kernel_rfl) ?_
      exact rest ho rfl
    | some v0 =>
      obtain ⟨m0, hm0, h21, hmi, rfl⟩ := hw.2 i v0 hl
      rw [hl] at ho
      simp only at ho
      by_cases hne : m0.wd = n
      · rw [decide_eq_false (by simpa using hne)] at ho
        rw [if_neg (by simp [ho])]
        (repeat (first|refine jf ?_|refine jk ?_|refine jp ?_|refine jJ ?_))
        refine M.pure_i (encN ⟨21, n, i, 0, 0, 0⟩) (fun _ => by kernel_rfl) ?_
        exact rest ho rfl
      · rw [decide_eq_true (by simpa using hne)] at ho
        rw [if_pos ho]
        (repeat (first|refine jf ?_|refine jk ?_|refine jo ?_|refine jI ?_))
        exact AskO.same (Keep.refl _ _) h 0 2
end
end Go.Proofs.YtanjlgafjgoaaaaGreat
namespace Go.Proofs.YtanjlgafjgoaaaaGreat
open Go.Mw Go.Maps Go.MapKept
set_option linter.unusedVariables false
set_option linter.unusedSimpArgs false
set_option maxRecDepth 100000
attribute [local irreducible] M.val M.unit M.next M.pick M.new M.nilCheck M.load1 M.loadA M.store M.fieldAddr M.indexSl M.indexArr M.slice M.makeSlice M.buildSlice M.len M.lenS M.cap M.append M.extract M.conv M.not M.neg M.bin M.shift M.eqB M.eqNil M.scat M.call M.callv M.gd M.share M.cond M.loop M.draw pureW readW Ret
section
variable {w : World} {F : Nat → Prop} {p : Nat} {N : List Nd} {most : Int}
theorem DagO.none (h : DagO w F p N most) {D : Nat → Prop} {v : Value} {ids : List Int} (hl : LV vi w D v ids) (hf : ids.length ≤ 1000000) :
    Ret Tryz.prog 106 #[ptr p, v] w (fun r w' => r = .bool (ids.any (fun i => !isN N i)) ∧ w' = w) := by
  obtain ⟨kw, hd, _⟩ := h
  exact none_ret hd hl hf
theorem DagO.width (h : DagO w F p N most) (i : Int) :
    Ret Tryz.prog 41 #[ptr p, vi i] w (fun r w' => r = vi (wdN N i) ∧ Keep w w' No) := by
  obtain ⟨kw, hd, _⟩ := h
  exact width_ret hd i
theorem DagO.node (h : DagO w F p N most) (i : Int) :
    Ret Tryz.prog 71 #[ptr p, vi i] w (fun r w' => r = .tuple #[encN (nodeAt N i), .bool (isN N i)] ∧ Keep w w' No) := by
  obtain ⟨kw, hd, _⟩ := h
  exact node_ret hd i
theorem blk1 {w : World} {b : Nat} {x : Int} (h : Blk w b [vi x]) : LV vi w (fun _ => True) (.slice (some ⟨b, 0, none⟩) 1 1) [x] := ⟨_, _, rfl, Row.of_blk' h trivial, Nat.le_refl _⟩
theorem blk2 {w : World} {b : Nat} {x y : Int} (h : Blk w b [vi x, vi y]) : LV vi w (fun _ => True) (.slice (some ⟨b, 0, none⟩) 2 2) [x, y] := ⟨_, _, rfl, Row.of_blk' h trivial, Nat.le_refl _⟩
theorem unary_ret (h : DagO w F p N most) (op a : Int) :
    Ret Tryz.prog 87 #[ptr p, vi op, vi a] w (AskO w F p most (unaryN most N op a)) := by
  refine ok87 _ _ _ _ _ ?_
  unfold sh87
  unfold unaryN
  by_cases ho : op ≠ 15 ∧ op ≠ 16
  · have h1 := ho.1
    have h2 := ho.2
    rw [if_pos ho]
    (repeat (first|refine jf ?_|refine jk ?_|refine jo ?_|refine jp ?_|refine jt ?_|refine jI ?_))
    exact AskO.same (Keep.refl _ _) h 0 3
  rw [if_neg ho]
  have go : ∀ {R : Kt}, R = AskO w F p most (if isN N a = false then (N, 0, 11) else madeN most N ⟨op, wdN N a, a, 0, 0, 0⟩) → M.buildSlice 3 1 #[.int .i64 0] 1 [(0, vi a)] (fun t21 w => M.call Tryz.prog 106 #[ptr p, t21] (fun t22 w => M.cond t22 (R (.tuple #[vi 0, vi 11]) w)
      (M.call Tryz.prog 41 #[ptr p, vi a] (fun t27 w => pureW Tryz.prog (Instr.build 93 #[(0, vi op), (1, t27), (2, vi a)]) (fun t29 w => M.call Tryz.prog 33 #[ptr p, t29] (fun t30 w => M.extract 0 t30 (fun t31 w => M.extract 1 t30 (fun t32 w => R (.tuple #[t31, t32]) w) w) w) w) w) w)) w) w := by
    rintro R rfl
    refine M.buildSlice_i [vi a] (by kernel_rfl) (fun w1 b1 k1 s1 => ?_)
    have h1 := h.keepN k1
    refine M.call_i (h1.none (blk1 b1) (by show 1 ≤ 1000000; omega)) ?_; rintro _ w2 ⟨rfl, rfl⟩
    rw [show ([a] : List Int).any (fun i => !isN N i) = !isN N a by simp]
    cases ha : isN N a with
    | false =>
      rw [if_pos rfl]
      (repeat (refine jo ?_))
      exact AskO.same k1 h1 0 11
    | true =>
      rw [if_neg (by simp)]
      (repeat (refine jp ?_))
      refine M.call_i (h1.width a) ?_; rintro _ w3 ⟨rfl, k3⟩
      refine M.pure_i (encN ⟨op, wdN N a, a, 0, 0, 0⟩) (fun _ => by kernel_rfl) ?_
      have hg : goodN N ⟨op, wdN N a, a, 0, 0, 0⟩ := by
        refine ⟨h.good.wd ha, fun k hk => ?_, .inr (.inr (.inl ⟨by show op = 15 ∨ op = 16; omega, rfl, rfl, rfl, rfl⟩))⟩
        unfold kidsN at hk
        rw [if_neg (by show ¬ (op = 20 ∨ op = 21); omega), if_neg (by show ¬ op = 22; omega), if_neg (by show ¬ (op ≤ 14 ∨ op = 24); omega)] at hk
        simp at hk; subst hk; exact ha
      refine M.call_i (makeO (h1.keepN k3) hg (by show op ≠ 21; omega)) ?_
      rintro _ w4 ⟨F', rfl, h4⟩
      refine M.extract_i rfl ?_
      refine M.extract_i rfl ?_
      exact AskO.from (k1.trans k3 (fun _ _ h => h)) ⟨F', rfl, h4⟩
  rcases (by omega : op = 15 ∨ op = 16) with rfl | rfl
  · (repeat (first|refine jh ?_|refine jl ?_|refine jp ?_|refine jt ?_|refine jJ ?_))
    exact go rfl
  · (repeat (first|refine jf ?_|refine jk ?_|refine jp ?_|refine jt ?_|refine jI ?_|refine jJ ?_))
    exact go rfl
set_option maxHeartbeats 1000000 in
theorem binary_ret (h : DagO w F p N most) (op a b : Int) :
    Ret Tryz.prog 113 #[ptr p, vi op, vi a, vi b] w (AskO w F p most (binaryN most N op a b)) := by
  refine ok113 _ _ _ _ _ _ ?_
  unfold sh113
  unfold binaryN
  by_cases ho1 : op < 1
  · rw [if_pos (.inl ho1)]
    (repeat (first|refine ji ?_|refine jk ?_|refine jo ?_|refine jp ?_|refine jt ?_|refine jy ?_))
    exact AskO.same (Keep.refl _ _) h 0 3
  by_cases ho2 : 14 < op
  · rw [if_pos (.inr ho2)]
    (repeat (first|refine jg ?_|refine jl ?_|refine jo ?_|refine jp ?_|refine jt ?_|refine jz ?_|refine jC ?_))
    exact AskO.same (Keep.refl _ _) h 0 3
  rw [if_neg (by omega)]
  (repeat (first|refine jg ?_|refine jl ?_|refine jp ?_|refine jt ?_|refine jz ?_|refine jD ?_))
  refine M.buildSlice_i [vi a, vi b] (by kernel_rfl) (fun w1 b1 k1 s1 => ?_)
  have h1 := h.keepN k1
  refine M.call_i (h1.none (blk2 b1) (by show 2 ≤ 1000000; omega)) ?_; rintro _ w2 ⟨rfl, rfl⟩
  by_cases hab : isN N a = false ∨ isN N b = false
  · rw [if_pos hab, show ([a, b] : List Int).any (fun i => !isN N i) = true by rcases hab with h | h <;> simp [h]]
    (repeat (refine jo ?_))
    exact AskO.same k1 h1 0 11
  · have ha : isN N a = true := by
      cases hh : isN N a
      · exact absurd (.inl hh) hab
      · rfl
    have hb : isN N b = true := by
      cases hh : isN N b
      · exact absurd (.inr hh) hab
      · rfl
    rw [if_neg hab, show ([a, b] : List Int).any (fun i => !isN N i) = false by simp [ha, hb]]
    have hwa := h.good.wd ha
    (repeat (refine jp ?_))
    refine M.call_i (h1.width a) ?_; rintro _ w3 ⟨rfl, k3⟩
    refine M.call_i ((h1.keepN k3).width b) ?_; rintro _ w4 ⟨rfl, k4⟩
    have k14 := (k1.trans k3 (fun _ _ h => h)).trans k4 (fun _ _ h => h)
    have h4 := h.keepN k14
    by_cases hw : wdN N a = wdN N b
    rotate_left
    · rw [if_pos hw]
      (repeat (first|refine jo ?_|refine jI ?_))
      exact AskO.same k14 h4 0 2
    · rw [if_neg (by simpa using hw)]
      (repeat (first|refine jp ?_|refine jJ ?_))
      refine M.call_i (h4.width a) ?_; rintro _ w5 ⟨rfl, k5⟩
      have k15 := k14.trans k5 (fun _ _ h => h)
      have h5 := h.keepN k15
      refine M.share_j (fun vals w' => vals = [vi (if 12 ≤ op then 1 else wdN N a)] ∧ w' = w5) ?_ ?_
      · rintro vals w6 ⟨rfl, rfl⟩ _
        simp only [List.getD_cons_zero, List.getD_cons_succ]
        refine M.pure_i (encN ⟨op, if 12 ≤ op then 1 else wdN N a, a, b, 0, 0⟩) (fun _ => by kernel_rfl) ?_
        have hg : goodN N ⟨op, if 12 ≤ op then 1 else wdN N a, a, b, 0, 0⟩ := by
          refine ⟨?_, fun k hk => ?_, .inr (.inr (.inr (.inl ⟨by show 1 ≤ op; omega, by show op ≤ 14; omega, hw, rfl, rfl, rfl⟩)))⟩
          · show 1 ≤ (if 12 ≤ op then (1 : Int) else wdN N a) ∧ (if 12 ≤ op then (1 : Int) else wdN N a) ≤ 64
            split <;> omega
          · unfold kidsN at hk
            rw [if_neg (by show ¬ (op = 20 ∨ op = 21); omega), if_neg (by show ¬ op = 22; omega), if_pos (by show op ≤ 14 ∨ op = 24; omega)] at hk
            simp at hk
            rcases hk with rfl | rfl
            · exact ha
            · exact hb
        refine M.call_i (makeO h5 hg (by show op ≠ 21; omega)) ?_
        rintro _ w7 ⟨F', rfl, h7⟩
        refine M.extract_i rfl ?_
        refine M.extract_i rfl ?_
        exact AskO.from k15 ⟨F', rfl, h7⟩
      · intro K hK
        by_cases h12 : 12 ≤ op
        · rw [if_pos h12] at hK
          rcases (by omega : op = 12 ∨ op = 13 ∨ op = 14) with rfl | rfl | rfl
          · (repeat (first|refine ji ?_|refine jk ?_|refine jo ?_|refine jG ?_))
            exact hK _ _ ⟨rfl, rfl⟩
          · (repeat (first|refine jg ?_|refine ji ?_|refine jk ?_|refine jl ?_|refine jo ?_|refine jG ?_|refine jH ?_))
            exact hK _ _ ⟨rfl, rfl⟩
          · (repeat (first|refine jg ?_|refine jl ?_|refine jo ?_|refine jG ?_|refine jH ?_))
            exact hK _ _ ⟨rfl, rfl⟩
        · rw [if_neg h12] at hK
          (repeat (first|refine jg ?_|refine jl ?_|refine jp ?_|refine jH ?_))
          exact hK _ _ ⟨rfl, rfl⟩
set_option maxHeartbeats 1000000 in
theorem extend_ret (h : DagO w F p N most) (a n : Int) (sg : Bool) :
    Ret Tryz.prog 117 #[ptr p, vi a, vi n, .bool sg] w (AskO w F p most (extendN most N a n sg)) := by
  refine ok117 _ _ _ _ _ _ ?_
  unfold sh117
  unfold extendN
  (repeat (first|refine jp ?_|refine jt ?_))
  refine M.buildSlice_i [vi a] (by kernel_rfl) (fun w1 b1 k1 s1 => ?_)
  have h1 := h.keepN k1
  refine M.call_i (h1.none (blk1 b1) (by show 1 ≤ 1000000; omega)) ?_; rintro _ w2 ⟨rfl, rfl⟩
  rw [show ([a] : List Int).any (fun i => !isN N i) = !isN N a by simp]
  cases ha : isN N a with
  | false =>
    rw [if_pos rfl]
    (repeat (refine jo ?_))
    exact AskO.same k1 h1 0 11
  | true =>
    have hwa := h.good.wd ha
    rw [if_neg (by simp)]
    (repeat (refine jp ?_))
    refine M.call_i (h1.width a) ?_; rintro _ w3 ⟨rfl, k3⟩
    have k13 := k1.trans k3 (fun _ _ h => h)
    by_cases hn1 : n < wdN N a
    · rw [if_pos (.inl hn1)]
      (repeat (first|refine ji ?_|refine jk ?_|refine jo ?_|refine jy ?_))
      exact AskO.same k13 (h.keepN k13) 0 2
    by_cases hn2 : 64 < n
    · rw [if_pos (.inr hn2)]
      (repeat (first|refine jg ?_|refine jl ?_|refine jo ?_|refine jz ?_|refine jC ?_))
      exact AskO.same k13 (h.keepN k13) 0 2
    rw [if_neg (by omega)]
    (repeat (first|refine jg ?_|refine jl ?_|refine jp ?_|refine jz ?_|refine jD ?_))
    refine M.call_i ((h.keepN k13).width a) ?_; rintro _ w4 ⟨rfl, k4⟩
    have k14 := k13.trans k4 (fun _ _ h => h)
    have h4 := h.keepN k14
    by_cases hnw : n = wdN N a
    · rw [if_pos hnw]
      (repeat (first|refine jo ?_|refine jG ?_))
      exact AskO.same k14 h4 a 0
    rw [if_neg hnw]
    (repeat (first|refine jp ?_|refine jH ?_))
    refine M.pure_i (encN ⟨25, n, a, 0, 0, 0⟩) (fun _ => by kernel_rfl) ?_
    refine M.new_i (l := zeroNd.cells) (fun w5 b5 k5 s5 => ?_)
    refine M.storeAll_i b5 rfl rfl (cells_one _) (fun w6 b6 k6 s6 => ?_)
    refine M.share_j (fun vals w' => Blk w' w4.heap.size (Nd.cells ⟨if sg then 26 else 25, n, a, 0, 0, 0⟩) ∧ Keep w6 w' (· = w4.heap.size)) ?_ ?_
    · rintro vals w7 ⟨b7, k7⟩ _
      refine M.loadAll_i b7 rfl ?_
      have hq := k14.size
      have k17 : Keep w w7 No := ((k14.trans k5 (fun _ _ h => h)).trans k6 (fun b hb h => by omega)).trans k7 (fun b hb h => by omega)
      have hg : goodN N ⟨if sg then 26 else 25, n, a, 0, 0, 0⟩ := by
        refine ⟨by show 1 ≤ n ∧ n ≤ 64; omega, fun k hk => ?_, .inr (.inr (.inr (.inr (.inr (.inr (.inr ⟨?_, ?_, rfl, rfl, rfl⟩))))))⟩
        · cases sg <;> (simp [kidsN] at hk; subst hk; exact ha)
        · cases sg
          · exact .inl rfl
          · exact .inr rfl
        · show wdN N a < n; omega
      refine M.call_i (makeO (h.keepN k17) hg (by show (if sg = true then (26 : Int) else 25) ≠ 21; split <;> omega)) ?_
      rintro _ w8 ⟨F', rfl, h8⟩
      refine M.extract_i rfl ?_
      refine M.extract_i rfl ?_
      exact AskO.from k17 ⟨F', rfl, h8⟩
    · intro K hK
      cases sg with
      | false =>
        (repeat (refine jp ?_))
        exact hK _ _ ⟨b6, Keep.refl _ _⟩
      | true =>
        (repeat (first|refine jc ?_|refine jo ?_))
        have b6' : Blk w6 w4.heap.size [vi 25, vi n, vi a, vi 0, vi 0, vw 0] := b6
        refine M.store_i b6' (by simp) rfl (fun w7 b7 k7 s7 => ?_)
        exact hK _ _ ⟨b7, k7⟩
end
theorem new_ret (most : Int) (w : World) : Ret Tryz.prog 7 #[vi most] w (fun r w' => ∃ F p, r = ptr p ∧ DagO w' F p [] (if most < 0 ∨ 65536 < most then 0 else most) ∧ (∀ b, F b → w.heap.size ≤ b) ∧ Keep w w' No) := by
  refine ok7 _ _ _ ?_
  unfold sh7
  refine M.share_j (fun vals w' => vals = [vi (if most < 0 ∨ 65536 < most then 0 else most)] ∧ w' = w) ?_ ?_
  · rintro vals w1 ⟨rfl, rfl⟩ _
    simp only [List.getD_cons_zero, List.getD_cons_succ]
    refine M.makeMapA_i (enc := encN) (Okk := Nd.Ok) (fun w2 m2 k2 s2 => ?_)
    refine M.makeMap_i (fun w3 m3 k3 s3 => ?_)
    refine M.pure_i (.agg #[.slice none 0 0, .map (some w1.heap.size), .map (some w2.heap.size), vi (if most < 0 ∨ 65536 < most then 0 else most)]) (fun _ => by kernel_rfl) ?_
    refine M.new_i (l := [.slice none 0 0, .map (some w1.heap.size), .map (some w2.heap.size), vi (if most < 0 ∨ 65536 < most then 0 else most)]) (fun w4 b4 k4 s4 => ?_)
    have nb : ∀ b, ¬ blkOf (.slice none 0 0) b := fun b ⟨n, c, h⟩ => by simp at h
    refine ⟨fun b => b = w3.heap.size ∨ b = w1.heap.size ∨ b = w2.heap.size ∨ blkOf (.slice none 0 0) b, w3.heap.size, rfl, ⟨[], ⟨_, w1.heap.size, w2.heap.size, [], b4, GC.nil _ _ _, (m2.keep k3 (fun h => h)).keep k4 (fun h => h), m3.keep k4 (fun h => h), fun n => by simp [lkpA], fun b => Iff.rfl, by omega, by omega, by omega, fun b hb => absurd hb (nb b)⟩, ⟨by simp, fun i v h => by simp [lkp] at h⟩, fun i n h => by simp at h, by simp, by split <;> omega⟩, ?_, (k2.trans k3 (fun _ _ h => h)).trans k4 (fun _ _ h => h)⟩
    rintro b (rfl | rfl | rfl | hb)
    · omega
    · omega
    · omega
    · exact absurd hb (nb b)
  · intro K hK
    by_cases h1 : most < 0
    · rw [if_pos (.inl h1)] at hK
      (repeat (first|refine ji ?_|refine jk ?_|refine jo ?_|refine jy ?_))
      exact hK _ _ ⟨rfl, rfl⟩
    · by_cases h2 : 65536 < most
      · rw [if_pos (.inr h2)] at hK
        (repeat (first|refine jg ?_|refine jl ?_|refine jo ?_|refine jz ?_|refine jC ?_))
        exact hK _ _ ⟨rfl, rfl⟩
      · rw [if_neg (by omega)] at hK
        (repeat (first|refine jg ?_|refine jl ?_|refine jp ?_|refine jz ?_|refine jD ?_))
        exact hK _ _ ⟨rfl, rfl⟩
end Go.Proofs.YtanjlgafjgoaaaaGreat
namespace Go.Proofs.YtanjlgafjgoaaaaGreat
open Go.Mw
set_option linter.unusedVariables false
set_option linter.unusedSimpArgs false
set_option maxRecDepth 100000
attribute [local irreducible] M.val M.unit M.next M.pick M.new M.nilCheck M.load1 M.loadA M.store M.fieldAddr M.indexSl M.indexArr M.slice M.makeSlice M.buildSlice M.len M.lenS M.cap M.append M.extract M.conv M.not M.neg M.bin M.shift M.eqB M.eqNil M.scat M.call M.callv M.gd M.share M.cond M.loop M.draw pureW readW Ret
abbrev Rs := List Nd × Int × Int
def knownN (N : List Nd) (i : Int) : Option W64 := if isN N i then (if (nodeAt N i).op = 20 then some (nodeAt N i).val else none) else none
def isK (N : List Nd) (i : Int) (x : W64) : Bool := match knownN N i with
  | some v => decide (v = x)
  | none => false
def foldUn (most : Int) (N : List Nd) (op a : Int) : Rs :=
  if isN N a = true ∧ (op = 15 ∨ op = 16) then
    match knownN N a with
    | some v => constN most N (wdN N a) (unW op (wdN N a) v)
    | none => if (nodeAt N a).op = op then (N, (nodeAt N a).a, 0) else unaryN most N op a
  else unaryN most N op a
def rightN (N : List Nd) (op b : Int) : Bool :=
  if op = 1 ∨ op = 2 ∨ op = 7 ∨ op = 8 ∨ op = 9 ∨ op = 10 ∨ op = 11 then isK N b 0
  else if op = 3 ∨ op = 4 then isK N b 1
  else if op = 6 then isK N b (maskW (wdN N b))
  else false
def twinsN (op : Int) : Bool := decide (op = 1 ∨ op = 3 ∨ op = 6 ∨ op = 7 ∨ op = 8 ∨ op = 12)
def noughtN (N : List Nd) (op a b : Int) : Bool :=
  if (op = 8 ∨ op = 2 ∨ op = 13 ∨ op = 14) ∧ a = b then true
  else if op = 3 ∨ op = 6 then isK N a 0 || isK N b 0
  else if op = 9 ∨ op = 10 then isK N a 0
  else decide (op = 13) && isK N b 0
def foldBin (most : Int) (N : List Nd) (op a b : Int) : Rs :=
  if isN N a = false ∨ isN N b = false ∨ wdN N a ≠ wdN N b ∨ op < 1 ∨ 14 < op then binaryN most N op a b
  else match knownN N a, knownN N b with
    | some x, some y => constN most N (if 12 ≤ op then 1 else wdN N a) (binW op (wdN N a) x y)
    | _, _ =>
      if rightN N op b then (N, a, 0)
      else if twinsN op && rightN N op a then (N, b, 0)
      else if noughtN N op a b then constN most N (if 12 ≤ op then 1 else wdN N a) 0
      else if op = 12 ∧ a = b then constN most N 1 1
      else if (op = 6 ∨ op = 7) ∧ a = b then (N, a, 0)
      else binaryN most N op a b
def foldExt (most : Int) (N : List Nd) (a w : Int) : Rs :=
  if isN N a = false ∨ w < wdN N a ∨ 64 < w then extendN most N a w false
  else match knownN N a with
    | some v => constN most N w v
    | none => extendN most N a w false
end Go.Proofs.YtanjlgafjgoaaaaGreat
namespace Go.Proofs.YtanjlgafjgoaaaaGreat
open Go.Mw Go.Maps Go.MapKept
set_option linter.unusedVariables false
set_option linter.unusedSimpArgs false
set_option maxRecDepth 100000
attribute [local irreducible] M.val M.unit M.next M.pick M.new M.nilCheck M.load1 M.loadA M.store M.fieldAddr M.indexSl M.indexArr M.slice M.makeSlice M.buildSlice M.len M.lenS M.cap M.append M.extract M.conv M.not M.neg M.bin M.shift M.eqB M.eqNil M.scat M.call M.callv M.gd M.share M.cond M.loop M.draw pureW readW Ret
def RD (w : World) (D : Nat → Prop) (v : Value) (N : List Nd) (most : Int) : Prop := ∃ A c, v = .agg ⟨[.slice A N.length c, vi most]⟩ ∧ Row w D A (NL N)
theorem RD.keep {w w' : World} {D S : Nat → Prop} {v : Value} {N : List Nd} {most : Int} (h : RD w D v N most) (k : Keep w w' S) (hs : ∀ b, b < w.heap.size → D b → ¬ S b) : RD w' D v N most := by
  obtain ⟨A, c, h1, h2⟩ := h
  exact ⟨A, c, h1, h2.keep k hs⟩
theorem RD.mono {w : World} {D D' : Nat → Prop} {v : Value} {N : List Nd} {most : Int} (h : RD w D v N most) (hd : ∀ b, b < w.heap.size → D b → D' b) : RD w D' v N most := by
  obtain ⟨A, c, h1, h2⟩ := h
  exact ⟨A, c, h1, h2.mono hd⟩
def RAsk (w : World) (D : Nat → Prop) (most : Int) (res : List Nd × Int × Int) (r : Value) (w' : World) : Prop :=
  ∃ d, r = .tuple #[d, vi res.2.1, vi res.2.2] ∧ RD w' (fun b => D b ∨ w.heap.size ≤ b) d res.1 most ∧ Keep w w' No
theorem RAsk.from {w w1 : World} {D : Nat → Prop} {most : Int} {res : List Nd × Int × Int} {r : Value} {w' : World} (k : Keep w w1 No) (h : RAsk w1 D most res r w') : RAsk w D most res r w' := by
  obtain ⟨d, h1, h2, h3⟩ := h
  have := k.size
  exact ⟨d, h1, h2.mono (fun b _ h => h.imp id (fun h => by omega)), k.trans h3 (fun _ _ h => h)⟩
section
variable {w : World} {D : Nat → Prop} {v : Value} {N : List Nd} {most : Int}
theorem rback {R : Kt} {p3 p6 : Nat} {l : List Value} {x y : Value} (b3 : Blk w p3 l) (b6 : Blk w p6 [x, y]) (hl : l.length = 2) (ho : ∀ v ∈ l, v.oneCell' = true) (hR : ∀ w', Keep w w' (· = p6) → R (.agg ⟨l⟩) w') :
    M.loadA 2 (ptr p3) (fun t w => M.store 2 (ptr p6) t (fun _ w => M.loadA 2 (ptr p6) (fun r0 w => R r0 w) w) w) w := by
  refine M.loadAll_i b3 hl ?_
  refine M.storeAll_i b6 hl rfl ho (fun w1 b1 k1 s1 => ?_)
  exact M.loadAll_i b1 hl (hR w1 k1)
theorem two_one {A : Option Addr} {n c : Nat} {m : Int} : ∀ v ∈ [Value.slice A n c, vi m], v.oneCell' = true := by
  intro v hv
  simp only [List.mem_cons, List.not_mem_nil, or_false] at hv
  rcases hv with rfl | rfl <;> rfl
end
end Go.Proofs.YtanjlgafjgoaaaaGreat
namespace Go.Proofs.YtanjlgafjgoaaaaGreat
open Go.Mw
set_option linter.unusedVariables false
set_option linter.unusedSimpArgs false
set_option maxRecDepth 100000
attribute [local irreducible] M.val M.unit M.next M.pick M.new M.nilCheck M.load1 M.loadA M.store M.fieldAddr M.indexSl M.indexArr M.slice M.makeSlice M.buildSlice M.len M.lenS M.cap M.append M.extract M.conv M.not M.neg M.bin M.shift M.eqB M.eqNil M.scat M.call M.callv M.gd M.share M.cond M.loop M.draw pureW readW Ret
structure SP where
  b : Int
  v : Int
  e : Int
structure PD where
  b : Int
  v : W64
  e : Int
deriving DecidableEq
def SP.cells (x : SP) : List Value := [vi x.b, vi x.v, vi x.e]
def PD.cells (x : PD) : List Value := [vi x.b, vw x.v, vi x.e]
structure Dv where
  disk : List W64
  pend : List PD
  ep : Int
structure SDv where
  disk : List Int
  pend : List SP
  ep : Int
theorem sp_len (x : SP) : x.cells.length = 3 := rfl
theorem pd_len (x : PD) : x.cells.length = 3 := rfl
def SDvO (w : World) (D : Nat → Prop) (a b : Value) (d : SDv) : Prop := LV vi w D a d.disk ∧ LN SP.cells w D b d.pend
def DvO (w : World) (D : Nat → Prop) (a b : Value) (d : Dv) : Prop := LV vw w D a d.disk ∧ LN PD.cells w D b d.pend
theorem DvO.keep {w w' : World} {D S : Nat → Prop} {a b : Value} {d : Dv} (h : DvO w D a b d) (k : Keep w w' S) (hs : ∀ b, b < w.heap.size → D b → ¬ S b) : DvO w' D a b d := ⟨h.1.keep k hs, h.2.keep k hs⟩
theorem SDvO.keep {w w' : World} {D S : Nat → Prop} {a b : Value} {d : SDv} (h : SDvO w D a b d) (k : Keep w w' S) (hs : ∀ b, b < w.heap.size → D b → ¬ S b) : SDvO w' D a b d := ⟨h.1.keep k hs, h.2.keep k hs⟩
theorem DvO.mono {w : World} {D D' : Nat → Prop} {a b : Value} {d : Dv} (h : DvO w D a b d) (hd : ∀ b, b < w.heap.size → D b → D' b) : DvO w D' a b d := ⟨h.1.mono hd, h.2.mono hd⟩
theorem SDvO.mono {w : World} {D D' : Nat → Prop} {a b : Value} {d : SDv} (h : SDvO w D a b d) (hd : ∀ b, b < w.heap.size → D b → D' b) : SDvO w D' a b d := ⟨h.1.mono hd, h.2.mono hd⟩
def SDv.few (d : SDv) : Prop := d.disk.length ≤ 1000000 ∧ d.pend.length ≤ 1000000
theorem gc_ln {w : World} {L : Nat → Prop} {v : Value} {xs : List PD} {n : Nat} (hn : n = xs.length) (h : GC w L 3 v n (xs.flatMap PD.cells)) : LN PD.cells w L v xs := by
  subst hn
  obtain ⟨A, c, rfl, h2, h3⟩ := GC.row2 h (by omega)
  exact ⟨A, c, rfl, h2, h3⟩
end Go.Proofs.YtanjlgafjgoaaaaGreat
namespace Go.Proofs.YtanjlgafjgoaaaaGreat
open Go.Mw
set_option linter.unusedVariables false
set_option linter.unusedSimpArgs false
set_option maxRecDepth 100000
attribute [local irreducible] M.val M.unit M.next M.pick M.new M.nilCheck M.load1 M.loadA M.store M.fieldAddr M.indexSl M.indexArr M.slice M.makeSlice M.buildSlice M.len M.lenS M.cap M.append M.extract M.conv M.not M.neg M.bin M.shift M.eqB M.eqNil M.scat M.call M.callv M.gd M.share M.cond M.loop M.draw pureW readW Ret
def oneV (N : List Nd) (n : Nd) (get : Int → W64) (env : List W64) : W64 :=
  if n.op = 20 then n.val
  else if n.op = 21 then (if n.a < (env.length : Int) then cutW n.wd (env.getD n.a.toNat 0) else 0)
  else if n.op = 22 then (if get n.a = 1 then get n.b else get n.c)
  else if n.op = 23 then cutW n.wd (get n.a >>> n.b.toNat)
  else if n.op = 24 then (get n.a <<< (wdN N n.b).toNat) ||| get n.b
  else if n.op = 25 then get n.a
  else if n.op = 26 then cutW n.wd (sgnW (wdN N n.a) (get n.a))
  else if n.op = 15 ∨ n.op = 16 then unW n.op n.wd (get n.a)
  else binW n.op (wdN N n.a) (get n.a) (get n.b)
def valsU (N : List Nd) (env : List W64) : Nat → List W64
  | 0 => []
  | i + 1 => valsU N env i ++ [match N[i]? with
    | some n => oneV N n (fun k => (valsU N env i).getD k.toNat 0) env
    | none => 0]
def wordAt (N : List Nd) (env : List W64) (k : Int) : W64 := (valsU N env N.length).getD k.toNat 0
theorem valsU_len (N : List Nd) (env : List W64) : ∀ i, (valsU N env i).length = i
  | 0 => rfl
  | i + 1 => by simp [valsU, valsU_len N env i]
theorem valsU_get {N : List Nd} {env : List W64} {k : Nat} : ∀ {i j : Nat}, k < i → i ≤ j → (valsU N env j).getD k 0 = (valsU N env i).getD k 0
  | i, 0, h1, h2 => by omega
  | i, j + 1, h1, h2 => by
    by_cases e : i = j + 1
    · rw [e]
    · rw [← valsU_get (i := i) (j := j) h1 (by omega)]
      simp only [valsU, List.getD_eq_getElem?_getD]
      rw [List.getElem?_append_left (by rw [valsU_len]; omega)]
theorem wordAt_pre {N : List Nd} {env : List W64} {k : Int} {i : Nat} (h0 : 0 ≤ k) (h1 : k < i) (h2 : i ≤ N.length) : wordAt N env k = (valsU N env i).getD k.toNat 0 := valsU_get (by omega) h2
theorem oneV_congr {N M : List Nd} {n : Nd} {g g' : Int → W64} {env : List W64} (hg : goodN M n) (h : ∀ k ∈ kidsN n, g k = g' k) : oneV N n g env = oneV N n g' env := by
  obtain ⟨_, _, h3⟩ := hg
  unfold oneV
  rcases h3 with ⟨ho, _⟩ | ⟨ho, _⟩ | ⟨ho, _⟩ | ⟨ho, ho2, _⟩ | ⟨ho, _⟩ | ⟨ho, _⟩ | ⟨ho, _⟩ | ⟨ho, _⟩
  · rw [if_pos ho, if_pos ho]
  · simp only [if_neg (show ¬ n.op = 20 by omega), if_pos ho]
  · have hk : kidsN n = [n.a] := by
      unfold kidsN
      rw [if_neg (by omega), if_neg (by omega), if_neg (by omega)]
    rw [hk] at h
    have ha := h n.a (by simp)
    simp only [if_neg (show ¬ n.op = 20 by omega), if_neg (show ¬ n.op = 21 by omega), if_neg (show ¬ n.op = 22 by omega), if_neg (show ¬ n.op = 23 by omega), if_neg (show ¬ n.op = 24 by omega), if_neg (show ¬ n.op = 25 by omega), if_neg (show ¬ n.op = 26 by omega), if_pos ho, ha]
  · have hk : kidsN n = [n.a, n.b] := by
      unfold kidsN
      rw [if_neg (by omega), if_neg (by omega), if_pos (by omega)]
    rw [hk] at h
    have ha := h n.a (by simp)
    have hb := h n.b (by simp)
    simp only [if_neg (show ¬ n.op = 20 by omega), if_neg (show ¬ n.op = 21 by omega), if_neg (show ¬ n.op = 22 by omega), if_neg (show ¬ n.op = 23 by omega), if_neg (show ¬ n.op = 24 by omega), if_neg (show ¬ n.op = 25 by omega), if_neg (show ¬ n.op = 26 by omega), if_neg (show ¬ (n.op = 15 ∨ n.op = 16) by omega), ha, hb]
  · have hk : kidsN n = [n.a, n.b, n.c] := by
      unfold kidsN
      rw [if_neg (by omega), if_pos ho]
    rw [hk] at h
    have ha := h n.a (by simp)
    have hb := h n.b (by simp)
    have hc := h n.c (by simp)
    simp only [if_neg (show ¬ n.op = 20 by omega), if_neg (show ¬ n.op = 21 by omega), if_pos ho, ha, hb, hc]
  · have hk : kidsN n = [n.a] := by
      unfold kidsN
      rw [if_neg (by omega), if_neg (by omega), if_neg (by omega)]
    rw [hk] at h
    have ha := h n.a (by simp)
    simp only [if_neg (show ¬ n.op = 20 by omega), if_neg (show ¬ n.op = 21 by omega), if_neg (show ¬ n.op = 22 by omega), if_pos ho, ha]
  · have hk : kidsN n = [n.a, n.b] := by
      unfold kidsN
      rw [if_neg (by omega), if_neg (by omega), if_pos (by omega)]
    rw [hk] at h
    have ha := h n.a (by simp)
    have hb := h n.b (by simp)
    simp only [if_neg (show ¬ n.op = 20 by omega), if_neg (show ¬ n.op = 21 by omega), if_neg (show ¬ n.op = 22 by omega), if_neg (show ¬ n.op = 23 by omega), if_pos ho, ha, hb]
  · have hk : kidsN n = [n.a] := by
      unfold kidsN
      rw [if_neg (by omega), if_neg (by omega), if_neg (by omega)]
    rw [hk] at h
    have ha := h n.a (by simp)
    rcases ho with ho | ho
    · simp only [if_neg (show ¬ n.op = 20 by omega), if_neg (show ¬ n.op = 21 by omega), if_neg (show ¬ n.op = 22 by omega), if_neg (show ¬ n.op = 23 by omega), if_neg (show ¬ n.op = 24 by omega), if_pos ho, ha]
    · simp only [if_neg (show ¬ n.op = 20 by omega), if_neg (show ¬ n.op = 21 by omega), if_neg (show ¬ n.op = 22 by omega), if_neg (show ¬ n.op = 23 by omega), if_neg (show ¬ n.op = 24 by omega), if_neg (show ¬ n.op = 25 by omega), if_pos ho, ha]
theorem valsU_at {N : List Nd} {env : List W64} {i : Nat} {n : Nd} (hi : N[i]? = some n) : (valsU N env (i + 1)).getD i 0 = oneV N n (fun k => (valsU N env i).getD k.toNat 0) env := by
  simp only [valsU, List.getD_eq_getElem?_getD, hi]
  rw [List.getElem?_append_right (by rw [valsU_len]; omega), valsU_len]
  simp
theorem wordAt_one {N : List Nd} {env : List W64} (hG : GoodN N) {i : Nat} {n : Nd} (hi : N[i]? = some n) : wordAt N env i = oneV N n (wordAt N env) env := by
  have hl := (List.getElem?_eq_some_iff.1 hi).1
  have hg := hG i n hi
  rw [wordAt_pre (i := i + 1) (by omega) (by omega) (by omega), Int.toNat_natCast, valsU_at hi]
  refine oneV_congr hg (fun k hk => ?_)
  have := isN_iff.1 (hg.2.1 k hk)
  rw [List.length_take] at this
  rw [wordAt_pre (i := i) (by omega) (by omega) (by omega)]
theorem kids_lt {N : List Nd} (hG : GoodN N) {i : Nat} {n : Nd} (hi : N[i]? = some n) {k : Int} (hk : k ∈ kidsN n) : 0 ≤ k ∧ k < i := by
  have := isN_iff.1 ((hG i n hi).2.1 k hk)
  rw [List.length_take] at this
  omega
structure Once (N : List Nd) (id : Int) (st : List Int) (held : List Int) (E : List Int) : Prop where
  rng : ∀ x ∈ st, isN N x = true
  hrng : ∀ x ∈ held, isN N x = true
  first : st = [] → id ∈ held
  clo : ∀ (i : Nat) n, (i : Int) ∈ held → N[i]? = some n → ∀ k ∈ kidsN n, k ∈ held
  ernge : ∀ x ∈ E, isN N x = true
  nodup : E.Nodup
  pos : ∀ (t : Nat) n, (t : Int) ∈ E → (t : Int) ∉ held → N[t]? = some n → ∃ q : Nat, st[q]? = some (t : Int) ∧ (∀ (r : Nat) x, q < r → st[r]? = some x → x < t) ∧ ∀ k ∈ kidsN n, k ∈ held ∨ ∃ r : Nat, q < r ∧ st[r]? = some k
  base : st ≠ [] → st[0]? = some id
def onceM (N : List Nd) (st E : List Int) : Nat := 4 * (N.length - E.length) + st.length
theorem Once.start {N : List Nd} {id : Int} (h : isN N id = true) : Once N id [id] [] [] :=
  ⟨fun x hx => by simp at hx; exact hx ▸ h, by simp, by simp, by simp, by simp, by simp, by simp, by simp⟩
theorem sub_len {α : Type} : ∀ (a b : List α), a.Nodup → (∀ x ∈ a, x ∈ b) → a.length ≤ b.length
  | [], b, _, _ => by simp
  | x :: a, b, hn, hs => by
    obtain ⟨p, q, rfl⟩ := List.append_of_mem (hs x List.mem_cons_self)
    obtain ⟨h1, h2⟩ := List.nodup_cons.1 hn
    have := sub_len a (p ++ q) h2 (fun y hy => by
      rcases List.mem_append.1 (hs y (List.mem_cons_of_mem _ hy)) with h | h
      · exact List.mem_append_left _ h
      · rcases List.mem_cons.1 h with h | h
        · exact absurd (h ▸ hy) h1
        · exact List.mem_append_right _ h)
    simp at this ⊢; omega
theorem nodup_range {N : List Nd} {E : List Int} (h : E.Nodup) (hr : ∀ x ∈ E, isN N x = true) : E.length ≤ N.length := by
  have hsub : ∀ x ∈ E, x ∈ (List.range N.length).map (fun i : Nat => (i : Int)) := fun x hx => by
    have := isN_iff.1 (hr x hx)
    exact List.mem_map.2 ⟨x.toNat, by rw [List.mem_range]; omega, by omega⟩
  have := sub_len _ _ h hsub
  simpa using this
theorem Once.pop {N : List Nd} {id : Int} {st held E : List Int} {t : Nat} {n : Nd} (h : Once N id (st ++ [(t : Int)]) held E) (hn : N[t]? = some n) (hk : ∀ k ∈ kidsN n, k ∈ held) (hG : GoodN N) :
    ∀ held', (∀ x, x ∈ held' ↔ x = (t : Int) ∨ x ∈ held) → Once N id st held' E := by
  intro held' hh
  have htN : isN N t = true := isN_iff.2 ⟨by omega, by have := (List.getElem?_eq_some_iff.1 hn).1; omega⟩
  refine ⟨fun x hx => h.rng x (List.mem_append_left _ hx), fun x hx => ?_, fun he => ?_, fun i m hi hm k hkk => ?_, h.ernge, h.nodup, fun u m hu hnh hm => ?_, fun hne => ?_⟩
  · rcases (hh x).1 hx with rfl | hx
    · exact htN
    · exact h.hrng x hx
  · subst he
    have := h.base (by simp)
    simp at this
    exact (hh id).2 (.inl this.symm)
  · rcases (hh _).1 hi with e | hi
    · have : i = t := by omega
      subst this
      rw [hn] at hm; cases hm
      exact (hh k).2 (.inr (hk k hkk))
    · exact (hh k).2 (.inr (h.clo i m hi hm k hkk))
  · have hut : ¬ (u : Int) = t := fun e => hnh ((hh _).2 (.inl e))
    obtain ⟨q, h1, h2, h3⟩ := h.pos u m hu (fun hc => hnh ((hh _).2 (.inr hc))) hm
    have hq : q < st.length := by
      have h4 := (List.getElem?_eq_some_iff.1 h1).1
      rw [List.length_append, List.length_singleton] at h4
      rcases Nat.lt_or_ge q st.length with h5 | h5
      · exact h5
      · exfalso
        rw [List.getElem?_append_right h5] at h1
        have : q - st.length = 0 := by omega
        rw [this] at h1
        simp at h1
        exact hut h1.symm
    refine ⟨q, by rw [List.getElem?_append_left hq] at h1; exact h1, fun r x hr hx => h2 r x hr ?_, fun k hkk => ?_⟩
    · rw [List.getElem?_append_left (List.getElem?_eq_some_iff.1 hx).1]; exact hx
    · rcases h3 k hkk with h4 | ⟨r, hr, hx⟩
      · exact .inl ((hh k).2 (.inr h4))
      · by_cases hrl : r < st.length
        · exact .inr ⟨r, hr, by rw [List.getElem?_append_left hrl] at hx; exact hx⟩
        · rw [List.getElem?_append_right (by omega)] at hx
          have h5 := (List.getElem?_eq_some_iff.1 hx).1
          simp only [List.length_singleton] at h5
          have : r - st.length = 0 := by omega
          rw [this] at hx
          simp at hx
          exact .inl ((hh k).2 (.inl hx.symm))
  · have := h.base (by simp)
    cases st with
    | nil => exact absurd rfl hne
    | cons a l => simpa using this
theorem Once.push {N : List Nd} {id : Int} {st held E ks : List Int} {t : Nat} {n : Nd} (h : Once N id (st ++ [(t : Int)]) held E) (hn : N[t]? = some n) (hG : GoodN N) (hks : ks = (kidsN n).filter (fun k => decide (k ∉ held))) (hne : ks ≠ []) :
    Once N id (st ++ [(t : Int)] ++ ks) held ((t : Int) :: E) ∧ onceM N (st ++ [(t : Int)] ++ ks) ((t : Int) :: E) < onceM N (st ++ [(t : Int)]) E := by
  have htN : isN N t = true := isN_iff.2 ⟨by omega, by have := (List.getElem?_eq_some_iff.1 hn).1; omega⟩
  have hmem : ∀ k ∈ ks, k ∈ kidsN n ∧ k ∉ held := fun k hk => by
    rw [hks, List.mem_filter] at hk
    exact ⟨hk.1, by simpa using hk.2⟩
  have hkl : ks.length ≤ 3 := by
    rw [hks]
    refine Nat.le_trans (List.length_filter_le _ _) ?_
    unfold kidsN
    split
    · simp
    · split
      · simp
      · split <;> simp
  obtain ⟨k0, hk0⟩ : ∃ k, k ∈ ks := by
    cases ks with
    | nil => exact absurd rfl hne
    | cons a l => exact ⟨a, List.mem_cons_self⟩
  have htop : (st ++ [(t : Int)])[st.length]? = some (t : Int) := by simp
  have htE : (t : Int) ∉ E := fun hE => by
    have hth : (t : Int) ∉ held := fun hh => (hmem k0 hk0).2 (h.clo t n hh hn k0 (hmem k0 hk0).1)
    obtain ⟨q, h1, h2, h3⟩ := h.pos t n hE hth hn
    have hql : q < (st ++ [(t : Int)]).length := (List.getElem?_eq_some_iff.1 h1).1
    rw [List.length_append, List.length_singleton] at hql
    by_cases hq : q < st.length
    · have := h2 st.length t hq htop
      omega
    · have hq : q = st.length := by omega
      subst hq
      rcases h3 k0 (hmem k0 hk0).1 with h4 | ⟨r, hr, hx⟩
      · exact (hmem k0 hk0).2 h4
      · have := (List.getElem?_eq_some_iff.1 hx).1
        rw [List.length_append, List.length_singleton] at this
        omega
  have hlt : ∀ k ∈ ks, 0 ≤ k ∧ k < t := fun k hk => kids_lt hG hn (hmem k hk).1
  have hEn : ((t : Int) :: E).Nodup := List.nodup_cons.2 ⟨htE, h.nodup⟩
  have hEr : ∀ x ∈ (t : Int) :: E, isN N x = true := fun x hx => by
    rcases List.mem_cons.1 hx with rfl | hx
    · exact htN
    · exact h.ernge x hx
  have hEl := nodup_range hEn hEr
  refine ⟨⟨fun x hx => ?_, h.hrng, fun he => by simp at he, h.clo, hEr, hEn, fun u m hu hnh hm => ?_, fun _ => ?_⟩, ?_⟩
  · rcases List.mem_append.1 hx with hx | hx
    · exact h.rng x hx
    · have := hlt x hx
      have := isN_iff.1 htN
      exact isN_iff.2 ⟨by omega, by omega⟩
  · by_cases hut : (u : Int) = t
    · have : u = t := by omega
      subst this
      rw [hn] at hm; cases hm
      refine ⟨st.length, ?_, fun r x hr hx => ?_, fun k hkk => ?_⟩
      · rw [List.getElem?_append_left (by simp)]; exact htop
      · rw [List.getElem?_append_right (by simp; omega)] at hx
        exact (hlt x (List.mem_of_getElem? hx)).2
      · by_cases hkh : k ∈ held
        · exact .inl hkh
        · right
          have : k ∈ ks := by rw [hks, List.mem_filter]; exact ⟨hkk, by simpa using hkh⟩
          obtain ⟨j, hj⟩ := List.mem_iff_getElem?.1 this
          refine ⟨(st ++ [(u : Int)]).length + j, by simp; omega, ?_⟩
          rw [List.getElem?_append_right (by omega)]
          simpa using hj
    · have huE : (u : Int) ∈ E := by
        rcases List.mem_cons.1 hu with h | h
        · exact absurd h hut
        · exact h
      obtain ⟨q, h1, h2, h3⟩ := h.pos u m huE hnh hm
      have hql := (List.getElem?_eq_some_iff.1 h1).1
      have hq : q < st.length := by
        rw [List.length_append, List.length_singleton] at hql
        rcases Nat.lt_or_ge q st.length with h5 | h5
        · exact h5
        · exfalso
          have : q = st.length := by omega
          subst this
          rw [htop] at h1
          exact hut (Option.some.inj h1).symm
      have htu : (t : Int) < u := h2 st.length t hq htop
      refine ⟨q, by rw [List.getElem?_append_left hql]; exact h1, fun r x hr hx => ?_, fun k hkk => ?_⟩
      · by_cases hrl : r < (st ++ [(t : Int)]).length
        · rw [List.getElem?_append_left hrl] at hx
          exact h2 r x hr hx
        · rw [List.getElem?_append_right (by omega)] at hx
          have := hlt x (List.mem_of_getElem? hx)
          omega
      · rcases h3 k hkk with h4 | ⟨r, hr, hx⟩
        · exact .inl h4
        · exact .inr ⟨r, hr, by rw [List.getElem?_append_left (List.getElem?_eq_some_iff.1 hx).1]; exact hx⟩
  · have := h.base (by simp)
    rw [List.getElem?_append_left (by simp)]; exact this
  · unfold onceM
    have e1 : (st ++ [(t : Int)] ++ ks).length = (st ++ [(t : Int)]).length + ks.length := List.length_append
    rw [e1, List.length_cons]
    rw [List.length_cons] at hEl
    have : 1 ≤ ks.length := by
      cases ks with
      | nil => exact absurd rfl hne
      | cons a l => simp
    omega
end Go.Proofs.YtanjlgafjgoaaaaGreat
namespace Go.Proofs.YtanjlgafjgoaaaaGreat
open Go.Mw Go.Maps Go.MapKept
set_option linter.unusedVariables false
set_option linter.unusedSimpArgs false
set_option maxRecDepth 100000
attribute [local irreducible] M.val M.unit M.next M.pick M.new M.nilCheck M.load1 M.loadA M.store M.fieldAddr M.indexSl M.indexArr M.slice M.makeSlice M.buildSlice M.len M.lenS M.cap M.append M.extract M.conv M.not M.neg M.bin M.shift M.eqB M.eqNil M.scat M.call M.callv M.gd M.share M.cond M.loop M.draw pureW readW Ret
def sh107 (x0 : Value) (R : Kt) (w : World) : Prop :=
  M.new 93 (Value.cells x0) (fun t1 w =>
  M.share (fun K1 w =>
  M.fieldAddr 0 t1 (fun t4 w =>
  M.load1 t4 (fun t5 w =>
  M.bin .eql t5 (Value.int IntKind.i64 20) (fun t6 w =>
  M.cond t6
  (K1 [t6] w)
  (M.fieldAddr 0 t1 (fun t7 w =>
  M.load1 t7 (fun t8 w =>
  M.bin .eql t8 (Value.int IntKind.i64 21) (fun t9 w =>
  K1 [t9] w) w) w) w)) w) w) w) (fun s1 w => ∀ _ : List Value,
  M.cond (s1.getD 0 undef)
  (R (Value.slice none 0 0) w)
  (M.fieldAddr 0 t1 (fun t11 w =>
  M.load1 t11 (fun t12 w =>
  M.bin .eql t12 (Value.int IntKind.i64 22) (fun t13 w =>
  M.cond t13
  (M.fieldAddr 2 t1 (fun t14 w =>
  M.load1 t14 (fun t15 w =>
  M.fieldAddr 3 t1 (fun t16 w =>
  M.load1 t16 (fun t17 w =>
  M.fieldAddr 4 t1 (fun t18 w =>
  M.load1 t18 (fun t19 w =>
  M.buildSlice 3 1 #[.int .i64 0] 3 [(0, t15), (1, t17), (2, t19)] (fun t20 w =>
  R t20 w) w) w) w) w) w) w) w)
  (M.share (fun K2 w =>
  M.fieldAddr 0 t1 (fun t22 w =>
  M.load1 t22 (fun t23 w =>
  M.bin .leq t23 (Value.int IntKind.i64 14) (fun t24 w =>
  M.cond t24
  (K2 [t24] w)
  (M.fieldAddr 0 t1 (fun t25 w =>
  M.load1 t25 (fun t26 w =>
  M.bin .eql t26 (Value.int IntKind.i64 24) (fun t27 w =>
  K2 [t27] w) w) w) w)) w) w) w) (fun s2 w => ∀ _ : List Value,
  M.cond (s2.getD 0 undef)
  (M.fieldAddr 2 t1 (fun t28 w =>
  M.load1 t28 (fun t29 w =>
  M.fieldAddr 3 t1 (fun t30 w =>
  M.load1 t30 (fun t31 w =>
  M.buildSlice 3 1 #[.int .i64 0] 2 [(0, t29), (1, t31)] (fun t32 w =>
  R t32 w) w) w) w) w) w)
  (M.fieldAddr 2 t1 (fun t33 w =>
  M.load1 t33 (fun t34 w =>
  M.buildSlice 3 1 #[.int .i64 0] 1 [(0, t34)] (fun t35 w =>
  R t35 w) w) w) w)) w)) w) w) w)) w) w
theorem ok107 (x0 : Value) (R : Kt) (w : World) (h : sh107 x0 R w) : Ret Tryz.prog 107 #[x0] w R :=
  ret_mk <| calls_of_comp mixed (c := Tryz.f107.body.getD .skip) (args := [x0]) (rs := [(ResultVar.tmp 2)]) (Ann.seq Ann.text (Ann.seq (Ann.block (Ann.join [3] [4, 5, 6, 7, 8, 9] (Ann.seq Ann.text (Ann.cond Ann.leaf Ann.text)) (Ann.cond (Ann.seq Ann.text Ann.leaf) (Ann.seq Ann.text (Ann.cond (Ann.seq Ann.text Ann.leaf) (Ann.join [21] [22, 23, 24, 25, 26, 27] (Ann.seq Ann.text (Ann.cond Ann.leaf Ann.text)) (Ann.cond (Ann.seq Ann.text Ann.leaf) Ann.leaf))))))) (Ann.seq Ann.text Ann.leaf)))
    Tryz.func107 (by kernel_rfl) (by kernel_rfl)
    (Eq.mp (by kernel_rfl) h)
def sh73 (x0 x1 x2 x3 : Value) (R : Kt) (w : World) : Prop :=
  M.new 93 (Value.cells x0) (fun t4 w =>
  M.fieldAddr 0 t4 (fun t11 w =>
  M.load1 t11 (fun t12 w =>
  M.bin .eql t12 (Value.int IntKind.i64 20) (fun t14 w =>
  M.cond t14
  (M.fieldAddr 5 t4 (fun t15 w =>
  M.load1 t15 (fun t16 w =>
  R t16 w) w) w)
  (M.bin .eql t12 (Value.int IntKind.i64 21) (fun t18 w =>
  M.cond t18
  (M.fieldAddr 2 t4 (fun t19 w =>
  M.load1 t19 (fun t20 w =>
  M.load1 x2 (fun t21 w =>
  M.len t21 (fun t22 w =>
  M.bin .geq t20 t22 (fun t23 w =>
  M.cond t23
  (R (Value.int IntKind.u64 0) w)
  (M.draw (fun w =>
  M.fieldAddr 1 t4 (fun t24 w =>
  M.load1 t24 (fun t25 w =>
  M.load1 x2 (fun t26 w =>
  M.fieldAddr 2 t4 (fun t27 w =>
  M.load1 t27 (fun t28 w =>
  M.indexSl 1 t26 t28 (fun t29 w =>
  M.load1 t29 (fun t30 w =>
  M.call Tryz.prog 34 #[t25, t30] (fun t31 w =>
  ((M.load1 t27 (fun v' _ => v' = t28) w) ∧ ((M.load1 x2 (fun v' _ => v' = t26) w) ∧ R t31 w))) w) w) w) w) w) w) w) w) w)) w) w) w) w) w)
  (M.bin .eql t12 (Value.int IntKind.i64 22) (fun t33 w =>
  M.cond t33
  (M.fieldAddr 2 t4 (fun t35 w =>
  M.load1 t35 (fun t36 w =>
  M.callv Tryz.prog x1 #[t36] (fun t37 w =>
  M.bin .eql t37 (Value.int IntKind.u64 1) (fun t38 w =>
  M.cond t38
  (M.fieldAddr 3 t4 (fun t40 w =>
  M.load1 t40 (fun t41 w =>
  M.callv Tryz.prog x1 #[t41] (fun t42 w =>
  R t42 w) w) w) w)
  (M.fieldAddr 4 t4 (fun t44 w =>
  M.load1 t44 (fun t45 w =>
  M.callv Tryz.prog x1 #[t45] (fun t46 w =>
  R t46 w) w) w) w)) w) w) w) w)
  (M.bin .eql t12 (Value.int IntKind.i64 23) (fun t48 w =>
  M.cond t48
  (M.draw (fun w =>
  M.fieldAddr 1 t4 (fun t49 w =>
  M.load1 t49 (fun t50 w =>
  M.fieldAddr 2 t4 (fun t52 w =>
  M.load1 t52 (fun t53 w =>
  M.fieldAddr 3 t4 (fun t55 w =>
  M.load1 t55 (fun t56 w =>
  M.callv Tryz.prog x1 #[t53] (fun t54 w =>
  ((M.load1 t55 (fun v' _ => v' = t56) w) ∧ ((M.load1 t49 (fun v' _ => v' = t50) w) ∧ M.shift .shr t54 t56 (fun t57 w =>
  M.call Tryz.prog 34 #[t50, t57] (fun t58 w =>
  ((M.load1 t55 (fun v' _ => v' = t56) w) ∧ R t58 w)) w) w))) w) w) w) w) w) w) w) w)
  (M.bin .eql t12 (Value.int IntKind.i64 24) (fun t60 w =>
  M.cond t60
  (M.draw (fun w =>
  M.fieldAddr 2 t4 (fun t62 w =>
  M.load1 t62 (fun t63 w =>
  M.load1 x3 (fun t65 w =>
  M.fieldAddr 3 t4 (fun t66 w =>
  M.load1 t66 (fun t67 w =>
  M.fieldAddr 3 t4 (fun t71 w =>
  M.load1 t71 (fun t72 w =>
  M.callv Tryz.prog x1 #[t63] (fun t64 w =>
  ((M.load1 t71 (fun v' _ => v' = t72) w) ∧ ((M.load1 t66 (fun v' _ => v' = t67) w) ∧ ((M.load1 x3 (fun v' _ => v' = t65) w) ∧ M.call Tryz.prog 41 #[t65, t67] (fun t68 w =>
  ((M.load1 t71 (fun v' _ => v' = t72) w) ∧ M.shift .shl t64 t68 (fun t69 w =>
  M.callv Tryz.prog x1 #[t72] (fun t73 w =>
  M.bin .or t69 t73 (fun t74 w =>
  R t74 w) w) w) w)) w)))) w) w) w) w) w) w) w) w) w)
  (M.bin .eql t12 (Value.int IntKind.i64 25) (fun t76 w =>
  M.cond t76
  (M.fieldAddr 2 t4 (fun t78 w =>
  M.load1 t78 (fun t79 w =>
  M.callv Tryz.prog x1 #[t79] (fun t80 w =>
  R t80 w) w) w) w)
  (M.bin .eql t12 (Value.int IntKind.i64 26) (fun t82 w =>
  M.cond t82
  (M.draw (fun w =>
  M.fieldAddr 1 t4 (fun t83 w =>
  M.load1 t83 (fun t84 w =>
  M.load1 x3 (fun t85 w =>
  M.fieldAddr 2 t4 (fun t86 w =>
  M.load1 t86 (fun t87 w =>
  M.fieldAddr 2 t4 (fun t90 w =>
  M.load1 t90 (fun t91 w =>
  M.call Tryz.prog 41 #[t85, t87] (fun t88 w =>
  ((M.load1 t90 (fun v' _ => v' = t91) w) ∧ ((M.load1 t83 (fun v' _ => v' = t84) w) ∧ M.callv Tryz.prog x1 #[t91] (fun t92 w =>
  ((M.load1 t83 (fun v' _ => v' = t84) w) ∧ M.call Tryz.prog 74 #[t88, t92] (fun t93 w =>
  ((M.load1 t83 (fun v' _ => v' = t84) w) ∧ M.conv .u64 t93 (fun t94 w =>
  M.call Tryz.prog 34 #[t84, t94] (fun t95 w =>
  R t95 w) w) w)) w)) w))) w) w) w) w) w) w) w) w) w)
  (M.share (fun K1 w =>
  M.bin .eql t12 (Value.int IntKind.i64 15) (fun t97 w =>
  M.cond t97
  (K1 [t97] w)
  (M.bin .eql t12 (Value.int IntKind.i64 16) (fun t98 w =>
  K1 [t98] w) w)) w) (fun s1 w => ∀ _ : List Value,
  M.cond (s1.getD 0 undef)
  (M.draw (fun w =>
  M.fieldAddr 0 t4 (fun t100 w =>
  M.load1 t100 (fun t101 w =>
  M.fieldAddr 1 t4 (fun t102 w =>
  M.load1 t102 (fun t103 w =>
  M.fieldAddr 2 t4 (fun t105 w =>
  M.load1 t105 (fun t106 w =>
  M.callv Tryz.prog x1 #[t106] (fun t107 w =>
  ((M.load1 t102 (fun v' _ => v' = t103) w) ∧ ((M.load1 t100 (fun v' _ => v' = t101) w) ∧ M.call Tryz.prog 75 #[t101, t103, t107] (fun t108 w =>
  M.extract 0 t108 (fun t109 w =>
  M.extract 1 t108 (fun t110 w =>
  R t109 w) w) w) w))) w) w) w) w) w) w) w) w)
  (M.draw (fun w =>
  M.fieldAddr 0 t4 (fun t113 w =>
  M.load1 t113 (fun t114 w =>
  M.load1 x3 (fun t115 w =>
  M.fieldAddr 2 t4 (fun t116 w =>
  M.load1 t116 (fun t117 w =>
  M.fieldAddr 2 t4 (fun t120 w =>
  M.load1 t120 (fun t121 w =>
  M.fieldAddr 3 t4 (fun t124 w =>
  M.load1 t124 (fun t125 w =>
  M.call Tryz.prog 41 #[t115, t117] (fun t118 w =>
  ((M.load1 t124 (fun v' _ => v' = t125) w) ∧ ((M.load1 t120 (fun v' _ => v' = t121) w) ∧ ((M.load1 t113 (fun v' _ => v' = t114) w) ∧ M.callv Tryz.prog x1 #[t121] (fun t122 w =>
  ((M.load1 t124 (fun v' _ => v' = t125) w) ∧ ((M.load1 t113 (fun v' _ => v' = t114) w) ∧ M.callv Tryz.prog x1 #[t125] (fun t126 w =>
  ((M.load1 t113 (fun v' _ => v' = t114) w) ∧ M.call Tryz.prog 76 #[t114, t118, t122, t126] (fun t127 w =>
  M.extract 0 t127 (fun t128 w =>
  M.extract 1 t127 (fun t129 w =>
  R t128 w) w) w) w)) w))) w)))) w) w) w) w) w) w) w) w) w) w) w)) w)) w)) w)) w)) w)) w)) w)) w) w) w) w
theorem ok73 (x0 x1 x2 x3 : Value) (R : Kt) (w : World) (h : sh73 x0 x1 x2 x3 R w) : Ret Tryz.prog 73 #[x0, x1, x2, x3] w R :=
  ret_mk <| calls_of_comp mixed (c := Tryz.f73.body.getD .skip) (args := [x0, x1, x2, x3]) (rs := [(ResultVar.tmp 6)]) (Ann.seq Ann.text (Ann.seq (Ann.seq Ann.text (Ann.block (Ann.seq Ann.text (Ann.cond (Ann.seq Ann.text Ann.leaf) (Ann.seq Ann.text (Ann.cond (Ann.seq (Ann.seq Ann.text (Ann.cond (Ann.seq Ann.text Ann.leaf) Ann.leaf)) (Ann.seq (Ann.draw (Sch.take 0 (Sch.take 1 (Sch.take 2 (Sch.take 3 (Sch.take 4 (Sch.take 5 (Sch.take 6 (Sch.one 7 (Sch.take 8 Sch.done)))))))))) Ann.leaf)) (Ann.seq Ann.text (Ann.cond (Ann.seq (Ann.seq Ann.text (Ann.cond (Ann.seq Ann.text Ann.leaf) Ann.leaf)) (Ann.seq Ann.text Ann.leaf)) (Ann.seq Ann.text (Ann.cond (Ann.seq (Ann.draw (Sch.take 0 (Sch.take 1 (Sch.take 2 (Sch.take 3 (Sch.take 4 (Sch.take 6 (Sch.take 7 (Sch.one 5 (Sch.take 8 (Sch.one 9 (Sch.take 10 Sch.done)))))))))))) Ann.leaf) (Ann.seq Ann.text (Ann.cond (Ann.seq (Ann.draw (Sch.take 0 (Sch.take 1 (Sch.take 2 (Sch.take 4 (Sch.take 5 (Sch.take 6 (Sch.take 9 (Sch.take 10 (Sch.take 11 (Sch.one 3 (Sch.one 7 (Sch.take 8 (Sch.one 12 (Sch.take 13 (Sch.take 14 Sch.done)))))))))))))))) Ann.leaf) (Ann.seq Ann.text (Ann.cond (Ann.seq Ann.text Ann.leaf) (Ann.seq Ann.text (Ann.cond (Ann.seq (Ann.draw (Sch.take 0 (Sch.take 1 (Sch.take 2 (Sch.take 3 (Sch.take 4 (Sch.take 6 (Sch.take 7 (Sch.take 8 (Sch.one 5 (Sch.one 9 (Sch.one 10 (Sch.take 11 (Sch.one 12 (Sch.take 13 Sch.done))))))))))))))) Ann.leaf) (Ann.join [96] [97, 98] (Ann.seq Ann.text (Ann.cond Ann.leaf Ann.text)) (Ann.cond (Ann.seq (Ann.draw (Sch.take 0 (Sch.take 1 (Sch.take 2 (Sch.take 3 (Sch.take 4 (Sch.take 5 (Sch.take 6 (Sch.one 7 (Sch.one 8 (Sch.take 9 (Sch.take 10 (Sch.take 11 (Sch.take 12 (Sch.take 13 Sch.done))))))))))))))) (Ann.seq Ann.text Ann.leaf)) Ann.leaf)))))))))))))))))) (Ann.seq (Ann.draw (Sch.take 0 (Sch.take 1 (Sch.take 2 (Sch.take 3 (Sch.take 4 (Sch.take 6 (Sch.take 7 (Sch.take 8 (Sch.take 10 (Sch.take 11 (Sch.take 12 (Sch.one 5 (Sch.one 9 (Sch.one 13 (Sch.one 14 (Sch.take 15 (Sch.take 16 (Sch.take 17 (Sch.take 18 (Sch.take 19 Sch.done))))))))))))))))))))) (Ann.seq Ann.text Ann.leaf))))
    Tryz.func73 (by kernel_rfl) (by kernel_rfl)
    (Eq.mp (by kernel_rfl) h)
def sh72 (x0 x1 x2 x3 : Value) (R : Kt) (w : World) : Prop :=
  M.new 126 (Value.cells x2) (fun t6 w =>
  M.buildSlice 3 1 #[.int .i64 0] 1 [(0, x1)] (fun t19 w =>
  M.loop [t19] (fun s1 K1 w => ∀ _ : List Value,
  M.len (s1.getD 0 undef) (fun t21 w =>
  M.bin .gtr t21 (Value.int IntKind.i64 0) (fun t22 w =>
  M.cond t22
  (M.share (fun K2 w =>
  M.len (s1.getD 0 undef) (fun t25 w =>
  M.bin .sub t25 (Value.int IntKind.i64 1) (fun t26 w =>
  M.indexSl 1 (s1.getD 0 undef) t26 (fun t27 w =>
  M.load1 t27 (fun t28 w =>
  M.call Tryz.prog 71 #[x0, t28] (fun t32 w =>
  M.extract 0 t32 (fun t33 w =>
  M.extract 1 t32 (fun t34 w =>
  M.new 93 #[.int .i64 0, .int .i64 0, .int .i64 0, .int .i64 0, .int .i64 0, .int .u64 0] (fun t11 w =>
  M.store 6 t11 t33 (fun _ w =>
  M.loadA 6 t11 (fun t35 w =>
  M.call Tryz.prog 107 #[t35] (fun t36 w =>
  M.len t36 (fun t37 w =>
  M.loop [(s1.getD 0 undef), (Value.bool false), (Value.int IntKind.i64 0)] (fun s3 K3 w => ∀ _ : List Value,
  M.bin .lss (s3.getD 2 undef) t37 (fun t39 w =>
  M.cond t39
  (M.share (fun K4 w =>
  M.indexSl 1 t36 (s3.getD 2 undef) (fun t40 w =>
  M.load1 t40 (fun t41 w =>
  M.load1 t6 (fun t43 w =>
  readW Tryz.prog (Instr.lookup 126 t43 t41 true) (fun t45 w =>
  M.extract 0 t45 (fun t46 w =>
  M.extract 1 t45 (fun t47 w =>
  M.not t47 (fun t49 w =>
  M.cond t49
  (M.buildSlice 3 1 #[.int .i64 0] 1 [(0, t41)] (fun t52 w =>
  M.append 3 1 8 #[.int .i64 0] (s3.getD 0 undef) t52 (fun t53 w =>
  K4 [t53, (Value.bool true)] w) w) w)
  (K4 [(s3.getD 0 undef), (s3.getD 1 undef)] w)) w) w) w) w) w) w) w) (fun s4 w => ∀ _ : List Value,
  M.bin .add (s3.getD 2 undef) (Value.int IntKind.i64 1) (fun t54 w =>
  K3 [(s4.getD 0 undef), (s4.getD 1 undef), t54] w) w) w)
  (M.cond (s3.getD 1 undef)
  (K2 [(s3.getD 0 undef)] w)
  (M.len (s3.getD 0 undef) (fun t58 w =>
  M.bin .sub t58 (Value.int IntKind.i64 1) (fun t59 w =>
  M.slice 1 (s3.getD 0 undef) none (some t59) none (fun t60 w =>
  M.draw (fun w =>
  M.load1 t6 (fun t61 w =>
  M.loadA 6 t11 (fun t64 w =>
  M.callv Tryz.prog x3 #[t64, (.func (Fn.func 108) #[] #[t6])] (fun t66 w =>
  ((M.load1 t6 (fun v' _ => v' = t61) w) ∧ M.unit Tryz.prog (Instr.mapUpdate 126 t61 t28 t66) (fun _ w =>
  K2 [t60] w) w)) w) w) w) w) w) w) w))) w) w) w) w) w) w) w) w) w) w) w) w) w) w) (fun s2 w => ∀ _ : List Value,
  K1 [(s2.getD 0 undef)] w) w)
  (M.load1 t6 (fun t67 w =>
  readW Tryz.prog (Instr.lookup 126 t67 x1 false) (fun t69 w =>
  R t69 w) w) w)) w) w) w) w) w
theorem ok72 (x0 x1 x2 x3 : Value) (R : Kt) (w : World) (h : sh72 x0 x1 x2 x3 R w) : Ret Tryz.prog 72 #[x0, x1, x2, x3] w R :=
  ret_mk <| calls_of_comp mixed (c := Tryz.f72.body.getD .skip) (args := [x0, x1, x2, x3]) (rs := [(ResultVar.tmp 8)]) (Ann.seq Ann.text (Ann.seq Ann.text (Ann.seq (Ann.block (Ann.loop [9] [10, 11, 12, 13, 15, 16, 17, 20, 21, 22, 23, 24, 25, 26, 27, 28, 29, 30, 31, 32, 33, 34, 35, 36, 37, 38, 39, 40, 41, 42, 43, 44, 45, 46, 47, 48, 49, 50, 51, 52, 53, 54, 55, 56, 57, 58, 59, 60, 61, 62, 63, 64, 65, 66] (Ann.seq (Ann.seq Ann.text (Ann.cond Ann.leaf Ann.leaf)) (Ann.jblock [9] [10, 11, 12, 13, 15, 16, 17, 23, 24, 25, 26, 27, 28, 29, 30, 31, 32, 33, 34, 35, 36, 37, 38, 39, 40, 41, 42, 43, 44, 45, 46, 47, 48, 49, 50, 51, 52, 53, 54, 55, 56, 57, 58, 59, 60, 61, 62, 63, 64, 65, 66] (Ann.seq Ann.text (Ann.seq Ann.text (Ann.seq Ann.text (Ann.seq (Ann.seq Ann.text (Ann.block (Ann.loop [9, 13, 38] [15, 16, 17, 39, 40, 41, 42, 43, 44, 45, 46, 47, 48, 49, 50, 51, 52, 53, 54] (Ann.seq Ann.text (Ann.seq (Ann.cond Ann.leaf Ann.leaf) (Ann.seq (Ann.jblock [9, 13] [15, 16, 17, 40, 41, 42, 43, 44, 45, 46, 47, 48, 49, 50, 51, 52, 53] (Ann.seq Ann.text (Ann.seq Ann.text (Ann.seq Ann.text (Ann.cond (Ann.seq Ann.text Ann.text) Ann.leaf))))) Ann.text)))))) (Ann.seq (Ann.seq Ann.text (Ann.cond Ann.leaf Ann.leaf)) (Ann.seq Ann.text (Ann.draw (Sch.take 0 (Sch.take 1 (Sch.take 2 (Sch.take 3 (Sch.take 4 (Sch.one 5 (Sch.one 6 Sch.done)))))))))))))))))) (Ann.seq Ann.text Ann.leaf))))
    Tryz.func72 (by kernel_rfl) (by kernel_rfl)
    (Eq.mp (by kernel_rfl) h)
def sh108 (x0 x1 : Value) (R : Kt) (w : World) : Prop :=
  M.load1 x1 (fun t4 w =>
  readW Tryz.prog (Instr.lookup 126 t4 x0 false) (fun t6 w =>
  R t6 w) w) w
theorem ok108 (x0 x1 : Value) (R : Kt) (w : World) (h : sh108 x0 x1 R w) : Ret Tryz.prog 108 #[x0, x1] w R :=
  ret_mk <| calls_of_comp mixed (c := Tryz.f108.body.getD .skip) (args := [x0, x1]) (rs := [(ResultVar.tmp 3)]) (Ann.seq Ann.text (Ann.seq Ann.text Ann.leaf))
    Tryz.func108 (by kernel_rfl) (by kernel_rfl)
    (Eq.mp (by kernel_rfl) h)
def sh35 (x0 x1 x2 : Value) (R : Kt) (w : World) : Prop :=
  M.new 28 (Value.cells x0) (fun t3 w =>
  M.new 23 (Value.cells x2) (fun t5 w =>
  M.load1 t3 (fun t13 w =>
  M.call Tryz.prog 71 #[t13, x1] (fun t15 w =>
  M.extract 0 t15 (fun t16 w =>
  M.extract 1 t15 (fun t17 w =>
  M.new 93 #[.int .i64 0, .int .i64 0, .int .i64 0, .int .i64 0, .int .i64 0, .int .u64 0] (fun t8 w =>
  M.store 6 t8 t16 (fun _ w =>
  M.not t17 (fun t19 w =>
  M.cond t19
  (R (.tuple #[(Value.int IntKind.u64 0), (Value.int IntKind.i64 11)]) w)
  (M.val Tryz.prog (Instr.makeMap 126 none) (fun t20 w =>
  M.load1 t3 (fun t21 w =>
  M.call Tryz.prog 72 #[t21, x1, t20, (.func (Fn.func 73) #[] #[t5, t3])] (fun t25 w =>
  R (.tuple #[t25, (Value.int IntKind.i64 0)]) w) w) w) w)) w) w) w) w) w) w) w) w) w
theorem ok35 (x0 x1 x2 : Value) (R : Kt) (w : World) (h : sh35 x0 x1 x2 R w) : Ret Tryz.prog 35 #[x0, x1, x2] w R :=
  ret_mk <| calls_of_comp mixed (c := Tryz.f35.body.getD .skip) (args := [x0, x1, x2]) (rs := [(ResultVar.tmp 6), (ResultVar.tmp 7)]) (Ann.seq Ann.text (Ann.seq (Ann.seq Ann.text (Ann.seq Ann.text (Ann.cond (Ann.seq Ann.text Ann.leaf) Ann.leaf))) (Ann.seq Ann.text (Ann.seq Ann.text (Ann.seq Ann.text Ann.leaf)))))
    Tryz.func35 (by kernel_rfl) (by kernel_rfl)
    (Eq.mp (by kernel_rfl) h)
section
variable {N : List Nd} {n : Nd} {f : Int → W64} {env : List W64}
theorem oneV_const (h : n.op = 20) : oneV N n f env = n.val := by
  unfold oneV; rw [if_pos h]
theorem oneV_var (h : n.op = 21) : oneV N n f env = if n.a < (env.length : Int) then cutW n.wd (env.getD n.a.toNat 0) else 0 := by
  unfold oneV
  simp only [if_neg (show ¬ n.op = 20 by omega), if_pos h]
theorem oneV_ite (h : n.op = 22) : oneV N n f env = if f n.a = 1 then f n.b else f n.c := by
  unfold oneV
  simp only [if_neg (show ¬ n.op = 20 by omega), if_neg (show ¬ n.op = 21 by omega), if_pos h]
theorem oneV_ext (h : n.op = 23) : oneV N n f env = cutW n.wd (f n.a >>> n.b.toNat) := by
  unfold oneV
  simp only [if_neg (show ¬ n.op = 20 by omega), if_neg (show ¬ n.op = 21 by omega), if_neg (show ¬ n.op = 22 by omega), if_pos h]
theorem oneV_cat (h : n.op = 24) : oneV N n f env = (f n.a <<< (wdN N n.b).toNat) ||| f n.b := by
  unfold oneV
  simp only [if_neg (show ¬ n.op = 20 by omega), if_neg (show ¬ n.op = 21 by omega), if_neg (show ¬ n.op = 22 by omega), if_neg (show ¬ n.op = 23 by omega), if_pos h]
theorem oneV_zext (h : n.op = 25) : oneV N n f env = f n.a := by
  unfold oneV
  simp only [if_neg (show ¬ n.op = 20 by omega), if_neg (show ¬ n.op = 21 by omega), if_neg (show ¬ n.op = 22 by omega), if_neg (show ¬ n.op = 23 by omega), if_neg (show ¬ n.op = 24 by omega), if_pos h]
theorem oneV_sext (h : n.op = 26) : oneV N n f env = cutW n.wd (sgnW (wdN N n.a) (f n.a)) := by
  unfold oneV
  simp only [if_neg (show ¬ n.op = 20 by omega), if_neg (show ¬ n.op = 21 by omega), if_neg (show ¬ n.op = 22 by omega), if_neg (show ¬ n.op = 23 by omega), if_neg (show ¬ n.op = 24 by omega), if_neg (show ¬ n.op = 25 by omega), if_pos h]
theorem oneV_un (h : n.op = 15 ∨ n.op = 16) : oneV N n f env = unW n.op n.wd (f n.a) := by
  unfold oneV
  simp only [if_neg (show ¬ n.op = 20 by omega), if_neg (show ¬ n.op = 21 by omega), if_neg (show ¬ n.op = 22 by omega), if_neg (show ¬ n.op = 23 by omega), if_neg (show ¬ n.op = 24 by omega), if_neg (show ¬ n.op = 25 by omega), if_neg (show ¬ n.op = 26 by omega), if_pos h]
theorem oneV_bin (h : 1 ≤ n.op) (h2 : n.op ≤ 14) : oneV N n f env = binW n.op (wdN N n.a) (f n.a) (f n.b) := by
  unfold oneV
  simp only [if_neg (show ¬ n.op = 20 by omega), if_neg (show ¬ n.op = 21 by omega), if_neg (show ¬ n.op = 22 by omega), if_neg (show ¬ n.op = 23 by omega), if_neg (show ¬ n.op = 24 by omega), if_neg (show ¬ n.op = 25 by omega), if_neg (show ¬ n.op = 26 by omega), if_neg (show ¬ (n.op = 15 ∨ n.op = 16) by omega)]
end
theorem kids_one {n : Nd} (h : n.op ≠ 20 ∧ n.op ≠ 21 ∧ n.op ≠ 22 ∧ ¬ n.op ≤ 14 ∧ n.op ≠ 24) : kidsN n = [n.a] := by
  unfold kidsN
  rw [if_neg (by omega), if_neg (by omega), if_neg (by omega)]
theorem kids_two {n : Nd} (h : (1 ≤ n.op ∧ n.op ≤ 14) ∨ n.op = 24) : kidsN n = [n.a, n.b] := by
  unfold kidsN
  rw [if_neg (by omega), if_neg (by omega), if_pos (by omega)]
theorem kids_three {n : Nd} (h : n.op = 22) : kidsN n = [n.a, n.b, n.c] := by
  unfold kidsN
  rw [if_neg (by omega), if_pos h]
end Go.Proofs.YtanjlgafjgoaaaaGreat
namespace Go.Proofs.YtanjlgafjgoaaaaGreat
open Go.Mw Go.Maps Go.MapKept
set_option linter.unusedVariables false
set_option linter.unusedSimpArgs false
set_option maxRecDepth 100000
attribute [local irreducible] M.val M.unit M.next M.pick M.new M.nilCheck M.load1 M.loadA M.store M.fieldAddr M.indexSl M.indexArr M.slice M.makeSlice M.buildSlice M.len M.lenS M.cap M.append M.extract M.conv M.not M.neg M.bin M.shift M.eqB M.eqNil M.scat M.call M.callv M.gd M.share M.cond M.loop M.draw pureW readW Ret
theorem kids_ret {NN : List Nd} {n : Nd} (hn : goodN NN n) (w : World) : Ret Tryz.prog 107 #[encN n] w (fun r w' => LV vi w' (w.heap.size ≤ ·) r (kidsN n) ∧ Keep w w' No) := by
  refine ok107 _ _ _ ?_
  unfold sh107
  refine M.new_i (l := n.cells) (fun w1 b1 k1 s1 => ?_)
  have b1 : Blk w1 w.heap.size [vi n.op, vi n.wd, vi n.a, vi n.b, vi n.c, vw n.val] := b1
  have q := k1.size
  obtain ⟨_, _, h3⟩ := hn
  by_cases h0 : n.op = 20 ∨ n.op = 21
  · have hk : kidsN n = [] := by unfold kidsN; rw [if_pos h0]
    rw [hk]
    rcases h0 with h0 | h0
    · refine M.share_i ?_
      (repeat (first|refine jc ?_|refine jo ?_|refine jG ?_|refine jN (by assumption) rfl ?_))
      intro _
      simp only [List.getD_cons_zero, List.getD_cons_succ]
      (repeat (refine jo ?_))
      exact ⟨LV.nil _ _ _, k1⟩
    · refine M.share_i ?_
      (repeat (first|refine jc ?_|refine jp ?_|refine jG ?_|refine jH ?_|refine jN (by assumption) rfl ?_))
      intro _
      simp only [List.getD_cons_zero, List.getD_cons_succ]
      (repeat (refine jo ?_))
      exact ⟨LV.nil _ _ _, k1⟩
  · refine M.share_i ?_
    (repeat (first|refine jc ?_|refine jp ?_|refine jH ?_|refine jN (by assumption) rfl ?_))
    intro _
    simp only [List.getD_cons_zero, List.getD_cons_succ]
    by_cases h22 : n.op = 22
    · rw [kids_three h22]
      (repeat (first|refine jc ?_|refine jo ?_|refine jp ?_|refine jG ?_|refine jN (by assumption) rfl ?_))
      refine M.buildSlice_i [vi n.a, vi n.b, vi n.c] (by kernel_rfl) (fun w2 b2 k2 s2 => ?_)
      exact ⟨⟨_, _, rfl, Row.of_blk' b2 (by omega), Nat.le_refl _⟩, k1.trans k2 (fun _ _ h => h)⟩
    · by_cases h14 : n.op ≤ 14
      · rw [kids_two (by omega)]
        (repeat (first|refine jc ?_|refine jp ?_|refine jH ?_|refine jN (by assumption) rfl ?_))
        refine M.share_i ?_
        (repeat (first|refine jc ?_|refine jo ?_|refine jA ?_|refine jN (by assumption) rfl ?_))
        intro _
        simp only [List.getD_cons_zero, List.getD_cons_succ]
        (repeat (first|refine jc ?_|refine jo ?_|refine jN (by assumption) rfl ?_))
        refine M.buildSlice_i [vi n.a, vi n.b] (by kernel_rfl) (fun w2 b2 k2 s2 => ?_)
        exact ⟨⟨_, _, rfl, Row.of_blk' b2 (by omega), Nat.le_refl _⟩, k1.trans k2 (fun _ _ h => h)⟩
      · by_cases h24 : n.op = 24
        · rw [kids_two (by omega)]
          (repeat (first|refine jc ?_|refine jp ?_|refine jH ?_|refine jN (by assumption) rfl ?_))
          refine M.share_i ?_
          (repeat (first|refine jc ?_|refine jp ?_|refine jB ?_|refine jG ?_|refine jN (by assumption) rfl ?_))
          intro _
          simp only [List.getD_cons_zero, List.getD_cons_succ]
          (repeat (first|refine jc ?_|refine jo ?_|refine jN (by assumption) rfl ?_))
          refine M.buildSlice_i [vi n.a, vi n.b] (by kernel_rfl) (fun w2 b2 k2 s2 => ?_)
          exact ⟨⟨_, _, rfl, Row.of_blk' b2 (by omega), Nat.le_refl _⟩, k1.trans k2 (fun _ _ h => h)⟩
        · rw [kids_one (by omega)]
          (repeat (first|refine jc ?_|refine jp ?_|refine jH ?_|refine jN (by assumption) rfl ?_))
          refine M.share_i ?_
          (repeat (first|refine jc ?_|refine jp ?_|refine jB ?_|refine jH ?_|refine jN (by assumption) rfl ?_))
          intro _
          simp only [List.getD_cons_zero, List.getD_cons_succ]
          (repeat (first|refine jc ?_|refine jp ?_|refine jN (by assumption) rfl ?_))
          refine M.buildSlice_i [vi n.a] (by kernel_rfl) (fun w2 b2 k2 s2 => ?_)
          exact ⟨⟨_, _, rfl, Row.of_blk' b2 (by omega), Nat.le_refl _⟩, k1.trans k2 (fun _ _ h => h)⟩
def GetF (g : Value) (I : World → Prop) (ks : List Int) (f : Int → W64) : Prop := ∀ k ∈ ks, ∀ (w : World) (kt : Kt), I w → (∀ w', I w' → Keep w w' No → kt (vw (f k)) w') → M.callv Tryz.prog g #[vi k] kt w
set_option maxHeartbeats 4000000 in
theorem val1_ret {w : World} {I : World → Prop} {F : Nat → Prop} {p pe pd : Nat} {N NN : List Nd} {most : Int} {n : Nd} {g : Value} {f : Int → W64} {De : Nat → Prop} {ev : Value} {env : List W64} (hn : goodN NN n) (hg : GetF g I (kidsN n) f) (hI : I w) (hIk : ∀ w w', I w → Keep w w' No → I w')
    (hd : DagO w F p N most) (hwd : ∀ k ∈ kidsN n, 1 ≤ wdN N k ∧ wdN N k ≤ 64) (be : Blk w pe [ev]) (bd : Blk w pd [ptr p]) (he : LV vw w De ev env) (hel : env.length ≤ 1000000) :
    Ret Tryz.prog 73 #[encN n, g, ptr pe, ptr pd] w (fun r w' => r = vw (oneV N n f env) ∧ Keep w w' No) := by
  obtain ⟨E, ce, rfl, her, _⟩ := id he
  refine ok73 _ _ _ _ _ _ ?_
  unfold sh73
  refine M.new_i (l := n.cells) (fun w1 b1 k1 s1 => ?_)
  have b1 : Blk w1 w.heap.size [vi n.op, vi n.wd, vi n.a, vi n.b, vi n.c, vw n.val] := b1
  have be := be.keep k1 (fun h => h)
  have bd := bd.keep k1 (fun h => h)
  have hd := hd.keepN k1
  have hI := hIk _ _ hI k1
  have her := her.keep k1 (fun _ _ _ h => h)
  have kd := Keep.drew w1 No
  have d1 := b1.keep kd (fun h => h)
  have de := be.keep kd (fun h => h)
  have dd := bd.keep kd (fun h => h)
  have hdd := hd.keepN kd
  have hId := hIk _ _ hI kd
  have herd := her.keep kd (fun _ _ _ h => h)
  have k1d := k1.trans kd (fun _ _ h => h)
  obtain ⟨hw64, _, h3⟩ := hn
  rcases h3 with ⟨ho, _⟩ | ⟨ho, ha0, ha1, _⟩ | ⟨ho, _⟩ | ⟨ho, ho2, _⟩ | ⟨ho, _⟩ | ⟨ho, hb0, _⟩ | ⟨ho, _⟩ | ⟨ho, _⟩
  · (repeat (first|refine jc ?_|refine jo ?_|refine jG ?_|refine jN (by assumption) rfl ?_))
    exact ⟨by rw [oneV_const ho], k1⟩
  · by_cases hlt : n.a < (env.length : Int)
    · obtain ⟨x, hx⟩ : ∃ x, env[n.a.toNat]? = some x := ⟨_, List.getElem?_eq_getElem (by omega)⟩
      (repeat (first|refine ja ?_|refine jc ?_|refine jd ?_|refine jo ?_|refine jp ?_|refine jF ?_|refine jG ?_|refine jH ?_|refine jN (by assumption) rfl ?_))
      refine M.idxLV_i herd rfl ha0 hlt (x := x) hx (fun bb oo hA hcc => ?_)
      (repeat (refine jM (by assumption) ?_))
      refine M.call_i (cut_ret n.wd x w1.drew) ?_; rintro _ w2 ⟨rfl, rfl⟩
      (repeat (refine jP (by assumption) rfl ?_))
      refine ⟨?_, k1d⟩
      rw [oneV_var ho, if_pos hlt, List.getD_eq_getElem?_getD, hx]; rfl
    · (repeat (first|refine ja ?_|refine jc ?_|refine jo ?_|refine jp ?_|refine jE ?_|refine jG ?_|refine jH ?_|refine jN (by assumption) rfl ?_))
      refine ⟨?_, k1⟩
      rw [oneV_var ho, if_neg hlt]; rfl
  · have hk := kids_one (n := n) (by omega)
    (repeat (first|refine jc ?_|refine jp ?_|refine jH ?_|refine jN (by assumption) rfl ?_))
    refine M.share_i ?_
    rcases ho with ho' | ho'
    · (repeat (first|refine jo ?_|refine jG ?_))
      intro _
      simp only [List.getD_cons_zero, List.getD_cons_succ]
      (repeat (first|refine jc ?_|refine jd ?_|refine jo ?_|refine jN (by assumption) rfl ?_))
      refine hg n.a (by rw [hk]; simp) _ _ hId (fun w2 hI2 k2 => ?_)
      have d1 := d1.keep k2 (fun h => h)
      (repeat (refine jP (by assumption) rfl ?_))
      refine M.call_i (wunary_ret n.op n.wd (f n.a) w2) ?_; rintro _ w3 ⟨rfl, rfl⟩
      refine M.extract_i rfl ?_
      refine M.extract_i rfl ?_
      exact ⟨by rw [oneV_un (.inl ho')]; rfl, k1d.trans k2 (fun _ _ h => h)⟩
    · (repeat (first|refine jp ?_|refine jG ?_|refine jH ?_))
      intro _
      simp only [List.getD_cons_zero, List.getD_cons_succ]
      (repeat (first|refine jc ?_|refine jd ?_|refine jo ?_|refine jN (by assumption) rfl ?_))
      refine hg n.a (by rw [hk]; simp) _ _ hId (fun w2 hI2 k2 => ?_)
      have d1 := d1.keep k2 (fun h => h)
      (repeat (refine jP (by assumption) rfl ?_))
      refine M.call_i (wunary_ret n.op n.wd (f n.a) w2) ?_; rintro _ w3 ⟨rfl, rfl⟩
      refine M.extract_i rfl ?_
      refine M.extract_i rfl ?_
      exact ⟨by rw [oneV_un (.inr ho')]; rfl, k1d.trans k2 (fun _ _ h => h)⟩
  · have hk := kids_two (n := n) (by omega)
    (repeat (first|refine jc ?_|refine jp ?_|refine jH ?_|refine jN (by assumption) rfl ?_))
    refine M.share_i ?_
    (repeat (first|refine jp ?_|refine jH ?_))
    intro _
    simp only [List.getD_cons_zero, List.getD_cons_succ]
    (repeat (first|refine jc ?_|refine jd ?_|refine jp ?_|refine jN (by assumption) rfl ?_))
    refine M.call_i (hdd.width n.a) ?_; rintro _ w2 ⟨rfl, k2⟩
    have d1 := d1.keep k2 (fun h => h)
    have hI2 := hIk _ _ hId k2
    (repeat (refine jP (by assumption) rfl ?_))
    refine hg n.a (by rw [hk]; simp) _ _ hI2 (fun w3 hI3 k3 => ?_)
    have d1 := d1.keep k3 (fun h => h)
    (repeat (refine jP (by assumption) rfl ?_))
    refine hg n.b (by rw [hk]; simp) _ _ hI3 (fun w4 hI4 k4 => ?_)
    have d1 := d1.keep k4 (fun h => h)
    (repeat (refine jP (by assumption) rfl ?_))
    refine M.call_i (wbinary_ret n.op (wdN N n.a) (f n.a) (f n.b) w4) ?_; rintro _ w5 ⟨rfl, rfl⟩
    refine M.extract_i rfl ?_
    refine M.extract_i rfl ?_
    exact ⟨by rw [oneV_bin ho ho2]; rfl, ((k1d.trans k2 (fun _ _ h => h)).trans k3 (fun _ _ h => h)).trans k4 (fun _ _ h => h)⟩
  · have hk := kids_three ho
    (repeat (first|refine jc ?_|refine jo ?_|refine jp ?_|refine jG ?_|refine jH ?_|refine jN (by assumption) rfl ?_))
    refine hg n.a (by rw [hk]; simp) _ _ hI (fun w2 hI2 k2 => ?_)
    have c1 := b1.keep k2 (fun h => h)
    have k12 := k1.trans k2 (fun _ _ h => h)
    change M.bin .eql (vw (f n.a)) (vw 1) _ _
    refine M.eqlW_i ?_
    refine M.cond_i (fun h1 => ?_) (fun h1 => ?_)
    · (repeat (first|refine jc ?_|refine jN (by assumption) rfl ?_))
      refine hg n.b (by rw [hk]; simp) _ _ hI2 (fun w3 hI3 k3 => ?_)
      exact ⟨by rw [oneV_ite ho, if_pos h1], k12.trans k3 (fun _ _ h => h)⟩
    · (repeat (first|refine jc ?_|refine jN (by assumption) rfl ?_))
      refine hg n.c (by rw [hk]; simp) _ _ hI2 (fun w3 hI3 k3 => ?_)
      exact ⟨by rw [oneV_ite ho, if_neg h1], k12.trans k3 (fun _ _ h => h)⟩
  · have hk := kids_one (n := n) (by omega)
    (repeat (first|refine jc ?_|refine jd ?_|refine jo ?_|refine jp ?_|refine jG ?_|refine jH ?_|refine jN (by assumption) rfl ?_))
    refine hg n.a (by rw [hk]; simp) _ _ hId (fun w2 hI2 k2 => ?_)
    have d1 := d1.keep k2 (fun h => h)
    (repeat (refine jP (by assumption) rfl ?_))
    refine M.shrWi_i hb0 ?_
    refine M.call_i (cut_ret n.wd (f n.a >>> n.b.toNat) w2) ?_; rintro _ w3 ⟨rfl, rfl⟩
    (repeat (refine jP (by assumption) rfl ?_))
    exact ⟨by rw [oneV_ext ho], k1d.trans k2 (fun _ _ h => h)⟩
  · have hk := kids_two (n := n) (by omega)
    have hwb := hwd n.b (by rw [hk]; simp)
    (repeat (first|refine jc ?_|refine jd ?_|refine jo ?_|refine jp ?_|refine jG ?_|refine jH ?_|refine jN (by assumption) rfl ?_))
    refine hg n.a (by rw [hk]; simp) _ _ hId (fun w2 hI2 k2 => ?_)
    have d1 := d1.keep k2 (fun h => h)
    have dd := dd.keep k2 (fun h => h)
    (repeat (refine jP (by assumption) rfl ?_))
    refine M.call_i ((hdd.keepN k2).width n.b) ?_; rintro _ w3 ⟨rfl, k3⟩
    have d1 := d1.keep k3 (fun h => h)
    have hI3 := hIk _ _ hI2 k3
    (repeat (refine jP (by assumption) rfl ?_))
    refine M.shlWi_i (by omega) ?_
    refine hg n.b (by rw [hk]; simp) _ _ hI3 (fun w4 hI4 k4 => ?_)
    refine M.orW_i ?_
    exact ⟨by rw [oneV_cat ho], ((k1d.trans k2 (fun _ _ h => h)).trans k3 (fun _ _ h => h)).trans k4 (fun _ _ h => h)⟩
  · have hk := kids_one (n := n) (by omega)
    rcases ho with ho | ho
    · (repeat (first|refine jc ?_|refine jo ?_|refine jp ?_|refine jG ?_|refine jH ?_|refine jN (by assumption) rfl ?_))
      refine hg n.a (by rw [hk]; simp) _ _ hI (fun w2 hI2 k2 => ?_)
      exact ⟨by rw [oneV_zext ho], k1.trans k2 (fun _ _ h => h)⟩
    · (repeat (first|refine jc ?_|refine jd ?_|refine jo ?_|refine jp ?_|refine jG ?_|refine jH ?_|refine jN (by assumption) rfl ?_))
      refine M.call_i (hdd.width n.a) ?_; rintro _ w2 ⟨rfl, k2⟩
      have d1 := d1.keep k2 (fun h => h)
      have hI2 := hIk _ _ hId k2
      (repeat (refine jP (by assumption) rfl ?_))
      refine hg n.a (by rw [hk]; simp) _ _ hI2 (fun w3 hI3 k3 => ?_)
      have d1 := d1.keep k3 (fun h => h)
      (repeat (refine jP (by assumption) rfl ?_))
      refine M.call_i (signed_ret (wdN N n.a) (f n.a) w3) ?_; rintro _ w4 ⟨rfl, rfl⟩
      (repeat (refine jP (by assumption) rfl ?_))
      refine M.toWord_i ?_
      rw [ofInt_toInt]
      refine M.call_i (cut_ret n.wd (sgnW (wdN N n.a) (f n.a)) w4) ?_; rintro _ w5 ⟨rfl, rfl⟩
      exact ⟨by rw [oneV_sext ho], (k1d.trans k2 (fun _ _ h => h)).trans k3 (fun _ _ h => h)⟩
end Go.Proofs.YtanjlgafjgoaaaaGreat
namespace Go.Proofs.YtanjlgafjgoaaaaGreat
open Go.Mw Go.Maps Go.MapKept
set_option linter.unusedVariables false
set_option linter.unusedSimpArgs false
set_option maxRecDepth 100000
attribute [local irreducible] M.val M.unit M.next M.pick M.new M.nilCheck M.load1 M.loadA M.store M.fieldAddr M.indexSl M.indexArr M.slice M.makeSlice M.buildSlice M.len M.lenS M.cap M.append M.extract M.conv M.not M.neg M.bin M.shift M.eqB M.eqNil M.scat M.call M.callv M.gd M.share M.cond M.loop M.draw pureW readW Ret
def HeldR (kv : List (Int × Value)) (held : List Int) (f : Int → W64) : Prop := ∀ k, lkp kv k = if k ∈ held then some (vw (f k)) else none
theorem HeldR.upd {kv : List (Int × Value)} {held : List Int} {f : Int → W64} (h : HeldR kv held f) (x : Int) : HeldR (upd kv x (vw (f x))) (x :: held) f := fun k => by
  rw [lkp_upd]
  by_cases hk : k = x
  · subst hk; rw [if_pos rfl, if_pos List.mem_cons_self]
  · rw [if_neg hk, h k]
    by_cases hm : k ∈ held
    · rw [if_pos hm, if_pos (List.mem_cons_of_mem _ hm)]
    · rw [if_neg hm, if_neg (by simp [hk, hm])]
theorem get_F {kv : List (Int × Value)} {held ks : List Int} {f : Int → W64} {p6 r : Nat} (h : HeldR kv held f) (hk : ∀ k ∈ ks, k ∈ held) :
    GetF (.func (.func 108) #[] #[ptr p6]) (fun w => Blk w p6 [.map (some r)] ∧ MapO w r kv) ks f := by
  rintro k hkk w kt ⟨hb, hm⟩ hkt
  refine M.callv_i (fun a w => rfl) (Q := fun x w' => x = vw (f k) ∧ w' = w) ?_ ?_
  · show Ret Tryz.prog 108 #[vi k, ptr p6] w _
    refine ok108 _ _ _ _ ?_
    unfold sh108
    (repeat (refine jN (by assumption) rfl ?_))
    refine M.lookup_i (kt := 3) (et := 42) (z := vw 0) (by kernel_rfl) (by kernel_rfl) (fun w => Tryz.zeroValue42 w) hm ?_
    rw [h k, if_pos (hk k hkk)]
    exact ⟨rfl, rfl⟩
  · rintro x w1 ⟨rfl, rfl⟩
    exact hkt w1 ⟨hb, hm⟩ (Keep.refl _ _)
theorem nil_or_snoc {α : Type} (l : List α) : l = [] ∨ ∃ a t, l = a ++ [t] := by
  rcases List.eq_nil_or_concat l with h | ⟨a, t, h⟩
  · exact .inl h
  · exact .inr ⟨a, t, by rw [h, List.concat_eq_append]⟩
def OfF (g : Value) (N : List Nd) (J : World → Prop) (f : Int → W64) : Prop :=
  ∀ (i : Nat) (n : Nd) (w : World) (I : World → Prop) (kt : Kt) (gv : Value), N[i]? = some n → J w → I w → (∀ w w', I w → Keep w w' No → I w') → GetF gv I (kidsN n) f → (∀ w', I w' → Keep w w' No → kt (vw (f i)) w') → M.callv Tryz.prog g #[encN n, gv] kt w
set_option maxHeartbeats 4000000 in
theorem once_ret {w : World} {F : Nat → Prop} {p r : Nat} {N : List Nd} {most id : Int} {g : Value} {J : World → Prop} {f : Int → W64} (hd : DagO w F p N most) (hid : isN N id = true) (hm : MapO w r []) (hFr : ¬ F r) (hJ : J w) (hJk : ∀ w', Keep w w' (· = r) → J w') (hof : OfF g N J f) :
    Ret Tryz.prog 72 #[ptr p, vi id, .map (some r), g] w (fun x w' => x = vw (f id) ∧ Keep w w' (· = r)) := by
  have hG := hd.good
  have hNl := hd.len.1
  refine ok72 _ _ _ _ _ _ ?_
  unfold sh72
  refine M.new_i (l := [.map (some r)]) (fun w1 b1 k1 s1 => ?_)
  refine M.buildSlice_i [vi id] (by kernel_rfl) (fun w2 b2 k2 s2 => ?_)
  have b1 := b1.keep k2 (fun h => h)
  have k12 : Keep w w2 (· = r) := (k1.trans k2 (fun _ _ h => h)).mono (fun _ _ h => h.elim)
  have hm2 := (hm.keep k1 (fun h => h)).keep k2 (fun h => h)
  have hrl := hm.lt
  have g2 : GI w2 (w1.heap.size ≤ ·) (.slice (some ⟨w1.heap.size, 0, none⟩) 1 1) [id] := GC.of_blk b2 (Nat.le_refl _) rfl
  refine M.loop_i (σ := List Int × List Int × List Int) (fun t vals w' => ∃ sv kv, vals = [sv] ∧ GI w' (w1.heap.size ≤ ·) sv t.1 ∧ Once N id t.1 t.2.1 t.2.2 ∧ t.1.length + 4 * (N.length - t.2.2.length) ≤ 4 * N.length + 1 ∧ Blk w' w.heap.size [.map (some r)] ∧ MapO w' r kv ∧ HeldR kv t.2.1 f ∧ Keep w w' (· = r)) (fun t => onceM N t.1 t.2.2) ([id], [], [])
    ⟨_, [], rfl, g2, Once.start hid, by show 1 + 4 * (N.length - 0) ≤ _; omega, b1, hm2, fun k => by simp [lkp], k12⟩ ?_
  rintro ⟨st, held, E⟩ vals w3 K ⟨sv, kv, rfl, gs, ho, hb, hb3, hm3, hh, k3⟩ hK _
  simp only at gs ho hb hh
  simp only [List.getD_cons_zero, List.getD_cons_succ]
  have hd3 := hd.keep k3 (fun b hb h => hFr (h ▸ hb))
  have q3 := k3.size
  obtain ⟨A, c, rfl, hrs, hcap⟩ := GC.row2 gs (by omega)
  have hslen : st.length ≤ 1000000 := by omega
  rcases nil_or_snoc st with rfl | ⟨st0, t, rfl⟩
  · simp only [List.length_nil]
    (repeat (first|refine ja ?_|refine jp ?_|refine jD ?_|refine jN (by assumption) rfl ?_))
    refine M.lookup_i (kt := 3) (et := 42) (z := vw 0) (by kernel_rfl) (by kernel_rfl) (fun w => Tryz.zeroValue42 w) hm3 ?_
    rw [hh id, if_pos (ho.first rfl)]
    exact ⟨rfl, k3⟩
  · have htN := ho.rng t (by simp)
    obtain ⟨j, n, rfl, hn⟩ := isN_get htN
    have hgn := hG j n hn
    have hstl : (st0 ++ [(j : Int)]).length = st0.length + 1 := by simp
    have hnode : nodeAt N (j : Int) = n := by
      unfold nodeAt
      rw [htN, Int.toNat_natCast, hn]; rfl
    rw [hstl]
    (repeat (first|refine ja ?_|refine jo ?_|refine jC ?_))
    refine M.share_j (fun vals w' => ∃ sv st' held' E' kv', vals = [sv] ∧ GI w' (w1.heap.size ≤ ·) sv st' ∧ Once N id st' held' E' ∧ onceM N st' E' < onceM N (st0 ++ [(j : Int)]) E ∧ st'.length + 4 * (N.length - E'.length) ≤ 4 * N.length + 1 ∧ Blk w' w.heap.size [.map (some r)] ∧ MapO w' r kv' ∧ HeldR kv' held' f ∧ Keep w w' (· = r)) ?_ ?_
    · rintro vals w4 ⟨sv, st', held', E', kv', rfl, a1, a2, a3, a4, a5, a6, a7, a8⟩ _
      simp only [List.getD_cons_zero, List.getD_cons_succ]
      exact hK (st', held', E') _ _ a3 ⟨sv, kv', rfl, a1, a2, a4, a5, a6, a7, a8⟩
    · intro K2 hK2
      have e1 : ((st0.length + 1 : Nat) : Int) - 1 = ((st0.length : Nat) : Int) := by omega
      (repeat (first|refine ja ?_|refine jL ?_))
      rw [e1]
      refine M.idxLV_i hrs (by simp) (by omega) (by omega) (x := (j : Int)) (by rw [Int.toNat_natCast]; simp) (fun bb oo hA hcc => ?_)
      (repeat (refine jM (by assumption) ?_))
      refine M.call_i (hd3.node (j : Int)) ?_; rintro _ w4 ⟨rfl, k4⟩
      rw [htN, hnode]
      refine M.extract_i rfl ?_
      refine M.extract_i rfl ?_
      refine M.new_i (l := zeroNd.cells) (fun w5 b5 k5 s5 => ?_)
      refine M.storeAll_i b5 rfl rfl (cells_one n) (fun w6 b6 k6 s6 => ?_)
      refine M.loadAll_i b6 rfl ?_
      refine M.call_i (kids_ret hgn w6) ?_; rintro ksv w7 ⟨hks, k7⟩
      have q4 := k4.size
      have k37 : Keep w3 w7 No := ((k4.trans k5 (fun _ _ h => h)).trans k6 (fun b hb h => by omega)).trans k7 (fun _ _ h => h)
      have b6 := b6.keep k7 (fun h => h)
      obtain ⟨A2, c2, rfl, hrk, hck⟩ := hks
      have hkl : (kidsN n).length ≤ 3 := by
        unfold kidsN
        split
        · simp
        · split
          · simp
          · split <;> simp
      have gs7 := gs.keep k37 (fun _ _ _ h => h)
      have hb7 := hb3.keep k37 (fun h => h)
      have hm7 := hm3.keep k37 (fun h => h)
      have hlen' : (st0 ++ [(j : Int)]).length = st0.length + 1 := hstl
      have q37 := k37.size
      (repeat (refine ja ?_))
      have gs7' : GI w7 (fun b => (w1.heap.size ≤ b ∧ b < w3.heap.size) ∨ w7.heap.size ≤ b) (.slice A (st0 ++ [(j : Int)]).length c) (st0 ++ [(j : Int)]) := (gs.mono (L' := fun b => (w1.heap.size ≤ b ∧ b < w3.heap.size) ∨ w7.heap.size ≤ b) (fun b hb h => .inl ⟨h, hb⟩)).keep k37 (fun _ _ _ h => h)
      have hrk := hrk.mono (D' := fun b => w6.heap.size ≤ b ∧ b < w7.heap.size) (fun b hb h => ⟨h, hb⟩)
      have q6 : w3.heap.size ≤ w6.heap.size := by have := k5.size; omega
      have q67 := k7.size
      rw [hstl] at gs7'
      refine M.loop_i (σ := Nat) (fun i vals w' => ∃ sv, vals = [sv, vb (!((kidsN n).take i).all (fun k => decide (k ∈ held))), vi i] ∧ i ≤ (kidsN n).length ∧ GI w' (fun b => (w1.heap.size ≤ b ∧ b < w3.heap.size) ∨ w7.heap.size ≤ b) sv (st0 ++ [(j : Int)] ++ ((kidsN n).take i).filter (fun k => decide (k ∉ held))) ∧ Keep w7 w' (fun b => (w1.heap.size ≤ b ∧ b < w3.heap.size) ∨ w7.heap.size ≤ b)) (fun i => (kidsN n).length - i) 0
        ⟨_, rfl, by omega, by simpa using gs7', Keep.refl _ _⟩ ?_
      rintro i vals w8 K3 ⟨sv, rfl, hi, g8, k8⟩ hK3 _
      simp only [List.getD_cons_zero, List.getD_cons_succ]
      have hrk8 := hrk.keep k8 (fun b hb h1 h2 => by omega)
      have hb8 := hb7.keep k8 (fun h => by omega)
      have hm8 := hm7.keep k8 (fun h => by omega)
      have b8 := b6.keep k8 (fun h => by have := k5.size; omega)
      have q8 := k8.size
      by_cases hlt : i < (kidsN n).length
      · obtain ⟨k, hk⟩ : ∃ k, (kidsN n)[i]? = some k := ⟨_, List.getElem?_eq_getElem hlt⟩
        have hka : ((kidsN n).take (i + 1)).all (fun k => decide (k ∈ held)) = (((kidsN n).take i).all (fun k => decide (k ∈ held)) && decide (k ∈ held)) := by
          rw [List.take_add_one, hk]; simp
        have hkf : ((kidsN n).take (i + 1)).filter (fun k => decide (k ∉ held)) = ((kidsN n).take i).filter (fun k => decide (k ∉ held)) ++ if k ∈ held then [] else [k] := by
          rw [List.take_add_one, hk, List.filter_append]
          congr 1
          by_cases hkh : k ∈ held <;> simp [hkh]
        have hfl : (((kidsN n).take i).filter (fun k => decide (k ∉ held))).length ≤ 3 := by
          refine Nat.le_trans (List.length_filter_le _ _) ?_
          rw [List.length_take]; omega
        (repeat (first|refine jo ?_|refine jy ?_))
        refine M.share_j (fun vals w' => ∃ sv, vals = [sv, vb (!((kidsN n).take (i + 1)).all (fun k => decide (k ∈ held)))] ∧ GI w' (fun b => (w1.heap.size ≤ b ∧ b < w3.heap.size) ∨ w7.heap.size ≤ b) sv (st0 ++ [(j : Int)] ++ ((kidsN n).take (i + 1)).filter (fun k => decide (k ∉ held))) ∧ Keep w7 w' (fun b => (w1.heap.size ≤ b ∧ b < w3.heap.size) ∨ w7.heap.size ≤ b)) ?_ ?_
        · rintro vals w9 ⟨sv, rfl, g9, k9⟩ _
          simp only [List.getD_cons_zero, List.getD_cons_succ]
          (repeat (refine jK ?_))
          exact hK3 (i + 1) _ _ (by omega) ⟨sv, by simp, by omega, g9, k9⟩
        · intro K4 hK4
          refine M.idxLV_i hrk8 rfl (by omega) (by omega) (x := k) (by simpa using hk) (fun bb oo hA hcc => ?_)
          (repeat (first|refine jM (by assumption) ?_|refine jN (by assumption) rfl ?_))
          refine M.lookupOk_i (kt := 3) (et := 42) (z := vw 0) (by kernel_rfl) (by kernel_rfl) (fun w => Tryz.zeroValue42 w) hm8 ?_
          refine M.extract_i rfl ?_
          refine M.extract_i rfl ?_
          rw [hh k]
          by_cases hkh : k ∈ held
          · rw [if_pos hkh]
            rw [if_pos hkh, List.append_nil] at hkf
            (repeat (first|refine jm ?_|refine jp ?_))
            refine hK4 _ _ ⟨sv, ?_, by rw [hkf]; exact g8, k8⟩
            rw [hka, decide_eq_true hkh, Bool.and_true]
          · rw [if_neg hkh]
            rw [if_neg hkh] at hkf
            (repeat (first|refine jn ?_|refine jo ?_))
            refine M.buildSlice_i [vi k] (by kernel_rfl) (fun w9 b9 k9 s9 => ?_)
            refine M.append1_i (g8.keep k9 (fun _ _ _ h => h)) (Row.of_blk' (D := fun _ => True) b9 trivial) rfl (by
              rw [List.length_append, hstl]
              rw [hstl] at hslen
              omega) (fun v10 w10 g10 k10 => ?_)
            have q9 := k9.size
            refine hK4 _ _ ⟨v10, ?_, ?_, (k8.trans k9 (fun _ _ h => h.elim)).trans k10 (fun b hb h => by omega)⟩
            · rw [hka, decide_eq_false hkh, Bool.and_false]; rfl
            · rw [hkf, ← List.append_assoc]
              exact g10.mono (fun b hb h => by omega)
      · have : i = (kidsN n).length := by omega
        subst this
        rw [List.take_length] at g8 ⊢
        have k38 : Keep w w8 (· = r) := (k3.trans k37 (fun _ _ h => h.elim)).trans k8 (fun b hb h => by have := k1.size; omega)
        have gl8 : GI w8 (w1.heap.size ≤ ·) sv (st0 ++ [(j : Int)] ++ (kidsN n).filter (fun k => decide (k ∉ held))) := g8.mono (fun b hb h => by omega)
        cases hall : (kidsN n).all (fun k => decide (k ∈ held)) with
        | false =>
          (repeat (first|refine jo ?_|refine jp ?_|refine jz ?_))
          have hne : (kidsN n).filter (fun k => decide (k ∉ held)) ≠ [] := fun he => by
            rw [List.filter_eq_nil_iff] at he
            rw [List.all_eq_false] at hall
            obtain ⟨k, hk1, hk2⟩ := hall
            exact he k hk1 (by simpa using hk2)
          obtain ⟨p1, p2⟩ := ho.push hn hG rfl hne
          have hfl : ((kidsN n).filter (fun k => decide (k ∉ held))).length ≤ 3 := Nat.le_trans (List.length_filter_le _ _) hkl
          refine hK2 _ _ ⟨sv, _, held, (j : Int) :: E, kv, rfl, gl8, p1, p2, ?_, hb8, hm8, hh, k38⟩
          have hE := nodup_range p1.nodup p1.ernge
          rw [List.length_cons] at hE
          rw [List.length_append, List.length_cons]
          omega
        | true =>
          have hkh : ∀ k ∈ kidsN n, k ∈ held := fun k hk => by simpa using List.all_eq_true.1 hall k hk
          have hnil : (kidsN n).filter (fun k => decide (k ∉ held)) = [] := by
            rw [List.filter_eq_nil_iff]
            intro k hk
            simpa using hkh k hk
          rw [hnil, List.append_nil] at gl8
          obtain ⟨A8, c8, rfl, _, hcap8⟩ := GC.row2 gl8 (by omega)
          rw [hstl]
          (repeat (first|refine ja ?_|refine jp ?_|refine jz ?_|refine jL ?_))
          rw [e1]
          refine M.slice_i 0 st0.length c8 (sl3_h (by omega)) ?_
          have gcut := GI.cut gl8 (m := st0.length) (by omega)
          rw [List.take_left' rfl] at gcut
          have kd := Keep.drew w8 No
          refine M.draw_i ?_
          have hbd := hb8.keep kd (fun h => h)
          (repeat (refine jN (by assumption) rfl ?_))
          refine M.loadAll_i (b8.keep kd (fun h => h)) rfl ?_
          have hJ8 := hJk _ (k38.trans kd (fun _ _ h => h.elim))
          have hmd := hm8.keep kd (fun h => h)
          refine hof j n _ (fun w' => Blk w' w.heap.size [.map (some r)] ∧ MapO w' r kv) _ _ hn hJ8 ⟨hbd, hmd⟩ (fun a b h k => ⟨h.1.keep k (fun h => h), h.2.keep k (fun h => h)⟩) (get_F hh hkh) (fun w9 hI9 k9 => ?_)
          obtain ⟨hb9, hm9⟩ := hI9
          have k39 : Keep w w9 (· = r) := (k38.trans kd (fun _ _ h => h.elim)).trans k9 (fun _ _ h => h.elim)
          (repeat (refine jP (by assumption) rfl ?_))
          refine M.mapUpdate_i (kt := 3) (et := 42) (by kernel_rfl) (by kernel_rfl) hm9 (fun w10 m10 k10 s10 => ?_)
          have hop := ho.pop hn hkh hG ((j : Int) :: held) (fun x => List.mem_cons)
          have hq : ∀ b, w1.heap.size ≤ b → b ≠ r := fun b hb h => by have := k1.size; omega
          refine hK2 _ _ ⟨_, st0, (j : Int) :: held, E, _, rfl, ?_, hop, ?_, ?_, hb9.keep k10 (fun h => by omega), m10, hh.upd _, k39.trans k10 (fun _ _ h => h)⟩
          · have := ((gcut.keep kd (fun _ _ _ h => h)).keep k9 (fun _ _ _ h => h)).keep k10 (fun b _ hb h => hq b hb h)
            exact this
          · unfold onceM
            rw [hstl]; omega
          · rw [hstl] at hb
            show st0.length + _ ≤ _
            omega
end Go.Proofs.YtanjlgafjgoaaaaGreat
