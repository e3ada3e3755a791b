import Derived.Test.YtnbcglnefoinlaaK6
import Derived.WideLaws
namespace Go.Proofs.Ytnbcglnefoinlaa
open Go.Mw Go.Maps Go.MapKept
set_option linter.unusedVariables false
set_option linter.unusedSimpArgs false
set_option maxRecDepth 100000
attribute [local irreducible] M.val M.unit M.next M.pick M.new M.nilCheck M.load1 M.loadA M.store M.fieldAddr M.indexSl M.indexArr M.slice M.makeSlice M.buildSlice M.len M.lenS M.cap M.append M.extract M.conv M.not M.neg M.bin M.shift M.eqB M.eqNil M.scat M.call M.callv M.gd M.share M.cond M.loop M.draw pureW readW Ret
def sh12 (x0 : Value) (R : Kt) (w : World) : Prop :=
  M.new 38 (Value.cells x0) (fun t1 w =>
  M.share (fun K1 w =>
  M.fieldAddr 0 t1 (fun t4 w =>
  M.load1 t4 (fun t5 w =>
  M.bin .eql t5 (Value.int IntKind.i64 20) (fun t6 w =>
  M.cond t6
  (K1 [t6] w)
  (M.fieldAddr 0 t1 (fun t7 w =>
  M.load1 t7 (fun t8 w =>
  M.bin .eql t8 (Value.int IntKind.i64 21) (fun t9 w =>
  K1 [t9] w) w) w) w)) w) w) w) (fun s1 w => ∀ _ : List Value,
  M.cond (s1.getD 0 undef)
  (R (Value.slice none 0 0) w)
  (M.fieldAddr 0 t1 (fun t11 w =>
  M.load1 t11 (fun t12 w =>
  M.bin .eql t12 (Value.int IntKind.i64 22) (fun t13 w =>
  M.cond t13
  (M.fieldAddr 2 t1 (fun t14 w =>
  M.load1 t14 (fun t15 w =>
  M.fieldAddr 3 t1 (fun t16 w =>
  M.load1 t16 (fun t17 w =>
  M.fieldAddr 4 t1 (fun t18 w =>
  M.load1 t18 (fun t19 w =>
  M.buildSlice 3 1 #[.int .i64 0] 3 [(0, t15), (1, t17), (2, t19)] (fun t20 w =>
  R t20 w) w) w) w) w) w) w) w)
  (M.share (fun K2 w =>
  M.fieldAddr 0 t1 (fun t22 w =>
  M.load1 t22 (fun t23 w =>
  M.bin .leq t23 (Value.int IntKind.i64 14) (fun t24 w =>
  M.cond t24
  (K2 [t24] w)
  (M.fieldAddr 0 t1 (fun t25 w =>
  M.load1 t25 (fun t26 w =>
  M.bin .eql t26 (Value.int IntKind.i64 24) (fun t27 w =>
  K2 [t27] w) w) w) w)) w) w) w) (fun s2 w => ∀ _ : List Value,
  M.cond (s2.getD 0 undef)
  (M.fieldAddr 2 t1 (fun t28 w =>
  M.load1 t28 (fun t29 w =>
  M.fieldAddr 3 t1 (fun t30 w =>
  M.load1 t30 (fun t31 w =>
  M.buildSlice 3 1 #[.int .i64 0] 2 [(0, t29), (1, t31)] (fun t32 w =>
  R t32 w) w) w) w) w) w)
  (M.fieldAddr 2 t1 (fun t33 w =>
  M.load1 t33 (fun t34 w =>
  M.buildSlice 3 1 #[.int .i64 0] 1 [(0, t34)] (fun t35 w =>
  R t35 w) w) w) w)) w)) w) w) w)) w) w
theorem ok12 (x0 : Value) (R : Kt) (w : World) (h : sh12 x0 R w) : Ret Try.prog 12 #[x0] w R :=
  ret_mk <| calls_of_comp mixed (c := Try.f12.body.getD .skip) (args := [x0]) (rs := [(ResultVar.tmp 2)]) (Ann.seq Ann.text (Ann.seq (Ann.block (Ann.join [3] [4, 5, 6, 7, 8, 9] (Ann.seq Ann.text (Ann.cond Ann.leaf Ann.text)) (Ann.cond (Ann.seq Ann.text Ann.leaf) (Ann.seq Ann.text (Ann.cond (Ann.seq Ann.text Ann.leaf) (Ann.join [21] [22, 23, 24, 25, 26, 27] (Ann.seq Ann.text (Ann.cond Ann.leaf Ann.text)) (Ann.cond (Ann.seq Ann.text Ann.leaf) Ann.leaf))))))) (Ann.seq Ann.text Ann.leaf)))
    Try.func12 (by kernel_rfl) (by kernel_rfl)
    (Eq.mp (by kernel_rfl) h)
def sh4 (x0 x1 : Value) (R : Kt) (w : World) : Prop :=
  M.eqNil 0 false x0 (fun t16 w =>
  M.cond t16
  (R (.tuple #[(Value.slice none 0 0), (Value.int IntKind.i64 11)]) w)
  (M.nilCheck x0 (fun t19 w =>
  M.fieldAddr 0 t19 (fun t20 w =>
  M.load1 t20 (fun t21 w =>
  M.call Try.prog 11 #[t21, x1] (fun t23 w =>
  M.extract 0 t23 (fun t24 w =>
  M.extract 1 t23 (fun t25 w =>
  M.new 38 #[.int .i64 0, .int .i64 0, .int .i64 0, .int .i64 0, .int .i64 0, .int .u64 0] (fun t6 w =>
  M.store 6 t6 t24 (fun _ w =>
  M.not t25 (fun t27 w =>
  M.cond t27
  (R (.tuple #[(Value.slice none 0 0), (Value.int IntKind.i64 11)]) w)
  (M.buildSlice 3 1 #[.int .i64 0] 1 [(0, x1)] (fun t29 w =>
  M.loop [t29] (fun s1 K1 w => ∀ _ : List Value,
  M.len (s1.getD 0 undef) (fun t31 w =>
  M.bin .gtr t31 (Value.int IntKind.i64 0) (fun t32 w =>
  M.cond t32
  (M.share (fun K2 w =>
  M.len (s1.getD 0 undef) (fun t35 w =>
  M.bin .sub t35 (Value.int IntKind.i64 1) (fun t36 w =>
  M.indexSl 1 (s1.getD 0 undef) t36 (fun t37 w =>
  M.load1 t37 (fun t38 w =>
  M.nilCheck x0 (fun t41 w =>
  M.fieldAddr 0 t41 (fun t42 w =>
  M.load1 t42 (fun t43 w =>
  M.call Try.prog 11 #[t43, t38] (fun t45 w =>
  M.extract 0 t45 (fun t46 w =>
  M.extract 1 t45 (fun t47 w =>
  M.new 38 #[.int .i64 0, .int .i64 0, .int .i64 0, .int .i64 0, .int .i64 0, .int .u64 0] (fun t10 w =>
  M.store 6 t10 t46 (fun _ w =>
  M.loadA 6 t10 (fun t48 w =>
  M.call Try.prog 12 #[t48] (fun t49 w =>
  M.len t49 (fun t50 w =>
  M.loop [(s1.getD 0 undef), (Value.bool false), (Value.int IntKind.i64 0)] (fun s3 K3 w => ∀ _ : List Value,
  M.bin .lss (s3.getD 2 undef) t50 (fun t52 w =>
  M.cond t52
  (M.share (fun K4 w =>
  M.indexSl 1 t49 (s3.getD 2 undef) (fun t53 w =>
  M.load1 t53 (fun t54 w =>
  M.nilCheck x0 (fun t56 w =>
  M.fieldAddr 2 t56 (fun t57 w =>
  M.load1 t57 (fun t58 w =>
  readW Try.prog (Instr.lookup 40 t58 t54 false) (fun t60 w =>
  M.eqNil 1 false t60 (fun t61 w =>
  M.cond t61
  (M.buildSlice 3 1 #[.int .i64 0] 1 [(0, t54)] (fun t64 w =>
  M.append 3 1 8 #[.int .i64 0] (s3.getD 0 undef) t64 (fun t65 w =>
  K4 [t65, (Value.bool true)] w) w) w)
  (K4 [(s3.getD 0 undef), (s3.getD 1 undef)] w)) w) w) w) w) w) w) w) (fun s4 w => ∀ _ : List Value,
  M.bin .add (s3.getD 2 undef) (Value.int IntKind.i64 1) (fun t66 w =>
  K3 [(s4.getD 0 undef), (s4.getD 1 undef), t66] w) w) w)
  (M.cond (s3.getD 1 undef)
  (K2 [(s3.getD 0 undef)] w)
  (M.share (fun K5 w =>
  M.nilCheck x0 (fun t69 w =>
  M.fieldAddr 2 t69 (fun t70 w =>
  M.load1 t70 (fun t71 w =>
  readW Try.prog (Instr.lookup 40 t71 t38 false) (fun t73 w =>
  M.eqNil 1 false t73 (fun t74 w =>
  M.cond t74
  (M.draw (fun w =>
  M.nilCheck x0 (fun t76 w =>
  M.fieldAddr 2 t76 (fun t77 w =>
  M.load1 t77 (fun t78 w =>
  M.nilCheck x0 (fun t81 w =>
  M.fieldAddr 4 t81 (fun t82 w =>
  M.load1 t82 (fun t83 w =>
  M.loadA 6 t10 (fun t84 w =>
  M.callv Try.prog t83 #[t84] (fun t85 w =>
  ((M.load1 t77 (fun v' _ => v' = t78) w) ∧ M.unit Try.prog (Instr.mapUpdate 40 t78 t38 t85) (fun _ w =>
  K5 [] w) w)) w) w) w) w) w) w) w) w) w)
  (K5 [] w)) w) w) w) w) w) (fun s5 w => ∀ _ : List Value,
  M.len (s3.getD 0 undef) (fun t88 w =>
  M.bin .sub t88 (Value.int IntKind.i64 1) (fun t89 w =>
  M.slice 1 (s3.getD 0 undef) none (some t89) none (fun t90 w =>
  K2 [t90] w) w) w) w) w))) w) w) w) w) w) w) w) w) w) w) w) w) w) w) w) w) w) (fun s2 w => ∀ _ : List Value,
  K1 [(s2.getD 0 undef)] w) w)
  (M.nilCheck x0 (fun t92 w =>
  M.fieldAddr 2 t92 (fun t93 w =>
  M.load1 t93 (fun t94 w =>
  readW Try.prog (Instr.lookup 40 t94 x1 false) (fun t96 w =>
  M.call Try.prog 13 #[t96] (fun t97 w =>
  R (.tuple #[t97, (Value.int IntKind.i64 0)]) w) w) w) w) w) w)) w) w) w) w)) w) w) w) w) w) w) w) w) w)) w
theorem ok4 (x0 x1 : Value) (R : Kt) (w : World) (h : sh4 x0 x1 R w) : Ret Try.prog 4 #[x0, x1] w R :=
  ret_mk <| calls_of_comp mixed (c := Try.f4.body.getD .skip) (args := [x0, x1]) (rs := [(ResultVar.tmp 4), (ResultVar.tmp 5)]) (Ann.seq Ann.text (Ann.seq (Ann.seq Ann.text (Ann.cond (Ann.seq Ann.text Ann.leaf) Ann.leaf)) (Ann.seq (Ann.seq Ann.text (Ann.seq Ann.text (Ann.cond (Ann.seq Ann.text Ann.leaf) Ann.leaf))) (Ann.seq Ann.text (Ann.seq (Ann.block (Ann.loop [8] [9, 10, 11, 12, 14, 30, 31, 32, 33, 34, 35, 36, 37, 38, 39, 40, 41, 42, 43, 44, 45, 46, 47, 48, 49, 50, 51, 52, 53, 54, 55, 56, 57, 58, 59, 60, 61, 62, 63, 64, 65, 66, 67, 68, 69, 70, 71, 72, 73, 74, 75, 76, 77, 78, 79, 80, 81, 82, 83, 84, 85, 86, 87, 88, 89, 90] (Ann.seq (Ann.seq Ann.text (Ann.cond Ann.leaf Ann.leaf)) (Ann.jblock [8] [9, 10, 11, 12, 14, 33, 34, 35, 36, 37, 38, 39, 40, 41, 42, 43, 44, 45, 46, 47, 48, 49, 50, 51, 52, 53, 54, 55, 56, 57, 58, 59, 60, 61, 62, 63, 64, 65, 66, 67, 68, 69, 70, 71, 72, 73, 74, 75, 76, 77, 78, 79, 80, 81, 82, 83, 84, 85, 86, 87, 88, 89, 90] (Ann.seq Ann.text (Ann.seq Ann.text (Ann.seq Ann.text (Ann.seq (Ann.seq Ann.text (Ann.block (Ann.loop [8, 12, 51] [14, 52, 53, 54, 55, 56, 57, 58, 59, 60, 61, 62, 63, 64, 65, 66] (Ann.seq Ann.text (Ann.seq (Ann.cond Ann.leaf Ann.leaf) (Ann.seq (Ann.jblock [8, 12] [14, 53, 54, 55, 56, 57, 58, 59, 60, 61, 62, 63, 64, 65] (Ann.seq Ann.text (Ann.seq Ann.text (Ann.cond Ann.text Ann.leaf)))) Ann.text)))))) (Ann.seq (Ann.seq Ann.text (Ann.cond Ann.leaf Ann.leaf)) (Ann.join [] [68, 69, 70, 71, 72, 73, 74, 75, 76, 77, 78, 79, 80, 81, 82, 83, 84, 85] (Ann.seq Ann.text (Ann.cond (Ann.draw (Sch.take 0 (Sch.take 1 (Sch.take 2 (Sch.take 3 (Sch.take 4 (Sch.take 5 (Sch.take 6 (Sch.take 7 (Sch.take 8 (Sch.take 9 (Sch.one 10 (Sch.one 11 Sch.done))))))))))))) Ann.leaf)) Ann.text)))))))))) (Ann.seq Ann.text Ann.leaf))))))
    Try.func4 (by kernel_rfl) (by kernel_rfl)
    (Eq.mp (by kernel_rfl) h)
theorem bkids_ret {NN : List Nd} {n : Nd} (hn : goodN NN n) (w : World) : Ret Try.prog 12 #[encN n] w (fun r w' => LV vi w' (w.heap.size ≤ ·) r (kidsN n) ∧ Keep w w' No) := by
  refine ok12 _ _ _ ?_
  unfold sh12
  refine M.new_i (l := n.cells) (fun w1 b1 k1 s1 => ?_)
  have b1 : Blk w1 w.heap.size [vi n.op, vi n.wd, vi n.a, vi n.b, vi n.c, vw n.val] := b1
  have q := k1.size
  obtain ⟨_, _, h3⟩ := hn
  by_cases h0 : n.op = 20 ∨ n.op = 21
  · have hk : kidsN n = [] := by unfold kidsN; rw [if_pos h0]
    rw [hk]
    rcases h0 with h0 | h0
    · refine M.share_i ?_
      (repeat (first|refine jc ?_|refine jo ?_|refine jG ?_|refine jN (by assumption) rfl ?_))
      intro _
      simp only [List.getD_cons_zero, List.getD_cons_succ]
      (repeat (refine jo ?_))
      exact ⟨LV.nil _ _ _, k1⟩
    · refine M.share_i ?_
      (repeat (first|refine jc ?_|refine jp ?_|refine jG ?_|refine jH ?_|refine jN (by assumption) rfl ?_))
      intro _
      simp only [List.getD_cons_zero, List.getD_cons_succ]
      (repeat (refine jo ?_))
      exact ⟨LV.nil _ _ _, k1⟩
  · refine M.share_i ?_
    (repeat (first|refine jc ?_|refine jp ?_|refine jH ?_|refine jN (by assumption) rfl ?_))
    intro _
    simp only [List.getD_cons_zero, List.getD_cons_succ]
    by_cases h22 : n.op = 22
    · rw [kids_three h22]
      (repeat (first|refine jc ?_|refine jo ?_|refine jp ?_|refine jG ?_|refine jN (by assumption) rfl ?_))
      refine M.buildSlice_i [vi n.a, vi n.b, vi n.c] (by kernel_rfl) (fun w2 b2 k2 s2 => ?_)
      exact ⟨⟨_, _, rfl, Row.of_blk' b2 (by omega), Nat.le_refl _⟩, k1.trans k2 (fun _ _ h => h)⟩
    · by_cases h14 : n.op ≤ 14
      · rw [kids_two (by omega)]
        (repeat (first|refine jc ?_|refine jp ?_|refine jH ?_|refine jN (by assumption) rfl ?_))
        refine M.share_i ?_
        (repeat (first|refine jc ?_|refine jo ?_|refine jA ?_|refine jN (by assumption) rfl ?_))
        intro _
        simp only [List.getD_cons_zero, List.getD_cons_succ]
        (repeat (first|refine jc ?_|refine jo ?_|refine jN (by assumption) rfl ?_))
        refine M.buildSlice_i [vi n.a, vi n.b] (by kernel_rfl) (fun w2 b2 k2 s2 => ?_)
        exact ⟨⟨_, _, rfl, Row.of_blk' b2 (by omega), Nat.le_refl _⟩, k1.trans k2 (fun _ _ h => h)⟩
      · by_cases h24 : n.op = 24
        · rw [kids_two (by omega)]
          (repeat (first|refine jc ?_|refine jp ?_|refine jH ?_|refine jN (by assumption) rfl ?_))
          refine M.share_i ?_
          (repeat (first|refine jc ?_|refine jp ?_|refine jB ?_|refine jG ?_|refine jN (by assumption) rfl ?_))
          intro _
          simp only [List.getD_cons_zero, List.getD_cons_succ]
          (repeat (first|refine jc ?_|refine jo ?_|refine jN (by assumption) rfl ?_))
          refine M.buildSlice_i [vi n.a, vi n.b] (by kernel_rfl) (fun w2 b2 k2 s2 => ?_)
          exact ⟨⟨_, _, rfl, Row.of_blk' b2 (by omega), Nat.le_refl _⟩, k1.trans k2 (fun _ _ h => h)⟩
        · rw [kids_one (by omega)]
          (repeat (first|refine jc ?_|refine jp ?_|refine jH ?_|refine jN (by assumption) rfl ?_))
          refine M.share_i ?_
          (repeat (first|refine jc ?_|refine jp ?_|refine jB ?_|refine jH ?_|refine jN (by assumption) rfl ?_))
          intro _
          simp only [List.getD_cons_zero, List.getD_cons_succ]
          (repeat (first|refine jc ?_|refine jp ?_|refine jN (by assumption) rfl ?_))
          refine M.buildSlice_i [vi n.a] (by kernel_rfl) (fun w2 b2 k2 s2 => ?_)
          exact ⟨⟨_, _, rfl, Row.of_blk' b2 (by omega), Nat.le_refl _⟩, k1.trans k2 (fun _ _ h => h)⟩
def LB (N : List Nd) (D : List GK) (R : Int → Option (List Int)) : Prop := ∃ held : List Int, held.Nodup ∧ (∀ x, x ∈ held ↔ (R x).isSome = true) ∧ D.length ≤ 41000 * held.length + 1
theorem nil_or_snoc2 {α : Type} (l : List α) : l = [] ∨ ∃ a t, l = a ++ [t] := by
  cases l with
  | nil => exact .inl rfl
  | cons x l => exact .inr ⟨(x :: l).dropLast, (x :: l).getLast (by simp), (List.dropLast_concat_getLast (by simp)).symm⟩
section
variable {Z : Nat → Prop} {w : World} {F : Nat → Prop} {p : Nat} {N : List Nd} {most : Int} {G : Nat → Prop} {g : Nat} {D : List GK} {bl r1 r2 : Nat} {R I : Int → Option (List Int)}
theorem BS.zset {Z' : Nat → Prop} {w' : World} (h : BS Z w F p N most G g D bl r1 r2 R I) (k : Keep w w' No) (h1 : ∀ x, x < w.heap.size → Z x → Z' x) (h2 : ∀ x, w'.heap.size ≤ x → Z' x) : BS Z' w' F p N most G g D bl r1 r2 R I := by
  obtain ⟨kv1, a1, a2⟩ := h.m1
  obtain ⟨kv2, b1, b2⟩ := h.m2
  have mr : ∀ {kv : List (Int × Value)} {Q : Int → Option (List Int)}, MRel w G Z kv Q → MRel w' G Z' kv Q := fun hq x => ⟨(hq x).1, fun row hr => by
    obtain ⟨c1, v, c2, c3⟩ := (hq x).2 row hr
    exact ⟨c1, v, c2, (c3.mono (fun y hy hh => ⟨hh.1, h1 y hy hh.2⟩)).keep k (fun _ _ _ h => h)⟩⟩
  exact ⟨h.dag.keepN k, h.ga.keepN k, h.blk.keep k (fun h => h), ⟨kv1, a1.keep k (fun h => h), mr a2⟩, ⟨kv2, b1.keep k (fun h => h), mr b2⟩, h.sF, h.sG, h.ne, h2⟩
theorem BS.move {Z' : Nat → Prop} {w' : World} {S : Nat → Prop} (h : BS Z w F p N most G g D bl r1 r2 R I) (k : Keep w w' S) (hs : ∀ x, x < w.heap.size → S x → (¬ F x ∧ ¬ G x ∧ x ≠ bl ∧ x ≠ r1 ∧ x ≠ r2) ∧ ¬ Z x) (h1 : ∀ x, x < w.heap.size → Z x → Z' x) (h2 : ∀ x, w'.heap.size ≤ x → Z' x) : BS Z' w' F p N most G g D bl r1 r2 R I := by
  obtain ⟨kv1, a1, a2⟩ := h.m1
  obtain ⟨kv2, b1, b2⟩ := h.m2
  have mr : ∀ {kv : List (Int × Value)} {Q : Int → Option (List Int)}, MRel w G Z kv Q → MRel w' G Z' kv Q := fun hq x => ⟨(hq x).1, fun row hr => by
    obtain ⟨c1, v, c2, c3⟩ := (hq x).2 row hr
    exact ⟨c1, v, c2, ((c3.mono (D' := fun y => (¬ G y ∧ Z y) ∧ y < w.heap.size) (fun y hy hh => ⟨hh, hy⟩)).keep k (fun y _ hy hS => (hs y hy.2 hS).2 hy.1.2)).mono (fun y _ hy => ⟨hy.1.1, h1 y hy.2 hy.1.2⟩)⟩⟩
  exact ⟨h.dag.keep k (fun x hx hS => (hs x (h.dag.lt hx) hS).1.1 hx), h.ga.keep k (fun x hx hS => (hs x (h.ga.lt x hx) hS).1.2.1 hx), h.blk.keep k (fun hS => (hs _ h.blk.lt hS).1.2.2.1 rfl), ⟨kv1, a1.keep k (fun hS => (hs _ a1.lt hS).1.2.2.2.1 rfl), mr a2⟩, ⟨kv2, b1.keep k (fun hS => (hs _ b1.lt hS).1.2.2.2.2 rfl), mr b2⟩, h.sF, h.sG, h.ne, h2⟩
theorem PF.put {id : Nat} {n : Nd} {row : List Int} (h : PF N D R I) (hid : N[id]? = some n) (hl : (row.length : Int) = n.wd) (hf : RF D row) (hG : GoodN N) (hk : ∀ k ∈ kidsN n, R k ≠ none)
    (hv : ∀ ι env, Cmp ι D I env → rv ι D row = (oneV N n (wordAt N env) env).toNat) : PF N D (updR R (id : Int) row) I := by
  have hlt := (List.getElem?_eq_some_iff.1 hid).1
  refine ⟨fun j r hj => ?_, fun i m hi hm k hkk => ?_, h.ins, h.all, h.nd, h.dj⟩
  · unfold updR at hj
    by_cases e : j = id
    · rw [if_pos e] at hj
      obtain rfl := Option.some.inj hj
      subst e
      exact ⟨isN_iff.2 ⟨by omega, by omega⟩, by rw [hl, wdN_at hid], hf, fun ι env hc => by rw [hv ι env hc, wordAt_one hG hid]⟩
    · rw [if_neg e] at hj
      exact h.rows j r hj
  · unfold updR at hi ⊢
    by_cases e2 : k = id
    · rw [if_pos e2]; simp
    · rw [if_neg e2]
      by_cases e : (i : Int) = id
      · have : i = id := by omega
        subst this
        rw [hid] at hm; cases hm
        exact hk k hkk
      · rw [if_neg e] at hi
        exact h.clo i m hi hm k hkk
structure BT (Z : Nat → Prop) (w : World) (F : Nat → Prop) (p : Nat) (N : List Nd) (most : Int) (G : Nat → Prop) (g : Nat) (D : List GK) (bl r1 r2 : Nat) (R I : Int → Option (List Int)) : Prop where
  bs : BS Z w F p N most G g D bl r1 r2 R I
  pf : PF N D R I
  lb : LB N D R
def BitsQ (Z : Nat → Prop) (w : World) (F : Nat → Prop) (p : Nat) (N : List Nd) (most : Int) (G : Nat → Prop) (g : Nat) (D : List GK) (bl r1 r2 : Nat) (R I : Int → Option (List Int)) (P : Int → Prop) (id : Int) (r : Value) (w' : World) : Prop :=
  ∃ G' D' R' I' row v, r = .tuple #[v, vi 0] ∧ RowF w w' G' v row ∧ R' id = some row ∧ BT Z w' F p N most G' g D' bl r1 r2 R' I' ∧ Keep w w' (fun x => G x ∨ x = r1 ∨ x = r2) ∧ (∀ x, x < w.heap.size → G' x → G x) ∧ (∀ j r, R j = some r → R' j = some r) ∧ (∀ j r, I j = some r → I' j = some r) ∧ ∀ j, I' j ≠ none → I j ≠ none ∨ ∃ (i : Nat) (n : Nd), P i ∧ N[i]? = some n ∧ n.op = 21 ∧ n.a = j
set_option maxHeartbeats 16000000 in
theorem bits_ret {P : Int → Prop} {id : Int} (hP : P id) (hPk : ∀ (i : Nat) n, P i → N[i]? = some n → ∀ k ∈ kidsN n, P k) (h : BT Z w F p N most G g D bl r1 r2 R I) (hN : N.length ≤ 1000) (hid : isN N id = true) :
    Ret Try.prog 4 #[ptr bl, vi id] w (BitsQ Z w F p N most G g D bl r1 r2 R I P id) := by
  have hG := h.bs.dag.good
  have hblk := h.bs.blk
  refine ok4 _ _ _ _ ?_
  unfold sh4
  (repeat (first|refine jb ?_|refine jc ?_|refine jp ?_|refine jt ?_|refine jN (by assumption) rfl ?_))
  refine M.call_i (h.bs.dag.node id) ?_; rintro _ w1 ⟨rfl, k1⟩
  rw [hid]
  refine M.extract_i rfl ?_
  refine M.extract_i rfl ?_
  refine M.new_i (l := zeroNd.cells) (fun w2 b2 k2 s2 => ?_)
  refine M.storeAll_i b2 rfl rfl (cells_one _) (fun w3 b3 k3 s3 => ?_)
  have k13 : Keep w1 w3 No := k2.trans k3 (fun x hx e => by have e : x = w1.heap.size := e; omega)
  have k03 := k1.trans k13 (fun _ _ h => h)
  (repeat (first|refine jm ?_|refine jp ?_))
  refine M.buildSlice_i [vi id] (by kernel_rfl) (fun w4 b4 k4 s4 => ?_)
  have k04 := k03.trans k4 (fun _ _ h => h)
  have h4 := h.bs.keepN k04
  obtain ⟨held0, hnd0, hme0, hld0⟩ := h.lb
  have q03 := k03.size
  have g4 : GI w4 (blkOf (.slice (some ⟨w3.heap.size, 0, none⟩) 1 1)) (.slice (some ⟨w3.heap.size, 0, none⟩) 1 1) [id] := GC.of_blk b4 ⟨1, 1, rfl⟩ rfl
  have hblt := hblk.lt
  have hF0 : ∀ x, F x → x < w.heap.size := fun x hx => h.bs.dag.lt hx
  have hG0 := h.bs.ga.lt
  have hr0 : r1 < w.heap.size ∧ r2 < w.heap.size := by
    obtain ⟨_, a1, _⟩ := h.bs.m1
    obtain ⟨_, b1, _⟩ := h.bs.m2
    exact ⟨a1.lt, b1.lt⟩
  have hblk3 : ∀ x, blkOf (.slice (some ⟨w3.heap.size, 0, none⟩) 1 1) x → x = w3.heap.size := fun x hx => by
    obtain ⟨n, c, e⟩ := hx
    simp only [Value.slice.injEq, Option.some.injEq, Addr.mk.injEq] at e
    exact e.1.1.symm
  have hO : Once N id [id] held0 [] := by
    refine ⟨fun x hx => by rw [List.mem_singleton.1 hx]; exact hid, fun x hx => ?_, fun e => by simp at e, fun i n hi hn k hk => ?_, by simp, by simp, by simp, by simp⟩
    · obtain ⟨row, hr⟩ := Option.isSome_iff_exists.1 ((hme0 x).1 hx)
      exact (h.pf.rows x row hr).1
    · have := h.pf.clo i n (fun e => by have := (hme0 i).1 hi; rw [e] at this; cases this) hn k hk
      exact (hme0 k).2 (Option.isSome_iff_ne_none.2 this)
  refine M.loop_i (σ := List Int × List Int × List Int) (fun t vals w' => ∃ sv G' D' R' I', vals = [sv] ∧ GI w' (blkOf sv) sv t.1 ∧ (∀ x, blkOf sv x → w.heap.size ≤ x ∧ ¬ G' x) ∧ BS (fun x => Z x ∧ ¬ blkOf sv x) w' F p N most G' g D' bl r1 r2 R' I' ∧ PF N D' R' I' ∧ Once N id t.1 t.2.1 t.2.2 ∧ t.1.length + 4 * (N.length - t.2.2.length) ≤ 4 * N.length + 1 ∧
      t.2.1.Nodup ∧ (∀ x, x ∈ t.2.1 ↔ (R' x).isSome = true) ∧ D'.length ≤ 41000 * t.2.1.length + 1 ∧ Keep w w' (fun x => G x ∨ x = r1 ∨ x = r2) ∧ (∀ x, x < w.heap.size → G' x → G x) ∧ (∀ j r, R j = some r → R' j = some r) ∧ (∀ j r, I j = some r → I' j = some r) ∧ (∀ x ∈ t.1, P x) ∧ ∀ j, I' j ≠ none → I j ≠ none ∨ ∃ (i : Nat) (n : Nd), P i ∧ N[i]? = some n ∧ n.op = 21 ∧ n.a = j) (fun t => onceM N t.1 t.2.2) ([id], held0, [])
    ⟨_, G, D, R, I, rfl, g4, fun x hx => by rw [hblk3 x hx]; exact ⟨by omega, fun hx => by have := hG0 _ hx; omega⟩, h.bs.zset k04 (fun x hx hz => ⟨hz, fun hb => by have := hblk3 x hb; omega⟩) (fun x hx => ⟨h4.zn x hx, fun hb => by have := hblk3 x hb; have := b4.lt; omega⟩), h.pf, hO, by show 1 + 4 * (N.length - 0) ≤ _; omega, hnd0, hme0, hld0, k04.mono (fun _ _ h => h.elim), fun _ _ h => h, fun _ _ h => h, fun _ _ h => h, fun x hx => (by rw [List.mem_singleton.1 hx]; exact hP), fun _ h => .inl h⟩ ?_
  clear h4 hO g4 b4
  rintro ⟨st, held, E⟩ vals w5 K ⟨sv, G5, D5, R5, I5, rfl, gs, nS, h5, hp5, ho, hb, hnd, hme, hld, k05, sub5, mR, mI, hPs, hIn⟩ hK _
  simp only at gs ho hb hnd hme hld
  simp only [List.getD_cons_zero, List.getD_cons_succ]
  have q05 := k05.size
  obtain ⟨A, c, rfl, hrs, hcap⟩ := GC.row2 gs (by omega)
  have hslen : st.length ≤ 1000000 := by omega
  rcases nil_or_snoc2 st with rfl | ⟨st0, t, rfl⟩
  · simp only [List.length_nil]
    have hb5 := h5.blk
    (repeat (first|refine ja ?_|refine jb ?_|refine jc ?_|refine jp ?_|refine jD ?_|refine jN (by assumption) rfl ?_))
    obtain ⟨kv, hm, hrl⟩ := h5.m1
    refine M.lookup_i hmap hint (fun w => Try.zeroValue23 w) hm ?_
    obtain ⟨row, hrow⟩ := Option.isSome_iff_exists.1 ((hme id).1 (ho.first rfl))
    obtain ⟨b', o', c', e', hz⟩ := hrl.get hrow
    rw [e']
    obtain ⟨_, rl, rfr, _⟩ := hp5.rows id row hrow
    have hw64 := hG.wd hid
    refine M.call_i (clone23_ret hz (by omega)) ?_; rintro v w6 ⟨g6, k6⟩
    have hlt5 := h5.ga.lt
    have h6 : BS Z w6 F p N most G5 g D5 bl r1 r2 R5 I5 := h5.move k6 (fun x _ h => h.elim) (fun x _ h => h.1) (fun x hx => (h5.zn x (by have := k6.size; omega)).1)
    exact ⟨G5, D5, R5, I5, row, v, rfl, (GI.lv g6).mono (fun x _ hx => by have hx : w5.heap.size ≤ x := hx; exact ⟨fun hG => by have := hlt5 x hG; omega, by omega⟩), hrow, ⟨h6, hp5, held, hnd, hme, hld⟩, k05.trans k6 (fun _ _ h => h.elim), sub5, mR, mI, hIn⟩
  · have htN := ho.rng t (by simp)
    obtain ⟨j, n, rfl, hn⟩ := isN_get htN
    have hgn := hG j n hn
    have hstl : (st0 ++ [(j : Int)]).length = st0.length + 1 := by simp
    have hnode : nodeAt N (j : Int) = n := by
      unfold nodeAt
      rw [htN, Int.toNat_natCast, hn]; rfl
    have hlt5 := h5.ga.lt
    rw [hstl]
    (repeat (first|refine ja ?_|refine jo ?_|refine jC ?_))
    refine M.share_n ?_
    have e1 : ((st0.length + 1 : Nat) : Int) - 1 = ((st0.length : Nat) : Int) := by omega
    have hb5 := h5.blk
    (repeat (first|refine ja ?_|refine jL ?_))
    rw [e1]
    refine M.idxLV_i hrs (by simp) (by omega) (by omega) (x := (j : Int)) (by rw [Int.toNat_natCast]; simp) (fun bb oo hA hcc => ?_)
    (repeat (first|refine jb ?_|refine jc ?_|refine jM (by assumption) ?_|refine jN (by assumption) rfl ?_))
    refine M.call_i (h5.dag.node (j : Int)) ?_; rintro _ w6 ⟨rfl, k6⟩
    rw [htN, hnode]
    refine M.extract_i rfl ?_
    refine M.extract_i rfl ?_
    refine M.new_i (l := zeroNd.cells) (fun w7 b7 k7 s7 => ?_)
    refine M.storeAll_i b7 rfl rfl (cells_one n) (fun w8 b8 k8 s8 => ?_)
    refine M.loadAll_i b8 rfl ?_
    refine M.call_i (bkids_ret hgn w8) ?_; rintro ksv w9 ⟨hks, k9⟩
    have q6 := k6.size
    have q7 := k7.size
    have k59 : Keep w5 w9 No := ((k6.trans k7 (fun _ _ h => h)).trans k8 (fun b hb h => by have h : b = w6.heap.size := h; omega)).trans k9 (fun _ _ h => h)
    have b9 := b8.keep k9 (fun h => h)
    obtain ⟨A2, c2, rfl, hrk, hck⟩ := hks
    have hkl : (kidsN n).length ≤ 3 := by
      unfold kidsN
      split
      · simp
      · split
        · simp
        · split <;> simp
    have h9 := h5.keepN k59
    have gs9 := GC.keep gs k59 (fun _ _ _ h => h)
    have q59 := k59.size
    have q9 := k9.size
    have hrk := hrk.mono (D' := fun b => w8.heap.size ≤ b ∧ b < w9.heap.size) (fun b hb h => ⟨h, hb⟩)
    have hS5 : ∀ x, blkOf (.slice A (st0 ++ [(j : Int)]).length c) x → x < w5.heap.size := fun x hx => by
      obtain ⟨_, l, hl⟩ := GC.blkOf gs hx
      exact hl.lt
    have gs9' : GI w9 (blkOf (.slice A (st0.length + 1) c)) (.slice A (st0.length + 1) c) (st0 ++ [(j : Int)]) := by rw [← hstl]; exact gs9
    rw [hstl] at hS5 nS h9
    (repeat (refine ja ?_))
    have hr0' := hr0
    refine M.loop_i (σ := Nat) (fun i vals w' => ∃ sv, vals = [sv, vb (!((kidsN n).take i).all (fun k => decide (k ∈ held))), vi i] ∧ i ≤ (kidsN n).length ∧ GI w' (blkOf sv) sv (st0 ++ [(j : Int)] ++ ((kidsN n).take i).filter (fun k => decide (k ∉ held))) ∧
        (∀ x, blkOf sv x → (w.heap.size ≤ x ∧ ¬ G5 x) ∧ (blkOf (.slice A (st0.length + 1) c) x ∨ w9.heap.size ≤ x)) ∧ BS (fun x => Z x ∧ ¬ blkOf sv x) w' F p N most G5 g D5 bl r1 r2 R5 I5 ∧ Keep w9 w' (fun x => blkOf (.slice A (st0.length + 1) c) x ∨ w9.heap.size ≤ x)) (fun i => (kidsN n).length - i) 0
      ⟨_, rfl, by omega, by rw [List.take_zero, List.filter_nil, List.append_nil]; exact gs9', fun x hx => ⟨nS x hx, .inl hx⟩, h9, Keep.refl _ _⟩ ?_
    rintro i vals w10 K3 ⟨sv, rfl, hi, g10, nS10, h10, k10⟩ hK3 _
    simp only [List.getD_cons_zero, List.getD_cons_succ]
    have hrk10 := hrk.keep k10 (fun x hx h1 h2 => by
      rcases h2 with h2 | h2
      · have := hS5 x h2; omega
      · omega)
    have b10 := b9.keep k10 (fun h2 => by
      rcases h2 with h2 | h2
      · have := hS5 _ h2; omega
      · have := b9.lt; omega)
    have hblk10 := h10.blk
    have q10 := k10.size
    have lt10 : ∀ x, blkOf sv x → x < w10.heap.size := fun x hx => by
      obtain ⟨_, l, hl⟩ := GC.blkOf g10 hx
      exact hl.lt
    obtain ⟨kv, hm, hrl⟩ := h10.m1
    by_cases hlt : i < (kidsN n).length
    · obtain ⟨k, hk⟩ : ∃ k, (kidsN n)[i]? = some k := ⟨_, List.getElem?_eq_getElem hlt⟩
      have hka : ((kidsN n).take (i + 1)).all (fun k => decide (k ∈ held)) = (((kidsN n).take i).all (fun k => decide (k ∈ held)) && decide (k ∈ held)) := by
        rw [List.take_add_one, hk]; simp
      have hkf : ((kidsN n).take (i + 1)).filter (fun k => decide (k ∉ held)) = ((kidsN n).take i).filter (fun k => decide (k ∉ held)) ++ if k ∈ held then [] else [k] := by
        rw [List.take_add_one, hk, List.filter_append]
        congr 1
        by_cases hkh : k ∈ held <;> simp [hkh]
      have hfl : (((kidsN n).take i).filter (fun k => decide (k ∉ held))).length ≤ 3 := by
        refine Nat.le_trans (List.length_filter_le _ _) ?_
        rw [List.length_take]; omega
      (repeat (first|refine jo ?_|refine jy ?_))
      refine M.share_n ?_
      refine M.idxLV_i hrk10 rfl (by omega) (by omega) (x := k) (by simpa using hk) (fun bb oo hA hcc => ?_)
      (repeat (first|refine jb ?_|refine jc ?_|refine jM (by assumption) ?_|refine jN (by assumption) rfl ?_))
      refine M.lookup_i hmap hint (fun w => Try.zeroValue23 w) hm ?_
      by_cases hkh : k ∈ held
      · obtain ⟨row, hrow⟩ := Option.isSome_iff_exists.1 ((hme k).1 hkh)
        obtain ⟨b', o', c', e', _⟩ := hrl.get hrow
        rw [if_pos hkh, List.append_nil] at hkf
        rw [e']
        refine M.eqNilS_fs ?_
        refine M.cond_f ?_
        intro _
        simp only [List.getD_cons_zero, List.getD_cons_succ]
        (repeat (refine jK ?_))
        refine hK3 (i + 1) _ _ (by omega) ⟨sv, ?_, by omega, by rw [hkf]; exact g10, nS10, h10, k10⟩
        rw [hka, decide_eq_true hkh, Bool.and_true]; simp
      · have hno : R5 k = none := by
          cases hr5 : R5 k with
          | none => rfl
          | some r => exact absurd ((hme k).2 (by rw [hr5]; rfl)) hkh
        rw [if_neg hkh] at hkf
        rw [hrl.no hno]
        refine M.eqNilS_fn ?_
        refine M.cond_t ?_
        refine M.buildSlice_i [vi k] (by kernel_rfl) (fun w11 b11 k11 s11 => ?_)
        have g11 := GC.keep g10 k11 (fun _ _ _ h => h)
        have h11 := h10.keepN k11
        have q11 := k11.size
        refine M.append1_i g11 (Row.of_blk' (D := fun _ => True) b11 trivial) rfl (by
          rw [List.length_append, hstl]
          rw [hstl] at hslen
          omega) (fun v12 w12 g12 k12 => ?_)
        have hnew : ∀ x, blkOf v12 x → blkOf sv x ∨ w11.heap.size ≤ x := fun x hx => (GC.blkOf g12 hx).1
        have g12' := GC.own g12
        have h12 : BS (fun x => Z x ∧ ¬ blkOf v12 x) w12 F p N most G5 g D5 bl r1 r2 R5 I5 := h11.move k12 (fun x _ hS => ⟨⟨fun hF => by have := hF0 x hF; have := (nS10 x hS).1.1; omega, (nS10 x hS).1.2, by have := (nS10 x hS).1.1; omega, by have := (nS10 x hS).1.1; omega, by have := (nS10 x hS).1.1; omega⟩, fun hz => hz.2 hS⟩) (fun x hx hz => ⟨hz.1, fun hb => by
          rcases hnew x hb with hb | hb
          · exact hz.2 hb
          · omega⟩) (fun x hx => ⟨(h11.zn x (by have := k12.size; omega)).1, fun hb => by
          obtain ⟨_, l, hl⟩ := GC.blkOf g12' hb
          have := hl.lt; omega⟩)
        intro _
        simp only [List.getD_cons_zero, List.getD_cons_succ]
        (repeat (refine jK ?_))
        refine hK3 (i + 1) _ _ (by omega) ⟨v12, ?_, by omega, ?_, fun x hx => ?_, h12, (k10.trans k11 (fun _ _ h => h.elim)).trans k12 (fun x _ hx => (nS10 x hx).2)⟩
        · rw [hka, decide_eq_false hkh, Bool.and_false]; simp
        · rw [hkf, ← List.append_assoc]; exact g12'
        · rcases hnew x hx with hx | hx
          · exact nS10 x hx
          · exact ⟨⟨by omega, fun hG => by have := hlt5 x hG; omega⟩, .inr (by omega)⟩
    · have : i = (kidsN n).length := by omega
      subst this
      rw [List.take_length] at g10 ⊢
      have k0_10 : Keep w w10 (fun x => G x ∨ x = r1 ∨ x = r2) := (k05.trans k59 (fun _ _ h => h.elim)).trans k10 (fun x hx h2 => by
        rcases h2 with h2 | h2
        · have := (nS x h2).1; omega
        · omega)
      cases hall : (kidsN n).all (fun k => decide (k ∈ held)) with
      | false =>
        (repeat (first|refine jo ?_|refine jp ?_|refine jz ?_))
        have hne : (kidsN n).filter (fun k => decide (k ∉ held)) ≠ [] := fun he => by
          rw [List.filter_eq_nil_iff] at he
          rw [List.all_eq_false] at hall
          obtain ⟨k, hk1, hk2⟩ := hall
          exact he k hk1 (by simpa using hk2)
        obtain ⟨p1, p2⟩ := ho.push hn hG rfl hne
        have hfl : ((kidsN n).filter (fun k => decide (k ∉ held))).length ≤ 3 := Nat.le_trans (List.length_filter_le _ _) hkl
        intro _
        refine hK (_, held, (j : Int) :: E) _ _ p2 ⟨sv, G5, D5, R5, I5, rfl, g10, fun x hx => (nS10 x hx).1, h10, hp5, p1, ?_, hnd, hme, hld, k0_10, sub5, mR, mI, fun x hx => (by
          rcases List.mem_append.1 hx with hx | hx
          · exact hPs x hx
          · exact hPk j n (hPs j (by simp)) hn x (List.mem_filter.1 hx).1), hIn⟩
        have hE := nodup_range p1.nodup p1.ernge
        rw [List.length_cons] at hE
        rw [List.length_append, List.length_cons]
        omega
      | true =>
        have hkh : ∀ k ∈ kidsN n, k ∈ held := fun k hk => by simpa using List.all_eq_true.1 hall k hk
        have hnil : (kidsN n).filter (fun k => decide (k ∉ held)) = [] := by
          rw [List.filter_eq_nil_iff]
          intro k hk
          simpa using hkh k hk
        rw [hnil, List.append_nil] at g10
        have hin : ∀ k ∈ kidsN n, R5 k ≠ none := fun k hk => Option.isSome_iff_ne_none.1 ((hme k).1 (hkh k hk))
        have hhl : held.length ≤ N.length := nodup_range hnd ho.hrng
        obtain ⟨A8, c8, rfl, _, hcap8⟩ := GC.row2 g10 (by omega)
        (repeat (first|refine jp ?_|refine jz ?_))
        refine M.share_j (fun vals w' => ∃ (G6 : Nat → Prop) (D6 : List GK) (R6 I6 : Int → Option (List Int)) (held' : List Int), BS (fun x => Z x ∧ ¬ blkOf (.slice A8 (st0 ++ [(j : Int)]).length c8) x) w' F p N most G6 g D6 bl r1 r2 R6 I6 ∧ PF N D6 R6 I6 ∧ GI w' (blkOf (.slice A8 (st0 ++ [(j : Int)]).length c8)) (.slice A8 (st0 ++ [(j : Int)]).length c8) (st0 ++ [(j : Int)]) ∧ (∀ x, blkOf (.slice A8 (st0 ++ [(j : Int)]).length c8) x → w.heap.size ≤ x ∧ ¬ G6 x) ∧
            held'.Nodup ∧ (∀ x, x ∈ held' ↔ (R6 x).isSome = true) ∧ (∀ x, x ∈ held' ↔ x = (j : Int) ∨ x ∈ held) ∧ D6.length ≤ 41000 * held'.length + 1 ∧ Keep w w' (fun x => G x ∨ x = r1 ∨ x = r2) ∧ (∀ x, x < w.heap.size → G6 x → G x) ∧ (∀ j r, R j = some r → R6 j = some r) ∧ (∀ j r, I j = some r → I6 j = some r) ∧ ∀ j, I6 j ≠ none → I j ≠ none ∨ ∃ (i : Nat) (n : Nd), P i ∧ N[i]? = some n ∧ n.op = 21 ∧ n.a = j) ?_ ?_
        · rintro vals w11 ⟨G6, D6, R6, I6, held', h11, hp11, g11, nS11, hnd', hme', hhe', hld', k0_11, sub11, mR', mI', hIn'⟩ _
          rw [hstl]
          (repeat (first|refine ja ?_|refine jL ?_))
          rw [e1]
          refine M.slice_i 0 st0.length c8 (sl3_h (by omega)) ?_
          have gcut := GI.cut g11 (m := st0.length) (by simp)
          rw [List.take_left' rfl] at gcut
          have gown := GC.own gcut
          have hsub : ∀ x, blkOf (.slice (if c8 = 0 then A8 else A8.map (·.add (0 * 1))) (st0.length - 0) (c8 - 0)) x → blkOf (.slice A8 (st0 ++ [(j : Int)]).length c8) x := fun x hx => (GC.blkOf gcut hx).1
          intro _
          have hop := ho.pop hn hkh hG held' hhe'
          have h12 := h11.move (Z' := fun x => Z x ∧ ¬ blkOf (.slice (if c8 = 0 then A8 else A8.map (·.add (0 * 1))) (st0.length - 0) (c8 - 0)) x) (Keep.refl w11 No) (fun x _ hS => hS.elim) (fun x _ hz => ⟨hz.1, fun hb => hz.2 (hsub x hb)⟩) (fun x hx => ⟨(h11.zn x hx).1, fun hb => by
            obtain ⟨_, l, hl⟩ := GC.blkOf gown hb
            have := hl.lt; omega⟩)
          refine hK (st0, held', E) _ _ ?_ ⟨_, G6, D6, R6, I6, rfl, gown, fun x hx => nS11 x (hsub x hx), h12, hp11, hop, ?_, hnd', hme', hld', k0_11, sub11, mR', mI', fun x hx => hPs x (List.mem_append_left _ hx), hIn'⟩
          · show onceM N st0 E < onceM N (st0 ++ [(j : Int)]) E
            unfold onceM
            rw [hstl]; omega
          · rw [hstl] at hb
            show st0.length + 4 * (N.length - E.length) ≤ 4 * N.length + 1
            omega
        · intro K5 hK5
          (repeat (first|refine jb ?_|refine jc ?_|refine jN (by assumption) rfl ?_))
          refine M.lookup_i hmap hint (fun w => Try.zeroValue23 w) hm ?_
          cases hrj : R5 (j : Int) with
          | some row =>
            obtain ⟨b', o', c', e', _⟩ := hrl.get hrj
            rw [e']
            refine M.eqNilS_fs ?_
            refine M.cond_f ?_
            have hjh : (j : Int) ∈ held := (hme j).2 (by rw [hrj]; rfl)
            exact hK5 _ _ ⟨G5, D5, R5, I5, held, h10, hp5, g10, fun x hx => (nS10 x hx).1, hnd, hme, fun x => ⟨fun h => .inr h, fun h => by rcases h with rfl | h; exact hjh; exact h⟩, hld, k0_10, sub5, mR, mI, hIn⟩
          | none =>
            rw [hrl.no hrj]
            refine M.eqNilS_fn ?_
            refine M.cond_t ?_
            refine M.draw_i ?_
            have kd := Keep.drew w10 No
            have h11 := h10.keepN kd
            have g11 := GC.keep g10 kd (fun _ _ _ h => h)
            have b11 := b10.keep kd (fun h => h)
            have hjn : (j : Int) ∉ held := fun hh => by have := (hme j).1 hh; rw [hrj] at this; cases this
            refine M.nilCheck_i ?_
            refine M.field_i ?_
            refine M.loadB_i h11.blk rfl ?_
            refine M.nilCheck_i ?_
            refine M.field_i ?_
            refine M.loadB_i h11.blk rfl ?_
            refine M.loadAll_i b11 rfl ?_
            refine M.callv_i (fun a w => rfl) (Q := RowP (fun x => Z x ∧ ¬ blkOf (.slice A8 (st0 ++ [(j : Int)]).length c8) x) w10.drew F p N most G5 g D5 bl r1 r2 R5 I5 n) (row_ret h11 hp5 (by omega) hn hin) ?_
            rintro rv w12 ⟨G6, D6, I6, row, q1, h12, hp12, k12, sub12, dl12, rl12, rf12, mI12, in12, val12⟩
            refine ⟨M.loadB_i h12.blk rfl rfl, ?_⟩
            obtain ⟨kv2, hm2, hrl2⟩ := h12.m1
            refine M.mapUpdate_i hmap hint hm2 (fun w13 m13 k13 s13 => ?_)
            have hne : row ≠ [] := fun e => by rw [e] at rl12; have := hgn.1.1; simp at rl12; omega
            have h13 := h12.put1 hm2 hrl2 m13 k13 hne q1
            have hp13 := hp12.put hn rl12 rf12 hG hin val12
            have g13 : GI w13 (blkOf (.slice A8 (st0 ++ [(j : Int)]).length c8)) (.slice A8 (st0 ++ [(j : Int)]).length c8) (st0 ++ [(j : Int)]) := GC.keep (GC.keep g11 k12 (fun x _ hx hS => by
              rcases hS with hS | hS
              · exact (nS10 x hx).1.2 hS
              · have := (nS10 x hx).1.1; omega)) k13 (fun x _ hx hS => by have hS : x = r1 := hS; have := (nS10 x hx).1.1; omega)
            refine hK5 _ _ ⟨G6, D6, updR R5 j row, I6, (j : Int) :: held, h13, hp13, g13, fun x hx => ⟨(nS10 x hx).1.1, fun hG6 => (nS10 x hx).1.2 (sub12 x (by have := lt10 x hx; exact this) hG6)⟩, List.nodup_cons.2 ⟨hjn, hnd⟩, fun x => ?_, fun x => List.mem_cons, by rw [List.length_cons]; omega, ?_, fun x hx hG6 => sub5 x hx (sub12 x (by have := k0_10.size; exact Nat.lt_of_lt_of_le hx this) hG6), fun y r hy => ?_, fun y r hy => mI12 y r (mI y r hy), fun y hy => (in12 y hy).elim (fun h => hIn y h) (fun h => .inr ⟨j, n, hPs j (by simp), hn, h.1, h.2.symm⟩)⟩
            · rw [List.mem_cons]
              unfold updR
              by_cases e : x = (j : Int)
              · rw [if_pos e]; simp [e]
              · rw [if_neg e, ← hme x]; simp [e]
            · refine ((k0_10.trans kd (fun _ _ h => h.elim)).trans k12 (fun x hx hS => ?_)).trans k13 (fun x hx hS => ?_)
              · rcases hS with hS | hS
                · exact .inl (sub5 x hx hS)
                · exact .inr (.inr hS)
              · exact .inr (.inl hS)
            · unfold updR
              rw [if_neg (fun e => by rw [← e, mR y r hy] at hrj; cases hrj)]
              exact mR y r hy
end
end Go.Proofs.Ytnbcglnefoinlaa
namespace Go.Proofs.Ytnbcglnefoinlaa
open Go.Mw Go.Maps Go.MapKept
set_option linter.unusedVariables false
set_option linter.unusedSimpArgs false
set_option maxRecDepth 100000
attribute [local irreducible] M.val M.unit M.next M.pick M.new M.nilCheck M.load1 M.loadA M.store M.fieldAddr M.indexSl M.indexArr M.slice M.makeSlice M.buildSlice M.len M.lenS M.cap M.append M.extract M.conv M.not M.neg M.bin M.shift M.eqB M.eqNil M.scat M.call M.callv M.gd M.share M.cond M.loop M.draw pureW readW Ret
def sh8 (R : Kt) (w : World) : Prop :=
  M.val Try.prog (Instr.makeMap 47 none) (fun t2 w =>
  pureW Try.prog (Instr.build 50 #[(2, t2)]) (fun t3 w =>
  M.new 50 (Value.cells t3) (fun t4 w =>
  M.draw (fun w =>
  M.nilCheck t4 (fun t7 w =>
  M.fieldAddr 1 t7 (fun t8 w =>
  M.load1 t8 (fun t9 w =>
  M.call Try.prog 16 #[t4] (fun t11 w =>
  ((M.load1 t8 (fun v' _ => v' = t9) w) ∧ M.buildSlice 3 1 #[.int .i64 0] 1 [(0, t11)] (fun t12 w =>
  ((M.load1 t8 (fun v' _ => v' = t9) w) ∧ M.buildSlice 23 1 #[.slice none 0 0] 1 [(0, t12)] (fun t13 w =>
  ((M.load1 t8 (fun v' _ => v' = t9) w) ∧ M.append 23 1 24 #[.slice none 0 0] t9 t13 (fun t14 w =>
  M.nilCheck t4 (fun t15 w =>
  M.fieldAddr 1 t15 (fun t16 w =>
  M.store 1 t16 t14 (fun _ w =>
  R t4 w) w) w) w) w)) w)) w)) w) w) w) w) w) w) w) w
theorem ok8 (R : Kt) (w : World) (h : sh8 R w) : Ret Try.prog 8 #[] w R :=
  ret_mk <| calls_of_comp mixed (c := Try.f8.body.getD .skip) (args := []) (rs := [(ResultVar.tmp 0)]) (Ann.seq Ann.text (Ann.seq Ann.text (Ann.seq (Ann.draw (Sch.take 0 (Sch.take 1 (Sch.take 2 (Sch.take 3 (Sch.take 4 (Sch.take 5 (Sch.one 6 (Sch.one 7 (Sch.one 8 (Sch.one 9 (Sch.take 10 (Sch.take 11 (Sch.one 12 Sch.done)))))))))))))) (Ann.seq Ann.text Ann.leaf))))
    Try.func8 (by kernel_rfl) (by kernel_rfl)
    (Eq.mp (by kernel_rfl) h)
def sh7 (x0 x1 : Value) (R : Kt) (w : World) : Prop :=
  M.eqNil 0 false x0 (fun t7 w =>
  M.gd t7 false (fun k w => k x1 w) (fun t9 w =>
  M.gd t7 false (fun k w => M.eqNil 0 false t9 k w) (fun t10 w =>
  M.pick t7 (Value.bool true) t10 (fun t11 w =>
  M.cond t11
  (R (Value.pointer none) w)
  (M.val Try.prog (Instr.makeMap 40 none) (fun t14 w =>
  M.val Try.prog (Instr.makeMap 40 none) (fun t15 w =>
  pureW Try.prog (Instr.build 43 #[(0, x0), (1, x1), (2, t14), (3, t15)]) (fun t16 w =>
  M.new 43 (Value.cells t16) (fun t17 w =>
  M.nilCheck t17 (fun t21 w =>
  M.fieldAddr 4 t21 (fun t22 w =>
  M.store 1 t22 (.func (Fn.func 15) #[t17] #[]) (fun _ w =>
  R t17 w) w) w) w) w) w) w) w)) w) w) w) w
theorem ok7 (x0 x1 : Value) (R : Kt) (w : World) (h : sh7 x0 x1 R w) : Ret Try.prog 7 #[x0, x1] w R :=
  ret_mk <| calls_of_comp mixed (c := Try.f7.body.getD .skip) (args := [x0, x1]) (rs := [(ResultVar.tmp 4)]) (Ann.seq Ann.text (Ann.seq (Ann.seq Ann.text (Ann.cond (Ann.seq Ann.text Ann.leaf) Ann.leaf)) (Ann.seq Ann.text (Ann.seq Ann.text (Ann.seq Ann.text Ann.leaf)))))
    Try.func7 (by kernel_rfl) (by kernel_rfl)
    (Eq.mp (by kernel_rfl) h)
def sh5 (x0 x1 : Value) (R : Kt) (w : World) : Prop :=
  M.eqNil 0 false x0 (fun t6 w =>
  M.cond t6
  (R (Value.slice none 0 0) w)
  (M.nilCheck x0 (fun t8 w =>
  M.fieldAddr 3 t8 (fun t9 w =>
  M.load1 t9 (fun t10 w =>
  readW Try.prog (Instr.lookup 40 t10 x1 false) (fun t12 w =>
  M.call Try.prog 13 #[t12] (fun t13 w =>
  R t13 w) w) w) w) w) w)) w
theorem ok5 (x0 x1 : Value) (R : Kt) (w : World) (h : sh5 x0 x1 R w) : Ret Try.prog 5 #[x0, x1] w R :=
  ret_mk <| calls_of_comp mixed (c := Try.f5.body.getD .skip) (args := [x0, x1]) (rs := [(ResultVar.tmp 4)]) (Ann.seq Ann.text (Ann.seq (Ann.seq Ann.text (Ann.cond (Ann.seq Ann.text Ann.leaf) Ann.leaf)) (Ann.seq Ann.text Ann.leaf)))
    Try.func5 (by kernel_rfl) (by kernel_rfl)
    (Eq.mp (by kernel_rfl) h)
def sh6 (x0 : Value) (R : Kt) (w : World) : Prop :=
  M.eqNil 0 false x0 (fun t6 w =>
  M.cond t6
  (R (Value.slice none 0 0) w)
  (M.nilCheck x0 (fun t8 w =>
  M.fieldAddr 3 t8 (fun t9 w =>
  M.load1 t9 (fun t10 w =>
  M.val Try.prog (Instr.range 40 t10) (fun t11 w =>
  M.loop [(Value.slice none 0 0)] (fun s1 K1 w => ∀ _ : List Value,
  M.val Try.prog (Instr.next t11 false 0) (fun t12 w =>
  M.extract 0 t12 (fun t13 w =>
  M.cond t13
  (M.val Try.prog (Instr.entry t11) (fun t14 w =>
  M.extract 0 t14 (fun t15 w =>
  M.buildSlice 3 1 #[.int .i64 0] 1 [(0, t15)] (fun t18 w =>
  M.append 3 1 8 #[.int .i64 0] (s1.getD 0 undef) t18 (fun t19 w =>
  K1 [t19] w) w) w) w) w)
  (M.call Try.prog 14 #[(s1.getD 0 undef)] (fun t21 w =>
  R (s1.getD 0 undef) w) w)) w) w) w) w) w) w) w)) w
theorem ok6 (x0 : Value) (R : Kt) (w : World) (h : sh6 x0 R w) : Ret Try.prog 6 #[x0] w R :=
  ret_mk <| calls_of_comp mixed (c := Try.f6.body.getD .skip) (args := [x0]) (rs := [(ResultVar.tmp 2)]) (Ann.seq Ann.text (Ann.seq (Ann.seq Ann.text (Ann.cond (Ann.seq Ann.text Ann.leaf) Ann.leaf)) (Ann.seq Ann.text (Ann.seq (Ann.seq Ann.text (Ann.block (Ann.loop [3] [4, 12, 13, 14, 15, 16, 17, 18, 19] (Ann.seq Ann.text (Ann.seq (Ann.cond Ann.leaf Ann.leaf) (Ann.block (Ann.seq Ann.text Ann.text))))))) (Ann.seq Ann.text (Ann.seq Ann.text Ann.leaf))))))
    Try.func6 (by kernel_rfl) (by kernel_rfl)
    (Eq.mp (by kernel_rfl) h)
def sh42 (x0 : Value) (R : Kt) (w : World) : Prop :=
  M.eqNil 0 false x0 (fun t4 w =>
  M.cond t4
  (R (Value.slice none 0 0) w)
  (M.nilCheck x0 (fun t6 w =>
  M.fieldAddr 1 t6 (fun t7 w =>
  M.load1 t7 (fun t8 w =>
  M.append 23 1 24 #[.slice none 0 0] (Value.slice none 0 0) t8 (fun t9 w =>
  R t9 w) w) w) w) w)) w
theorem ok42 (x0 : Value) (R : Kt) (w : World) (h : sh42 x0 R w) : Ret Try.prog 42 #[x0] w R :=
  ret_mk <| calls_of_comp mixed (c := Try.f42.body.getD .skip) (args := [x0]) (rs := [(ResultVar.tmp 2)]) (Ann.seq Ann.text (Ann.seq (Ann.seq Ann.text (Ann.cond (Ann.seq Ann.text Ann.leaf) Ann.leaf)) (Ann.seq Ann.text Ann.leaf)))
    Try.func42 (by kernel_rfl) (by kernel_rfl)
    (Eq.mp (by kernel_rfl) h)
theorem MapO.nodup {w : World} {r : Nat} {kv : List (Int × Value)} (h : MapO w r kv) : (kv.map (·.1)).Nodup := by
  obtain ⟨es, c, h1, h2, h3⟩ := h
  have h4 := h2.2.2
  rw [keys_of h3] at h4
  have : (kv.map (fun p => vi p.1)) = (kv.map (·.1)).map vi := by rw [List.map_map]; rfl
  rw [this] at h4
  exact List.Pairwise.of_map vi (fun a b h e => h (by rw [e])) h4
theorem filt_lt {x : Int} : ∀ (L : List Int), x ∈ L → (L.filter (decide <| · ≠ x)).length < L.length := by
  intro L
  induction L with
  | nil => intro h; simp at h
  | cons a L ih =>
    intro h
    simp only [List.filter_cons]
    have hle := List.length_filter_le (decide <| · ≠ x) L
    by_cases ha : a = x
    · rw [if_neg (by simpa using ha), List.length_cons]; omega
    · rw [if_pos (by simpa using ha)]
      have := ih (by rcases List.mem_cons.1 h with h | h; exact absurd h.symm ha; exact h)
      rw [List.length_cons, List.length_cons]; omega
theorem fresh_blk {w : World} {g n : Nat} {cv mv : Value} (h : Blk w g [vi n, cv, mv]) (hn : n ≤ 1000000000) :
    Ret Try.prog 16 #[ptr g] w (fun r w' => r = vi (2 * (n : Int)) ∧ Blk w' g [vi ((n + 1 : Nat) : Int), cv, mv] ∧ Keep w w' (· = g)) := by
  refine ok16 _ _ _ ?_
  unfold sh16
  (repeat (first|refine jb ?_|refine jc ?_|refine jN (by assumption) rfl ?_))
  refine M.shift_i (shl_one (by omega) (by omega)) ?_
  (repeat (first|refine jb ?_|refine jc ?_|refine jK ?_|refine jN (by assumption) rfl ?_))
  refine M.store_i h (by simp) rfl (fun w1 b1 k1 s1 => ?_)
  exact ⟨rfl, b1, k1⟩
set_option maxHeartbeats 2000000 in
theorem gnew_ret (w : World) : Ret Try.prog 8 #[] w (fun r w' => ∃ g G, r = ptr g ∧ GaO w' G g [.tru] ∧ (∀ x, G x → w.heap.size ≤ x) ∧ Keep w w' No) := by
  refine ok8 _ _ ?_
  unfold sh8
  refine M.makeMapA_i (enc := encK) (Okk := K4.Ok) (fun w1 m1 k1 s1 => ?_)
  refine M.pure_i (.agg ⟨[vi 0, .slice none 0 0, .map (some w.heap.size)]⟩) (fun _ => by kernel_rfl) ?_
  refine M.new_i (l := [vi 0, .slice none 0 0, .map (some w.heap.size)]) (fun w2 b2 k2 s2 => ?_)
  refine M.draw_i ?_
  have kd := Keep.drew w2 No
  have bd := b2.keep kd (fun h => h)
  have md := (m1.keep k2 (fun h => h)).keep kd (fun h => h)
  refine M.nilCheck_i ?_
  refine M.field_i ?_
  refine M.loadB_i bd rfl ?_
  refine M.call_i (fresh_blk (n := 0) (cv := .slice none 0 0) (mv := .map (some w.heap.size)) bd (by omega)) ?_; rintro _ w3 ⟨rfl, b3, k3⟩
  have m3 := md.keep k3 (fun e => by have e : w.heap.size = w1.heap.size := e; omega)
  refine ⟨M.loadB_i b3 rfl rfl, ?_⟩
  refine M.buildSlice_i [vi (2 * ((0 : Nat) : Int))] (by kernel_rfl) (fun w4 c4 k4 s4 => ?_)
  have b4 := b3.keep k4 (fun h => h)
  refine ⟨M.loadB_i b4 rfl rfl, ?_⟩
  refine M.buildSlice_i [.slice (some ⟨w3.heap.size, 0, none⟩) 1 1] (by kernel_rfl) (fun w5 c5 k5 s5 => ?_)
  have b5 := b4.keep k5 (fun h => h)
  refine ⟨M.loadB_i b5 rfl rfl, ?_⟩
  have q3 := k3.size
  have qd := kd.size
  refine M.append_i (L := fun _ => False) (n := 0) (l := []) (sz := 1) (GC.nil w5 _ 1) (Row.of_blk' (D := fun _ => True) c5 trivial) rfl (by simp; rfl) rfl (by omega) (by omega) (fun cv w6 g6 k6 => ?_)
  have k6 := k6.mono (T := No) (fun _ _ h => h)
  have b6 := b5.keep k6 (fun h => h)
  refine M.nilCheck_i ?_
  refine M.field_i ?_
  refine M.store_i b6 (by simp) (GC.one g6) (fun w7 b7 k7 s7 => ?_)
  have g6' := GC.own (g6.mono (L' := fun x => w5.heap.size ≤ x) (fun x _ h => h.resolve_left (fun h => h)))
  have hcv : ∀ x, blkOf cv x → w5.heap.size ≤ x := fun x hx => ((GC.blkOf g6 hx).1).resolve_left (fun h => h)
  have hcl : ∀ x, blkOf cv x → x < w6.heap.size := fun x hx => by
    obtain ⟨_, l, hl⟩ := GC.blkOf g6' hx
    exact hl.lt
  have k36 := (k4.trans k5 (fun _ _ h => h)).trans k6 (fun _ _ h => h)
  have q36 := k36.size
  have m7 := (m3.keep k36 (fun h => h)).keep k7 (fun e => by have e : w.heap.size = w1.heap.size := e; omega)
  have q6 := k6.size
  have ne1 : w1.heap.size ≠ w.heap.size := by omega
  have hb1 : w1.heap.size < w2.heap.size := b2.lt
  refine ⟨_, fun x => x = w1.heap.size ∨ x = w.heap.size ∨ x = w3.heap.size ∨ blkOf cv x, rfl, ⟨[], ⟨cv, w.heap.size, [.slice (some ⟨w3.heap.size, 0, none⟩) 1 1], b7, ?_, rfl, fun k c hc => ?_, m7, .inl rfl, .inr (.inl rfl), ne1, fun x hx => ⟨.inr (.inr (.inr hx)), by have := hcv x hx; omega, by have := hcv x hx; omega⟩, fun x hx => ?_⟩, fun q v hv => by simp [lkpA] at hv, ⟨by simp, fun n k hn => ?_⟩⟩, fun x hx => ?_, ?_⟩
  · exact GC.keep g6' k7 (fun x _ hx e => by have e : x = w1.heap.size := e; have := hcv x hx; omega)
  · match k, hc with
    | 0, hc =>
      have hc : [[(0 : Int)]][0]? = some c := hc
      simp only [List.getElem?_cons_zero, Option.some.injEq] at hc
      subst hc
      have c7 := ((c4.keep k5 (fun h => h)).keep k6 (fun h => h)).keep k7 (fun e => by have e : w3.heap.size = w1.heap.size := e; omega)
      exact ⟨_, rfl, LV.blk (r := [0]) c7 ⟨.inr (.inr (.inl rfl)), by omega, by omega, fun hx => by have := hcv _ hx; have := c4.lt; omega⟩ rfl⟩
    | k + 1, hc =>
      have hc : [[(0 : Int)]][k + 1]? = some c := hc
      simp at hc
  · have q7 := k7.size
    have := c4.lt
    have := k5.size
    rcases hx with hx | hx | hx | hx
    · omega
    · omega
    · omega
    · have := hcl x hx; omega
  · match n, hn with
    | 0, hn => simp at hn; subst hn; rfl
    | n + 1, hn => simp at hn
  · rcases hx with hx | hx | hx | hx
    · omega
    · omega
    · omega
    · have := hcv x hx; omega
  · exact ((((k1.trans k2 (fun _ _ h => h)).trans kd (fun _ _ h => h)).trans k3 (fun x hx e => by have e : x = w1.heap.size := e; omega)).trans k36 (fun _ _ h => h)).trans k7 (fun x hx e => by have e : x = w1.heap.size := e; omega)
section
variable {Z : Nat → Prop} {w : World} {F : Nat → Prop} {p : Nat} {N : List Nd} {most : Int} {G : Nat → Prop} {g : Nat} {D : List GK} {bl r1 r2 : Nat} {R I : Int → Option (List Int)}
theorem bnew_ret (hd : DagO w F p N most) (hg : GaO w G g [.tru]) (hFG : ∀ x, F x → ¬ G x) (Z : Nat → Prop) (hZ : ∀ x, w.heap.size ≤ x → Z x) :
    Ret Try.prog 7 #[ptr p, ptr g] w (fun r w' => ∃ bl r1 r2, r = ptr bl ∧ BT Z w' F p N most G g [.tru] bl r1 r2 (fun _ => none) (fun _ => none) ∧ w.heap.size ≤ r1 ∧ w.heap.size ≤ r2 ∧ w.heap.size ≤ bl ∧ Keep w w' No) := by
  refine ok7 _ _ _ _ ?_
  unfold sh7
  (repeat (first|refine jg ?_|refine jl ?_|refine jp ?_|refine jt ?_))
  refine M.makeMap_i (fun w1 m1 k1 s1 => ?_)
  refine M.makeMap_i (fun w2 m2 k2 s2 => ?_)
  refine M.pure_i (.agg ⟨[ptr p, ptr g, .map (some w.heap.size), .map (some w1.heap.size), .nilFunc]⟩) (fun _ => by kernel_rfl) ?_
  refine M.new_i (l := [ptr p, ptr g, .map (some w.heap.size), .map (some w1.heap.size), .nilFunc]) (fun w3 b3 k3 s3 => ?_)
  refine M.nilCheck_i ?_
  refine M.field_i ?_
  refine M.store_i b3 (by simp) rfl (fun w4 b4 k4 s4 => ?_)
  have k03 := (k1.trans k2 (fun _ _ h => h)).trans k3 (fun _ _ h => h)
  have q1 := k1.size
  have q2 := k2.size
  have q3 := k3.size
  have k04 : Keep w w4 No := k03.trans k4 (fun x hx e => by have e : x = w2.heap.size := e; omega)
  have m1' := (m1.keep (k2.trans k3 (fun _ _ h => h)) (fun h => h)).keep k4 (fun e => by have e : w.heap.size = w2.heap.size := e; omega)
  have m2' := (m2.keep k3 (fun h => h)).keep k4 (fun e => by have e : w1.heap.size = w2.heap.size := e; omega)
  have hlt := hg.lt
  have hr : MRel w4 G Z [] (fun _ => none) := fun x => ⟨fun _ => rfl, fun row h => by cases h⟩
  have hb2 := m2.lt
  refine ⟨w2.heap.size, w.heap.size, w1.heap.size, rfl, ⟨⟨hd.keepN k04, hg.keepN k04, b4, ⟨[], m1', hr⟩, ⟨[], m2', hr⟩, fun x hx => ⟨hFG x hx, fun e => by have := hd.lt hx; omega, fun e => by have := hd.lt hx; omega⟩, ⟨fun h => by have := hlt _ h; omega, fun h => by have := hlt _ h; omega, fun h => by have := hlt _ h; omega⟩, ⟨by omega, by omega, by omega⟩, fun x hx => hZ x (by have := k04.size; omega)⟩, ⟨fun id row h => (by cases h), fun i n h => absurd rfl h, fun i row h => (by cases h), fun m hm => ?_, fun i row h => (by cases h), fun i j ri rj h => (by cases h)⟩, [], List.nodup_nil, fun x => by simp, by simp⟩, by omega, by omega, by omega, k04⟩
  match m, hm with
  | 0, hm => simp at hm
  | m + 1, hm => simp at hm
theorem binp_ret (h : BS Z w F p N most G g D bl r1 r2 R I) (hp : PF N D R I) (i : Int) :
    Ret Try.prog 5 #[ptr bl, vi i] w (fun r w' => LV vi w' (w.heap.size ≤ ·) r ((I i).getD []) ∧ Keep w w' No) := by
  obtain ⟨kv, hm, hr⟩ := h.m2
  have hblk := h.blk
  refine ok5 _ _ _ _ ?_
  unfold sh5
  (repeat (first|refine jb ?_|refine jc ?_|refine jp ?_|refine jt ?_|refine jN (by assumption) rfl ?_))
  refine M.lookup_i hmap hint (fun w => Try.zeroValue23 w) hm ?_
  cases hI : I i with
  | none =>
    rw [hr.no hI]
    refine M.call_i (clone23_ret (LV.nil vi w No) (by simp)) ?_; rintro v w1 ⟨g1, k1⟩
    exact ⟨GI.lv g1, k1⟩
  | some row =>
    obtain ⟨b, o, c, e, hz⟩ := hr.get hI
    rw [e]
    obtain ⟨_, _, ⟨n, hn, _, _, hw⟩, _⟩ := hp.ins i row hI
    have hG := h.dag.good
    obtain ⟨j, hj⟩ := List.mem_iff_getElem?.1 hn
    have hw64 := (hG j n hj).1
    refine M.call_i (clone23_ret hz (by omega)) ?_; rintro v w1 ⟨g1, k1⟩
    exact ⟨GI.lv g1, k1⟩
theorem lkp_key {kv : List (Int × Value)} {x : Int} : x ∈ kv.map (·.1) ↔ lkp kv x ≠ none := by
  unfold lkp
  constructor
  · intro hx
    obtain ⟨q, hq, rfl⟩ := List.mem_map.1 hx
    cases hf : kv.find? (fun p => decide (p.1 = q.1)) with
    | none => rw [List.find?_eq_none] at hf; exact absurd (by simp) (hf q hq)
    | some y => simp
  · intro hx
    cases hf : kv.find? (fun p => decide (p.1 = x)) with
    | none => rw [hf] at hx; simp at hx
    | some y =>
      have h1 := List.find?_some hf
      have h2 := List.mem_of_find?_eq_some hf
      simp at h1
      exact List.mem_map.2 ⟨y, h2, h1⟩
set_option maxHeartbeats 1000000 in
theorem inputs_ret (h : BS Z w F p N most G g D bl r1 r2 R I) (hp : PF N D R I) :
    Ret Try.prog 6 #[ptr bl] w (fun r w' => ∃ ks : List Int, LV vi w' (w.heap.size ≤ ·) r ks ∧ ks.Nodup ∧ ks.length ≤ 256 ∧ (∀ x, x ∈ ks ↔ I x ≠ none) ∧ Keep w w' No) := by
  obtain ⟨kv, hm, hr⟩ := h.m2
  have hblk := h.blk
  have hnd := MapO.nodup hm
  have hkey : ∀ x, x ∈ kv.map (·.1) ↔ I x ≠ none := fun x => by
    rw [lkp_key]
    cases hI : I x with
    | none => simp [(hr x).1 hI]
    | some row => obtain ⟨_, v, hv, _⟩ := (hr x).2 row hI; simp [hv]
  have hrng : ∀ x ∈ kv.map (·.1), x ∈ (List.range 256).map (fun i : Nat => (i : Int)) := fun x hx => by
    obtain ⟨row, hrow⟩ := Option.isSome_iff_exists.1 (Option.isSome_iff_ne_none.2 ((hkey x).1 hx))
    obtain ⟨_, h0, ⟨n, hn, h21, ha, _⟩, _⟩ := hp.ins x row hrow
    obtain ⟨j, hj⟩ := List.mem_iff_getElem?.1 hn
    obtain ⟨_, _, hcase⟩ := h.dag.good j n hj
    have hle : n.a ≤ 255 := by
      rcases hcase with hh | hh | hh | hh | hh | hh | hh | hh
      · omega
      · exact hh.2.2.1
      all_goals omega
    exact List.mem_map.2 ⟨x.toNat, by rw [List.mem_range]; omega, by omega⟩
  have hkl : (kv.map (·.1)).length ≤ 256 := by
    have := sub_len _ _ hnd hrng
    simpa using this
  refine ok6 _ _ _ ?_
  unfold sh6
  (repeat (first|refine jb ?_|refine jc ?_|refine jp ?_|refine jt ?_|refine jN (by assumption) rfl ?_))
  refine M.range_i hmap hm (fun w2 hit k2 s2 => ?_)
  refine M.loop_i (σ := List Int × List Int × Option Int) (fun t vals w' => ∃ vo, vals = [vo] ∧ IterO w' w.heap.size r2 kv t.1 t.2.2 ∧ GI w' (fun b => w.heap.size < b) vo t.2.1 ∧ (∀ y, y ∈ kv.map (·.1) ↔ y ∈ t.2.1 ∨ y ∈ t.1) ∧ t.2.1.Nodup ∧ (∀ y ∈ t.2.1, y ∉ t.1) ∧ Keep w w' No)
    (fun t => t.1.length) (kv.map (·.1), [], none) ⟨_, rfl, hit, GI.nil _ _, by simp, List.nodup_nil, by simp, k2⟩ ?_
  rintro ⟨left, cs, last⟩ vals w3 K ⟨vo, rfl, hit, ho, hmem, hcn, hdis, k3⟩ hK _
  simp only at hit ho hmem hcn hdis
  simp only [List.getD_cons_zero, List.getD_cons_succ]
  have q3 := k3.size
  have hr2 := hm.lt
  have hcl : cs.length ≤ 256 := by
    refine Nat.le_trans (sub_len _ _ hcn (fun x hx => (hmem x).2 (.inl hx))) hkl
  refine M.mapNext_i hit (by omega) (fun hleft => ?_) (fun x xv w7 hx hxv hit7 k7 s7 => ?_)
  · subst hleft
    refine M.extract_i rfl ?_
    (repeat (refine jp ?_))
    refine M.call_i (sort_ret ho (by omega)) ?_; rintro _ w7 ⟨rfl, g7, k7⟩
    refine ⟨cs.mergeSort leI, (GI.lv g7).mono (fun b _ hb => by have hb : w.heap.size < b := hb; show w.heap.size ≤ b; omega), (List.mergeSort_perm cs leI).nodup_iff.2 hcn, by rw [List.length_mergeSort]; exact hcl, fun x => ?_, k3.trans k7 (fun b hb h => by have h : w.heap.size < b := h; omega)⟩
    rw [List.mem_mergeSort, ← hkey, hmem]; simp
  · refine M.extract_i rfl ?_
    have hflt := filt_lt left hx
    have hitl : w.heap.size < w3.heap.size := by
      obtain ⟨_, _, _, _, _, _, _, gg, _⟩ := hit
      exact lt_of_heap gg
    have ho7 := ho.keep k7 (fun b hb h1 h2 => by have h1 : w.heap.size < b := h1; omega)
    have k37 : Keep w w7 No := k3.trans k7 (fun b hb h => by omega)
    have hm7 : ∀ y, y ∈ kv.map (·.1) ↔ y ∈ cs ++ [x] ∨ y ∈ left.filter (decide <| · ≠ x) := fun y => by
      rw [hmem, List.mem_append, List.mem_filter]
      by_cases hy : y = x
      · subst hy; simp [hx]
      · simp [hy]
    (repeat (refine jo ?_))
    refine M.entry_i hit7 (fun xv' hxv' => ?_)
    refine M.extract_i rfl ?_
    refine M.buildSlice_i [vi x] (by kernel_rfl) (fun w8 b8 k8 s8 => ?_)
    have g8 := GC.keep ho7 k8 (fun _ _ _ h => h)
    have hit8 := hit7.keep k8 (fun h => h) (fun h => h)
    refine M.append1_i g8 (Row.of_blk' (D := fun _ => True) b8 trivial) rfl (by omega) (fun v9 w9 g9 k9 => ?_)
    have q7 := k7.size
    have q8 := k8.size
    refine hK (left.filter (decide <| · ≠ x), cs ++ [x], some x) _ _ hflt ⟨v9, rfl, hit8.keep k9 (fun hh => by have hh : w.heap.size < w.heap.size := hh; omega) (fun hh => by have hh : w.heap.size < r2 := hh; omega), g9.mono (fun b _ hb => by
      rcases hb with hb | hb
      · exact hb
      · show w.heap.size < b; omega), hm7, ?_, fun y hy hy2 => ?_, (k37.trans k8 (fun _ _ h => h)).trans k9 (fun b hb hh => by have hh : w.heap.size < b := hh; omega)⟩
    · refine List.nodup_append.2 ⟨hcn, by simp, fun a ha b hb e => ?_⟩
      rw [List.mem_singleton.1 hb] at e
      subst e
      exact hdis a ha hx
    · rw [List.mem_filter] at hy2
      rcases List.mem_append.1 hy with hy | hy
      · exact hdis y hy hy2.1
      · rw [List.mem_singleton.1 hy] at hy2; simp at hy2
end
end Go.Proofs.Ytnbcglnefoinlaa
namespace Go.Proofs.Ytnbcglnefoinlaa
open Go.Mw Go.Maps Go.MapKept
set_option linter.unusedVariables false
set_option linter.unusedSimpArgs false
set_option maxRecDepth 100000
attribute [local irreducible] M.val M.unit M.next M.pick M.new M.nilCheck M.load1 M.loadA M.store M.fieldAddr M.indexSl M.indexArr M.slice M.makeSlice M.buildSlice M.len M.lenS M.cap M.append M.extract M.conv M.not M.neg M.bin M.shift M.eqB M.eqNil M.scat M.call M.callv M.gd M.share M.cond M.loop M.draw pureW readW Ret
def sh73 (x0 x1 : Value) (R : Kt) (w : World) : Prop :=
  M.new 63 (Value.cells x0) (fun t2 w =>
  M.bin .geq x1 (Value.int IntKind.i64 0) (fun t6 w =>
  M.gd t6 true (fun k w => k x1 w) (fun t8 w =>
  M.gd t6 true (fun k w => M.bin .quo t8 (Value.int IntKind.i64 2) k w) (fun t9 w =>
  M.gd t6 true (fun k w => M.fieldAddr 0 t2 k w) (fun t10 w =>
  M.gd t6 true (fun k w => M.load1 t10 k w) (fun t11 w =>
  M.gd t6 true (fun k w => M.len t11 k w) (fun t12 w =>
  M.gd t6 true (fun k w => M.bin .lss t9 t12 k w) (fun t13 w =>
  M.pick t6 t13 (Value.bool false) (fun t14 w =>
  R t14 w) w) w) w) w) w) w) w) w) w
theorem ok73 (x0 x1 : Value) (R : Kt) (w : World) (h : sh73 x0 x1 R w) : Ret Try.prog 73 #[x0, x1] w R :=
  ret_mk <| calls_of_comp mixed (c := Try.f73.body.getD .skip) (args := [x0, x1]) (rs := [(ResultVar.tmp 4)]) (Ann.seq Ann.text (Ann.seq Ann.text Ann.leaf))
    Try.func73 (by kernel_rfl) (by kernel_rfl)
    (Eq.mp (by kernel_rfl) h)
def sh74 (x0 x1 : Value) (R : Kt) (w : World) : Prop :=
  M.new 63 (Value.cells x0) (fun t2 w =>
  M.loadA 2 t2 (fun t6 w =>
  M.call Try.prog 73 #[t6, x1] (fun t8 w =>
  M.not t8 (fun t9 w =>
  M.gd t9 false (fun k w => M.fieldAddr 0 t2 k w) (fun t11 w =>
  M.gd t9 false (fun k w => M.load1 t11 k w) (fun t12 w =>
  M.gd t9 false (fun k w => k x1 w) (fun t13 w =>
  M.gd t9 false (fun k w => M.bin .quo t13 (Value.int IntKind.i64 2) k w) (fun t14 w =>
  M.gd t9 false (fun k w => M.indexSl 1 t12 t14 k w) (fun t15 w =>
  M.gd t9 false (fun k w => M.load1 t15 k w) (fun t16 w =>
  M.gd t9 false (fun k w => M.not t16 k w) (fun t17 w =>
  M.pick t9 (Value.bool true) t17 (fun t18 w =>
  M.cond t18
  (R (.tuple #[(Value.bool false), (Value.bool false)]) w)
  (M.draw (fun w =>
  M.fieldAddr 1 t2 (fun t19 w =>
  M.load1 t19 (fun t20 w =>
  M.bin .quo x1 (Value.int IntKind.i64 2) (fun t22 w =>
  M.indexSl 1 t20 t22 (fun t23 w =>
  M.load1 t23 (fun t24 w =>
  M.call Try.prog 75 #[x1] (fun t26 w =>
  ((M.load1 t23 (fun v' _ => v' = t24) w) ∧ ((M.load1 t19 (fun v' _ => v' = t20) w) ∧ M.eqB true t24 t26 (fun t27 w =>
  R (.tuple #[t27, (Value.bool true)]) w) w))) w) w) w) w) w) w) w)) w) w) w) w) w) w) w) w) w) w) w) w
theorem ok74 (x0 x1 : Value) (R : Kt) (w : World) (h : sh74 x0 x1 R w) : Ret Try.prog 74 #[x0, x1] w R :=
  ret_mk <| calls_of_comp mixed (c := Try.f74.body.getD .skip) (args := [x0, x1]) (rs := [(ResultVar.tmp 4), (ResultVar.tmp 5)]) (Ann.seq Ann.text (Ann.seq (Ann.seq Ann.text (Ann.cond (Ann.seq Ann.text Ann.leaf) Ann.leaf)) (Ann.seq (Ann.draw (Sch.take 0 (Sch.take 1 (Sch.take 2 (Sch.take 3 (Sch.take 4 (Sch.take 5 (Sch.take 6 (Sch.one 7 (Sch.take 8 (Sch.take 9 (Sch.take 10 Sch.done)))))))))))) Ann.leaf)))
    Try.func74 (by kernel_rfl) (by kernel_rfl)
    (Eq.mp (by kernel_rfl) h)
def sh76 (x0 x1 : Value) (R : Kt) (w : World) : Prop :=
  M.new 63 (Value.cells x0) (fun t2 w =>
  M.loop [(Value.int IntKind.i64 (-1)), (Value.int IntKind.i64 0)] (fun s1 K1 w => ∀ _ : List Value,
  M.len x1 (fun t12 w =>
  M.bin .lss (s1.getD 1 undef) t12 (fun t13 w =>
  M.cond t13
  (M.share (fun K2 w =>
  M.draw (fun w =>
  M.loadA 2 t2 (fun t16 w =>
  M.indexSl 1 x1 (s1.getD 1 undef) (fun t19 w =>
  M.load1 t19 (fun t20 w =>
  M.call Try.prog 73 #[t16, t20] (fun t21 w =>
  M.not t21 (fun t22 w =>
  M.cond t22
  (R (.tuple #[(Value.int IntKind.i64 (-1)), (Value.bool false)]) w)
  (M.draw (fun w =>
  M.loadA 2 t2 (fun t24 w =>
  M.indexSl 1 x1 (s1.getD 1 undef) (fun t27 w =>
  M.load1 t27 (fun t28 w =>
  M.call Try.prog 74 #[t24, t28] (fun t29 w =>
  M.extract 0 t29 (fun t30 w =>
  M.extract 1 t29 (fun t31 w =>
  M.draw (fun w =>
  M.gd t31 true (fun k w => k t30 w) (fun t34 w =>
  M.pick t31 t34 (Value.bool false) (fun t35 w =>
  M.gd t35 false (fun k w => k t31 w) (fun t37 w =>
  M.gd t35 false (fun k w => M.not t37 k w) (fun t38 w =>
  M.gd t35 false (fun k w => k t38 w) (fun t39 w =>
  M.gd t39 true (fun k w => k (s1.getD 0 undef) w) (fun t40 w =>
  M.gd t39 true (fun k w => M.bin .geq t40 (Value.int IntKind.i64 0) k w) (fun t41 w =>
  M.gd t35 false (fun k w => M.pick t39 t41 (Value.bool false) k w) (fun t42 w =>
  M.gd t35 false (fun k w => k t42 w) (fun t43 w =>
  M.gd t43 true (fun k w => k x1 w) (fun t44 w =>
  M.gd t43 true (fun k w => k (s1.getD 0 undef) w) (fun t45 w =>
  M.gd t43 true (fun k w => M.indexSl 1 t44 t45 k w) (fun t46 w =>
  M.gd t43 true (fun k w => M.load1 t46 k w) (fun t47 w =>
  M.gd t43 true (fun k w => k x1 w) (fun t48 w =>
  M.gd t43 true (fun k w => k (s1.getD 1 undef) w) (fun t49 w =>
  M.gd t43 true (fun k w => M.indexSl 1 t48 t49 k w) (fun t50 w =>
  M.gd t43 true (fun k w => M.load1 t50 k w) (fun t51 w =>
  M.gd t43 true (fun k w => M.bin .neq t47 t51 k w) (fun t52 w =>
  M.gd t35 false (fun k w => M.pick t43 t52 (Value.bool false) k w) (fun t53 w =>
  M.pick t35 (Value.bool true) t53 (fun t54 w =>
  M.cond t54
  (R (.tuple #[(Value.int IntKind.i64 (-1)), (Value.bool true)]) w)
  (M.not t31 (fun t56 w =>
  M.cond t56
  (K2 [(s1.getD 1 undef)] w)
  (K2 [(s1.getD 0 undef)] w)) w)) w) w) w) w) w) w) w) w) w) w) w) w) w) w) w) w) w) w) w) w) w) w) w) w) w) w) w) w)) w) w) w) w) w) w) (fun s2 w => ∀ _ : List Value,
  M.bin .add (s1.getD 1 undef) (Value.int IntKind.i64 1) (fun t15 w =>
  K1 [(s2.getD 0 undef), t15] w) w) w)
  (M.bin .lss (s1.getD 0 undef) (Value.int IntKind.i64 0) (fun t59 w =>
  M.cond t59
  (R (.tuple #[(Value.int IntKind.i64 (-1)), (Value.bool false)]) w)
  (M.indexSl 1 x1 (s1.getD 0 undef) (fun t62 w =>
  M.load1 t62 (fun t63 w =>
  R (.tuple #[t63, (Value.bool true)]) w) w) w)) w)) w) w) w) w
theorem ok76 (x0 x1 : Value) (R : Kt) (w : World) (h : sh76 x0 x1 R w) : Ret Try.prog 76 #[x0, x1] w R :=
  ret_mk <| calls_of_comp mixed (c := Try.f76.body.getD .skip) (args := [x0, x1]) (rs := [(ResultVar.tmp 4), (ResultVar.tmp 5)]) (Ann.seq Ann.text (Ann.seq Ann.text (Ann.seq (Ann.seq Ann.text (Ann.block (Ann.loop [6, 7] [4, 5, 8, 9, 10, 11, 12, 13, 14, 15, 16, 17, 18, 19, 20, 21, 22, 23, 24, 25, 26, 27, 28, 29, 30, 31, 32, 33, 34, 35, 36, 37, 38, 39, 40, 41, 42, 43, 44, 45, 46, 47, 48, 49, 50, 51, 52, 53, 54, 55, 56, 57] (Ann.seq (Ann.seq Ann.text (Ann.cond Ann.leaf Ann.leaf)) (Ann.seq (Ann.jblock [6] [4, 5, 8, 9, 16, 17, 18, 19, 20, 21, 22, 23, 24, 25, 26, 27, 28, 29, 30, 31, 32, 33, 34, 35, 36, 37, 38, 39, 40, 41, 42, 43, 44, 45, 46, 47, 48, 49, 50, 51, 52, 53, 54, 55, 56, 57] (Ann.seq (Ann.seq (Ann.draw (Sch.take 0 (Sch.take 1 (Sch.take 2 (Sch.take 3 (Sch.take 4 (Sch.one 5 (Sch.take 6 Sch.done)))))))) (Ann.cond (Ann.seq Ann.text Ann.leaf) Ann.leaf)) (Ann.seq (Ann.draw (Sch.take 0 (Sch.take 1 (Sch.take 2 (Sch.take 3 (Sch.take 4 (Sch.one 5 (Sch.take 6 (Sch.take 7 (Sch.take 8 (Sch.take 9 (Sch.take 10 Sch.done)))))))))))) (Ann.seq (Ann.seq (Ann.draw (Sch.take 0 (Sch.take 1 (Sch.take 2 (Sch.take 3 (Sch.take 4 (Sch.take 5 (Sch.take 6 (Sch.take 7 (Sch.take 8 (Sch.take 9 (Sch.take 10 (Sch.take 11 (Sch.take 12 (Sch.take 13 (Sch.take 14 (Sch.take 15 (Sch.take 16 (Sch.take 17 (Sch.take 18 (Sch.take 19 (Sch.take 20 (Sch.take 21 (Sch.take 22 Sch.done)))))))))))))))))))))))) (Ann.cond (Ann.seq Ann.text Ann.leaf) Ann.leaf)) (Ann.seq Ann.text (Ann.cond Ann.text Ann.leaf)))))) Ann.text))))) (Ann.seq (Ann.seq Ann.text (Ann.cond (Ann.seq Ann.text Ann.leaf) Ann.leaf)) (Ann.seq Ann.text Ann.leaf)))))
    Try.func76 (by kernel_rfl) (by kernel_rfl)
    (Eq.mp (by kernel_rfl) h)
def sh43 (x0 x1 : Value) (R : Kt) (w : World) : Prop :=
  M.new 63 (Value.cells x0) (fun t2 w =>
  M.loop [(Value.int IntKind.u64 0), (Value.int IntKind.i64 0)] (fun s1 K1 w => ∀ _ : List Value,
  M.len x1 (fun t12 w =>
  M.bin .lss (s1.getD 1 undef) t12 (fun t13 w =>
  M.gd t13 true (fun k w => k (s1.getD 1 undef) w) (fun t15 w =>
  M.gd t13 true (fun k w => M.bin .lss t15 (Value.int IntKind.i64 64) k w) (fun t16 w =>
  M.pick t13 t16 (Value.bool false) (fun t17 w =>
  M.cond t17
  (M.share (fun K2 w =>
  M.draw (fun w =>
  M.loadA 2 t2 (fun t21 w =>
  M.indexSl 1 x1 (s1.getD 1 undef) (fun t24 w =>
  M.load1 t24 (fun t25 w =>
  M.call Try.prog 74 #[t21, t25] (fun t26 w =>
  M.extract 0 t26 (fun t27 w =>
  M.extract 1 t26 (fun t28 w =>
  M.not t28 (fun t30 w =>
  M.cond t30
  (R (.tuple #[(Value.int IntKind.u64 0), (Value.bool false)]) w)
  (M.cond t27
  (M.conv .u64 (s1.getD 1 undef) (fun t34 w =>
  M.shift .shl (Value.int IntKind.u64 1) t34 (fun t35 w =>
  M.bin .or (s1.getD 0 undef) t35 (fun t36 w =>
  K2 [t36] w) w) w) w)
  (K2 [(s1.getD 0 undef)] w))) w) w) w) w) w) w) w) w) (fun s2 w => ∀ _ : List Value,
  M.bin .add (s1.getD 1 undef) (Value.int IntKind.i64 1) (fun t19 w =>
  K1 [(s2.getD 0 undef), t19] w) w) w)
  (R (.tuple #[(s1.getD 0 undef), (Value.bool true)]) w)) w) w) w) w) w) w) w
theorem ok43 (x0 x1 : Value) (R : Kt) (w : World) (h : sh43 x0 x1 R w) : Ret Try.prog 43 #[x0, x1] w R :=
  ret_mk <| calls_of_comp mixed (c := Try.f43.body.getD .skip) (args := [x0, x1]) (rs := [(ResultVar.tmp 4), (ResultVar.tmp 5)]) (Ann.seq Ann.text (Ann.seq Ann.text (Ann.seq (Ann.seq Ann.text (Ann.block (Ann.loop [6, 7] [4, 5, 8, 9, 10, 11, 12, 13, 14, 15, 16, 17, 18, 19, 20, 21, 22, 23, 24, 25, 26, 27, 28, 29, 30, 31, 32, 33, 34, 35, 36] (Ann.seq (Ann.seq Ann.text (Ann.cond Ann.leaf Ann.leaf)) (Ann.seq (Ann.jblock [6] [4, 5, 8, 9, 20, 21, 22, 23, 24, 25, 26, 27, 28, 29, 30, 31, 32, 33, 34, 35, 36] (Ann.seq (Ann.draw (Sch.take 0 (Sch.take 1 (Sch.take 2 (Sch.take 3 (Sch.take 4 (Sch.one 5 (Sch.take 6 (Sch.take 7 (Sch.take 8 (Sch.take 9 (Sch.take 10 Sch.done)))))))))))) (Ann.seq (Ann.seq Ann.text (Ann.cond (Ann.seq Ann.text Ann.leaf) Ann.leaf)) (Ann.seq Ann.text (Ann.cond Ann.text Ann.leaf))))) Ann.text))))) (Ann.seq Ann.text Ann.leaf))))
    Try.func43 (by kernel_rfl) (by kernel_rfl)
    (Eq.mp (by kernel_rfl) h)
def VO (w : World) (E : Nat → Prop) (v : Value) (K I : List Bool) : Prop := ∃ a b, v = .agg ⟨[a, b]⟩ ∧ LV vb w E a K ∧ LV vb w E b I ∧ K.length = I.length
theorem VO.keep {w w' : World} {E S : Nat → Prop} {v : Value} {K I : List Bool} (h : VO w E v K I) (k : Keep w w' S) (hs : ∀ x, x < w.heap.size → E x → ¬ S x) : VO w' E v K I := by
  obtain ⟨a, b, e, h1, h2, h3⟩ := h
  exact ⟨a, b, e, h1.keep k hs, h2.keep k hs, h3⟩
theorem VO.mono {w : World} {E E' : Nat → Prop} {v : Value} {K I : List Bool} (h : VO w E v K I) (hd : ∀ x, x < w.heap.size → E x → E' x) : VO w E' v K I := by
  obtain ⟨a, b, e, h1, h2, h3⟩ := h
  exact ⟨a, b, e, h1.mono hd, h2.mono hd, h3⟩
def fitK (K : List Bool) (x : Int) : Prop := 0 ≤ x ∧ x < 2 * (K.length : Int)
section
variable {w : World} {E : Nat → Prop} {v : Value} {K I : List Bool}
theorem vfits_ret (h : VO w E v K I) (hl : K.length ≤ 1000000000) {x : Int} (hx : fitK K x) : Ret Try.prog 73 #[v, vi x] w (fun r w' => r = .bool true ∧ Keep w w' No) := by
  obtain ⟨a, b, rfl, ⟨A, ca, rfl, _, _⟩, h2, h3⟩ := h
  obtain ⟨x0, x1⟩ := hx
  refine ok73 _ _ _ _ ?_
  unfold sh73
  refine M.new_i (l := [.slice A K.length ca, b]) (fun w1 b1 k1 s1 => ?_)
  refine M.geq_i ?_
  rw [decide_eq_true x0]
  refine M.gd_tt ?_
  refine M.gd_tt ?_
  refine M.quo2_i (by omega) (by omega) ?_
  (repeat (first|refine ja ?_|refine jc ?_|refine jf ?_|refine jk ?_|refine jy ?_|refine jN (by assumption) rfl ?_))
  exact ⟨rfl, k1⟩
theorem vholds_ret (h : VO w E v K I) (hl : K.length ≤ 1000000000) {x : Int} (hx : fitK K x) : Ret Try.prog 74 #[v, vi x] w (fun r w' => r = .tuple #[.bool (knL K x && lvl I x), .bool (knL K x)] ∧ Keep w w' No) := by
  obtain ⟨a, b, rfl, h1, h2, h3⟩ := id h
  obtain ⟨x0, x1⟩ := id hx
  obtain ⟨A, ca, rfl, hra, _⟩ := id h1
  obtain ⟨B, cb, rfl, hrb, _⟩ := id h2
  refine ok74 _ _ _ _ ?_
  unfold sh74
  refine M.new_i (l := [.slice A K.length ca, .slice B I.length cb]) (fun w1 b1 k1 s1 => ?_)
  refine M.loadAll_i b1 rfl ?_
  refine M.call_i (vfits_ret (h.keep k1 (fun _ _ _ h => h)) hl hx) ?_; rintro _ w2 ⟨rfl, k2⟩
  have k02 := k1.trans k2 (fun _ _ h => h)
  have b2 := b1.keep k2 (fun h => h)
  have hra2 := hra.keep k02 (fun _ _ _ h => h)
  have hkx : K[(x / 2).toNat]? = some (knL K x) := by
    unfold knL
    rw [List.getD_eq_getElem?_getD, List.getElem?_eq_getElem (by omega)]; rfl
  have hix : I[(x / 2).toNat]? = some (I.getD (x / 2).toNat false) := by
    rw [List.getD_eq_getElem?_getD, List.getElem?_eq_getElem (by omega)]; rfl
  refine M.not_i ?_
  (repeat (first|refine jc ?_|refine jg ?_|refine jN (by assumption) rfl ?_))
  refine M.quo2_i (by omega) (by omega) ?_
  refine M.gd_ff ?_
  refine M.idxLV_i hra2 rfl (by omega) (by omega) (x := knL K x) hkx (fun bb oo hA hcc => ?_)
  (repeat (first|refine jg ?_|refine jM (by assumption) ?_))
  cases hk : knL K x with
  | false =>
    (repeat (first|refine jl ?_|refine jn ?_|refine jo ?_))
    exact ⟨by simp, k02⟩
  | true =>
    (repeat (first|refine jc ?_|refine jd ?_|refine jl ?_|refine jm ?_|refine jp ?_|refine jN (by assumption) rfl ?_))
    have kd := Keep.drew w2 No
    have b3 := b2.keep kd (fun h => h)
    have hrb3 := (hrb.keep k02 (fun _ _ _ h => h)).keep kd (fun _ _ _ h => h)
    (repeat fail)
    refine M.quo2_i (by omega) (by omega) ?_
    refine M.idxLV_i hrb3 rfl (by omega) (by omega) (x := I.getD (x / 2).toNat false) hix (fun bb oo hA hcc => ?_)
    (repeat (refine jM (by assumption) ?_))
    refine M.call_i (rneg_ret x _) ?_; rintro _ w3 ⟨rfl, k3⟩
    have b4 := b3.keep k3 (fun h => h)
    refine ⟨M.load_i (k3.cell (fun h => h) hcc) rfl, ?_, ?_⟩
    · (repeat (refine jN (by assumption) rfl ?_))
      rfl
    refine M.eqB_i ?_
    refine ⟨?_, (k02.trans kd (fun _ _ h => h)).trans k3 (fun _ _ h => h)⟩
    congr 3
    unfold lvl negOf
    generalize I.getD (x / 2).toNat false = z
    have : decide (0 ≤ x ∧ x % 2 = 1) = decide (x % 2 = 1) := by rw [decide_eq_decide]; omega
    rw [this]
    cases z <;> cases decide (x % 2 = 1) <;> rfl
set_option maxHeartbeats 2000000 in
theorem vleft_ret {E2 : Nat → Prop} {cv : Value} {c : List Int} {B : List Bool} (h : VO w E v K I) (hl : K.length ≤ 1000000000) (hc : LV vi w E2 cv c) (hcl : c.length ≤ 1000000) (hf : ∀ l ∈ c, fitK K l) (hC : Cons K I B) (hB : ∃ l ∈ c, lvl B l = true) :
    Ret Try.prog 76 #[v, cv] w (fun r w' => ∃ z : Int, r = .tuple #[vi z, .bool true] ∧ ((z = -1 ∧ Rest K I c) ∨ (fitK K z ∧ z ∈ c ∧ knL K z = false ∧ lvl B z = true)) ∧ Keep w w' No) := by
  obtain ⟨va, vbb, rfl, h1, h2, h3⟩ := id h
  obtain ⟨A, ca, rfl, _, _⟩ := id h1
  obtain ⟨Bq, cb, rfl, _, _⟩ := id h2
  obtain ⟨C, cc, rfl, hrc, _⟩ := id hc
  refine ok76 _ _ _ _ ?_
  unfold sh76
  refine M.new_i (l := [.slice A K.length ca, .slice Bq I.length cb]) (fun w1 b1 k1 s1 => ?_)
  refine M.loop_i (σ := Nat) (fun i vals w' => ∃ at' : Int, vals = [vi at', vi i] ∧ i ≤ c.length ∧ ((at' = -1 ∧ ∀ l ∈ c.take i, knL K l = true ∧ lvl I l = false) ∨ (∃ (a : Nat) (x : Int), at' = a ∧ a < i ∧ c[a]? = some x ∧ knL K x = false ∧ ∀ l ∈ c.take i, l = x ∨ (knL K l = true ∧ lvl I l = false))) ∧ Keep w1 w' No) (fun i => c.length - i) 0 ⟨-1, rfl, by omega, .inl ⟨rfl, by simp⟩, Keep.refl _ _⟩ ?_
  rintro i vals w2 Kk ⟨at', rfl, hi, hat, k2⟩ hK _
  simp only [List.getD_cons_zero, List.getD_cons_succ]
  have k02 := k1.trans k2 (fun _ _ h => h)
  have b2 := b1.keep k2 (fun h => h)
  have hrc2 := hrc.keep k02 (fun _ _ _ h => h)
  by_cases hlt : i < c.length
  · obtain ⟨y, hy⟩ : ∃ y, c[i]? = some y := ⟨_, List.getElem?_eq_getElem hlt⟩
    have hym := List.mem_of_getElem? hy
    have hfy := hf y hym
    have tk : ∀ l, l ∈ c.take (i + 1) ↔ l ∈ c.take i ∨ l = y := fun l => by
      rw [List.take_add_one, hy]; simp
    refine M.len_i ?_
    refine M.lss_t (by omega) ?_
    refine M.cond_t ?_
    refine M.share_n ?_
    refine M.draw_i ?_
    have kd := Keep.drew w2 No
    have b3 := b2.keep kd (fun h => h)
    have hrc3 := hrc2.keep kd (fun _ _ _ h => h)
    have k03 := k02.trans kd (fun _ _ h => h)
    refine M.loadAll_i b3 rfl ?_
    refine M.idxLV_i hrc3 rfl (by omega) (by omega) (x := y) (by simpa using hy) (fun bb oo hA hcc => ?_)
    refine M.load_i hcc ?_
    refine M.call_i (vfits_ret (h.keep k03 (fun _ _ _ h => h)) hl hfy) ?_; rintro _ w4 ⟨rfl, k4⟩
    refine M.not_i ?_
    refine M.cond_f ?_
    refine M.draw_i ?_
    have k4d := k4.trans (Keep.drew w4 No) (fun _ _ h => h)
    have b4 := b3.keep k4d (fun h => h)
    have hrc4 := hrc3.keep k4d (fun _ _ _ h => h)
    have k04 := k03.trans k4d (fun _ _ h => h)
    refine M.loadAll_i b4 rfl ?_
    refine M.idxLV_i hrc4 rfl (by omega) (by omega) (x := y) (by simpa using hy) (fun bb2 oo2 hA2 hcc2 => ?_)
    refine M.load_i hcc2 ?_
    refine M.call_i (vholds_ret (h.keep k04 (fun _ _ _ h => h)) hl hfy) ?_; rintro _ w5 ⟨rfl, k5⟩
    refine M.extract_i rfl ?_
    refine M.extract_i rfl ?_
    have k5d := k5.trans (Keep.drew w5 No) (fun _ _ h => h)
    have k05 := k04.trans k5d (fun _ _ h => h)
    have k15 : Keep w1 w5.drew No := ((k2.trans kd (fun _ _ h => h)).trans k4d (fun _ _ h => h)).trans k5d (fun _ _ h => h)
    have hrc5 := hrc4.keep k5d (fun _ _ _ h => h)
    refine M.draw_i ?_
    cases hk : knL K y with
    | true =>
      cases hv : lvl I y with
      | true =>
        simp only [Bool.and_self]
        (repeat (first|refine jf ?_|refine ji ?_|refine jj ?_|refine jk ?_|refine jo ?_))
        exact ⟨-1, rfl, .inl ⟨rfl, .inl ⟨y, hym, hk, hv⟩⟩, k05⟩
      | false =>
        simp only [Bool.and_false]
        (repeat (first|refine jf ?_|refine jg ?_|refine jh ?_|refine jk ?_|refine jl ?_|refine jm ?_|refine jp ?_))
        intro _
        simp only [List.getD_cons_zero, List.getD_cons_succ]
        (repeat (refine jK ?_))
        refine hK (i + 1) _ _ (by omega) ⟨at', by simp, by omega, ?_, k15⟩
        rcases hat with ⟨e, hn⟩ | ⟨a, x, e, ha, hx, hxu, hn⟩
        · exact .inl ⟨e, fun l hl => by
            rcases (tk l).1 hl with hl | rfl
            · exact hn l hl
            · exact ⟨hk, hv⟩⟩
        · exact .inr ⟨a, x, e, by omega, hx, hxu, fun l hl => by
            rcases (tk l).1 hl with hl | rfl
            · exact hn l hl
            · exact .inr ⟨hk, hv⟩⟩
    | false =>
      simp only [Bool.false_and]
      rcases hat with ⟨rfl, hn⟩ | ⟨a, x, rfl, ha, hx, hxu, hn⟩
      · (repeat (first|refine jf ?_|refine jg ?_|refine jh ?_|refine jk ?_|refine jl ?_|refine jn ?_|refine jo ?_|refine jp ?_|refine jF ?_))
        intro _
        simp only [List.getD_cons_zero, List.getD_cons_succ]
        (repeat (refine jK ?_))
        exact hK (i + 1) _ _ (by omega) ⟨(i : Int), by simp, by omega, .inr ⟨i, y, rfl, by omega, hy, hk, fun l hl => by
          rcases (tk l).1 hl with hl | rfl
          · exact .inr (hn l hl)
          · exact .inl rfl⟩, k15⟩
      · (repeat (first|refine jf ?_|refine jg ?_|refine jh ?_|refine jk ?_|refine jl ?_|refine jn ?_|refine jE ?_))
        refine M.idxLV_i hrc5 rfl (by omega) (by omega) (x := x) (by simpa using hx) (fun bb3 oo3 hA3 hcc3 => ?_)
        (repeat (first|refine jf ?_|refine jM (by assumption) ?_))
        refine M.idxLV_i hrc5 rfl (by omega) (by omega) (x := y) (by simpa using hy) (fun bb4 oo4 hA4 hcc4 => ?_)
        (repeat (first|refine jf ?_|refine jM (by assumption) ?_))
        by_cases hxy : x = y
        · (repeat (first|refine jg ?_|refine jk ?_|refine jl ?_|refine jn ?_|refine jo ?_|refine jp ?_|refine jJ ?_))
          intro _
          simp only [List.getD_cons_zero, List.getD_cons_succ]
          (repeat (refine jK ?_))
          exact hK (i + 1) _ _ (by omega) ⟨(i : Int), by simp, by omega, .inr ⟨i, y, rfl, by omega, hy, hk, fun l hl => by
            rcases (tk l).1 hl with hl | rfl
            · rw [← hxy]; exact hn l hl
            · exact .inl rfl⟩, k15⟩
        · (repeat (first|refine jg ?_|refine jk ?_|refine jl ?_|refine jo ?_|refine jI ?_))
          exact ⟨-1, rfl, .inl ⟨rfl, .inr ⟨x, List.mem_of_getElem? hx, y, hym, hxy, hxu, hk⟩⟩, k05⟩
  · have e : i = c.length := by omega
    subst e
    rw [List.take_length] at hat
    obtain ⟨l0, hl0, hl1⟩ := hB
    refine M.len_i ?_
    refine M.lss_f (by omega) ?_
    refine M.cond_f ?_
    rcases hat with ⟨rfl, hn⟩ | ⟨a, x, rfl, ha, hx, hxu, hn⟩
    · obtain ⟨q1, q2⟩ := hn l0 hl0
      rw [hC.lit q1, hl1] at q2
      cases q2
    · refine M.lss_f (by omega) ?_
      refine M.cond_f ?_
      refine M.idxLV_i hrc2 rfl (by omega) (by omega) (x := x) (by simpa using hx) (fun bb3 oo3 hA3 hcc3 => ?_)
      refine M.load_i hcc3 ?_
      have hxm := List.mem_of_getElem? hx
      refine ⟨x, rfl, .inr ⟨hf x hxm, hxm, hxu, ?_⟩, k02⟩
      rcases hn l0 hl0 with rfl | ⟨q1, q2⟩
      · exact hl1
      · rw [hC.lit q1, hl1] at q2
        cases q2
end
end Go.Proofs.Ytnbcglnefoinlaa
namespace Go.Proofs.Ytnbcglnefoinlaa
open Go.Mw Go.Maps Go.MapKept
set_option linter.unusedVariables false
set_option linter.unusedSimpArgs false
set_option maxRecDepth 100000
attribute [local irreducible] M.val M.unit M.next M.pick M.new M.nilCheck M.load1 M.loadA M.store M.fieldAddr M.indexSl M.indexArr M.slice M.makeSlice M.buildSlice M.len M.lenS M.cap M.append M.extract M.conv M.not M.neg M.bin M.shift M.eqB M.eqNil M.scat M.call M.callv M.gd M.share M.cond M.loop M.draw pureW readW Ret
def sh40 (x0 x1 x2 : Value) (R : Kt) (w : World) : Prop :=
  M.new 63 #[.slice none 0 0, .slice none 0 0] (fun t6 w =>
  M.share (fun K1 w =>
  M.draw (fun w =>
  ((M.makeSlice 4 1 1 #[.bool false] x0 x0 (fun t18 w =>
  ((M.makeSlice 4 1 1 #[.bool false] x0 x0 (fun t20 w =>
  pureW Try.prog (Instr.build 63 #[(0, t18), (1, t20)]) (fun t21 w =>
  M.new 63 #[.slice none 0 0, .slice none 0 0] (fun t8 w =>
  M.store 2 t8 t21 (fun _ w =>
  K1 [t8] w) w) w) w) w) ∧
   (M.new 63 #[.slice none 0 0, .slice none 0 0] (fun t8_2 w =>
  M.makeSlice 4 1 1 #[.bool false] x0 x0 (fun t20_2 w =>
  pureW Try.prog (Instr.build 63 #[(0, t18), (1, t20_2)]) (fun t21_2 w =>
  M.store 2 t8_2 t21_2 (fun _ w =>
  K1 [t8_2] w) w) w) w) w))) w) ∧
   (M.makeSlice 4 1 1 #[.bool false] x0 x0 (fun t20_3 w =>
  ((M.makeSlice 4 1 1 #[.bool false] x0 x0 (fun t18_2 w =>
  pureW Try.prog (Instr.build 63 #[(0, t18_2), (1, t20_3)]) (fun t21_3 w =>
  M.new 63 #[.slice none 0 0, .slice none 0 0] (fun t8_3 w =>
  M.store 2 t8_3 t21_3 (fun _ w =>
  K1 [t8_3] w) w) w) w) w) ∧
   (M.new 63 #[.slice none 0 0, .slice none 0 0] (fun t8_4 w =>
  M.makeSlice 4 1 1 #[.bool false] x0 x0 (fun t18_3 w =>
  pureW Try.prog (Instr.build 63 #[(0, t18_3), (1, t20_3)]) (fun t21_4 w =>
  M.store 2 t8_4 t21_4 (fun _ w =>
  K1 [t8_4] w) w) w) w) w))) w) ∧
   (M.new 63 #[.slice none 0 0, .slice none 0 0] (fun t8_5 w =>
  ((M.makeSlice 4 1 1 #[.bool false] x0 x0 (fun t18_4 w =>
  M.makeSlice 4 1 1 #[.bool false] x0 x0 (fun t20_4 w =>
  pureW Try.prog (Instr.build 63 #[(0, t18_4), (1, t20_4)]) (fun t21_5 w =>
  M.store 2 t8_5 t21_5 (fun _ w =>
  K1 [t8_5] w) w) w) w) w) ∧
   (M.makeSlice 4 1 1 #[.bool false] x0 x0 (fun t20_5 w =>
  M.makeSlice 4 1 1 #[.bool false] x0 x0 (fun t18_5 w =>
  pureW Try.prog (Instr.build 63 #[(0, t18_5), (1, t20_5)]) (fun t21_6 w =>
  M.store 2 t8_5 t21_6 (fun _ w =>
  K1 [t8_5] w) w) w) w) w))) w))) w) (fun s1 w => ∀ _ : List Value,
  M.loop [(Value.int IntKind.i64 0)] (fun s2 K2 w => ∀ _ : List Value,
  M.len x1 (fun t24 w =>
  M.bin .lss (s2.getD 0 undef) t24 (fun t25 w =>
  M.cond t25
  (M.indexSl 1 x1 (s2.getD 0 undef) (fun t30 w =>
  M.load1 t30 (fun t31 w =>
  M.loadA 2 (s1.getD 0 undef) (fun t32 w =>
  M.call Try.prog 73 #[t32, t31] (fun t34 w =>
  M.not t34 (fun t35 w =>
  M.cond t35
  (M.loadA 2 (s1.getD 0 undef) (fun t36 w =>
  M.store 2 t6 t36 (fun _ w =>
  M.loadA 2 t6 (fun r0 w => R (.tuple #[r0, (Value.bool false)]) w) w) w) w)
  (M.loadA 2 (s1.getD 0 undef) (fun t38 w =>
  M.call Try.prog 74 #[t38, t31] (fun t40 w =>
  M.extract 0 t40 (fun t41 w =>
  M.extract 1 t40 (fun t42 w =>
  M.gd t42 true (fun k w => k t41 w) (fun t45 w =>
  M.gd t42 true (fun k w => M.not t45 k w) (fun t46 w =>
  M.pick t42 t46 (Value.bool false) (fun t47 w =>
  M.cond t47
  (M.loadA 2 (s1.getD 0 undef) (fun t48 w =>
  M.store 2 t6 t48 (fun _ w =>
  M.loadA 2 t6 (fun r0 w => R (.tuple #[r0, (Value.bool false)]) w) w) w) w)
  (M.fieldAddr 0 (s1.getD 0 undef) (fun t49 w =>
  M.load1 t49 (fun t50 w =>
  M.bin .quo t31 (Value.int IntKind.i64 2) (fun t52 w =>
  M.indexSl 1 t50 t52 (fun t53 w =>
  M.store 1 t53 (Value.bool true) (fun _ w =>
  M.draw (fun w =>
  M.fieldAddr 1 (s1.getD 0 undef) (fun t54 w =>
  M.load1 t54 (fun t55 w =>
  M.bin .quo t31 (Value.int IntKind.i64 2) (fun t57 w =>
  M.call Try.prog 75 #[t31] (fun t59 w =>
  ((M.load1 t54 (fun v' _ => v' = t55) w) ∧ M.not t59 (fun t60 w =>
  M.indexSl 1 t55 t57 (fun t61 w =>
  M.store 1 t61 t60 (fun _ w =>
  M.bin .add (s2.getD 0 undef) (Value.int IntKind.i64 1) (fun t27 w =>
  K2 [t27] w) w) w) w) w)) w) w) w) w) w) w) w) w) w) w)) w) w) w) w) w) w) w)) w) w) w) w) w)
  (M.loop [(Value.bool true)] (fun s3 K3 w => ∀ _ : List Value,
  M.cond (s3.getD 0 undef)
  (M.loop [(Value.bool false), (Value.int IntKind.i64 0)] (fun s4 K4 w => ∀ _ : List Value,
  M.len x2 (fun t65 w =>
  M.bin .lss (s4.getD 1 undef) t65 (fun t66 w =>
  M.cond t66
  (M.share (fun K5 w =>
  M.draw (fun w =>
  M.loadA 2 (s1.getD 0 undef) (fun t70 w =>
  M.indexSl 1 x2 (s4.getD 1 undef) (fun t73 w =>
  M.load1 t73 (fun t74 w =>
  M.call Try.prog 76 #[t70, t74] (fun t75 w =>
  M.extract 0 t75 (fun t76 w =>
  M.extract 1 t75 (fun t77 w =>
  M.not t77 (fun t79 w =>
  M.cond t79
  (M.loadA 2 (s1.getD 0 undef) (fun t80 w =>
  M.store 2 t6 t80 (fun _ w =>
  M.loadA 2 t6 (fun r0 w => R (.tuple #[r0, (Value.bool false)]) w) w) w) w)
  (M.bin .geq t76 (Value.int IntKind.i64 0) (fun t82 w =>
  M.cond t82
  (M.fieldAddr 0 (s1.getD 0 undef) (fun t83 w =>
  M.load1 t83 (fun t84 w =>
  M.bin .quo t76 (Value.int IntKind.i64 2) (fun t86 w =>
  M.indexSl 1 t84 t86 (fun t87 w =>
  M.store 1 t87 (Value.bool true) (fun _ w =>
  M.draw (fun w =>
  M.fieldAddr 1 (s1.getD 0 undef) (fun t88 w =>
  M.load1 t88 (fun t89 w =>
  M.bin .quo t76 (Value.int IntKind.i64 2) (fun t91 w =>
  M.call Try.prog 75 #[t76] (fun t93 w =>
  ((M.load1 t88 (fun v' _ => v' = t89) w) ∧ M.not t93 (fun t94 w =>
  M.indexSl 1 t89 t91 (fun t95 w =>
  M.store 1 t95 t94 (fun _ w =>
  K5 [(Value.bool true)] w) w) w) w)) w) w) w) w) w) w) w) w) w) w)
  (K5 [(s4.getD 0 undef)] w)) w)) w) w) w) w) w) w) w) w) (fun s5 w => ∀ _ : List Value,
  M.bin .add (s4.getD 1 undef) (Value.int IntKind.i64 1) (fun t68 w =>
  K4 [(s5.getD 0 undef), t68] w) w) w)
  (K3 [(s4.getD 0 undef)] w)) w) w) w)
  (M.loadA 2 (s1.getD 0 undef) (fun t96 w =>
  M.store 2 t6 t96 (fun _ w =>
  M.loadA 2 t6 (fun r0 w => R (.tuple #[r0, (Value.bool true)]) w) w) w) w)) w)) w) w) w) w) w
theorem ok40 (x0 x1 x2 : Value) (R : Kt) (w : World) (h : sh40 x0 x1 x2 R w) : Ret Try.prog 40 #[x0, x1, x2] w R :=
  ret_mk <| calls_of_comp mixed (c := Try.f40.body.getD .skip) (args := [x0, x1, x2]) (rs := [(ResultVar.cell 6 63), (ResultVar.tmp 7)]) (Ann.seq Ann.text (Ann.join [8] [17, 18, 19, 20, 21] (Ann.draw (Sch.take 0 (Sch.take 2 (Sch.three 1 3 5 (Sch.two 3 5 (Sch.take 4 (Sch.one 5 (Sch.one 6 Sch.done))) (Sch.one 3 (Sch.take 4 (Sch.one 6 Sch.done)))) (Sch.two 1 5 (Sch.take 4 (Sch.one 5 (Sch.one 6 Sch.done))) (Sch.one 1 (Sch.take 4 (Sch.one 6 Sch.done)))) (Sch.two 1 3 (Sch.one 3 (Sch.take 4 (Sch.one 6 Sch.done))) (Sch.one 1 (Sch.take 4 (Sch.one 6 Sch.done)))))))) (Ann.seq (Ann.seq Ann.text (Ann.block (Ann.loop [9] [7, 10, 11, 12, 22, 23, 24, 25, 26, 27, 28, 29, 30, 31, 32, 33, 34, 35, 36, 37, 38, 39, 40, 41, 42, 43, 44, 45, 46, 47, 48, 49, 50, 51, 52, 53, 54, 55, 56, 57, 58, 59, 60, 61] (Ann.seq (Ann.seq Ann.text (Ann.cond Ann.leaf Ann.leaf)) (Ann.seq (Ann.block (Ann.seq Ann.text (Ann.seq (Ann.seq Ann.text (Ann.cond (Ann.seq Ann.text Ann.leaf) Ann.leaf)) (Ann.seq (Ann.seq Ann.text (Ann.seq Ann.text (Ann.cond (Ann.seq Ann.text Ann.leaf) Ann.leaf))) (Ann.seq Ann.text (Ann.draw (Sch.take 0 (Sch.take 1 (Sch.take 2 (Sch.take 3 (Sch.take 4 (Sch.one 5 (Sch.take 6 (Sch.take 7 (Sch.one 8 Sch.done))))))))))))))) Ann.text))))) (Ann.seq (Ann.seq Ann.text (Ann.block (Ann.loop [13] [7, 14, 15, 16, 62, 63, 64, 65, 66, 67, 68, 69, 70, 71, 72, 73, 74, 75, 76, 77, 78, 79, 80, 81, 82, 83, 84, 85, 86, 87, 88, 89, 90, 91, 92, 93, 94, 95] (Ann.seq (Ann.seq Ann.text (Ann.cond Ann.leaf Ann.leaf)) (Ann.block (Ann.seq Ann.text (Ann.seq Ann.text (Ann.block (Ann.loop [13, 14] [7, 15, 16, 63, 64, 65, 66, 67, 68, 69, 70, 71, 72, 73, 74, 75, 76, 77, 78, 79, 80, 81, 82, 83, 84, 85, 86, 87, 88, 89, 90, 91, 92, 93, 94, 95] (Ann.seq (Ann.seq Ann.text (Ann.cond Ann.leaf Ann.leaf)) (Ann.seq (Ann.jblock [13] [7, 15, 16, 69, 70, 71, 72, 73, 74, 75, 76, 77, 78, 79, 80, 81, 82, 83, 84, 85, 86, 87, 88, 89, 90, 91, 92, 93, 94, 95] (Ann.seq (Ann.draw (Sch.take 0 (Sch.take 1 (Sch.take 2 (Sch.take 3 (Sch.take 4 (Sch.one 5 (Sch.take 6 (Sch.take 7 (Sch.take 8 (Sch.take 9 (Sch.take 10 Sch.done)))))))))))) (Ann.seq (Ann.seq Ann.text (Ann.cond (Ann.seq Ann.text Ann.leaf) Ann.leaf)) (Ann.seq Ann.text (Ann.cond (Ann.seq Ann.text (Ann.seq (Ann.draw (Sch.take 0 (Sch.take 1 (Sch.take 2 (Sch.take 3 (Sch.take 4 (Sch.one 5 (Sch.take 6 (Sch.take 7 (Sch.one 8 Sch.done)))))))))) Ann.text)) Ann.leaf))))) Ann.text))))))))))) (Ann.seq Ann.text Ann.leaf)))))
    Try.func40 (by kernel_rfl) (by kernel_rfl)
    (Eq.mp (by kernel_rfl) h)
theorem getD_set2 (K : List Bool) (n m : Nat) (h : K.getD m false = true) : (K.set n true).getD m false = true := by
  by_cases hn : n < K.length
  · rw [getD_set _ _ _ _ _ hn]
    split
    · rfl
    · exact h
  · rw [List.set_eq_of_length_le (by omega)]; exact h
theorem knL_set {K : List Bool} {l x : Int} (h : knL K l = true) : knL (K.set (x / 2).toNat true) l = true := getD_set2 _ _ _ h
theorem knL_self {K : List Bool} {x : Int} (h : fitK K x) : knL (K.set (x / 2).toNat true) x = true := by
  obtain ⟨h0, h1⟩ := h
  unfold knL
  rw [getD_set _ _ _ _ _ (by omega), if_pos rfl]
structure VS (w : World) (pk ba bi n : Nat) (K I : List Bool) : Prop where
  bk : Blk w pk [.slice (some ⟨ba, 0, none⟩) n n, .slice (some ⟨bi, 0, none⟩) n n]
  a : Blk w ba (K.map vb)
  i : Blk w bi (I.map vb)
  lk : K.length = n
  li : I.length = n
  ne : pk ≠ ba ∧ pk ≠ bi ∧ ba ≠ bi
theorem LV.blkB {w : World} {E : Nat → Prop} {b n : Nat} {r : List Bool} (h : Blk w b (r.map vb)) (hE : E b) (hn : n = r.length) : LV vb w E (.slice (some ⟨b, 0, none⟩) n n) r := ⟨_, n, by rw [hn], Row.of_blk' h hE, by omega⟩
section
variable {w : World} {pk ba bi n : Nat} {K I : List Bool}
theorem VS.vo (h : VS w pk ba bi n K I) : VO w (fun x => x = ba ∨ x = bi) (.agg ⟨[.slice (some ⟨ba, 0, none⟩) n n, .slice (some ⟨bi, 0, none⟩) n n]⟩) K I :=
  ⟨_, _, rfl, LV.blkB h.a (.inl rfl) h.lk.symm, LV.blkB h.i (.inr rfl) h.li.symm, h.lk.trans h.li.symm⟩
theorem VS.keepN {w' : World} (h : VS w pk ba bi n K I) (k : Keep w w' No) : VS w' pk ba bi n K I := ⟨h.bk.keep k (fun h => h), h.a.keep k (fun h => h), h.i.keep k (fun h => h), h.lk, h.li, h.ne⟩
theorem VS.put {x : Int} {kt : Kt} (h : VS w pk ba bi n K I) (hx : fitK K x) (hn : n ≤ 1000000000)
    (hk : ∀ w', VS w' pk ba bi n (K.set (x / 2).toNat true) (I.set (x / 2).toNat (decide (x % 2 = 0))) → Keep w w' (fun y => y = ba ∨ y = bi) → kt undef w') :
    M.fieldAddr 0 (ptr pk) (fun t49 w => M.load1 t49 (fun t50 w => M.bin .quo (vi x) (Value.int IntKind.i64 2) (fun t52 w => M.indexSl 1 t50 t52 (fun t53 w => M.store 1 t53 (Value.bool true) (fun _ w =>
      M.draw (fun w => M.fieldAddr 1 (ptr pk) (fun t54 w => M.load1 t54 (fun t55 w => M.bin .quo (vi x) (Value.int IntKind.i64 2) (fun t57 w => M.call Try.prog 75 #[vi x] (fun t59 w =>
      (M.load1 t54 (fun v' _ => v' = t55) w ∧ M.not t59 (fun t60 w => M.indexSl 1 t55 t57 (fun t61 w => M.store 1 t61 t60 kt w) w) w)) w) w) w) w) w) w) w) w) w) w := by
  obtain ⟨x0, x1⟩ := id hx
  have e1 := h.lk
  have e2 := h.li
  refine M.field_i ?_
  refine M.loadB_i h.bk rfl ?_
  refine M.quo2_i (by omega) (by omega) ?_
  refine M.idx_i (by omega) (by omega) ?_
  refine M.store_i h.a (by rw [List.length_map]; omega) rfl (fun w1 b1 k1 s1 => ?_)
  refine M.draw_i ?_
  have kd := Keep.drew w1 No
  have bk1 := (h.bk.keep k1 (fun e => h.ne.1 e)).keep kd (fun h => h)
  have i1 := (h.i.keep k1 (fun e => h.ne.2.2 e.symm)).keep kd (fun h => h)
  have a1 := b1.keep kd (fun h => h)
  refine M.field_i ?_
  refine M.loadB_i bk1 rfl ?_
  refine M.quo2_i (by omega) (by omega) ?_
  refine M.call_i (rneg_ret x _) ?_; rintro _ w2 ⟨rfl, k2⟩
  have bk2 := bk1.keep k2 (fun h => h)
  have i2 := i1.keep k2 (fun h => h)
  have a2 := a1.keep k2 (fun h => h)
  refine ⟨M.loadB_i bk2 rfl rfl, ?_⟩
  refine M.not_i ?_
  refine M.idx_i (by omega) (by omega) ?_
  refine M.store_i i2 (by rw [List.length_map]; omega) rfl (fun w3 b3 k3 s3 => ?_)
  have hng : (!negOf x) = decide (x % 2 = 0) := by
    unfold negOf
    by_cases hh : x % 2 = 0
    · simp [hh]
    · have : x % 2 = 1 := by omega
      simp [this, x0]
  rw [show 0 + (x / 2).toNat * 1 = (x / 2).toNat by omega, hng] at b3
  rw [show 0 + (x / 2).toNat * 1 = (x / 2).toNat by omega] at a2
  refine hk w3 ⟨bk2.keep k3 (fun e => h.ne.2.1 e), ?_, ?_, by rw [List.length_set]; exact e1, by rw [List.length_set]; exact e2, h.ne⟩ ?_
  · rw [List.map_set]
    exact a2.keep k3 (fun e => h.ne.2.2 e)
  · rw [List.map_set]; exact b3
  · exact (((k1.mono (fun y _ e => .inl e)).trans kd (fun _ _ h => h.elim)).trans k2 (fun _ _ h => h.elim)).trans k3 (fun y _ e => .inr e)
end
section
variable {w : World}
set_option maxHeartbeats 8000000 in
theorem vrun_ret {n : Nat} {H : List Int} {cl : List (List Int)} {hv cv : Value} {B : List Bool} {E1 E2 : Nat → Prop} (hn : n ≤ 100000000) (hH : LV vi w E1 hv H) (hc : LL w E2 cv cl) (hHl : H.length ≤ 1000000) (hcl : cl.length ≤ 1000000000) (hBl : B.length = n)
    (hf : ∀ l ∈ H, (0 ≤ l ∧ l < 2 * (n : Int)) ∧ lvl B l = true) (hg : ∀ c ∈ cl, c.length ≤ 1000000 ∧ (∃ l ∈ c, lvl B l = true) ∧ ∀ l ∈ c, 0 ≤ l ∧ l < 2 * (n : Int)) :
    Ret Try.prog 40 #[vi n, hv, cv] w (fun r w' => ∃ v K I, r = .tuple #[v, .bool true] ∧ VO w' (w.heap.size ≤ ·) v K I ∧ K.length = n ∧ Cons K I B ∧ (∀ c ∈ cl, Rest K I c) ∧ (∀ l ∈ H, knL K l = true) ∧ Keep w w' No) := by
  have hH := hH.mono (D' := fun x => x < w.heap.size) (fun x hx _ => hx)
  obtain ⟨HA, hca, rfl, hrH, _⟩ := id hH
  obtain ⟨CA, cca, us, rfl, hLL, _⟩ := id hc
  have hLL : LLr w (fun x => x < w.heap.size) CA us cl := ⟨hLL.row.mono (fun x hx _ => hx), hLL.len, fun i c hc => by
    obtain ⟨u, u1, u2⟩ := hLL.all i c hc
    exact ⟨u, u1, u2.mono (fun x hx _ => hx)⟩⟩
  refine ok40 _ _ _ _ _ ?_
  unfold sh40
  refine M.new_i (l := [.slice none 0 0, .slice none 0 0]) (fun w1 b1 k1 s1 => ?_)
  refine M.share_j (fun vals w' => ∃ pk ba bi, vals = [ptr pk] ∧ VS w' pk ba bi n (List.replicate n false) (List.replicate n false) ∧ w1.heap.size ≤ pk ∧ w1.heap.size ≤ ba ∧ w1.heap.size ≤ bi ∧ Keep w1 w' No) ?_ ?_
  rotate_left
  · intro K1 hK1
    have fin : ∀ w' pk ba bi, Blk w' pk [.slice none 0 0, .slice none 0 0] → Blk w' ba (List.replicate n (vb false)) → Blk w' bi (List.replicate n (vb false)) → (pk ≠ ba ∧ pk ≠ bi ∧ ba ≠ bi) → w1.heap.size ≤ pk → w1.heap.size ≤ ba → w1.heap.size ≤ bi → Keep w1 w' No →
        M.store 2 (ptr pk) (.agg ⟨[.slice (some ⟨ba, 0, none⟩) n n, .slice (some ⟨bi, 0, none⟩) n n]⟩) (fun _ w => K1 [ptr pk] w) w' := fun w' pk ba bi h1 h2 h3 hne q1 q2 q3 kk => by
      refine M.storeAll_i h1 rfl rfl (by simp; exact ⟨rfl, rfl⟩) (fun w2 b2 k2 s2 => ?_)
      exact hK1 _ _ ⟨pk, ba, bi, rfl, ⟨b2, by rw [List.map_replicate]; exact h2.keep k2 (fun e => hne.1 e.symm), by rw [List.map_replicate]; exact h3.keep k2 (fun e => hne.2.1 e.symm), by simp, by simp, hne⟩, q1, q2, q3, kk.trans k2 (fun x hx e => by have e : x = pk := e; omega)⟩
    refine M.draw_i ?_
    have kd := Keep.drew w1 No
    have qd : w1.drew.heap.size = w1.heap.size := rfl
    revert kd qd
    generalize w1.drew = wd
    intro kd qd
    refine ⟨?_, ?_, ?_⟩
    · refine M.makeSlice_i rfl rfl (by omega) (by omega) (fun w2 b2 k2 s2 => ?_)
      refine ⟨?_, ?_⟩
      · refine M.makeSlice_i rfl rfl (by omega) (by omega) (fun w3 b3 k3 s3 => ?_)
        refine M.pure_i (.agg ⟨[.slice (some ⟨wd.heap.size, 0, none⟩) n n, .slice (some ⟨w2.heap.size, 0, none⟩) n n]⟩) (fun _ => by kernel_rfl) ?_
        refine M.new_i (l := [.slice none 0 0, .slice none 0 0]) (fun w4 b4 k4 s4 => ?_)
        have k34 := k3.trans k4 (fun _ _ h => h)
        exact fin _ _ _ _ b4 (b2.keep k34 (fun h => h)) (b3.keep k4 (fun h => h)) ⟨by omega, by omega, by omega⟩ (by omega) (by omega) (by omega) ((kd.trans k2 (fun _ _ h => h)).trans k34 (fun _ _ h => h))
      · refine M.new_i (l := [.slice none 0 0, .slice none 0 0]) (fun w3 b3 k3 s3 => ?_)
        refine M.makeSlice_i rfl rfl (by omega) (by omega) (fun w4 b4 k4 s4 => ?_)
        refine M.pure_i (.agg ⟨[.slice (some ⟨wd.heap.size, 0, none⟩) n n, .slice (some ⟨w3.heap.size, 0, none⟩) n n]⟩) (fun _ => by kernel_rfl) ?_
        have k34 := k3.trans k4 (fun _ _ h => h)
        exact fin _ _ _ _ (b3.keep k4 (fun h => h)) (b2.keep k34 (fun h => h)) b4 ⟨by omega, by omega, by omega⟩ (by omega) (by omega) (by omega) ((kd.trans k2 (fun _ _ h => h)).trans k34 (fun _ _ h => h))
    · refine M.makeSlice_i rfl rfl (by omega) (by omega) (fun w2 b2 k2 s2 => ?_)
      refine ⟨?_, ?_⟩
      · refine M.makeSlice_i rfl rfl (by omega) (by omega) (fun w3 b3 k3 s3 => ?_)
        refine M.pure_i (.agg ⟨[.slice (some ⟨w2.heap.size, 0, none⟩) n n, .slice (some ⟨wd.heap.size, 0, none⟩) n n]⟩) (fun _ => by kernel_rfl) ?_
        refine M.new_i (l := [.slice none 0 0, .slice none 0 0]) (fun w4 b4 k4 s4 => ?_)
        have k34 := k3.trans k4 (fun _ _ h => h)
        exact fin _ _ _ _ b4 (b3.keep k4 (fun h => h)) (b2.keep k34 (fun h => h)) ⟨by omega, by omega, by omega⟩ (by omega) (by omega) (by omega) ((kd.trans k2 (fun _ _ h => h)).trans k34 (fun _ _ h => h))
      · refine M.new_i (l := [.slice none 0 0, .slice none 0 0]) (fun w3 b3 k3 s3 => ?_)
        refine M.makeSlice_i rfl rfl (by omega) (by omega) (fun w4 b4 k4 s4 => ?_)
        refine M.pure_i (.agg ⟨[.slice (some ⟨w3.heap.size, 0, none⟩) n n, .slice (some ⟨wd.heap.size, 0, none⟩) n n]⟩) (fun _ => by kernel_rfl) ?_
        have k34 := k3.trans k4 (fun _ _ h => h)
        exact fin _ _ _ _ (b3.keep k4 (fun h => h)) b4 (b2.keep k34 (fun h => h)) ⟨by omega, by omega, by omega⟩ (by omega) (by omega) (by omega) ((kd.trans k2 (fun _ _ h => h)).trans k34 (fun _ _ h => h))
    · refine M.new_i (l := [.slice none 0 0, .slice none 0 0]) (fun w2 b2 k2 s2 => ?_)
      refine ⟨?_, ?_⟩
      · refine M.makeSlice_i rfl rfl (by omega) (by omega) (fun w3 b3 k3 s3 => ?_)
        refine M.makeSlice_i rfl rfl (by omega) (by omega) (fun w4 b4 k4 s4 => ?_)
        refine M.pure_i (.agg ⟨[.slice (some ⟨w2.heap.size, 0, none⟩) n n, .slice (some ⟨w3.heap.size, 0, none⟩) n n]⟩) (fun _ => by kernel_rfl) ?_
        have k34 := k3.trans k4 (fun _ _ h => h)
        exact fin _ _ _ _ (b2.keep k34 (fun h => h)) (b3.keep k4 (fun h => h)) b4 ⟨by omega, by omega, by omega⟩ (by omega) (by omega) (by omega) ((kd.trans k2 (fun _ _ h => h)).trans k34 (fun _ _ h => h))
      · refine M.makeSlice_i rfl rfl (by omega) (by omega) (fun w3 b3 k3 s3 => ?_)
        refine M.makeSlice_i rfl rfl (by omega) (by omega) (fun w4 b4 k4 s4 => ?_)
        refine M.pure_i (.agg ⟨[.slice (some ⟨w3.heap.size, 0, none⟩) n n, .slice (some ⟨w2.heap.size, 0, none⟩) n n]⟩) (fun _ => by kernel_rfl) ?_
        have k34 := k3.trans k4 (fun _ _ h => h)
        exact fin _ _ _ _ (b2.keep k34 (fun h => h)) b4 (b3.keep k4 (fun h => h)) ⟨by omega, by omega, by omega⟩ (by omega) (by omega) (by omega) ((kd.trans k2 (fun _ _ h => h)).trans k34 (fun _ _ h => h))
  rintro vals w2 ⟨pk, ba, bi, rfl, vs, qk, qa, qi, k12⟩ _
  simp only [List.getD_cons_zero, List.getD_cons_succ]
  have q1 := k1.size
  have k02 := k1.trans k12 (fun _ _ h => h)
  have q12 := k12.size
  have hn' : n ≤ 1000000000 := by omega
  have hlow : ∀ {y : Nat}, y < w.heap.size → ¬ (y = ba ∨ y = bi) := fun hy h => by omega
  have b2 := b1.keep k12 (fun h => h)
  have finR : ∀ (w' : World) (K I : List Bool) (bb : Bool), VS w' pk ba bi n K I → Blk w' w.heap.size [.slice none 0 0, .slice none 0 0] → Keep w w' No → Cons K I B → (∀ c ∈ cl, Rest K I c) → (∀ l ∈ H, knL K l = true) →
      M.loadA 2 (ptr pk) (fun t96 w => M.store 2 (ptr w1.heap.size) t96 (fun _ w => True) w) w' → True := fun _ _ _ _ _ _ _ _ _ _ _ => trivial
  refine M.loop_i (σ := Nat) (fun i vals w' => ∃ K I, vals = [vi i] ∧ i ≤ H.length ∧ VS w' pk ba bi n K I ∧ Cons K I B ∧ (∀ l ∈ H.take i, knL K l = true) ∧ Keep w2 w' (fun y => y = ba ∨ y = bi)) (fun i => H.length - i) 0
    ⟨_, _, rfl, by omega, vs, fun m hm => by rw [List.getD_eq_getElem?_getD, List.getElem?_replicate] at hm; split at hm <;> simp at hm, by simp, Keep.refl _ _⟩ ?_
  rintro i vals w3 Kk ⟨K, I, rfl, hi, vs3, hC, hkn, k3⟩ hK _
  simp only [List.getD_cons_zero, List.getD_cons_succ]
  have k03 : Keep w w3 No := k02.trans k3 (fun y hy hh => hlow hy hh)
  have hrH3 := hrH.keep k03 (fun _ _ _ h => h)
  have lK := vs3.lk
  by_cases hlt : i < H.length
  · obtain ⟨x, hx⟩ : ∃ x, H[i]? = some x := ⟨_, List.getElem?_eq_getElem hlt⟩
    obtain ⟨hfx, hvx⟩ := hf x (List.mem_of_getElem? hx)
    have hfk : fitK K x := ⟨hfx.1, by rw [lK]; exact hfx.2⟩
    refine M.len_i ?_
    refine M.lss_t (by omega) ?_
    refine M.cond_t ?_
    refine M.idxLV_i hrH3 rfl (by omega) (by omega) (x := x) (by simpa using hx) (fun bb oo hA hcc => ?_)
    refine M.load_i hcc ?_
    refine M.loadAll_i vs3.bk rfl ?_
    refine M.call_i (vfits_ret vs3.vo (by omega) hfk) ?_; rintro _ w4 ⟨rfl, k4⟩
    have vs4 := vs3.keepN k4
    refine M.not_i ?_
    refine M.cond_f ?_
    refine M.loadAll_i vs4.bk rfl ?_
    refine M.call_i (vholds_ret vs4.vo (by omega) hfk) ?_; rintro _ w5 ⟨rfl, k5⟩
    have vs5 := vs4.keepN k5
    refine M.extract_i rfl ?_
    refine M.extract_i rfl ?_
    have k35 := k4.trans k5 (fun _ _ h => h)
    have cont : ∀ w', VS w' pk ba bi n (K.set (x / 2).toNat true) (I.set (x / 2).toNat (decide (x % 2 = 0))) → Keep w5 w' (fun y => y = ba ∨ y = bi) → M.bin .add (vi i) (Value.int IntKind.i64 1) (fun t27 w => Kk [t27] w) w' := fun w' vs6 k6 => by
      (repeat (refine jK ?_))
      refine hK (i + 1) _ _ (by omega) ⟨_, _, by simp, by omega, vs6, hC.set hfk (vs3.li.trans lK.symm) hvx, fun l hl => ?_, (k3.trans k35 (fun _ _ h => h.elim)).trans k6 (fun _ _ h => h)⟩
      rw [List.take_add_one, hx] at hl
      rcases List.mem_append.1 hl with hl | hl
      · exact knL_set (hkn l hl)
      · simp at hl; subst hl; exact knL_self hfk
    cases hk : knL K x with
    | false =>
      (refine jh ?_)
      (refine jh ?_)
      (refine jl ?_)
      (refine jp ?_)
      refine VS.put vs5 hfk hn' ?_
      exact cont
    | true =>
      have hv : lvl I x = true := by rw [hC.lit hk]; exact hvx
      rw [hv]
      (refine jf ?_)
      (refine jf ?_)
      (refine jm ?_)
      (refine jk ?_)
      (refine jp ?_)
      refine VS.put vs5 hfk hn' ?_
      exact cont
  · have e : i = H.length := by omega
    subst e
    rw [List.take_length] at hkn
    refine M.len_i ?_
    refine M.lss_f (by omega) ?_
    refine M.cond_f ?_
    clear hi
    refine M.loop_i (σ := List Bool × Bool) (fun t vals w' => ∃ I, vals = [vb t.2] ∧ VS w' pk ba bi n t.1 I ∧ Cons t.1 I B ∧ (∀ l ∈ H, knL t.1 l = true) ∧ (t.2 = false → ∀ c ∈ cl, Rest t.1 I c) ∧ Keep w2 w' (fun y => y = ba ∨ y = bi)) (fun t => 2 * unk t.1 + t.2.toNat) (K, true)
      ⟨I, rfl, vs3, hC, hkn, by simp, k3⟩ ?_
    clear hC hkn vs3 k3 k03 hrH3 lK hK
    rintro ⟨K, again⟩ vals w4 Kk2 ⟨I, rfl, vs4, hC, hkn, hrest, k4⟩ hK2 _
    simp only at vs4 hC hkn hrest
    simp only [List.getD_cons_zero, List.getD_cons_succ]
    have k04 : Keep w w4 No := k02.trans k4 (fun y hy hh => hlow hy hh)
    cases again with
    | false =>
      refine M.cond_f ?_
      refine M.loadAll_i vs4.bk rfl ?_
      have b4 := b2.keep k4 (fun hh => by have := b1.lt; rcases hh with hh | hh <;> omega)
      refine M.storeAll_i b4 rfl rfl (by simp; exact ⟨rfl, rfl⟩) (fun w5 b5 k5 s5 => ?_)
      refine M.loadAll_i b5 rfl ?_
      have hb1 := b1.lt
      refine ⟨_, K, I, rfl, (vs4.vo.keep k5 (fun x _ hx e => by
        have e : x = w.heap.size := e
        rcases hx with hx | hx <;> omega)).mono (fun x _ hx => by rcases hx with hx | hx <;> (show w.heap.size ≤ x; omega)), vs4.lk, hC, hrest rfl, hkn, k04.trans k5 (fun x hx e => by have e : x = w.heap.size := e; omega)⟩
    | true =>
      refine M.cond_t ?_
      have hu0 := unk_le K
      refine M.loop_i (σ := Nat) (fun i vals w' => ∃ (ag : Bool) (K' I' : List Bool), vals = [vb ag, vi i] ∧ i ≤ cl.length ∧ VS w' pk ba bi n K' I' ∧ Cons K' I' B ∧ (∀ l ∈ H, knL K' l = true) ∧ (ag = false → K' = K ∧ ∀ c ∈ cl.take i, Rest K' I' c) ∧ (ag = true → unk K' < unk K) ∧ Keep w2 w' (fun y => y = ba ∨ y = bi)) (fun i => cl.length - i) 0
        ⟨false, K, I, rfl, by omega, vs4, hC, hkn, fun _ => ⟨rfl, by simp⟩, by simp, k4⟩ ?_
      rintro i vals w5 Kk3 ⟨ag, K', I', rfl, hi, vs5, hC5, hkn5, hf5, ht5, k5⟩ hK3 _
      simp only [List.getD_cons_zero, List.getD_cons_succ]
      have k05 : Keep w w5 No := k02.trans k5 (fun y hy hh => hlow hy hh)
      have hLL5 := hLL.keep k05 (fun _ _ _ h => h)
      have lK := vs5.lk
      refine M.len_i ?_
      by_cases hlt : i < cl.length
      · obtain ⟨c, hcx⟩ : ∃ c, cl[i]? = some c := ⟨_, List.getElem?_eq_getElem hlt⟩
        obtain ⟨g1, g2, g3⟩ := hg c (List.mem_of_getElem? hcx)
        refine M.lss_t (by omega) ?_
        refine M.cond_t ?_
        refine M.share_n ?_
        refine M.draw_i ?_
        have kd := Keep.drew w5 No
        have vs6 := vs5.keepN kd
        have hLL6 := hLL5.keep kd (fun _ _ _ h => h)
        refine M.loadAll_i vs6.bk rfl ?_
        refine M.idxLL_i hLL6 rfl (by omega) (c := c) (by simpa using hcx) (fun b o u hcu hu => ?_)
        refine M.load_i hcu ?_
        refine M.call_i (vleft_ret vs6.vo (by omega) hu g1 (fun l hl => ⟨(g3 l hl).1, by rw [lK]; exact (g3 l hl).2⟩) hC5 g2) ?_; rintro _ w7 ⟨z, rfl, hz, k7⟩
        have vs7 := vs6.keepN k7
        have k57 := kd.trans k7 (fun _ _ h => h)
        refine M.extract_i rfl ?_
        refine M.extract_i rfl ?_
        refine M.not_i ?_
        refine M.cond_f ?_
        have tk : ∀ d, d ∈ cl.take (i + 1) ↔ d ∈ cl.take i ∨ d = c := fun d => by
          rw [List.take_add_one, hcx]; simp
        rcases hz with ⟨rfl, hr⟩ | ⟨hfz, hzc, hzk, hzv⟩
        · refine M.geq_i ?_
          rw [decide_eq_false (by decide)]
          refine M.cond_f ?_
          intro _
          simp only [List.getD_cons_zero, List.getD_cons_succ]
          (repeat (refine jK ?_))
          refine hK3 (i + 1) _ _ (by omega) ⟨ag, K', I', by simp, by omega, vs7, hC5, hkn5, fun e => ⟨(hf5 e).1, fun d hd => ?_⟩, ht5, k5.trans k57 (fun _ _ h => h.elim)⟩
          rcases (tk d).1 hd with hd | rfl
          · exact (hf5 e).2 d hd
          · exact hr
        · have hz0 : 0 ≤ z := hfz.1
          refine M.geq_i ?_
          rw [decide_eq_true hz0]
          refine M.cond_t ?_
          refine VS.put vs7 hfz hn' (fun w8 vs8 k8 => ?_)
          intro _
          simp only [List.getD_cons_zero, List.getD_cons_succ]
          (repeat (refine jK ?_))
          have hus : unk (K'.set (z / 2).toNat true) < unk K := by
            have h1 := unk_set K' (z / 2).toNat (by have := hfz.2; omega) hzk
            cases hag : ag with
            | false => rw [(hf5 hag).1] at h1 ⊢; omega
            | true => have := ht5 hag; omega
          exact hK3 (i + 1) _ _ (by omega) ⟨true, _, _, by simp, by omega, vs8, hC5.set hfz (vs5.li.trans lK.symm) hzv, fun l hl => knL_set (hkn5 l hl), by simp, fun _ => hus, (k5.trans k57 (fun _ _ h => h.elim)).trans k8 (fun _ _ h => h)⟩
      · have e : i = cl.length := by omega
        subst e
        refine M.lss_f (by omega) ?_
        refine M.cond_f ?_
        rw [List.take_length] at hf5
        refine hK2 (K', ag) _ _ ?_ ⟨I', rfl, vs5, hC5, hkn5, fun e => (hf5 e).2, k5⟩
        show 2 * unk K' + ag.toNat < 2 * unk K + true.toNat
        cases hag : ag with
        | false => rw [(hf5 hag).1]; simp
        | true => have := ht5 hag; simp; omega
end
end Go.Proofs.Ytnbcglnefoinlaa
