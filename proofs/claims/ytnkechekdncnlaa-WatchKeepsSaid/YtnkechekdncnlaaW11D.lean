import Derived.Test.YtnkechekdncnlaaW11C
namespace Go.Proofs.Ytnkechekdncnlaa
open Go.Mw
set_option linter.unusedVariables false
set_option linter.unusedSimpArgs false
set_option maxRecDepth 100000
attribute [local irreducible] M.val M.unit M.next M.pick M.new M.nilCheck M.load1 M.loadA M.store M.fieldAddr M.indexSl M.indexArr M.slice M.makeSlice M.buildSlice M.len M.lenS M.cap M.append M.extract M.conv M.not M.neg M.bin M.shift M.eqB M.eqNil M.call M.callv M.gd M.share M.cond M.loop M.draw pureW readW Ret
/-! breakwater/breakwaterlaw11.WatchPlays: function 4 -/
def sh4 (x0 x1 : Value) (R : Kt) (w : World) : Prop :=
  M.call Try.prog 15 #[x1] (fun t14 w =>
  M.not t14 (fun t15 w =>
  M.gd t15 false (fun k w => k x0 w) (fun t17 w =>
  M.gd t15 false (fun k w => M.bin .gtr t17 (Value.int IntKind.i64 40) k w) (fun t18 w =>
  M.pick t15 (Value.bool true) t18 (fun t19 w =>
  M.gd t19 false (fun k w => k x0 w) (fun t21 w =>
  M.gd t19 false (fun k w => M.bin .lss t21 (Value.int IntKind.i64 0) k w) (fun t22 w =>
  M.pick t19 (Value.bool true) t22 (fun t23 w =>
  M.cond t23
  (M.call Try.prog 14 #[] (fun t24 w =>
  R t24 w) w)
  (M.call Try.prog 7 #[x0] (fun t26 w =>
  M.call Try.prog 9 #[x0] (fun t28 w =>
  M.call Try.prog 16 #[x0] (fun t30 w =>
  M.new 48 #[.int .i64 0, .slice none 0 0, .slice none 0 0] (fun t7 w =>
  M.store 3 t7 t30 (fun _ w =>
  M.eqNil 0 false t26 (fun t32 w =>
  M.gd t32 false (fun k w => k t28 w) (fun t34 w =>
  M.gd t32 false (fun k w => M.eqNil 0 false t34 k w) (fun t35 w =>
  M.pick t32 (Value.bool true) t35 (fun t36 w =>
  M.cond t36
  (R (Value.bool false) w)
  (M.loop [(Value.int IntKind.i64 0)] (fun s1 K1 w => ∀ _ : List Value,
  M.len x1 (fun t39 w =>
  M.bin .lss (s1.getD 0 undef) t39 (fun t40 w =>
  M.cond t40
  (M.share (fun K2 w =>
  M.share (fun K3 w =>
  M.draw (fun w =>
  M.loadA 3 t7 (fun t46 w =>
  M.indexSl 3 x1 (s1.getD 0 undef) (fun t49 w =>
  M.loadA 3 t49 (fun t50 w =>
  ((M.call Try.prog 17 #[t26, t28, t46, t50] (fun t51 w =>
  M.extract 0 t51 (fun t52 w =>
  M.extract 1 t51 (fun t53 w =>
  M.new 48 #[.int .i64 0, .slice none 0 0, .slice none 0 0] (fun t9 w =>
  M.store 3 t9 t52 (fun _ w =>
  K3 [t9, t53] w) w) w) w) w) w) ∧
   (M.new 48 #[.int .i64 0, .slice none 0 0, .slice none 0 0] (fun t9_2 w =>
  ((M.loadA 3 t49 (fun v' _ => v' = t50) w) ∧ ((M.loadA 3 t7 (fun v' _ => v' = t46) w) ∧ M.call Try.prog 17 #[t26, t28, t46, t50] (fun t51_2 w =>
  M.extract 0 t51_2 (fun t52_2 w =>
  M.extract 1 t51_2 (fun t53_2 w =>
  M.store 3 t9_2 t52_2 (fun _ w =>
  K3 [t9_2, t53_2] w) w) w) w) w))) w))) w) w) w) w) (fun s3 w => ∀ _ : List Value,
  M.loadA 3 (s3.getD 0 undef) (fun t54 w =>
  M.store 3 t7 t54 (fun _ w =>
  M.draw (fun w =>
  M.not (s3.getD 1 undef) (fun t56 w =>
  M.gd t56 false (fun k w => k t28 w) (fun t58 w =>
  M.gd t56 false (fun k w => M.loadA 3 t7 k w) (fun t60 w =>
  M.gd t56 false (fun k w => M.call Try.prog 12 #[t58] k w) (fun t59 w =>
  ((M.gd t56 false (fun k w => M.loadA 3 t7 k w) (fun v' _ => v' = t60) w) ∧ M.gd t56 false (fun k w => M.call Try.prog 18 #[t60] k w) (fun t61 w =>
  M.gd t56 false (fun k w => M.len t61 k w) (fun t62 w =>
  M.gd t56 false (fun k w => M.bin .neq t59 t62 k w) (fun t63 w =>
  M.pick t56 (Value.bool true) t63 (fun t64 w =>
  M.cond t64
  (R (Value.bool false) w)
  (M.loadA 3 t7 (fun t68 w =>
  M.call Try.prog 19 #[t26, t28, t68] (fun t69 w =>
  M.extract 0 t69 (fun t70 w =>
  M.extract 1 t69 (fun t71 w =>
  M.not t70 (fun t73 w =>
  M.cond t73
  (R (Value.bool false) w)
  (M.gd t71 true (fun k w => k t26 w) (fun t76 w =>
  M.gd t71 true (fun k w => M.call Try.prog 20 #[t76] k w) (fun t77 w =>
  M.gd t71 true (fun k w => M.bin .eql t77 (Value.int IntKind.i64 0) k w) (fun t78 w =>
  M.pick t71 t78 (Value.bool false) (fun t79 w =>
  M.cond t79
  (M.call Try.prog 14 #[] (fun t80 w =>
  R t80 w) w)
  (M.cond t71
  (M.call Try.prog 20 #[t26] (fun t84 w =>
  M.bin .sub t84 (Value.int IntKind.i64 1) (fun t85 w =>
  M.call Try.prog 21 #[t26, t85] (fun t86 w =>
  K2 [] w) w) w) w)
  (K2 [] w))) w) w) w) w)) w) w) w) w) w)) w) w) w) w)) w) w) w) w) w) w) w) w) (fun s2 w => ∀ _ : List Value,
  M.bin .add (s1.getD 0 undef) (Value.int IntKind.i64 1) (fun t42 w =>
  K1 [t42] w) w) w)
  (M.call Try.prog 14 #[] (fun t87 w =>
  R t87 w) w)) w) w) w)) w) w) w) w) w) w) w) w) w)) w) w) w) w) w) w) w) w
theorem ok4 (x0 x1 : Value) (R : Kt) (w : World) (h : sh4 x0 x1 R w) : Ret Try.prog 4 #[x0, x1] w R :=
  ret_mk <| calls_of_comp mixed (c := Try.f4.body.getD .skip) (args := [x0, x1]) (rs := [(ResultVar.tmp 4)]) (Ann.seq Ann.text (Ann.seq (Ann.seq Ann.text (Ann.cond (Ann.seq Ann.text Ann.leaf) Ann.leaf)) (Ann.seq Ann.text (Ann.seq (Ann.seq Ann.text (Ann.cond (Ann.seq Ann.text Ann.leaf) Ann.leaf)) (Ann.seq (Ann.seq Ann.text (Ann.block (Ann.loop [8] [4, 9, 10, 11, 12, 37, 38, 39, 40, 41, 42, 43, 44, 45, 46, 47, 48, 49, 50, 51, 52, 53, 54, 55, 56, 57, 58, 59, 60, 61, 62, 63, 64, 65, 66, 67, 68, 69, 70, 71, 72, 73, 74, 75, 76, 77, 78, 79, 80, 81, 82, 83, 84, 85, 86] (Ann.seq (Ann.seq Ann.text (Ann.cond Ann.leaf Ann.leaf)) (Ann.seq (Ann.jblock [] [4, 9, 10, 11, 12, 43, 44, 45, 46, 47, 48, 49, 50, 51, 52, 53, 54, 55, 56, 57, 58, 59, 60, 61, 62, 63, 64, 65, 66, 67, 68, 69, 70, 71, 72, 73, 74, 75, 76, 77, 78, 79, 80, 81, 82, 83, 84, 85, 86] (Ann.join [9, 10] [43, 44, 45, 46, 47, 48, 49, 50, 51, 52, 53] (Ann.draw (Sch.take 0 (Sch.take 1 (Sch.take 2 (Sch.take 3 (Sch.take 4 (Sch.take 5 (Sch.take 6 (Sch.two 7 11 (Sch.take 8 (Sch.take 9 (Sch.take 10 (Sch.one 11 (Sch.one 12 (Sch.take 13 Sch.done)))))) (Sch.one 7 (Sch.take 8 (Sch.take 9 (Sch.take 10 (Sch.one 12 (Sch.take 13 Sch.done))))))))))))))) (Ann.seq Ann.text (Ann.seq (Ann.seq (Ann.draw (Sch.take 0 (Sch.take 1 (Sch.take 2 (Sch.take 3 (Sch.take 5 (Sch.one 4 (Sch.one 6 (Sch.take 7 (Sch.take 8 (Sch.take 9 Sch.done))))))))))) (Ann.cond (Ann.seq Ann.text Ann.leaf) Ann.leaf)) (Ann.seq Ann.text (Ann.seq (Ann.seq Ann.text (Ann.cond (Ann.seq Ann.text Ann.leaf) Ann.leaf)) (Ann.seq (Ann.seq Ann.text (Ann.cond (Ann.seq Ann.text Ann.leaf) Ann.leaf)) (Ann.seq Ann.text (Ann.cond Ann.text Ann.leaf))))))))) Ann.text))))) (Ann.seq Ann.text Ann.leaf))))))
    Try.func4 (by kernel_rfl) (by kernel_rfl)
    (Eq.mp (by kernel_rfl) h)

theorem fewD_iff {ds : List Dd} (h : fewD ds = true) : ds.length ≤ 60 ∧ ∀ d ∈ ds, d.l.length ≤ 12 := by
  unfold fewD at h
  simp only [Bool.and_eq_true, decide_eq_true_eq, List.all_eq_true] at h
  exact h
/-- The state between two deeds. -/
def PSt (W : World) (p q n7 i : Nat) (w' : World) : Prop := ∃ t s x O bk cv wv a b, TWR w' p q O bk cv wv t s ∧ Inv t s (41 * i) (5000 * i) i ∧ Rel x s ∧ OkP x ∧ x.P.length ≤ i ∧ XRD w' (fun b => ¬ O b ∧ b ≠ n7) a b x ∧ Blk w' n7 [vi x.vars, a, b] ∧ Frs W w' O ∧ ¬ O n7
/-- The state behind a deed. -/
def PSa (W : World) (p q n7 n9 i : Nat) (w' : World) : Prop := ∃ t s x O bk cv wv a b l7, TWR w' p q O bk cv wv t s ∧ Inv t s (41 * i + 1) (5000 * i + 1) (i + 1) ∧ Rel x s ∧ OkP x ∧ x.P.length ≤ i + 1 ∧ XRD w' (fun b => ¬ O b ∧ b ≠ n7 ∧ b ≠ n9) a b x ∧ Blk w' n9 [vi x.vars, a, b] ∧ Blk w' n7 l7 ∧ l7.length = 3 ∧ Frs W w' O ∧ ¬ O n7 ∧ ¬ O n9 ∧ n7 ≠ n9 ∧ W.heap.size ≤ n9
set_option maxHeartbeats 8000000 in
theorem watchPlays_ret {W : World} {v : Value} {ds : List Dd} (vars : Int) (hl : DL W (· < W.heap.size) v ds) (hI : ∀ d ∈ ds, ∀ y ∈ d.l, I64 y) :
    Ret Try.prog 4 #[vi vars, v] W (fun r w' => r = .bool true ∧ Keep W w' No) := by
  obtain ⟨A, c, cs, rfl, hr, hcap⟩ := id hl
  refine ok4 _ _ _ _ ?_
  unfold sh4
  refine M.call_i (few11_ret hl) ?_; rintro _ w1 ⟨rfl, k1⟩
  cases hf : fewD ds with
  | false =>
    (repeat (first|refine ja ?_|refine jb ?_|refine jc ?_|refine jd ?_|refine je ?_|refine jf ?_|refine jg ?_|refine jh ?_|refine ji ?_|refine jj ?_|refine jk ?_|refine jl ?_|refine jm ?_|refine jn ?_|refine jo ?_|refine jp ?_|refine jq ?_|refine jr ?_|refine js ?_|refine jt ?_|refine ju ?_|refine jv ?_|refine jw ?_|refine jx ?_|refine jy ?_|refine jz ?_|refine jA ?_|refine jB ?_|refine jC ?_|refine jD ?_|refine jE ?_|refine jF ?_|refine jG ?_|refine jH ?_|refine jI ?_|refine jJ ?_|refine jK ?_|refine jL ?_|refine jM (by assumption) ?_|refine jN (by assumption) rfl ?_|refine jO (by assumption) ?_|refine jP (by assumption) rfl ?_|refine jQ ?_|refine jR ?_|refine jS ?_|refine jT ?_|refine jU (by assumption) rfl ?_))
    refine M.call_i (awake11_ret w1) ?_; rintro _ w2 ⟨rfl, k2⟩
    exact ⟨rfl, k1.trans k2 (fun _ _ h => h)⟩
  | true =>
    obtain ⟨h60, h12⟩ := fewD_iff hf
    by_cases h40 : 40 < vars
    · (repeat (first|refine ja ?_|refine jb ?_|refine jc ?_|refine jd ?_|refine je ?_|refine jf ?_|refine jg ?_|refine jh ?_|refine ji ?_|refine jj ?_|refine jk ?_|refine jl ?_|refine jm ?_|refine jn ?_|refine jo ?_|refine jp ?_|refine jq ?_|refine jr ?_|refine js ?_|refine jt ?_|refine ju ?_|refine jv ?_|refine jw ?_|refine jx ?_|refine jy ?_|refine jz ?_|refine jA ?_|refine jB ?_|refine jC ?_|refine jD ?_|refine jE ?_|refine jF ?_|refine jG ?_|refine jH ?_|refine jI ?_|refine jJ ?_|refine jK ?_|refine jL ?_|refine jM (by assumption) ?_|refine jN (by assumption) rfl ?_|refine jO (by assumption) ?_|refine jP (by assumption) rfl ?_|refine jQ ?_|refine jR ?_|refine jS ?_|refine jT ?_|refine jU (by assumption) rfl ?_))
      refine M.call_i (awake11_ret w1) ?_; rintro _ w2 ⟨rfl, k2⟩
      exact ⟨rfl, k1.trans k2 (fun _ _ h => h)⟩
    by_cases h0 : vars < 0
    · (repeat (first|refine ja ?_|refine jb ?_|refine jc ?_|refine jd ?_|refine je ?_|refine jf ?_|refine jg ?_|refine jh ?_|refine ji ?_|refine jj ?_|refine jk ?_|refine jl ?_|refine jm ?_|refine jn ?_|refine jo ?_|refine jp ?_|refine jq ?_|refine jr ?_|refine js ?_|refine jt ?_|refine ju ?_|refine jv ?_|refine jw ?_|refine jx ?_|refine jy ?_|refine jz ?_|refine jA ?_|refine jB ?_|refine jC ?_|refine jD ?_|refine jE ?_|refine jF ?_|refine jG ?_|refine jH ?_|refine jI ?_|refine jJ ?_|refine jK ?_|refine jL ?_|refine jM (by assumption) ?_|refine jN (by assumption) rfl ?_|refine jO (by assumption) ?_|refine jP (by assumption) rfl ?_|refine jQ ?_|refine jR ?_|refine jS ?_|refine jT ?_|refine jU (by assumption) rfl ?_))
      refine M.call_i (awake11_ret w1) ?_; rintro _ w2 ⟨rfl, k2⟩
      exact ⟨rfl, k1.trans k2 (fun _ _ h => h)⟩
    obtain ⟨n, rfl⟩ : ∃ n : Nat, vars = n := ⟨vars.toNat, by omega⟩
    (repeat (first|refine ja ?_|refine jb ?_|refine jc ?_|refine jd ?_|refine je ?_|refine jf ?_|refine jg ?_|refine jh ?_|refine ji ?_|refine jj ?_|refine jk ?_|refine jl ?_|refine jm ?_|refine jn ?_|refine jo ?_|refine jp ?_|refine jq ?_|refine jr ?_|refine js ?_|refine jt ?_|refine ju ?_|refine jv ?_|refine jw ?_|refine jx ?_|refine jy ?_|refine jz ?_|refine jA ?_|refine jB ?_|refine jC ?_|refine jD ?_|refine jE ?_|refine jF ?_|refine jG ?_|refine jH ?_|refine jI ?_|refine jJ ?_|refine jK ?_|refine jL ?_|refine jM (by assumption) ?_|refine jN (by assumption) rfl ?_|refine jO (by assumption) ?_|refine jP (by assumption) rfl ?_|refine jQ ?_|refine jR ?_|refine jS ?_|refine jT ?_|refine jU (by assumption) rfl ?_))
    refine M.call_i (new_ret n w1) ?_; rintro _ w2 ⟨p, lab, rfl, ht2, k2, hlab⟩
    refine M.call_i (wnew_ret n w2) ?_; rintro _ w3 ⟨q, ow, rr, vb, bvs, rfl, hw3, k3, how⟩
    have h3 := TWR.new ht2 k3 hw3 how
    have q1 := k1.size
    have q2 := k2.size
    have fr3 : Frs W w3 (fun b => lab b ≠ 0 ∨ ow b ≠ 0) := ⟨(k1.trans k2 (fun _ _ h => h)).trans k3 (fun _ _ h => h), fun b hb => by
      rcases hb with e | e
      · have := hlab b e; omega
      · have := how b e; omega⟩
    generalize (fun b => lab b ≠ 0 ∨ ow b ≠ 0) = O0 at h3 fr3
    refine M.call_i (rnew11_ret (n := n) (by omega) w3) ?_; rintro _ w4 ⟨rfl, k4⟩
    refine M.new_i (l := [vi 0, .slice none 0 0, .slice none 0 0]) (fun w5 b5 k5 s5 => ?_)
    refine M.storeAll_i b5 rfl rfl (List.all_eq_true.1 rfl) (fun w6 b6 k6 s6 => ?_)
    have q3 := k3.size
    have q4 := k4.size
    have hO4 : ∀ b, O0 b → b < w3.heap.size := fun b e => h3.lt e
    have h6 := ((h3.keepN k4).keepN k5).keep k6 (fun b hb e e2 => by have e2 : b = w4.heap.size := e2; have := hO4 b e; omega)
    have fr6 : Frs W w6 O0 := ⟨((fr3.1.trans k4 (fun _ _ h => h)).trans k5 (fun _ _ h => h)).trans k6 (fun j hj e => by have e : j = w4.heap.size := e; omega), fr3.2⟩
    have hn7 : W.heap.size ≤ w4.heap.size := by omega
    have hst : PSt W p q w4.heap.size 0 w6 := ⟨_, _, ⟨n, []⟩, O0, _, _, _, _, _, h6, inv_new n (by omega), ⟨by
                                                                                        show n = (if ((n : Nat) : Int) < 0 ∨ 1048576 < ((n : Nat) : Int) then 0 else ((n : Nat) : Int).toNat)
                                                                                        rw [if_neg (by omega)]; omega, rfl, CEq.refl _⟩, fun p hp => by simp at hp, Nat.le_refl _, xr_nil w6 (fun b => ¬ (¬ O0 b ∧ b ≠ w4.heap.size)) n |>.imp (fun h => h.mono (fun _ _ e => Classical.not_not.1 e)) (fun h => h.mono (fun _ _ e => Classical.not_not.1 e)), b6, fr6, fun e => by have := hO4 _ e; omega⟩
    generalize w4.heap.size = n7 at hst hn7
    clear h6 fr6 b6 b5
    (repeat (first|refine ja ?_|refine jb ?_|refine jc ?_|refine jd ?_|refine je ?_|refine jf ?_|refine jg ?_|refine jh ?_|refine ji ?_|refine jj ?_|refine jk ?_|refine jl ?_|refine jm ?_|refine jn ?_|refine jo ?_|refine jp ?_|refine jq ?_|refine jr ?_|refine js ?_|refine jt ?_|refine ju ?_|refine jv ?_|refine jw ?_|refine jx ?_|refine jy ?_|refine jz ?_|refine jA ?_|refine jB ?_|refine jC ?_|refine jD ?_|refine jE ?_|refine jF ?_|refine jG ?_|refine jH ?_|refine jI ?_|refine jJ ?_|refine jK ?_|refine jL ?_|refine jM (by assumption) ?_|refine jN (by assumption) rfl ?_|refine jO (by assumption) ?_|refine jP (by assumption) rfl ?_|refine jQ ?_|refine jR ?_|refine jS ?_|refine jT ?_|refine jU (by assumption) rfl ?_))
    refine M.loop_i (σ := Nat) (fun i vals w' => vals = [vi i] ∧ i ≤ ds.length ∧ PSt W p q n7 i w') (fun i => ds.length - i) 0 ⟨rfl, by omega, hst⟩ ?_
    rintro i vals w7 K ⟨rfl, hi, hst⟩ hK _
    simp only [List.getD_cons_zero, List.getD_cons_succ]
    by_cases hlt : i < ds.length
    · obtain ⟨d, hd⟩ : ∃ d, ds[i]? = some d := ⟨_, List.getElem?_eq_getElem hlt⟩
      have hdm := List.mem_of_getElem? hd
      obtain ⟨t, s, x, O, bk, cv, wv, a, b, h7, I, r, okp, hxl, hx7, b7, fr, hn⟩ := hst
      (repeat (first|refine ja ?_|refine jb ?_|refine jc ?_|refine jd ?_|refine je ?_|refine jf ?_|refine jg ?_|refine jh ?_|refine ji ?_|refine jj ?_|refine jk ?_|refine jl ?_|refine jm ?_|refine jn ?_|refine jo ?_|refine jp ?_|refine jq ?_|refine jr ?_|refine js ?_|refine jt ?_|refine ju ?_|refine jv ?_|refine jw ?_|refine jx ?_|refine jy ?_|refine jz ?_|refine jA ?_|refine jB ?_|refine jC ?_|refine jD ?_|refine jE ?_|refine jF ?_|refine jG ?_|refine jH ?_|refine jI ?_|refine jJ ?_|refine jK ?_|refine jL ?_|refine jM (by assumption) ?_|refine jN (by assumption) rfl ?_|refine jO (by assumption) ?_|refine jP (by assumption) rfl ?_|refine jQ ?_|refine jR ?_|refine jS ?_|refine jT ?_|refine jU (by assumption) rfl ?_))
      refine M.share_j (fun vals w' => vals = [] ∧ PSt W p q n7 (i + 1) w') ?_ ?_
      · rintro vals w8 ⟨rfl, hst⟩ _
        (repeat (first|refine ja ?_|refine jb ?_|refine jc ?_|refine jd ?_|refine je ?_|refine jf ?_|refine jg ?_|refine jh ?_|refine ji ?_|refine jj ?_|refine jk ?_|refine jl ?_|refine jm ?_|refine jn ?_|refine jo ?_|refine jp ?_|refine jq ?_|refine jr ?_|refine js ?_|refine jt ?_|refine ju ?_|refine jv ?_|refine jw ?_|refine jx ?_|refine jy ?_|refine jz ?_|refine jA ?_|refine jB ?_|refine jC ?_|refine jD ?_|refine jE ?_|refine jF ?_|refine jG ?_|refine jH ?_|refine jI ?_|refine jJ ?_|refine jK ?_|refine jL ?_|refine jM (by assumption) ?_|refine jN (by assumption) rfl ?_|refine jO (by assumption) ?_|refine jP (by assumption) rfl ?_|refine jQ ?_|refine jR ?_|refine jS ?_|refine jT ?_|refine jU (by assumption) rfl ?_))
        exact hK (i + 1) _ _ (by omega) ⟨by simp, by omega, hst⟩
      · intro K2 hK2
        refine M.share_j (fun vals w' => ∃ n9, vals = [ptr n9, .bool true] ∧ PSa W p q n7 n9 i w') ?_ ?_
        · rintro vals w8 ⟨n9, rfl, hst⟩ _
          simp only [List.getD_cons_zero, List.getD_cons_succ]
          obtain ⟨t, s, x, O, bk, cv, wv, a, b, l7, h8, I, r, okp, hxl, hx8, b9, b7, hl7, fr, hn7', hn9, hne, hw9⟩ := hst
          refine M.loadAll_i b9 rfl ?_
          refine M.storeAll_i b7 rfl hl7 (by simp only [List.mem_cons, List.not_mem_nil, or_false, forall_eq_or_imp, forall_eq]; exact ⟨rfl, hx8.1.one, LV.one hx8.2⟩) (fun w9 b7 k9 s9 => ?_)
          have k9 := k9.to_drew
          have h9 := h8.keep k9 (fun b hb e e2 => by have e2 : b = n7 := e2; subst e2; exact hn7' e)
          have hx9 := (hx8.keep k9 (fun b hb e e2 => e.2.1 e2)).mono (D' := fun b => ¬ O b ∧ b ≠ n7) (fun b hb e => ⟨e.1, e.2.1⟩)
          have b7 := b7.keep (Keep.drew w9 No) (fun h => h)
          have hlt7 := b7.lt
          have fr9 : Frs W w9.drew O := ⟨fr.1.trans k9 (fun j hj e => by have e : j = n7 := e; omega), fr.2⟩
          have hxo : XR w9.drew O a b x := hx9.mono (fun b hb e => e.1)
          (repeat (first|refine ja ?_|refine jb ?_|refine jc ?_|refine jd ?_|refine je ?_|refine jf ?_|refine jg ?_|refine jh ?_|refine ji ?_|refine jj ?_|refine jk ?_|refine jl ?_|refine jm ?_|refine jn ?_|refine jo ?_|refine jp ?_|refine jq ?_|refine jr ?_|refine js ?_|refine jt ?_|refine ju ?_|refine jv ?_|refine jw ?_|refine jx ?_|refine jy ?_|refine jz ?_|refine jA ?_|refine jB ?_|refine jC ?_|refine jD ?_|refine jE ?_|refine jF ?_|refine jG ?_|refine jH ?_|refine jI ?_|refine jJ ?_|refine jK ?_|refine jL ?_|refine jM (by assumption) ?_|refine jN (by assumption) rfl ?_|refine jO (by assumption) ?_|refine jP (by assumption) rfl ?_|refine jQ ?_|refine jR ?_|refine jS ?_|refine jT ?_|refine jU (by assumption) rfl ?_))
          refine M.loadAll_i b7 rfl ?_
          (repeat (first|refine ja ?_|refine jb ?_|refine jc ?_|refine jd ?_|refine je ?_|refine jf ?_|refine jg ?_|refine jh ?_|refine ji ?_|refine jj ?_|refine jk ?_|refine jl ?_|refine jm ?_|refine jn ?_|refine jo ?_|refine jp ?_|refine jq ?_|refine jr ?_|refine js ?_|refine jt ?_|refine ju ?_|refine jv ?_|refine jw ?_|refine jx ?_|refine jy ?_|refine jz ?_|refine jA ?_|refine jB ?_|refine jC ?_|refine jD ?_|refine jE ?_|refine jF ?_|refine jG ?_|refine jH ?_|refine jI ?_|refine jJ ?_|refine jK ?_|refine jL ?_|refine jM (by assumption) ?_|refine jN (by assumption) rfl ?_|refine jO (by assumption) ?_|refine jP (by assumption) rfl ?_|refine jQ ?_|refine jR ?_|refine jS ?_|refine jT ?_|refine jU (by assumption) rfl ?_))
          refine M.call_i (wlen_ret h9) ?_; rintro _ w10 ⟨rfl, k10⟩
          have b7 := b7.keep k10 (fun h => h)
          (repeat (first|refine ja ?_|refine jb ?_|refine jc ?_|refine jd ?_|refine je ?_|refine jf ?_|refine jg ?_|refine jh ?_|refine ji ?_|refine jj ?_|refine jk ?_|refine jl ?_|refine jm ?_|refine jn ?_|refine jo ?_|refine jp ?_|refine jq ?_|refine jr ?_|refine js ?_|refine jt ?_|refine ju ?_|refine jv ?_|refine jw ?_|refine jx ?_|refine jy ?_|refine jz ?_|refine jA ?_|refine jB ?_|refine jC ?_|refine jD ?_|refine jE ?_|refine jF ?_|refine jG ?_|refine jH ?_|refine jI ?_|refine jJ ?_|refine jK ?_|refine jL ?_|refine jM (by assumption) ?_|refine jN (by assumption) rfl ?_|refine jO (by assumption) ?_|refine jP (by assumption) rfl ?_|refine jQ ?_|refine jR ?_|refine jS ?_|refine jT ?_|refine jU (by assumption) rfl ?_))
          refine M.call_i (rall_ret (hxo.keepN k10) (by omega)) ?_; rintro lv w11 ⟨g11, k11⟩
          obtain ⟨A11, c11, vs11, rfl, _, _⟩ := id g11
          have hlen := r.len
          have b7 := b7.keep k11 (fun h => h)
          (repeat (first|refine ja ?_|refine jb ?_|refine jc ?_|refine jd ?_|refine je ?_|refine jf ?_|refine jg ?_|refine jh ?_|refine ji ?_|refine jj ?_|refine jk ?_|refine jl ?_|refine jm ?_|refine jn ?_|refine jo ?_|refine jp ?_|refine jq ?_|refine jr ?_|refine js ?_|refine jt ?_|refine ju ?_|refine jv ?_|refine jw ?_|refine jx ?_|refine jy ?_|refine jz ?_|refine jA ?_|refine jB ?_|refine jC ?_|refine jD ?_|refine jE ?_|refine jF ?_|refine jG ?_|refine jH ?_|refine jI ?_|refine jJ ?_|refine jK ?_|refine jL ?_|refine jM (by assumption) ?_|refine jN (by assumption) rfl ?_|refine jO (by assumption) ?_|refine jP (by assumption) rfl ?_|refine jQ ?_|refine jR ?_|refine jS ?_|refine jT ?_|refine jU (by assumption) rfl ?_))
          have k911 := k10.trans k11 (fun _ _ h => h)
          refine M.loadAll_i b7 rfl ?_
          refine M.call_i (run11_ret (h9.keepN k911) I (by omega) (by omega) (by omega) r (hxo.keepN k911) okp) ?_; rintro _ w12 ⟨t', s', O', wv', ii, ok, rfl, h12, m12, R⟩
          refine M.extract_i (v := .bool true) rfl ?_
          refine M.extract_i (v := .bool (!ok)) rfl ?_
          have k912 := k911
          have b7 := b7.keep m12.1 hn7'
          have m912 : OMod w9.drew w12 O O' := (OMod.of k911).trans m12
          have fr12 := fr9.step m912
          have hx12 := (hx9.keep m912.1 (fun b hb e e2 => e.1 e2))
          have hx12 := ((hx9.mono (D' := fun b => b < w9.drew.heap.size ∧ ¬ O b ∧ b ≠ n7) (fun b hb e => ⟨hb, e⟩)).keep m912.1 (fun b hb e e2 => e.2.1 e2)).mono (D' := fun b => ¬ O' b ∧ b ≠ n7) (fun b hb e => ⟨fun e2 => e.2.1 (m912.2 b e.1 e2), e.2.2⟩)
          have hv12 : s'.vars = s.vars := by
            obtain ⟨_, _, hxx⟩ := R.ext
            rw [R.wi.vars, hxx.vars, I.wi.vars]
          have r12 := r.ceq2 R.ceq R.ev hv12
          have hn12 : ¬ O' n7 := fun e => hn7' (m912.2 n7 hlt7 e)
          have I12 := (I.run h8.fine h12.fine R).mono (a' := 41 * (i + 1)) (b' := 5000 * (i + 1)) (c' := i + 1) (by omega) (by omega) (by omega)
          cases ok with
          | true =>
            (repeat (first|refine ja ?_|refine jb ?_|refine jc ?_|refine jd ?_|refine je ?_|refine jf ?_|refine jg ?_|refine jh ?_|refine ji ?_|refine jj ?_|refine jk ?_|refine jl ?_|refine jm ?_|refine jn ?_|refine jo ?_|refine jp ?_|refine jq ?_|refine jr ?_|refine js ?_|refine jt ?_|refine ju ?_|refine jv ?_|refine jw ?_|refine jx ?_|refine jy ?_|refine jz ?_|refine jA ?_|refine jB ?_|refine jC ?_|refine jD ?_|refine jE ?_|refine jF ?_|refine jG ?_|refine jH ?_|refine jI ?_|refine jJ ?_|refine jK ?_|refine jL ?_|refine jM (by assumption) ?_|refine jN (by assumption) rfl ?_|refine jO (by assumption) ?_|refine jP (by assumption) rfl ?_|refine jQ ?_|refine jR ?_|refine jS ?_|refine jT ?_|refine jU (by assumption) rfl ?_|refine jG ?_ (by decide)|refine jH ?_ (by decide)|refine jI ?_ (by decide)|refine jJ ?_ (by decide)|refine jC ?_ (by decide)|refine jy ?_ (by decide)))
            exact hK2 _ _ ⟨rfl, t', s', x, O', bk, cv, wv', a, b, h12, I12, r12, okp, hxl, hx12, b7, fr12, hn12⟩
          | false =>
            (repeat (first|refine ja ?_|refine jb ?_|refine jc ?_|refine jd ?_|refine je ?_|refine jf ?_|refine jg ?_|refine jh ?_|refine ji ?_|refine jj ?_|refine jk ?_|refine jl ?_|refine jm ?_|refine jn ?_|refine jo ?_|refine jp ?_|refine jq ?_|refine jr ?_|refine js ?_|refine jt ?_|refine ju ?_|refine jv ?_|refine jw ?_|refine jx ?_|refine jy ?_|refine jz ?_|refine jA ?_|refine jB ?_|refine jC ?_|refine jD ?_|refine jE ?_|refine jF ?_|refine jG ?_|refine jH ?_|refine jI ?_|refine jJ ?_|refine jK ?_|refine jL ?_|refine jM (by assumption) ?_|refine jN (by assumption) rfl ?_|refine jO (by assumption) ?_|refine jP (by assumption) rfl ?_|refine jQ ?_|refine jR ?_|refine jS ?_|refine jT ?_|refine jU (by assumption) rfl ?_|refine jG ?_ (by decide)|refine jH ?_ (by decide)|refine jI ?_ (by decide)|refine jJ ?_ (by decide)|refine jC ?_ (by decide)|refine jy ?_ (by decide)))
            refine M.call_i (lvs_tw h12) ?_; rintro _ w13 ⟨rfl, k13⟩
            have h13 := h12.keepN k13
            have hbl : t'.begins.length ≤ 1048578 := by
              obtain ⟨_, _, _, ok⟩ := h12.fine
              have := ok.lbeg
              have := ok.llen
              have := ok.vars
              omega
            by_cases hz : t'.begins.length = 0
            · (repeat (first|refine ja ?_|refine jb ?_|refine jc ?_|refine jd ?_|refine je ?_|refine jf ?_|refine jg ?_|refine jh ?_|refine ji ?_|refine jj ?_|refine jk ?_|refine jl ?_|refine jm ?_|refine jn ?_|refine jo ?_|refine jp ?_|refine jq ?_|refine jr ?_|refine js ?_|refine jt ?_|refine ju ?_|refine jv ?_|refine jw ?_|refine jx ?_|refine jy ?_|refine jz ?_|refine jA ?_|refine jB ?_|refine jC ?_|refine jD ?_|refine jE ?_|refine jF ?_|refine jG ?_|refine jH ?_|refine jI ?_|refine jJ ?_|refine jK ?_|refine jL ?_|refine jM (by assumption) ?_|refine jN (by assumption) rfl ?_|refine jO (by assumption) ?_|refine jP (by assumption) rfl ?_|refine jQ ?_|refine jR ?_|refine jS ?_|refine jT ?_|refine jU (by assumption) rfl ?_))
              refine M.call_i (awake11_ret w13) ?_; rintro _ w14 ⟨rfl, k14⟩
              exact ⟨rfl, (fr12.keep k13).1.trans k14 (fun _ _ h => h)⟩
            · (repeat (first|refine ja ?_|refine jb ?_|refine jc ?_|refine jd ?_|refine je ?_|refine jf ?_|refine jg ?_|refine jh ?_|refine ji ?_|refine jj ?_|refine jk ?_|refine jl ?_|refine jm ?_|refine jn ?_|refine jo ?_|refine jp ?_|refine jq ?_|refine jr ?_|refine js ?_|refine jt ?_|refine ju ?_|refine jv ?_|refine jw ?_|refine jx ?_|refine jy ?_|refine jz ?_|refine jA ?_|refine jB ?_|refine jC ?_|refine jD ?_|refine jE ?_|refine jF ?_|refine jG ?_|refine jH ?_|refine jI ?_|refine jJ ?_|refine jK ?_|refine jL ?_|refine jM (by assumption) ?_|refine jN (by assumption) rfl ?_|refine jO (by assumption) ?_|refine jP (by assumption) rfl ?_|refine jQ ?_|refine jR ?_|refine jS ?_|refine jT ?_|refine jU (by assumption) rfl ?_))
              refine M.call_i (lvs_tw h13) ?_; rintro _ w14 ⟨rfl, k14⟩
              (repeat (first|refine ja ?_|refine jb ?_|refine jc ?_|refine jd ?_|refine je ?_|refine jf ?_|refine jg ?_|refine jh ?_|refine ji ?_|refine jj ?_|refine jk ?_|refine jl ?_|refine jm ?_|refine jn ?_|refine jo ?_|refine jp ?_|refine jq ?_|refine jr ?_|refine js ?_|refine jt ?_|refine ju ?_|refine jv ?_|refine jw ?_|refine jx ?_|refine jy ?_|refine jz ?_|refine jA ?_|refine jB ?_|refine jC ?_|refine jD ?_|refine jE ?_|refine jF ?_|refine jG ?_|refine jH ?_|refine jI ?_|refine jJ ?_|refine jK ?_|refine jL ?_|refine jM (by assumption) ?_|refine jN (by assumption) rfl ?_|refine jO (by assumption) ?_|refine jP (by assumption) rfl ?_|refine jQ ?_|refine jR ?_|refine jS ?_|refine jT ?_|refine jU (by assumption) rfl ?_))
              have h14 := h13.keepN k14
              have k1214 := k13.trans k14 (fun _ _ h => h)
              refine M.call_i (back_tw h14 (t'.begins.length - 1)) ?_; rintro _ w15 ⟨_, h15, k15⟩
              have fr15 := (fr12.keep k1214).step ⟨k15, fun _ _ e => e⟩
              exact hK2 _ _ ⟨rfl, (t'.back (t'.begins.length - 1)).1, s', x, O', bk, cv, wv', a, b, h15, I12.back h12.fine _, r12, okp, hxl, (hx12.keep k1214 (fun _ _ _ h => h)).keep k15 (fun b hb e e2 => e.1 e2), (b7.keep k1214 (fun h => h)).keep k15 hn12, fr15, hn12⟩
        · intro K3 hK3
          have kd := Keep.drew w7 No
          have b7d := b7.keep kd (fun h => h)
          have h7d := h7.keepN kd
          have hx7d := hx7.keep kd (fun _ _ _ h => h)
          have frd := fr.keep kd
          have hrd := hr.keep frd.1 (fun _ _ _ h => h)
          (repeat (first|refine ja ?_|refine jb ?_|refine jc ?_|refine jd ?_|refine je ?_|refine jf ?_|refine jg ?_|refine jh ?_|refine ji ?_|refine jj ?_|refine jk ?_|refine jl ?_|refine jm ?_|refine jn ?_|refine jo ?_|refine jp ?_|refine jq ?_|refine jr ?_|refine js ?_|refine jt ?_|refine ju ?_|refine jv ?_|refine jw ?_|refine jx ?_|refine jy ?_|refine jz ?_|refine jA ?_|refine jB ?_|refine jC ?_|refine jD ?_|refine jE ?_|refine jF ?_|refine jG ?_|refine jH ?_|refine jI ?_|refine jJ ?_|refine jK ?_|refine jL ?_|refine jM (by assumption) ?_|refine jN (by assumption) rfl ?_|refine jO (by assumption) ?_|refine jP (by assumption) rfl ?_|refine jQ ?_|refine jR ?_|refine jS ?_|refine jT ?_|refine jU (by assumption) rfl ?_))
          refine M.loadAll_i b7d rfl ?_
          refine M.idxD_i hrd rfl hd (fun bb oo u c0 c1 c2 hu => ?_)
          refine M.load3_i c0 c1 c2 ?_
          have hx40 : x.vars = s.vars := r.vars
          have hO7 : ∀ b, O b → b < w7.heap.size := fun b e => h7.lt e
          have hlt7 := b7.lt
          have fin : ∀ (w1 w2 w4 : World) (D O' : Nat → Prop) (t' : Tr) (s' : Wt) (x' : X11) (bk' : Nat → Nat) (cv' : Nat → Value) (wv' a' b' : Value) (f : Bool) (n9 : Nat) (l7 : List Value), TWR w2 p q O' bk' cv' wv' t' s' → OMod w1 w2 O O' → XRD w2 (fun b => (D b ∨ w1.heap.size ≤ b) ∧ ¬ O' b) a' b' x' → Actd d.kind t s x t' s' x' f → Keep w7 w1 No → Keep w2 w4 (· = n9) → Blk w4 n9 [vi x'.vars, a', b'] →
              (∀ b, b < w2.heap.size → (D b ∨ w1.heap.size ≤ b) → b ≠ n7 ∧ b ≠ n9) → (n9 < w1.heap.size ∨ w2.heap.size ≤ n9) → w7.heap.size ≤ n9 → Blk w4 n7 l7 → l7.length = 3 → K3 [ptr n9, .bool f] w4 := by
            intro w1 w2 w4 D O' t' s' x' bk' cv' wv' a' b' f n9 l7 g1 g2 g3 g4 k1 k4 g5 g6 g7 g8 g9 g10
            obtain ⟨e1, r'⟩ := g4.rel r
            subst e1
            have q1 := k1.size
            have hO' : ∀ b, b < w1.heap.size → O' b → O b := g2.2
            have n9' : ¬ O' n9 := fun e => by
              rcases g7 with g7 | g7
              · have := hO7 _ (hO' _ g7 e); omega
              · have := g1.lt e; omega
            have fr2 := (fr.keep k1).step g2
            refine hK3 _ _ ⟨n9, rfl, t', s', x', O', bk', cv', wv', a', b', l7, g1.keep k4 (fun b hb e e2 => by have e2 : b = n9 := e2; subst e2; exact n9' e), g4.inv _ _ _ (by omega) I, r', g4.ok okp, by have := g4.len; omega, ?_, g5, g9, g10, ⟨fr2.1.trans k4 (fun j hj e => by have e : j = n9 := e; have := fr.1.size; omega), fr2.2⟩, fun e => by have := hO' _ (by omega) e; exact hn this, n9', by omega, by have := fr.1.size; omega⟩
            exact ((g3.mono (D' := fun b => b < w2.heap.size ∧ ((D b ∨ w1.heap.size ≤ b) ∧ ¬ O' b)) (fun b hb e => ⟨hb, e⟩)).keep k4 (fun b hb e e2 => (g6 b hb e.2.1).2 e2)).mono (fun b hb e => ⟨e.2.2, g6 b e.1 e.2.1⟩)
          refine ⟨?_, ?_⟩
          · refine M.call_i (act_ret (D := fun b => ¬ O b ∧ b ≠ n7) h7d I (by omega) (by omega) (by omega) (fun _ _ e => e.1) hx7d (by omega) r.vars (hu.mono (fun b hb e => ⟨fun e2 => by have := frd.2 b e2; have e : b < W.heap.size := e; omega, by have e : b < W.heap.size := e; omega⟩)) (h12 d hdm) (hI d hdm)) ?_; rintro _ w9 ⟨t', s', x', O', bk', cv', wv', a', b', f, rfl, g1, g2, g3, g4⟩
            refine M.extract_i (v := .agg ⟨[vi x'.vars, a', b']⟩) rfl ?_
            refine M.extract_i (v := .bool f) rfl ?_
            refine M.new_i (l := [vi 0, .slice none 0 0, .slice none 0 0]) (fun w10 b9 k10 s10 => ?_)
            refine M.storeAll_i b9 rfl rfl (by simp only [List.mem_cons, List.not_mem_nil, or_false, forall_eq_or_imp, forall_eq]; exact ⟨rfl, g3.1.one, LV.one g3.2⟩) (fun w11 b9 k11 s11 => ?_)
            have q9 := g2.1.size
            have q9 : w7.heap.size ≤ w9.heap.size := q9
            exact fin w7.drew w9 w11 _ O' t' s' x' bk' cv' wv' a' b' f w9.heap.size _ g1 g2 g3 g4 kd ((k10.mono (fun _ _ e => e.elim)).trans k11 (fun _ _ e => e)) b9 (fun y hy e => ⟨by
              rcases e with e | e
              · exact e.2
              · have e : w7.heap.size ≤ y := e; omega, by omega⟩) (.inr (Nat.le_refl _)) q9 (((b7d.keep g2.1 hn).keep k10 (fun h => h)).keep k11 (by omega)) rfl
          · refine M.new_i (l := [vi 0, .slice none 0 0, .slice none 0 0]) (fun w8 b9 k8 s8 => ?_)
            have hc0 := k8.cell (fun h => h) c0
            have hc1 := k8.cell (fun h => h) c1
            have hc2 := k8.cell (fun h => h) c2
            refine M.st3_i hc0 hc1 hc2 ?_
            have b78 := b7d.keep k8 (fun h => h)
            (repeat (first|refine ja ?_|refine jb ?_|refine jc ?_|refine jd ?_|refine je ?_|refine jf ?_|refine jg ?_|refine jh ?_|refine ji ?_|refine jj ?_|refine jk ?_|refine jl ?_|refine jm ?_|refine jn ?_|refine jo ?_|refine jp ?_|refine jq ?_|refine jr ?_|refine js ?_|refine jt ?_|refine ju ?_|refine jv ?_|refine jw ?_|refine jx ?_|refine jy ?_|refine jz ?_|refine jA ?_|refine jB ?_|refine jC ?_|refine jD ?_|refine jE ?_|refine jF ?_|refine jG ?_|refine jH ?_|refine jI ?_|refine jJ ?_|refine jK ?_|refine jL ?_|refine jM (by assumption) ?_|refine jN (by assumption) rfl ?_|refine jO (by assumption) ?_|refine jP (by assumption) rfl ?_|refine jQ ?_|refine jR ?_|refine jS ?_|refine jT ?_|refine jU (by assumption) rfl ?_))
            have k78 : Keep w7 w8 No := kd.trans k8 (fun _ _ h => h)
            have hx78 := (hx7.mono (D' := fun b => b < w7.heap.size ∧ ¬ O b ∧ b ≠ n7) (fun b hb e => ⟨hb, e⟩)).keep k78 (fun _ _ _ h => h)
            have s8 : w8.heap.size = w7.heap.size + 1 := s8
            have hu78 := (hu.keep k8 (fun _ _ _ h => h)).mono (D' := fun b => b < w7.heap.size ∧ ¬ O b ∧ b ≠ n7) (fun b hb e => by
              have e : b < W.heap.size := e
              have := fr.1.size
              exact ⟨by omega, fun e2 => by have := fr.2 b e2; omega, by omega⟩)
            refine M.call_i (act_ret (D := fun b => b < w7.heap.size ∧ ¬ O b ∧ b ≠ n7) (h7d.keepN k8) I (by omega) (by omega) (by omega) (fun _ _ e => e.2.1) hx78 (by omega) r.vars hu78 (h12 d hdm) (hI d hdm)) ?_; rintro _ w9 ⟨t', s', x', O', bk', cv', wv', a', b', f, rfl, g1, g2, g3, g4⟩
            refine M.extract_i (v := .agg ⟨[vi x'.vars, a', b']⟩) rfl ?_
            refine M.extract_i (v := .bool f) rfl ?_
            have b9 := b9.keep g2.1 (fun e => by have := hO7 _ e; have e : O w7.heap.size := e; have := hO7 _ e; omega)
            refine M.storeAll_i b9 rfl rfl (by simp only [List.mem_cons, List.not_mem_nil, or_false, forall_eq_or_imp, forall_eq]; exact ⟨rfl, g3.1.one, LV.one g3.2⟩) (fun w11 b9 k11 s11 => ?_)
            exact fin w8 w9 w11 _ O' t' s' x' bk' cv' wv' a' b' f w7.heap.size _ g1 g2 g3 g4 k78 k11 b9 (fun y hy e => by
              rcases e with e | e
              · exact ⟨e.2.2, by have := e.1; omega⟩
              · omega) (.inl (by omega)) (Nat.le_refl _) (((b78.keep g2.1 hn)).keep k11 (by show ¬ _ = _; omega)) rfl
    · obtain ⟨t, s, x, O, bk, cv, wv, a, b, h7, I, r, okp, hxl, hx7, b7, fr, hn⟩ := hst
      (repeat (first|refine ja ?_|refine jb ?_|refine jc ?_|refine jd ?_|refine je ?_|refine jf ?_|refine jg ?_|refine jh ?_|refine ji ?_|refine jj ?_|refine jk ?_|refine jl ?_|refine jm ?_|refine jn ?_|refine jo ?_|refine jp ?_|refine jq ?_|refine jr ?_|refine js ?_|refine jt ?_|refine ju ?_|refine jv ?_|refine jw ?_|refine jx ?_|refine jy ?_|refine jz ?_|refine jA ?_|refine jB ?_|refine jC ?_|refine jD ?_|refine jE ?_|refine jF ?_|refine jG ?_|refine jH ?_|refine jI ?_|refine jJ ?_|refine jK ?_|refine jL ?_|refine jM (by assumption) ?_|refine jN (by assumption) rfl ?_|refine jO (by assumption) ?_|refine jP (by assumption) rfl ?_|refine jQ ?_|refine jR ?_|refine jS ?_|refine jT ?_|refine jU (by assumption) rfl ?_))
      refine M.call_i (awake11_ret w7) ?_; rintro _ w8 ⟨rfl, k8⟩
      exact ⟨rfl, fr.1.trans k8 (fun _ _ h => h)⟩
end Go.Proofs.Ytnkechekdncnlaa
