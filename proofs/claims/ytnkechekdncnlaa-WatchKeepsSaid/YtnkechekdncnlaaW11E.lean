import Derived.Test.YtnkechekdncnlaaW11D
namespace Go.Proofs.Ytnkechekdncnlaa
open Go.Mw
set_option linter.unusedVariables false
set_option linter.unusedSimpArgs false
set_option maxRecDepth 100000
attribute [local irreducible] M.val M.unit M.next M.pick M.new M.nilCheck M.load1 M.loadA M.store M.fieldAddr M.indexSl M.indexArr M.slice M.makeSlice M.buildSlice M.len M.lenS M.cap M.append M.extract M.conv M.not M.neg M.bin M.shift M.eqB M.eqNil M.call M.callv M.gd M.share M.cond M.loop M.draw pureW readW Ret
/-! breakwater/breakwaterlaw11.WatchKeeps: function 5 -/
def sh5 (x0 x1 x2 : Value) (R : Kt) (w : World) : Prop :=
  M.call Try.prog 15 #[x1] (fun t16 w =>
  M.not t16 (fun t17 w =>
  M.gd t17 false (fun k w => k x0 w) (fun t19 w =>
  M.gd t17 false (fun k w => M.bin .gtr t19 (Value.int IntKind.i64 40) k w) (fun t20 w =>
  M.pick t17 (Value.bool true) t20 (fun t21 w =>
  M.gd t21 false (fun k w => k x0 w) (fun t23 w =>
  M.gd t21 false (fun k w => M.bin .lss t23 (Value.int IntKind.i64 0) k w) (fun t24 w =>
  M.pick t21 (Value.bool true) t24 (fun t25 w =>
  M.gd t25 false (fun k w => k x2 w) (fun t27 w =>
  M.gd t25 false (fun k w => M.len t27 k w) (fun t28 w =>
  M.gd t25 false (fun k w => M.bin .gtr t28 (Value.int IntKind.i64 12) k w) (fun t29 w =>
  M.pick t25 (Value.bool true) t29 (fun t30 w =>
  M.cond t30
  (M.call Try.prog 14 #[] (fun t31 w =>
  R t31 w) w)
  (M.call Try.prog 7 #[x0] (fun t33 w =>
  M.call Try.prog 9 #[x0] (fun t35 w =>
  M.call Try.prog 16 #[x0] (fun t37 w =>
  M.new 48 #[.int .i64 0, .slice none 0 0, .slice none 0 0] (fun t9 w =>
  M.store 3 t9 t37 (fun _ w =>
  M.eqNil 0 false t33 (fun t39 w =>
  M.gd t39 false (fun k w => k t35 w) (fun t41 w =>
  M.gd t39 false (fun k w => M.eqNil 0 false t41 k w) (fun t42 w =>
  M.pick t39 (Value.bool true) t42 (fun t43 w =>
  M.cond t43
  (R (Value.bool false) w)
  (M.call Try.prog 6 #[t35, t33, x2] (fun t48 w =>
  M.extract 0 t48 (fun t49 w =>
  M.extract 1 t48 (fun t50 w =>
  M.share (fun K1 w =>
  M.loop [(Value.int IntKind.i64 0)] (fun s2 K2 w => ∀ _ : List Value,
  M.len x1 (fun t53 w =>
  M.bin .lss (s2.getD 0 undef) t53 (fun t54 w =>
  M.cond t54
  (M.share (fun K3 w =>
  M.indexSl 3 x1 (s2.getD 0 undef) (fun t59 w =>
  M.fieldAddr 0 t59 (fun t60 w =>
  M.load1 t60 (fun t61 w =>
  M.bin .eql t61 (Value.int IntKind.i64 1) (fun t62 w =>
  M.cond t62
  (K3 [] w)
  (M.draw (fun w =>
  M.loadA 3 t9 (fun t65 w =>
  M.indexSl 3 x1 (s2.getD 0 undef) (fun t68 w =>
  M.loadA 3 t68 (fun t69 w =>
  M.call Try.prog 17 #[t33, t35, t65, t69] (fun t70 w =>
  M.call Try.prog 8 #[t35, t33] (fun t74 w =>
  M.extract 0 t74 (fun t75 w =>
  M.extract 1 t74 (fun t76 w =>
  M.not t76 (fun t78 w =>
  M.cond t78
  (M.call Try.prog 20 #[t33] (fun t80 w =>
  M.bin .eql t80 (Value.int IntKind.i64 0) (fun t81 w =>
  M.cond t81
  (K1 [] w)
  (M.call Try.prog 20 #[t33] (fun t84 w =>
  M.bin .sub t84 (Value.int IntKind.i64 1) (fun t85 w =>
  M.call Try.prog 21 #[t33, t85] (fun t86 w =>
  K3 [] w) w) w) w)) w) w)
  (K3 [] w)) w) w) w) w) w) w) w) w) w)) w) w) w) w) (fun s3 w => ∀ _ : List Value,
  M.bin .add (s2.getD 0 undef) (Value.int IntKind.i64 1) (fun t56 w =>
  K2 [t56] w) w) w)
  (K1 [] w)) w) w) w) (fun s1 w => ∀ _ : List Value,
  M.bin .neq t50 (Value.int IntKind.i64 0) (fun t88 w =>
  M.cond t88
  (M.bin .eql t49 (Value.int IntKind.i64 0) (fun t90 w =>
  M.gd t90 true (fun k w => M.call Try.prog 14 #[] k w) (fun t92 w =>
  M.pick t90 t92 (Value.bool false) (fun t93 w =>
  R t93 w) w) w) w)
  (M.call Try.prog 11 #[t35, t49] (fun t96 w =>
  M.call Try.prog 22 #[t96, x2] (fun t98 w =>
  M.gd t98 true (fun k w => M.call Try.prog 14 #[] k w) (fun t100 w =>
  M.pick t98 t100 (Value.bool false) (fun t101 w =>
  R t101 w) w) w) w) w)) w) w) w) w) w)) w) w) w) w) w) w) w) w) w)) w) w) w) w) w) w) w) w) w) w) w) w
theorem ok5 (x0 x1 x2 : Value) (R : Kt) (w : World) (h : sh5 x0 x1 x2 R w) : Ret Try.prog 5 #[x0, x1, x2] w R :=
  ret_mk <| calls_of_comp mixed (c := Try.f5.body.getD .skip) (args := [x0, x1, x2]) (rs := [(ResultVar.tmp 6)]) (Ann.seq Ann.text (Ann.seq (Ann.seq Ann.text (Ann.cond (Ann.seq Ann.text Ann.leaf) Ann.leaf)) (Ann.seq Ann.text (Ann.seq (Ann.seq Ann.text (Ann.cond (Ann.seq Ann.text Ann.leaf) Ann.leaf)) (Ann.seq Ann.text (Ann.seq (Ann.seq Ann.text (Ann.jblock [] [12, 13, 14, 51, 52, 53, 54, 55, 56, 57, 58, 59, 60, 61, 62, 63, 64, 65, 66, 67, 68, 69, 70, 71, 72, 73, 74, 75, 76, 77, 78, 79, 80, 81, 82, 83, 84, 85, 86] (Ann.loop [12] [13, 14, 51, 52, 53, 54, 55, 56, 57, 58, 59, 60, 61, 62, 63, 64, 65, 66, 67, 68, 69, 70, 71, 72, 73, 74, 75, 76, 77, 78, 79, 80, 81, 82, 83, 84, 85, 86] (Ann.seq (Ann.seq Ann.text (Ann.cond Ann.leaf Ann.leaf)) (Ann.seq (Ann.jblock [] [13, 14, 57, 58, 59, 60, 61, 62, 63, 64, 65, 66, 67, 68, 69, 70, 71, 72, 73, 74, 75, 76, 77, 78, 79, 80, 81, 82, 83, 84, 85, 86] (Ann.seq (Ann.seq Ann.text (Ann.cond Ann.leaf Ann.leaf)) (Ann.seq (Ann.draw (Sch.take 0 (Sch.take 1 (Sch.take 2 (Sch.take 3 (Sch.take 4 (Sch.take 5 (Sch.take 6 (Sch.one 7 Sch.done))))))))) (Ann.seq Ann.text (Ann.seq Ann.text (Ann.cond (Ann.seq (Ann.seq Ann.text (Ann.cond Ann.leaf Ann.leaf)) Ann.text) Ann.leaf)))))) Ann.text))))) (Ann.seq (Ann.seq Ann.text (Ann.cond (Ann.seq Ann.text Ann.leaf) Ann.leaf)) (Ann.seq Ann.text Ann.leaf))))))))
    Try.func5 (by kernel_rfl) (by kernel_rfl)
    (Eq.mp (by kernel_rfl) h)

def HasC (s : Wt) (n : Nat) (l : List Int) : Prop := ∃ c ∈ s.cls, c.n = n ∧ c.lits.Perm (ddp l)
/-- The state between two deeds. -/
def KSt (W : World) (p q n7 i v0 : Nat) (more : List Int) (w' : World) : Prop := ∃ t s O bk cv wv, TWR w' p q O bk cv wv t s ∧ Inv t s (41 * i) (6000 * i + 1) (i + 1) ∧ s.vars = v0 ∧ Blk w' n7 [vi v0, .slice none 0 0, .slice none 0 0] ∧ Frs W w' O ∧ ¬ O n7 ∧ ((∀ y ∈ more, 0 ≤ y ∧ y < 2 * v0) → HasC s 0 more)
set_option maxHeartbeats 8000000 in
theorem watchKeeps_ret {W : World} {v v2 : Value} {ds : List Dd} {more : List Int} (vars : Int) (hl : DL W (· < W.heap.size) v ds) (hI : ∀ d ∈ ds, ∀ y ∈ d.l, I64 y) (hm : LV vi W (· < W.heap.size) v2 more) (hmI : ∀ y ∈ more, I64 y) :
    Ret Try.prog 5 #[vi vars, v, v2] W (fun r w' => r = .bool true ∧ Keep W w' No) := by
  obtain ⟨A, c, cs, rfl, hr, hcap⟩ := id hl
  obtain ⟨Am, cm, rfl, _, _⟩ := id hm
  refine ok5 _ _ _ _ _ ?_
  unfold sh5
  refine M.call_i (few11_ret hl) ?_; rintro _ w1 ⟨rfl, k1⟩
  cases hf : fewD ds with
  | false =>
    (repeat (first|refine ja ?_|refine jb ?_|refine jc ?_|refine jd ?_|refine je ?_|refine jf ?_|refine jg ?_|refine jh ?_|refine ji ?_|refine jj ?_|refine jk ?_|refine jl ?_|refine jm ?_|refine jn ?_|refine jo ?_|refine jp ?_|refine jq ?_|refine jr ?_|refine js ?_|refine jt ?_|refine ju ?_|refine jv ?_|refine jw ?_|refine jx ?_|refine jy ?_|refine jz ?_|refine jA ?_|refine jB ?_|refine jC ?_|refine jD ?_|refine jE ?_|refine jF ?_|refine jG ?_|refine jH ?_|refine jI ?_|refine jJ ?_|refine jK ?_|refine jL ?_|refine jM (by assumption) ?_|refine jN (by assumption) rfl ?_|refine jO (by assumption) ?_|refine jP (by assumption) rfl ?_|refine jQ ?_|refine jR ?_|refine jS ?_|refine jT ?_|refine jU (by assumption) rfl ?_))
    refine M.call_i (awake11_ret w1) ?_; rintro _ w2 ⟨rfl, k2⟩
    exact ⟨rfl, k1.trans k2 (fun _ _ h => h)⟩
  | true =>
    obtain ⟨h60, h12⟩ := fewD_iff hf
    by_cases h40 : 40 < vars
    · (repeat (first|refine ja ?_|refine jb ?_|refine jc ?_|refine jd ?_|refine je ?_|refine jf ?_|refine jg ?_|refine jh ?_|refine ji ?_|refine jj ?_|refine jk ?_|refine jl ?_|refine jm ?_|refine jn ?_|refine jo ?_|refine jp ?_|refine jq ?_|refine jr ?_|refine js ?_|refine jt ?_|refine ju ?_|refine jv ?_|refine jw ?_|refine jx ?_|refine jy ?_|refine jz ?_|refine jA ?_|refine jB ?_|refine jC ?_|refine jD ?_|refine jE ?_|refine jF ?_|refine jG ?_|refine jH ?_|refine jI ?_|refine jJ ?_|refine jK ?_|refine jL ?_|refine jM (by assumption) ?_|refine jN (by assumption) rfl ?_|refine jO (by assumption) ?_|refine jP (by assumption) rfl ?_|refine jQ ?_|refine jR ?_|refine jS ?_|refine jT ?_|refine jU (by assumption) rfl ?_))
      refine M.call_i (awake11_ret w1) ?_; rintro _ w2 ⟨rfl, k2⟩
      exact ⟨rfl, k1.trans k2 (fun _ _ h => h)⟩
    by_cases h0 : vars < 0
    · (repeat (first|refine ja ?_|refine jb ?_|refine jc ?_|refine jd ?_|refine je ?_|refine jf ?_|refine jg ?_|refine jh ?_|refine ji ?_|refine jj ?_|refine jk ?_|refine jl ?_|refine jm ?_|refine jn ?_|refine jo ?_|refine jp ?_|refine jq ?_|refine jr ?_|refine js ?_|refine jt ?_|refine ju ?_|refine jv ?_|refine jw ?_|refine jx ?_|refine jy ?_|refine jz ?_|refine jA ?_|refine jB ?_|refine jC ?_|refine jD ?_|refine jE ?_|refine jF ?_|refine jG ?_|refine jH ?_|refine jI ?_|refine jJ ?_|refine jK ?_|refine jL ?_|refine jM (by assumption) ?_|refine jN (by assumption) rfl ?_|refine jO (by assumption) ?_|refine jP (by assumption) rfl ?_|refine jQ ?_|refine jR ?_|refine jS ?_|refine jT ?_|refine jU (by assumption) rfl ?_))
      refine M.call_i (awake11_ret w1) ?_; rintro _ w2 ⟨rfl, k2⟩
      exact ⟨rfl, k1.trans k2 (fun _ _ h => h)⟩
    by_cases hm12 : 12 < more.length
    · (repeat (first|refine ja ?_|refine jb ?_|refine jc ?_|refine jd ?_|refine je ?_|refine jf ?_|refine jg ?_|refine jh ?_|refine ji ?_|refine jj ?_|refine jk ?_|refine jl ?_|refine jm ?_|refine jn ?_|refine jo ?_|refine jp ?_|refine jq ?_|refine jr ?_|refine js ?_|refine jt ?_|refine ju ?_|refine jv ?_|refine jw ?_|refine jx ?_|refine jy ?_|refine jz ?_|refine jA ?_|refine jB ?_|refine jC ?_|refine jD ?_|refine jE ?_|refine jF ?_|refine jG ?_|refine jH ?_|refine jI ?_|refine jJ ?_|refine jK ?_|refine jL ?_|refine jM (by assumption) ?_|refine jN (by assumption) rfl ?_|refine jO (by assumption) ?_|refine jP (by assumption) rfl ?_|refine jQ ?_|refine jR ?_|refine jS ?_|refine jT ?_|refine jU (by assumption) rfl ?_))
      refine M.call_i (awake11_ret w1) ?_; rintro _ w2 ⟨rfl, k2⟩
      exact ⟨rfl, k1.trans k2 (fun _ _ h => h)⟩
    obtain ⟨n, rfl⟩ : ∃ n : Nat, vars = n := ⟨vars.toNat, by omega⟩
    (repeat (first|refine ja ?_|refine jb ?_|refine jc ?_|refine jd ?_|refine je ?_|refine jf ?_|refine jg ?_|refine jh ?_|refine ji ?_|refine jj ?_|refine jk ?_|refine jl ?_|refine jm ?_|refine jn ?_|refine jo ?_|refine jp ?_|refine jq ?_|refine jr ?_|refine js ?_|refine jt ?_|refine ju ?_|refine jv ?_|refine jw ?_|refine jx ?_|refine jy ?_|refine jz ?_|refine jA ?_|refine jB ?_|refine jC ?_|refine jD ?_|refine jE ?_|refine jF ?_|refine jG ?_|refine jH ?_|refine jI ?_|refine jJ ?_|refine jK ?_|refine jL ?_|refine jM (by assumption) ?_|refine jN (by assumption) rfl ?_|refine jO (by assumption) ?_|refine jP (by assumption) rfl ?_|refine jQ ?_|refine jR ?_|refine jS ?_|refine jT ?_|refine jU (by assumption) rfl ?_))
    refine M.call_i (new_ret n w1) ?_; rintro _ w2 ⟨p, lab, rfl, ht2, k2, hlab⟩
    refine M.call_i (wnew_ret n w2) ?_; rintro _ w3 ⟨q, ow, rr, vb, bvs, rfl, hw3, k3, how⟩
    have h3 := TWR.new ht2 k3 hw3 how
    have q1 := k1.size
    have q2 := k2.size
    have fr3 : Frs W w3 (fun b => lab b ≠ 0 ∨ ow b ≠ 0) := ⟨(k1.trans k2 (fun _ _ h => h)).trans k3 (fun _ _ h => h), fun b hb => by
      rcases hb with e | e
      · have := hlab b e; omega
      · have := how b e; omega⟩
    generalize (fun b => lab b ≠ 0 ∨ ow b ≠ 0) = O0 at h3 fr3
    refine M.call_i (rnew11_ret (n := n) (by omega) w3) ?_; rintro _ w4 ⟨rfl, k4⟩
    refine M.new_i (l := [vi 0, .slice none 0 0, .slice none 0 0]) (fun w5 b5 k5 s5 => ?_)
    refine M.storeAll_i b5 rfl rfl (List.all_eq_true.1 rfl) (fun w6 b6 k6 s6 => ?_)
    have q3 := k3.size
    have q4 := k4.size
    have hO4 : ∀ b, O0 b → b < w3.heap.size := fun b e => h3.lt e
    have h6 := ((h3.keepN k4).keepN k5).keep k6 (fun b hb e e2 => by have e2 : b = w4.heap.size := e2; have := hO4 b e; omega)
    have fr6 : Frs W w6 O0 := ⟨((fr3.1.trans k4 (fun _ _ h => h)).trans k5 (fun _ _ h => h)).trans k6 (fun j hj e => by have e : j = w4.heap.size := e; omega), fr3.2⟩
    have hn7 : W.heap.size ≤ w4.heap.size := by omega
    have hlt7 := b6.lt
    have I0 := inv_new n (by omega)
    have hnv : (Wt.new n).vars = n := by
      show (if ((n : Nat) : Int) < 0 ∨ 1048576 < ((n : Nat) : Int) then 0 else ((n : Nat) : Int).toNat) = n
      rw [if_neg (by omega)]; omega
    have hn0 : ¬ O0 w4.heap.size := fun e => by have := hO4 _ e; omega
    (repeat (first|refine ja ?_|refine jb ?_|refine jc ?_|refine jd ?_|refine je ?_|refine jf ?_|refine jg ?_|refine jh ?_|refine ji ?_|refine jj ?_|refine jk ?_|refine jl ?_|refine jm ?_|refine jn ?_|refine jo ?_|refine jp ?_|refine jq ?_|refine jr ?_|refine js ?_|refine jt ?_|refine ju ?_|refine jv ?_|refine jw ?_|refine jx ?_|refine jy ?_|refine jz ?_|refine jA ?_|refine jB ?_|refine jC ?_|refine jD ?_|refine jE ?_|refine jF ?_|refine jG ?_|refine jH ?_|refine jI ?_|refine jJ ?_|refine jK ?_|refine jL ?_|refine jM (by assumption) ?_|refine jN (by assumption) rfl ?_|refine jO (by assumption) ?_|refine jP (by assumption) rfl ?_|refine jQ ?_|refine jR ?_|refine jS ?_|refine jT ?_|refine jU (by assumption) rfl ?_))
    have hmk := hm.keep fr6.1 (fun _ _ _ h => h)
    have hcomm : ∀ (v3 : Value) (w7 : World), ((∀ x ∈ more, 0 ≤ x ∧ x < 2 * (Wt.new n).vars) → v3 = .tuple #[vi 0, vi 0]) → ((¬ ∀ x ∈ more, 0 ≤ x ∧ x < 2 * (Wt.new n).vars) → v3 = .tuple #[vi 0, vi 10]) → KSt W p q w4.heap.size 0 n more w7 → True := fun _ _ _ _ _ => trivial
    refine M.call_i (add_ret h6 hmk (by omega) hmI I0.wi.num (by show 0 ≤ _; omega) (by have := I0.sz; omega) (by rw [hnv]; omega)) ?_
    rintro v3 w7 g7
    have key : ∃ e : Int, v3 = .tuple #[vi 0, vi e] ∧ (e = 0 ∨ e = 10) ∧ (e = 0 → ∀ y ∈ more, 0 ≤ y ∧ y < 2 * (n : Int)) ∧ (e = 10 → ¬ ∀ y ∈ more, 0 ≤ y ∧ y < 2 * (n : Int)) ∧ KSt W p q w4.heap.size 0 n more w7 := by
      by_cases hok : ∀ x ∈ more, 0 ≤ x ∧ x < 2 * (Wt.new n).vars
      · rw [if_pos hok] at g7
        obtain ⟨rfl, O', bk', cv', wv', h7, m7⟩ := g7
        have hok' := hok
        rw [hnv] at hok'
        refine ⟨0, rfl, .inl rfl, fun _ => hok', (fun e => by omega), _, _, O', _, _, _, h7, I0.add hok (by omega), hnv, b6.keep m7.1 hn0, fr6.step m7, fun e => hn0 (m7.2 _ hlt7 e), fun _ => ⟨_, List.mem_append_right _ (List.mem_singleton.2 rfl), rfl, List.Perm.refl _⟩⟩
      · rw [if_neg hok] at g7
        obtain ⟨rfl, k7⟩ := g7
        have hok' := hok
        rw [hnv] at hok'
        exact ⟨10, rfl, .inr rfl, (fun e => by omega), fun _ => hok', _, _, O0, _, _, _, h6.keepN k7, I0.mono (by omega) (by omega) (by omega), hnv, b6.keep k7 (fun h => h), fr6.keep k7, hn0, fun h => absurd h hok'⟩
    clear g7 hcomm
    obtain ⟨e, rfl, he, he0, he10, hst⟩ := key
    generalize w4.heap.size = n7 at hst hn7
    clear h6 fr6 b6 b5 hmk
    refine M.extract_i (v := vi 0) rfl ?_
    refine M.extract_i (v := vi e) rfl ?_
    refine M.share_j (fun vals w' => vals = [] ∧ ∃ i, i ≤ 60 ∧ KSt W p q n7 i n more w') ?_ ?_
    · rintro vals w8 ⟨rfl, i, hi, t, s, O, bk, cv, wv, h8, I, hv8, b8, fr, hn, hhas⟩ _
      rcases he with rfl | rfl
      · obtain ⟨c0, hc0, hcn, hcp⟩ := hhas (he0 rfl)
        have hget : s.get 0 = some c0 := by
          have := I.wi.get hc0
          rw [hcn] at this
          exact this
        (repeat (first|refine ja ?_|refine jb ?_|refine jc ?_|refine jd ?_|refine je ?_|refine jf ?_|refine jg ?_|refine jh ?_|refine ji ?_|refine jj ?_|refine jk ?_|refine jl ?_|refine jm ?_|refine jn ?_|refine jo ?_|refine jp ?_|refine jq ?_|refine jr ?_|refine js ?_|refine jt ?_|refine ju ?_|refine jv ?_|refine jw ?_|refine jx ?_|refine jy ?_|refine jz ?_|refine jA ?_|refine jB ?_|refine jC ?_|refine jD ?_|refine jE ?_|refine jF ?_|refine jG ?_|refine jH ?_|refine jI ?_|refine jJ ?_|refine jK ?_|refine jL ?_|refine jM (by assumption) ?_|refine jN (by assumption) rfl ?_|refine jO (by assumption) ?_|refine jP (by assumption) rfl ?_|refine jQ ?_|refine jR ?_|refine jS ?_|refine jT ?_|refine jU (by assumption) rfl ?_|refine jG ?_ (by decide)|refine jH ?_ (by decide)|refine jI ?_ (by decide)|refine jJ ?_ (by decide)|refine jC ?_ (by decide)|refine jy ?_ (by decide)))
        refine M.call_i (cla_ret h8 (fun c hc => by have := I.cl c hc; omega) 0) ?_; rintro lv w9 ⟨g9, k9⟩
        rw [hget] at g9
        have g9 : GI w9 (w8.heap.size ≤ ·) lv c0.lits := g9
        have hm9 := (hm.keep fr.1 (fun _ _ _ h => h)).keep k9 (fun _ _ _ h => h)
        refine M.call_i (set_ret (GI.lv g9) hm9 (by have := I.cl _ hc0; omega) (by omega)) ?_; rintro _ w10 ⟨rfl, k10⟩
        rw [decide_eq_true (show srt c0.lits = srt more from eq_srt (srt_lt _) (fun y => by rw [mem_srt, hcp.mem_iff, (ddp_spec _ more rfl).2.1]))]
        (repeat (first|refine ja ?_|refine jb ?_|refine jc ?_|refine jd ?_|refine je ?_|refine jf ?_|refine jg ?_|refine jh ?_|refine ji ?_|refine jj ?_|refine jk ?_|refine jl ?_|refine jm ?_|refine jn ?_|refine jo ?_|refine jp ?_|refine jq ?_|refine jr ?_|refine js ?_|refine jt ?_|refine ju ?_|refine jv ?_|refine jw ?_|refine jx ?_|refine jy ?_|refine jz ?_|refine jA ?_|refine jB ?_|refine jC ?_|refine jD ?_|refine jE ?_|refine jF ?_|refine jG ?_|refine jH ?_|refine jI ?_|refine jJ ?_|refine jK ?_|refine jL ?_|refine jM (by assumption) ?_|refine jN (by assumption) rfl ?_|refine jO (by assumption) ?_|refine jP (by assumption) rfl ?_|refine jQ ?_|refine jR ?_|refine jS ?_|refine jT ?_|refine jU (by assumption) rfl ?_))
        refine M.call_i (awake11_ret w10) ?_; rintro _ w11 ⟨rfl, k11⟩
        (repeat (first|refine ja ?_|refine jb ?_|refine jc ?_|refine jd ?_|refine je ?_|refine jf ?_|refine jg ?_|refine jh ?_|refine ji ?_|refine jj ?_|refine jk ?_|refine jl ?_|refine jm ?_|refine jn ?_|refine jo ?_|refine jp ?_|refine jq ?_|refine jr ?_|refine js ?_|refine jt ?_|refine ju ?_|refine jv ?_|refine jw ?_|refine jx ?_|refine jy ?_|refine jz ?_|refine jA ?_|refine jB ?_|refine jC ?_|refine jD ?_|refine jE ?_|refine jF ?_|refine jG ?_|refine jH ?_|refine jI ?_|refine jJ ?_|refine jK ?_|refine jL ?_|refine jM (by assumption) ?_|refine jN (by assumption) rfl ?_|refine jO (by assumption) ?_|refine jP (by assumption) rfl ?_|refine jQ ?_|refine jR ?_|refine jS ?_|refine jT ?_|refine jU (by assumption) rfl ?_))
        exact ⟨rfl, ((fr.1.trans k9 (fun _ _ h => h)).trans k10 (fun _ _ h => h)).trans k11 (fun _ _ h => h)⟩
      · (repeat (first|refine ja ?_|refine jb ?_|refine jc ?_|refine jd ?_|refine je ?_|refine jf ?_|refine jg ?_|refine jh ?_|refine ji ?_|refine jj ?_|refine jk ?_|refine jl ?_|refine jm ?_|refine jn ?_|refine jo ?_|refine jp ?_|refine jq ?_|refine jr ?_|refine js ?_|refine jt ?_|refine ju ?_|refine jv ?_|refine jw ?_|refine jx ?_|refine jy ?_|refine jz ?_|refine jA ?_|refine jB ?_|refine jC ?_|refine jD ?_|refine jE ?_|refine jF ?_|refine jG ?_|refine jH ?_|refine jI ?_|refine jJ ?_|refine jK ?_|refine jL ?_|refine jM (by assumption) ?_|refine jN (by assumption) rfl ?_|refine jO (by assumption) ?_|refine jP (by assumption) rfl ?_|refine jQ ?_|refine jR ?_|refine jS ?_|refine jT ?_|refine jU (by assumption) rfl ?_|refine jG ?_ (by decide)|refine jH ?_ (by decide)|refine jI ?_ (by decide)|refine jJ ?_ (by decide)|refine jC ?_ (by decide)|refine jy ?_ (by decide)))
        refine M.call_i (awake11_ret w8) ?_; rintro _ w9 ⟨rfl, k9⟩
        (repeat (first|refine ja ?_|refine jb ?_|refine jc ?_|refine jd ?_|refine je ?_|refine jf ?_|refine jg ?_|refine jh ?_|refine ji ?_|refine jj ?_|refine jk ?_|refine jl ?_|refine jm ?_|refine jn ?_|refine jo ?_|refine jp ?_|refine jq ?_|refine jr ?_|refine js ?_|refine jt ?_|refine ju ?_|refine jv ?_|refine jw ?_|refine jx ?_|refine jy ?_|refine jz ?_|refine jA ?_|refine jB ?_|refine jC ?_|refine jD ?_|refine jE ?_|refine jF ?_|refine jG ?_|refine jH ?_|refine jI ?_|refine jJ ?_|refine jK ?_|refine jL ?_|refine jM (by assumption) ?_|refine jN (by assumption) rfl ?_|refine jO (by assumption) ?_|refine jP (by assumption) rfl ?_|refine jQ ?_|refine jR ?_|refine jS ?_|refine jT ?_|refine jU (by assumption) rfl ?_))
        exact ⟨rfl, fr.1.trans k9 (fun _ _ h => h)⟩
    · intro K1 hK1
      refine M.loop_i (σ := Nat) (fun i vals w' => vals = [vi i] ∧ i ≤ ds.length ∧ KSt W p q n7 i n more w') (fun i => ds.length - i) 0 ⟨rfl, by omega, hst⟩ ?_
      rintro i vals w8 K ⟨rfl, hi, hst⟩ hK _
      simp only [List.getD_cons_zero, List.getD_cons_succ]
      by_cases hlt : i < ds.length
      · obtain ⟨d, hd⟩ : ∃ d, ds[i]? = some d := ⟨_, List.getElem?_eq_getElem hlt⟩
        have hdm := List.mem_of_getElem? hd
        obtain ⟨t, s, O, bk, cv, wv, h8, I, hv8, b8, fr, hn, hhas⟩ := hst
        (repeat (first|refine ja ?_|refine jb ?_|refine jc ?_|refine jd ?_|refine je ?_|refine jf ?_|refine jg ?_|refine jh ?_|refine ji ?_|refine jj ?_|refine jk ?_|refine jl ?_|refine jm ?_|refine jn ?_|refine jo ?_|refine jp ?_|refine jq ?_|refine jr ?_|refine js ?_|refine jt ?_|refine ju ?_|refine jv ?_|refine jw ?_|refine jx ?_|refine jy ?_|refine jz ?_|refine jA ?_|refine jB ?_|refine jC ?_|refine jD ?_|refine jE ?_|refine jF ?_|refine jG ?_|refine jH ?_|refine jI ?_|refine jJ ?_|refine jK ?_|refine jL ?_|refine jM (by assumption) ?_|refine jN (by assumption) rfl ?_|refine jO (by assumption) ?_|refine jP (by assumption) rfl ?_|refine jQ ?_|refine jR ?_|refine jS ?_|refine jT ?_|refine jU (by assumption) rfl ?_))
        refine M.share_j (fun vals w' => vals = [] ∧ KSt W p q n7 (i + 1) n more w') ?_ ?_
        · rintro vals w9 ⟨rfl, hst⟩ _
          (repeat (first|refine ja ?_|refine jb ?_|refine jc ?_|refine jd ?_|refine je ?_|refine jf ?_|refine jg ?_|refine jh ?_|refine ji ?_|refine jj ?_|refine jk ?_|refine jl ?_|refine jm ?_|refine jn ?_|refine jo ?_|refine jp ?_|refine jq ?_|refine jr ?_|refine js ?_|refine jt ?_|refine ju ?_|refine jv ?_|refine jw ?_|refine jx ?_|refine jy ?_|refine jz ?_|refine jA ?_|refine jB ?_|refine jC ?_|refine jD ?_|refine jE ?_|refine jF ?_|refine jG ?_|refine jH ?_|refine jI ?_|refine jJ ?_|refine jK ?_|refine jL ?_|refine jM (by assumption) ?_|refine jN (by assumption) rfl ?_|refine jO (by assumption) ?_|refine jP (by assumption) rfl ?_|refine jQ ?_|refine jR ?_|refine jS ?_|refine jT ?_|refine jU (by assumption) rfl ?_))
          exact hK (i + 1) _ _ (by omega) ⟨by simp, by omega, hst⟩
        · intro K3 hK3
          have hr8 := hr.keep fr.1 (fun _ _ _ h => h)
          refine M.idxD_i hr8 rfl hd (fun bb oo u c0 c1 c2 hu => ?_)
          (repeat (first|refine ja ?_|refine jb ?_|refine jc ?_|refine jd ?_|refine je ?_|refine jf ?_|refine jg ?_|refine jh ?_|refine ji ?_|refine jj ?_|refine jk ?_|refine jl ?_|refine jm ?_|refine jn ?_|refine jo ?_|refine jp ?_|refine jq ?_|refine jr ?_|refine js ?_|refine jt ?_|refine ju ?_|refine jv ?_|refine jw ?_|refine jx ?_|refine jy ?_|refine jz ?_|refine jA ?_|refine jB ?_|refine jC ?_|refine jD ?_|refine jE ?_|refine jF ?_|refine jG ?_|refine jH ?_|refine jI ?_|refine jJ ?_|refine jK ?_|refine jL ?_|refine jM (by assumption) ?_|refine jN (by assumption) rfl ?_|refine jO (by assumption) ?_|refine jP (by assumption) rfl ?_|refine jQ ?_|refine jR ?_|refine jS ?_|refine jT ?_|refine jU (by assumption) rfl ?_))
          by_cases hk1 : d.kind = 1
          · (repeat (first|refine ja ?_|refine jb ?_|refine jc ?_|refine jd ?_|refine je ?_|refine jf ?_|refine jg ?_|refine jh ?_|refine ji ?_|refine jj ?_|refine jk ?_|refine jl ?_|refine jm ?_|refine jn ?_|refine jo ?_|refine jp ?_|refine jq ?_|refine jr ?_|refine js ?_|refine jt ?_|refine ju ?_|refine jv ?_|refine jw ?_|refine jx ?_|refine jy ?_|refine jz ?_|refine jA ?_|refine jB ?_|refine jC ?_|refine jD ?_|refine jE ?_|refine jF ?_|refine jG ?_|refine jH ?_|refine jI ?_|refine jJ ?_|refine jK ?_|refine jL ?_|refine jM (by assumption) ?_|refine jN (by assumption) rfl ?_|refine jO (by assumption) ?_|refine jP (by assumption) rfl ?_|refine jQ ?_|refine jR ?_|refine jS ?_|refine jT ?_|refine jU (by assumption) rfl ?_))
            exact hK3 _ _ ⟨rfl, t, s, O, bk, cv, wv, h8, I.mono (by omega) (by omega) (by omega), hv8, b8, fr, hn, hhas⟩
          · have kd := Keep.drew w8 No
            have b9 := b8.keep kd (fun h => h)
            have h9 := h8.keepN kd
            have fr9 := fr.keep kd
            have hr9 := hr.keep fr9.1 (fun _ _ _ h => h)
            (repeat (first|refine ja ?_|refine jb ?_|refine jc ?_|refine jd ?_|refine je ?_|refine jf ?_|refine jg ?_|refine jh ?_|refine ji ?_|refine jj ?_|refine jk ?_|refine jl ?_|refine jm ?_|refine jn ?_|refine jo ?_|refine jp ?_|refine jq ?_|refine jr ?_|refine js ?_|refine jt ?_|refine ju ?_|refine jv ?_|refine jw ?_|refine jx ?_|refine jy ?_|refine jz ?_|refine jA ?_|refine jB ?_|refine jC ?_|refine jD ?_|refine jE ?_|refine jF ?_|refine jG ?_|refine jH ?_|refine jI ?_|refine jJ ?_|refine jK ?_|refine jL ?_|refine jM (by assumption) ?_|refine jN (by assumption) rfl ?_|refine jO (by assumption) ?_|refine jP (by assumption) rfl ?_|refine jQ ?_|refine jR ?_|refine jS ?_|refine jT ?_|refine jU (by assumption) rfl ?_))
            refine M.loadAll_i b9 rfl ?_
            refine M.idxD_i hr9 rfl hd (fun bb oo u c0 c1 c2 hu => ?_)
            refine M.load3_i c0 c1 c2 ?_
            have hxn : XRD w8.drew (fun b => ¬ O b) (.slice none 0 0) (.slice none 0 0) ⟨n, []⟩ := xr_nil w8.drew O n
            have hu9 := hu.mono (D' := fun b => ¬ O b) (fun b hb e e2 => by have := fr9.2 b e2; have e : b < W.heap.size := e; omega)
            refine M.call_i (act_ret (D := fun b => ¬ O b) (x := ⟨n, []⟩) h9 I (by omega) (by omega) (by omega) (fun _ _ e => e) hxn (by simp) (by rw [hv8]) hu9 (h12 d hdm) (hI d hdm)) ?_; rintro _ w10 ⟨t1, s1, x1, O1, bk1, cv1, wv1, a1, b1, f1, rfl, h10, m10, _, hact⟩
            have I1 := hact.inv _ _ _ (by omega) I
            have b10 := b9.keep m10.1 hn
            have fr10 := fr9.step m10
            have hn10 : ¬ O1 n7 := fun e => hn (m10.2 _ b9.lt e)
            have hl1 := I1.len
            have hv1 : s1.vars = n := by rw [hact.vars.2, hv8]
            refine M.call_i (run_ret h10 I1.wi I1.ri I1.bi (by have e1 := I1.sz; have e2 := I1.vars; have e3 : (2 * t1.vars + 2) * s1.cls.length ≤ 82 * 62 := Nat.mul_le_mul (by omega) (by omega); omega) (fun c hc => by have := I1.cl c hc; omega) I1.c0 (by have := I1.cc; omega)) ?_; rintro _ w11 ⟨t2, s2, O2, wv2, i2, ok, rfl, h11, m11, R⟩
            have I2 := (I1.run h10.fine h11.fine R).mono (a' := 41 * (i + 1)) (b' := 6000 * (i + 1) + 1) (c' := i + 1 + 1) (by omega) (by omega) (by omega)
            have b11 := b10.keep m11.1 hn10
            have fr11 := fr10.step m11
            have hn11 : ¬ O2 n7 := fun e => hn10 (m11.2 _ b10.lt e)
            have hv2 : s2.vars = n := by
              obtain ⟨_, _, hxx⟩ := R.ext
              rw [R.wi.vars, hxx.vars, ← I1.wi.vars, hv1]
            have hh2 : (∀ y ∈ more, 0 ≤ y ∧ y < 2 * (n : Int)) → HasC s2 0 more := fun hy => by
              obtain ⟨c, hc, g1, g2⟩ := hhas hy
              obtain ⟨c', hc', g3, g4⟩ := R.ceq.mem (hact.has hk1 c hc)
              exact ⟨c', hc', by rw [g3, g1], g4.trans g2⟩
            refine M.extract_i (v := vi i2) rfl ?_
            refine M.extract_i (v := .bool ok) rfl ?_
            cases ok with
            | true =>
              (repeat (first|refine ja ?_|refine jb ?_|refine jc ?_|refine jd ?_|refine je ?_|refine jf ?_|refine jg ?_|refine jh ?_|refine ji ?_|refine jj ?_|refine jk ?_|refine jl ?_|refine jm ?_|refine jn ?_|refine jo ?_|refine jp ?_|refine jq ?_|refine jr ?_|refine js ?_|refine jt ?_|refine ju ?_|refine jv ?_|refine jw ?_|refine jx ?_|refine jy ?_|refine jz ?_|refine jA ?_|refine jB ?_|refine jC ?_|refine jD ?_|refine jE ?_|refine jF ?_|refine jG ?_|refine jH ?_|refine jI ?_|refine jJ ?_|refine jK ?_|refine jL ?_|refine jM (by assumption) ?_|refine jN (by assumption) rfl ?_|refine jO (by assumption) ?_|refine jP (by assumption) rfl ?_|refine jQ ?_|refine jR ?_|refine jS ?_|refine jT ?_|refine jU (by assumption) rfl ?_))
              exact hK3 _ _ ⟨rfl, t2, s2, O2, _, _, wv2, h11, I2, hv2, b11, fr11, hn11, hh2⟩
            | false =>
              (repeat (first|refine ja ?_|refine jb ?_|refine jc ?_|refine jd ?_|refine je ?_|refine jf ?_|refine jg ?_|refine jh ?_|refine ji ?_|refine jj ?_|refine jk ?_|refine jl ?_|refine jm ?_|refine jn ?_|refine jo ?_|refine jp ?_|refine jq ?_|refine jr ?_|refine js ?_|refine jt ?_|refine ju ?_|refine jv ?_|refine jw ?_|refine jx ?_|refine jy ?_|refine jz ?_|refine jA ?_|refine jB ?_|refine jC ?_|refine jD ?_|refine jE ?_|refine jF ?_|refine jG ?_|refine jH ?_|refine jI ?_|refine jJ ?_|refine jK ?_|refine jL ?_|refine jM (by assumption) ?_|refine jN (by assumption) rfl ?_|refine jO (by assumption) ?_|refine jP (by assumption) rfl ?_|refine jQ ?_|refine jR ?_|refine jS ?_|refine jT ?_|refine jU (by assumption) rfl ?_))
              refine M.call_i (lvs_tw h11) ?_; rintro _ w12 ⟨rfl, k12⟩
              have h12' := h11.keepN k12
              have hbl : t2.begins.length ≤ 1048578 := by
                obtain ⟨_, _, _, ok⟩ := h11.fine
                have := ok.lbeg
                have := ok.llen
                have := ok.vars
                omega
              by_cases hz : t2.begins.length = 0
              · (repeat (first|refine ja ?_|refine jb ?_|refine jc ?_|refine jd ?_|refine je ?_|refine jf ?_|refine jg ?_|refine jh ?_|refine ji ?_|refine jj ?_|refine jk ?_|refine jl ?_|refine jm ?_|refine jn ?_|refine jo ?_|refine jp ?_|refine jq ?_|refine jr ?_|refine js ?_|refine jt ?_|refine ju ?_|refine jv ?_|refine jw ?_|refine jx ?_|refine jy ?_|refine jz ?_|refine jA ?_|refine jB ?_|refine jC ?_|refine jD ?_|refine jE ?_|refine jF ?_|refine jG ?_|refine jH ?_|refine jI ?_|refine jJ ?_|refine jK ?_|refine jL ?_|refine jM (by assumption) ?_|refine jN (by assumption) rfl ?_|refine jO (by assumption) ?_|refine jP (by assumption) rfl ?_|refine jQ ?_|refine jR ?_|refine jS ?_|refine jT ?_|refine jU (by assumption) rfl ?_))
                exact hK1 _ _ ⟨rfl, i + 1, by omega, t2, s2, O2, _, _, wv2, h12', I2, hv2, b11.keep k12 (fun h => h), fr11.keep k12, hn11, hh2⟩
              · (repeat (first|refine ja ?_|refine jb ?_|refine jc ?_|refine jd ?_|refine je ?_|refine jf ?_|refine jg ?_|refine jh ?_|refine ji ?_|refine jj ?_|refine jk ?_|refine jl ?_|refine jm ?_|refine jn ?_|refine jo ?_|refine jp ?_|refine jq ?_|refine jr ?_|refine js ?_|refine jt ?_|refine ju ?_|refine jv ?_|refine jw ?_|refine jx ?_|refine jy ?_|refine jz ?_|refine jA ?_|refine jB ?_|refine jC ?_|refine jD ?_|refine jE ?_|refine jF ?_|refine jG ?_|refine jH ?_|refine jI ?_|refine jJ ?_|refine jK ?_|refine jL ?_|refine jM (by assumption) ?_|refine jN (by assumption) rfl ?_|refine jO (by assumption) ?_|refine jP (by assumption) rfl ?_|refine jQ ?_|refine jR ?_|refine jS ?_|refine jT ?_|refine jU (by assumption) rfl ?_))
                refine M.call_i (lvs_tw h12') ?_; rintro _ w13 ⟨rfl, k13⟩
                (repeat (first|refine ja ?_|refine jb ?_|refine jc ?_|refine jd ?_|refine je ?_|refine jf ?_|refine jg ?_|refine jh ?_|refine ji ?_|refine jj ?_|refine jk ?_|refine jl ?_|refine jm ?_|refine jn ?_|refine jo ?_|refine jp ?_|refine jq ?_|refine jr ?_|refine js ?_|refine jt ?_|refine ju ?_|refine jv ?_|refine jw ?_|refine jx ?_|refine jy ?_|refine jz ?_|refine jA ?_|refine jB ?_|refine jC ?_|refine jD ?_|refine jE ?_|refine jF ?_|refine jG ?_|refine jH ?_|refine jI ?_|refine jJ ?_|refine jK ?_|refine jL ?_|refine jM (by assumption) ?_|refine jN (by assumption) rfl ?_|refine jO (by assumption) ?_|refine jP (by assumption) rfl ?_|refine jQ ?_|refine jR ?_|refine jS ?_|refine jT ?_|refine jU (by assumption) rfl ?_))
                have k1113 := k12.trans k13 (fun _ _ h => h)
                refine M.call_i (back_tw (h12'.keepN k13) (t2.begins.length - 1)) ?_; rintro _ w14 ⟨_, h14, k14⟩
                exact hK3 _ _ ⟨rfl, (t2.back (t2.begins.length - 1)).1, s2, O2, _, _, wv2, h14, I2.back h11.fine _, hv2, (b11.keep k1113 (fun h => h)).keep k14 hn11, (fr11.keep k1113).step ⟨k14, fun _ _ e => e⟩, hn11, hh2⟩
      · (repeat (first|refine ja ?_|refine jb ?_|refine jc ?_|refine jd ?_|refine je ?_|refine jf ?_|refine jg ?_|refine jh ?_|refine ji ?_|refine jj ?_|refine jk ?_|refine jl ?_|refine jm ?_|refine jn ?_|refine jo ?_|refine jp ?_|refine jq ?_|refine jr ?_|refine js ?_|refine jt ?_|refine ju ?_|refine jv ?_|refine jw ?_|refine jx ?_|refine jy ?_|refine jz ?_|refine jA ?_|refine jB ?_|refine jC ?_|refine jD ?_|refine jE ?_|refine jF ?_|refine jG ?_|refine jH ?_|refine jI ?_|refine jJ ?_|refine jK ?_|refine jL ?_|refine jM (by assumption) ?_|refine jN (by assumption) rfl ?_|refine jO (by assumption) ?_|refine jP (by assumption) rfl ?_|refine jQ ?_|refine jR ?_|refine jS ?_|refine jT ?_|refine jU (by assumption) rfl ?_))
        exact hK1 _ _ ⟨rfl, i, by omega, hst⟩
end Go.Proofs.Ytnkechekdncnlaa
