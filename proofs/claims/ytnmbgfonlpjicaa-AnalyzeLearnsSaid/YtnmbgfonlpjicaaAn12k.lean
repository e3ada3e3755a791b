import Derived.Test.YtnmbgfonlpjicaaAn12j
namespace Go.Proofs.Ytnmbgfonlpjicaa
open Go.Mw
set_option linter.unusedVariables false
set_option linter.unusedSimpArgs false
set_option maxRecDepth 100000
attribute [local irreducible] M.val M.unit M.next M.pick M.new M.nilCheck M.load1 M.loadA M.store M.fieldAddr M.indexSl M.indexArr M.slice M.makeSlice M.buildSlice M.len M.lenS M.cap M.append M.extract M.conv M.not M.neg M.bin M.shift M.eqB M.eqNil M.call M.callv M.gd M.share M.cond M.loop M.draw pureW readW Ret
def P2 (W : World) (p q n : Nat) (va : Value) (us : List Value) (l : List (List Int)) (k : Nat) (ok : Bool) (ii : Int) (w' : World) : Prop := ∃ t s O bk cv wv, TWR w' p q O bk cv wv t s ∧ Inv t s (41 * (k + 1)) (40 + 3240 * (k + 1)) 40 ∧ RelL s l l.length ∧ Dcs t ∧ AL W w' O va us l ∧ Frs W w' O ∧ OutL t s l ok ii ∧ t.vars = n
theorem fewB_iff {l : List (List Int)} {m : Int} (h : fewB l m = true) : (l.length : Int) ≤ m ∧ ∀ c ∈ l, c.length ≤ 40 := by
  unfold fewB at h
  simp only [Bool.and_eq_true, decide_eq_true_eq, List.all_eq_true] at h
  exact h
theorem flatN : ∀ (l : List (List Int)) (n : Nat), (∀ c ∈ l, c.length ≤ n) → l.flatten.length ≤ l.length * n
  | [], n, h => by simp
  | c :: l, n, h => by
    have := flatN l n (fun d hd => h d (List.mem_cons_of_mem _ hd))
    have := h c List.mem_cons_self
    simp only [List.flatten_cons, List.length_append, List.length_cons, Nat.add_mul]
    omega
set_option maxHeartbeats 8000000 in
theorem analyzeLearns_ret {W : World} {u v : Value} {l : List (List Int)} {ds : List Int} (vars : Int) (hl : LL W (· < W.heap.size) u l) (hI : ∀ c ∈ l, ∀ x ∈ c, I64 x) (hd : LV vi W (· < W.heap.size) v ds) (hJ : ∀ x ∈ ds, I64 x) :
    Ret Try.prog 4 #[vi vars, u, v] W (fun r w' => r = .bool true ∧ Keep W w' No) := by
  obtain ⟨A, cap, vs, rfl, hr, hcap⟩ := id hl
  obtain ⟨B, cb, rfl, hb, _⟩ := id hd
  refine ok4 _ _ _ _ _ ?_
  unfold sh4
  by_cases h1 : vars < 1
  · (repeat (first|refine ja ?_|refine jb ?_|refine jc ?_|refine jd ?_|refine je ?_|refine jf ?_|refine jg ?_|refine jh ?_|refine ji ?_|refine jj ?_|refine jk ?_|refine jl ?_|refine jm ?_|refine jn ?_|refine jo ?_|refine jp ?_|refine jq ?_|refine jr ?_|refine js ?_|refine jt ?_|refine ju ?_|refine jv ?_|refine jw ?_|refine jx ?_|refine jy ?_|refine jz ?_|refine jA ?_|refine jB ?_|refine jC ?_|refine jD ?_|refine jE ?_|refine jF ?_|refine jG ?_|refine jH ?_|refine jI ?_|refine jJ ?_|refine jK ?_|refine jL ?_|refine jM (by assumption) ?_|refine jN (by assumption) rfl ?_|refine jO (by assumption) ?_|refine jP (by assumption) rfl ?_|refine jQ ?_|refine jR ?_|refine jS ?_|refine jT ?_|refine jU (by assumption) rfl ?_))
    refine M.call_i (awake12_ret W) ?_; rintro _ w2 ⟨rfl, k2⟩
    exact ⟨rfl, k2⟩
  by_cases h20 : 20 < vars
  · (repeat (first|refine ja ?_|refine jb ?_|refine jc ?_|refine jd ?_|refine je ?_|refine jf ?_|refine jg ?_|refine jh ?_|refine ji ?_|refine jj ?_|refine jk ?_|refine jl ?_|refine jm ?_|refine jn ?_|refine jo ?_|refine jp ?_|refine jq ?_|refine jr ?_|refine js ?_|refine jt ?_|refine ju ?_|refine jv ?_|refine jw ?_|refine jx ?_|refine jy ?_|refine jz ?_|refine jA ?_|refine jB ?_|refine jC ?_|refine jD ?_|refine jE ?_|refine jF ?_|refine jG ?_|refine jH ?_|refine jI ?_|refine jJ ?_|refine jK ?_|refine jL ?_|refine jM (by assumption) ?_|refine jN (by assumption) rfl ?_|refine jO (by assumption) ?_|refine jP (by assumption) rfl ?_|refine jQ ?_|refine jR ?_|refine jS ?_|refine jT ?_|refine jU (by assumption) rfl ?_))
    refine M.call_i (awake12_ret W) ?_; rintro _ w2 ⟨rfl, k2⟩
    exact ⟨rfl, k2⟩
  (repeat (first|refine ja ?_|refine jb ?_|refine jc ?_|refine jd ?_|refine je ?_|refine jf ?_|refine jg ?_|refine jh ?_|refine ji ?_|refine jj ?_|refine jk ?_|refine jl ?_|refine jm ?_|refine jn ?_|refine jo ?_|refine jp ?_|refine jq ?_|refine jr ?_|refine js ?_|refine jt ?_|refine ju ?_|refine jv ?_|refine jw ?_|refine jx ?_|refine jy ?_|refine jz ?_|refine jA ?_|refine jB ?_|refine jC ?_|refine jD ?_|refine jE ?_|refine jF ?_|refine jG ?_|refine jH ?_|refine jI ?_|refine jJ ?_|refine jK ?_|refine jL ?_|refine jM (by assumption) ?_|refine jN (by assumption) rfl ?_|refine jO (by assumption) ?_|refine jP (by assumption) rfl ?_|refine jQ ?_|refine jR ?_|refine jS ?_|refine jT ?_|refine jU (by assumption) rfl ?_))
  refine M.call_i (few_ret hl 40 (by omega)) ?_; rintro _ w1 ⟨rfl, k1⟩
  cases hf : fewB l 40 with
  | false =>
    simp only [Bool.false_eq_true, if_false]
    (repeat (first|refine ja ?_|refine jb ?_|refine jc ?_|refine jd ?_|refine je ?_|refine jf ?_|refine jg ?_|refine jh ?_|refine ji ?_|refine jj ?_|refine jk ?_|refine jl ?_|refine jm ?_|refine jn ?_|refine jo ?_|refine jp ?_|refine jq ?_|refine jr ?_|refine js ?_|refine jt ?_|refine ju ?_|refine jv ?_|refine jw ?_|refine jx ?_|refine jy ?_|refine jz ?_|refine jA ?_|refine jB ?_|refine jC ?_|refine jD ?_|refine jE ?_|refine jF ?_|refine jG ?_|refine jH ?_|refine jI ?_|refine jJ ?_|refine jK ?_|refine jL ?_|refine jM (by assumption) ?_|refine jN (by assumption) rfl ?_|refine jO (by assumption) ?_|refine jP (by assumption) rfl ?_|refine jQ ?_|refine jR ?_|refine jS ?_|refine jT ?_|refine jU (by assumption) rfl ?_))
    refine M.call_i (awake12_ret w1) ?_; rintro _ w2 ⟨rfl, k2⟩
    exact ⟨rfl, k1.trans k2 (fun _ _ h => h)⟩
  | true =>
    simp only [if_true]
    by_cases h30 : 30 < ds.length
    · (repeat (first|refine ja ?_|refine jb ?_|refine jc ?_|refine jd ?_|refine je ?_|refine jf ?_|refine jg ?_|refine jh ?_|refine ji ?_|refine jj ?_|refine jk ?_|refine jl ?_|refine jm ?_|refine jn ?_|refine jo ?_|refine jp ?_|refine jq ?_|refine jr ?_|refine js ?_|refine jt ?_|refine ju ?_|refine jv ?_|refine jw ?_|refine jx ?_|refine jy ?_|refine jz ?_|refine jA ?_|refine jB ?_|refine jC ?_|refine jD ?_|refine jE ?_|refine jF ?_|refine jG ?_|refine jH ?_|refine jI ?_|refine jJ ?_|refine jK ?_|refine jL ?_|refine jM (by assumption) ?_|refine jN (by assumption) rfl ?_|refine jO (by assumption) ?_|refine jP (by assumption) rfl ?_|refine jQ ?_|refine jR ?_|refine jS ?_|refine jT ?_|refine jU (by assumption) rfl ?_))
      refine M.call_i (awake12_ret w1) ?_; rintro _ w2 ⟨rfl, k2⟩
      exact ⟨rfl, k1.trans k2 (fun _ _ h => h)⟩
    obtain ⟨hl40, hc40⟩ := fewB_iff hf
    obtain ⟨n, rfl⟩ : ∃ n : Nat, vars = n := ⟨vars.toNat, by omega⟩
    (repeat (first|refine ja ?_|refine jb ?_|refine jc ?_|refine jd ?_|refine je ?_|refine jf ?_|refine jg ?_|refine jh ?_|refine ji ?_|refine jj ?_|refine jk ?_|refine jl ?_|refine jm ?_|refine jn ?_|refine jo ?_|refine jp ?_|refine jq ?_|refine jr ?_|refine js ?_|refine jt ?_|refine ju ?_|refine jv ?_|refine jw ?_|refine jx ?_|refine jy ?_|refine jz ?_|refine jA ?_|refine jB ?_|refine jC ?_|refine jD ?_|refine jE ?_|refine jF ?_|refine jG ?_|refine jH ?_|refine jI ?_|refine jJ ?_|refine jK ?_|refine jL ?_|refine jM (by assumption) ?_|refine jN (by assumption) rfl ?_|refine jO (by assumption) ?_|refine jP (by assumption) rfl ?_|refine jQ ?_|refine jR ?_|refine jS ?_|refine jT ?_|refine jU (by assumption) rfl ?_))
    refine M.call_i (new_ret n w1) ?_; rintro _ w2 ⟨p, lab, rfl, ht2, k2, hlab⟩
    refine M.call_i (wnew_ret n w2) ?_; rintro _ w3 ⟨q, ow, rr, vb, bvs, rfl, hw3, k3, how⟩
    have h3 := TWR.new ht2 k3 hw3 how
    have q1 := k1.size
    have q2 := k2.size
    have fr3 : Frs W w3 (fun b => lab b ≠ 0 ∨ ow b ≠ 0) := ⟨(k1.trans k2 (fun _ _ h => h)).trans k3 (fun _ _ h => h), fun b hb => by
      rcases hb with e | e
      · have := hlab b e; omega
      · have := how b e; omega⟩
    generalize (fun b => lab b ≠ 0 ∨ ow b ≠ 0) = O0 at h3 fr3
    have hvn : (Tr.new (n : Int)).vars = n := by
      show (if ((n : Nat) : Int) < 0 ∨ 1048576 < ((n : Nat) : Int) then 0 else ((n : Nat) : Int).toNat) = n
      rw [if_neg (by omega)]; omega
    have hwn : (Wt.new (n : Int)).vars = n := by
      show (if ((n : Nat) : Int) < 0 ∨ 1048576 < ((n : Nat) : Int) then 0 else ((n : Nat) : Int).toNat) = n
      rw [if_neg (by omega)]; omega
    clear hlab how ht2 hw3
    (repeat (first|refine ja ?_|refine jb ?_|refine jc ?_|refine jd ?_|refine je ?_|refine jf ?_|refine jg ?_|refine jh ?_|refine ji ?_|refine jj ?_|refine jk ?_|refine jl ?_|refine jm ?_|refine jn ?_|refine jo ?_|refine jp ?_|refine jq ?_|refine jr ?_|refine js ?_|refine jt ?_|refine ju ?_|refine jv ?_|refine jw ?_|refine jx ?_|refine jy ?_|refine jz ?_|refine jA ?_|refine jB ?_|refine jC ?_|refine jD ?_|refine jE ?_|refine jF ?_|refine jG ?_|refine jH ?_|refine jI ?_|refine jJ ?_|refine jK ?_|refine jL ?_|refine jM (by assumption) ?_|refine jN (by assumption) rfl ?_|refine jO (by assumption) ?_|refine jP (by assumption) rfl ?_|refine jQ ?_|refine jR ?_|refine jS ?_|refine jT ?_|refine jU (by assumption) rfl ?_))
    refine M.loop_i (σ := Nat) (fun i vals w' => ∃ s O bk cv wv va us, vals = [va, vi i] ∧ i ≤ l.length ∧ TWR w' p q O bk cv wv (Tr.new n) s ∧ Inv (Tr.new n) s 0 i i ∧ RelL s l i ∧ AL W w' O va us (l.take i) ∧ Frs W w' O) (fun i => l.length - i) 0 ⟨_, O0, _, _, _, _, [], rfl, by omega, h3, inv_new n (by omega), ⟨fun c hc => by simp [Wt.new] at hc, rfl⟩, AL.nil _ _ _, fr3⟩ ?_
    clear h3 fr3
    rintro i vals w7 K ⟨s, O, bk, cv, wv, va, us, rfl, hi, h7, I, rl, al, fr⟩ hK _
    simp only [List.getD_cons_zero, List.getD_cons_succ]
    by_cases hlt : i < l.length
    · obtain ⟨c, hc⟩ : ∃ c, l[i]? = some c := ⟨_, List.getElem?_eq_getElem hlt⟩
      have hcm := List.mem_of_getElem? hc
      have hc1 := hc40 c hcm
      have hIl := I.len
      have hIe := I.ev
      have hIz := I.sz
      have hIw := I.wi.vars
      (repeat (first|refine ja ?_|refine jb ?_|refine jc ?_|refine jd ?_|refine je ?_|refine jf ?_|refine jg ?_|refine jh ?_|refine ji ?_|refine jj ?_|refine jk ?_|refine jl ?_|refine jm ?_|refine jn ?_|refine jo ?_|refine jp ?_|refine jq ?_|refine jr ?_|refine js ?_|refine jt ?_|refine ju ?_|refine jv ?_|refine jw ?_|refine jx ?_|refine jy ?_|refine jz ?_|refine jA ?_|refine jB ?_|refine jC ?_|refine jD ?_|refine jE ?_|refine jF ?_|refine jG ?_|refine jH ?_|refine jI ?_|refine jJ ?_|refine jK ?_|refine jL ?_|refine jM (by assumption) ?_|refine jN (by assumption) rfl ?_|refine jO (by assumption) ?_|refine jP (by assumption) rfl ?_|refine jQ ?_|refine jR ?_|refine jS ?_|refine jT ?_|refine jU (by assumption) rfl ?_))
      refine M.idxLL_i (hr.keep fr.1 (fun _ _ _ h => h)) rfl (by omega) (c := c) (by rw [Int.toNat_natCast]; exact hc) (fun bb oo u hu hlu => ?_)
      (repeat (first|refine ja ?_|refine jb ?_|refine jc ?_|refine jd ?_|refine je ?_|refine jf ?_|refine jg ?_|refine jh ?_|refine ji ?_|refine jj ?_|refine jk ?_|refine jl ?_|refine jm ?_|refine jn ?_|refine jo ?_|refine jp ?_|refine jq ?_|refine jr ?_|refine js ?_|refine jt ?_|refine ju ?_|refine jv ?_|refine jw ?_|refine jx ?_|refine jy ?_|refine jz ?_|refine jA ?_|refine jB ?_|refine jC ?_|refine jD ?_|refine jE ?_|refine jF ?_|refine jG ?_|refine jH ?_|refine jI ?_|refine jJ ?_|refine jK ?_|refine jL ?_|refine jM (by assumption) ?_|refine jN (by assumption) rfl ?_|refine jO (by assumption) ?_|refine jP (by assumption) rfl ?_|refine jQ ?_|refine jR ?_|refine jS ?_|refine jT ?_|refine jU (by assumption) rfl ?_))
      refine M.call_i (add_ret h7 hlu (by omega) (hI c hcm) I.wi.num (by omega) (by omega) (by omega)) ?_; rintro r5 w8 g5
      by_cases hin : ∀ x ∈ c, 0 ≤ x ∧ x < 2 * (s.vars : Int)
      · rw [if_pos hin] at g5
        obtain ⟨rfl, O', bk', cv', wv', h8, m8⟩ := g5
        refine M.extract_i (v := vi s.ever) rfl ?_
        refine M.extract_i (v := vi 0) rfl ?_
        have hse := rl.ever
        rw [hse]
        (repeat (first|refine ja ?_|refine jb ?_|refine jc ?_|refine jd ?_|refine je ?_|refine jf ?_|refine jg ?_|refine jh ?_|refine ji ?_|refine jj ?_|refine jk ?_|refine jl ?_|refine jm ?_|refine jn ?_|refine jo ?_|refine jp ?_|refine jq ?_|refine jr ?_|refine js ?_|refine jt ?_|refine ju ?_|refine jv ?_|refine jw ?_|refine jx ?_|refine jy ?_|refine jz ?_|refine jA ?_|refine jB ?_|refine jC ?_|refine jD ?_|refine jE ?_|refine jF ?_|refine jG ?_|refine jH ?_|refine jI ?_|refine jJ ?_|refine jK ?_|refine jL ?_|refine jM (by assumption) ?_|refine jN (by assumption) rfl ?_|refine jO (by assumption) ?_|refine jP (by assumption) rfl ?_|refine jQ ?_|refine jR ?_|refine jS ?_|refine jT ?_|refine jU (by assumption) rfl ?_))
        refine M.idxLL_i (hr.keep (fr.step m8).1 (fun _ _ _ h => h)) rfl (by omega) (c := c) (by rw [Int.toNat_natCast]; exact hc) (fun bb oo u hu hlu => ?_)
        (repeat (first|refine ja ?_|refine jb ?_|refine jc ?_|refine jd ?_|refine je ?_|refine jf ?_|refine jg ?_|refine jh ?_|refine ji ?_|refine jj ?_|refine jk ?_|refine jl ?_|refine jm ?_|refine jn ?_|refine jo ?_|refine jp ?_|refine jq ?_|refine jr ?_|refine js ?_|refine jt ?_|refine ju ?_|refine jv ?_|refine jw ?_|refine jx ?_|refine jy ?_|refine jz ?_|refine jA ?_|refine jB ?_|refine jC ?_|refine jD ?_|refine jE ?_|refine jF ?_|refine jG ?_|refine jH ?_|refine jI ?_|refine jJ ?_|refine jK ?_|refine jL ?_|refine jM (by assumption) ?_|refine jN (by assumption) rfl ?_|refine jO (by assumption) ?_|refine jP (by assumption) rfl ?_|refine jQ ?_|refine jR ?_|refine jS ?_|refine jT ?_|refine jU (by assumption) rfl ?_))
        have fr8 := fr.step m8
        have q8 := fr8.1.size
        refine M.appendAL_i (al.step m8 fr) hlu (fun b e => h8.lt e) q8 (by rw [List.length_take]; omega) (fun v' us' w9 al9 k9 => ?_)
        rw [show l.take i ++ [c] = l.take (i + 1) by rw [List.take_add_one, hc]; rfl] at al9
        (repeat (first|refine ja ?_|refine jb ?_|refine jc ?_|refine jd ?_|refine je ?_|refine jf ?_|refine jg ?_|refine jh ?_|refine ji ?_|refine jj ?_|refine jk ?_|refine jl ?_|refine jm ?_|refine jn ?_|refine jo ?_|refine jp ?_|refine jq ?_|refine jr ?_|refine js ?_|refine jt ?_|refine ju ?_|refine jv ?_|refine jw ?_|refine jx ?_|refine jy ?_|refine jz ?_|refine jA ?_|refine jB ?_|refine jC ?_|refine jD ?_|refine jE ?_|refine jF ?_|refine jG ?_|refine jH ?_|refine jI ?_|refine jJ ?_|refine jK ?_|refine jL ?_|refine jM (by assumption) ?_|refine jN (by assumption) rfl ?_|refine jO (by assumption) ?_|refine jP (by assumption) rfl ?_|refine jQ ?_|refine jR ?_|refine jS ?_|refine jT ?_|refine jU (by assumption) rfl ?_))
        exact hK (i + 1) _ _ (by omega) ⟨_, O', bk', cv', wv', v', us', rfl, by omega, h8.keep k9 (fun b hb e e2 => e2.2 e), (I.add hin (by omega)).mono (by omega) (by omega) (by omega), rl.add hc, al9, fr8.1.trans k9 (fun j hj e => by omega), fr8.2⟩
      · rw [if_neg hin] at g5
        obtain ⟨rfl, k8⟩ := g5
        refine M.extract_i (v := vi 0) rfl ?_
        refine M.extract_i (v := vi 10) rfl ?_
        (repeat (first|refine ja ?_|refine jb ?_|refine jc ?_|refine jd ?_|refine je ?_|refine jf ?_|refine jg ?_|refine jh ?_|refine ji ?_|refine jj ?_|refine jk ?_|refine jl ?_|refine jm ?_|refine jn ?_|refine jo ?_|refine jp ?_|refine jq ?_|refine jr ?_|refine js ?_|refine jt ?_|refine ju ?_|refine jv ?_|refine jw ?_|refine jx ?_|refine jy ?_|refine jz ?_|refine jA ?_|refine jB ?_|refine jC ?_|refine jD ?_|refine jE ?_|refine jF ?_|refine jG ?_|refine jH ?_|refine jI ?_|refine jJ ?_|refine jK ?_|refine jL ?_|refine jM (by assumption) ?_|refine jN (by assumption) rfl ?_|refine jO (by assumption) ?_|refine jP (by assumption) rfl ?_|refine jQ ?_|refine jR ?_|refine jS ?_|refine jT ?_|refine jU (by assumption) rfl ?_))
        refine M.call_i (awake12_ret w8) ?_; rintro _ w9 ⟨rfl, k9⟩
        exact ⟨rfl, (fr.1.trans k8 (fun _ _ h => h)).trans k9 (fun _ _ h => h)⟩
    · have e : i = l.length := by omega
      subst e
      rw [List.take_length] at al
      have hIc := I.mono (a' := 0) (b' := 40) (c' := 40) (by omega) (by omega) (by omega)
      (repeat (first|refine ja ?_|refine jb ?_|refine jc ?_|refine jd ?_|refine je ?_|refine jf ?_|refine jg ?_|refine jh ?_|refine ji ?_|refine jj ?_|refine jk ?_|refine jl ?_|refine jm ?_|refine jn ?_|refine jo ?_|refine jp ?_|refine jq ?_|refine jr ?_|refine js ?_|refine jt ?_|refine ju ?_|refine jv ?_|refine jw ?_|refine jx ?_|refine jy ?_|refine jz ?_|refine jA ?_|refine jB ?_|refine jC ?_|refine jD ?_|refine jE ?_|refine jF ?_|refine jG ?_|refine jH ?_|refine jI ?_|refine jJ ?_|refine jK ?_|refine jL ?_|refine jM (by assumption) ?_|refine jN (by assumption) rfl ?_|refine jO (by assumption) ?_|refine jP (by assumption) rfl ?_|refine jQ ?_|refine jR ?_|refine jS ?_|refine jT ?_|refine jU (by assumption) rfl ?_))
      refine M.call_i (run_inv h7 hIc (by omega) (by omega) (by omega)) ?_; rintro _ w8 ⟨t', s', O', wv', ii, ok, rfl, h8, m8, R⟩
      refine M.extract_i (v := vi ii) rfl ?_
      refine M.extract_i (v := .bool ok) rfl ?_
      have rl' := rl.ceq R.ceq R.ev
      have hrng : ∀ c ∈ s'.cls, ∀ x ∈ c.lits, 0 ≤ x := fun c hc x hx => (R.wi.rng c hc x hx).1
      have st : P2 W p q n va us l 0 ok ii w8 := by
        obtain ⟨new, nb, hx⟩ := R.ext
        have hb0 : t'.begins.length = 0 := by rw [hx.begins]; rfl
        exact ⟨t', s', O', bk, cv, wv', h8, (hIc.run h7.fine h8.fine R).mono (by omega) (by omega) (by omega), rl', Dcs.ext (fun i e he => by simp [Tr.new] at he) hx, al.step m8 fr, fr.step m8, out_first h8.fine rl' hrng hb0 R.out, by rw [hx.vars]; exact hvn⟩
      clear h8 rl' hrng R m8 al rl I h7 hIc hK fr
      refine M.loop_i (σ := Nat) (fun k vals w' => ∃ ok ii, vals = [vi ii, .bool ok, vi k] ∧ k ≤ ds.length ∧ P2 W p q n va us l k ok ii w') (fun k => ds.length - k) 0 ⟨ok, ii, rfl, by omega, st⟩ ?_
      clear st
      rintro k vals w9 K2 ⟨ok, ii, rfl, hk, t, s, O, bk, cv, wv, h9, I, rl, dc, al, fr, out, hvt⟩ hK2 _
      simp only [List.getD_cons_zero, List.getD_cons_succ]
      have fin : ∀ (w10 : World), Keep w9 w10 No → ok = false → t.begins.length ≠ 0 → Ret Try.prog 15 #[ptr p, va, vi ii] w10 (fun r w' => r = .bool true ∧ Keep w9 w' O) := by
        intro w10 k10 hok hbn
        rcases out with ⟨h, _⟩ | ⟨_, h0, d, hd, hv, hex⟩
        · rw [h] at hok; cases hok
        · obtain ⟨lab, ow, r, vb, vd, bvs, hT⟩ := h9.keepN k10
          have hlen : l.length ≤ 40 := by omega
          have hfl := flatN l 40 hc40
          have : l.length * 40 ≤ 40 * 40 := Nat.mul_le_mul hlen (Nat.le_refl _)
          refine (learned_ret hT.tr (by omega) I.lv (why_of rl I.ri dc (fun c hc x hx => (I.wi.rng c hc x hx).1)) (al.ll |> fun g => g.keep k10 (fun _ _ _ h => h)) (fun c hc => by have := hc40 c hc; omega) (by omega) (by omega) hI h0 hd hbn hv (hex hbn)).mono (fun r w' ⟨g1, g2⟩ => ⟨g1, (k10.mono (fun _ _ h => h.elim)).trans g2 (fun b hb e => (hT.iff b).2 (.inl e))⟩)
      cases ok with
      | false =>
        by_cases hkl : k < ds.length
        all_goals
          (repeat (first|refine ja ?_|refine jb ?_|refine jc ?_|refine jd ?_|refine je ?_|refine jf ?_|refine jg ?_|refine jh ?_|refine ji ?_|refine jj ?_|refine jk ?_|refine jl ?_|refine jm ?_|refine jn ?_|refine jo ?_|refine jp ?_|refine jq ?_|refine jr ?_|refine js ?_|refine jt ?_|refine ju ?_|refine jv ?_|refine jw ?_|refine jx ?_|refine jy ?_|refine jz ?_|refine jA ?_|refine jB ?_|refine jC ?_|refine jD ?_|refine jE ?_|refine jF ?_|refine jG ?_|refine jH ?_|refine jI ?_|refine jJ ?_|refine jK ?_|refine jL ?_|refine jM (by assumption) ?_|refine jN (by assumption) rfl ?_|refine jO (by assumption) ?_|refine jP (by assumption) rfl ?_|refine jQ ?_|refine jR ?_|refine jS ?_|refine jT ?_|refine jU (by assumption) rfl ?_))
          refine M.call_i (lvs_tw h9) ?_; rintro _ w10 ⟨rfl, k10⟩
          have hbl : t.begins.length ≤ 1048578 := by
            obtain ⟨_, _, _, ok⟩ := h9.fine
            have := ok.lbeg
            have := ok.llen
            have := ok.vars
            omega
          by_cases hz : t.begins.length = 0
          · (repeat (first|refine ja ?_|refine jb ?_|refine jc ?_|refine jd ?_|refine je ?_|refine jf ?_|refine jg ?_|refine jh ?_|refine ji ?_|refine jj ?_|refine jk ?_|refine jl ?_|refine jm ?_|refine jn ?_|refine jo ?_|refine jp ?_|refine jq ?_|refine jr ?_|refine js ?_|refine jt ?_|refine ju ?_|refine jv ?_|refine jw ?_|refine jx ?_|refine jy ?_|refine jz ?_|refine jA ?_|refine jB ?_|refine jC ?_|refine jD ?_|refine jE ?_|refine jF ?_|refine jG ?_|refine jH ?_|refine jI ?_|refine jJ ?_|refine jK ?_|refine jL ?_|refine jM (by assumption) ?_|refine jN (by assumption) rfl ?_|refine jO (by assumption) ?_|refine jP (by assumption) rfl ?_|refine jQ ?_|refine jR ?_|refine jS ?_|refine jT ?_|refine jU (by assumption) rfl ?_))
            refine M.call_i (awake12_ret w10) ?_; rintro _ w11 ⟨rfl, k11⟩
            exact ⟨rfl, (fr.1.trans k10 (fun _ _ h => h)).trans k11 (fun _ _ h => h)⟩
          · (repeat (first|refine ja ?_|refine jb ?_|refine jc ?_|refine jd ?_|refine je ?_|refine jf ?_|refine jg ?_|refine jh ?_|refine ji ?_|refine jj ?_|refine jk ?_|refine jl ?_|refine jm ?_|refine jn ?_|refine jo ?_|refine jp ?_|refine jq ?_|refine jr ?_|refine js ?_|refine jt ?_|refine ju ?_|refine jv ?_|refine jw ?_|refine jx ?_|refine jy ?_|refine jz ?_|refine jA ?_|refine jB ?_|refine jC ?_|refine jD ?_|refine jE ?_|refine jF ?_|refine jG ?_|refine jH ?_|refine jI ?_|refine jJ ?_|refine jK ?_|refine jL ?_|refine jM (by assumption) ?_|refine jN (by assumption) rfl ?_|refine jO (by assumption) ?_|refine jP (by assumption) rfl ?_|refine jQ ?_|refine jR ?_|refine jS ?_|refine jT ?_|refine jU (by assumption) rfl ?_))
            refine M.call_i (fin w10 k10 rfl hz) ?_; rintro _ w11 ⟨rfl, k11⟩
            (repeat (first|refine ja ?_|refine jb ?_|refine jc ?_|refine jd ?_|refine je ?_|refine jf ?_|refine jg ?_|refine jh ?_|refine ji ?_|refine jj ?_|refine jk ?_|refine jl ?_|refine jm ?_|refine jn ?_|refine jo ?_|refine jp ?_|refine jq ?_|refine jr ?_|refine js ?_|refine jt ?_|refine ju ?_|refine jv ?_|refine jw ?_|refine jx ?_|refine jy ?_|refine jz ?_|refine jA ?_|refine jB ?_|refine jC ?_|refine jD ?_|refine jE ?_|refine jF ?_|refine jG ?_|refine jH ?_|refine jI ?_|refine jJ ?_|refine jK ?_|refine jL ?_|refine jM (by assumption) ?_|refine jN (by assumption) rfl ?_|refine jO (by assumption) ?_|refine jP (by assumption) rfl ?_|refine jQ ?_|refine jR ?_|refine jS ?_|refine jT ?_|refine jU (by assumption) rfl ?_))
            refine M.call_i (awake12_ret w11) ?_; rintro _ w12 ⟨rfl, k12⟩
            (repeat (first|refine ja ?_|refine jb ?_|refine jc ?_|refine jd ?_|refine je ?_|refine jf ?_|refine jg ?_|refine jh ?_|refine ji ?_|refine jj ?_|refine jk ?_|refine jl ?_|refine jm ?_|refine jn ?_|refine jo ?_|refine jp ?_|refine jq ?_|refine jr ?_|refine js ?_|refine jt ?_|refine ju ?_|refine jv ?_|refine jw ?_|refine jx ?_|refine jy ?_|refine jz ?_|refine jA ?_|refine jB ?_|refine jC ?_|refine jD ?_|refine jE ?_|refine jF ?_|refine jG ?_|refine jH ?_|refine jI ?_|refine jJ ?_|refine jK ?_|refine jL ?_|refine jM (by assumption) ?_|refine jN (by assumption) rfl ?_|refine jO (by assumption) ?_|refine jP (by assumption) rfl ?_|refine jQ ?_|refine jR ?_|refine jS ?_|refine jT ?_|refine jU (by assumption) rfl ?_))
            exact ⟨rfl, (fr.1.trans k11 (fun j hj e => by have := fr.2 j e; omega)).trans k12 (fun _ _ h => h)⟩
      | true =>
        by_cases hkl : k < ds.length
        · obtain ⟨x, hx⟩ : ∃ x, ds[k]? = some x := ⟨_, List.getElem?_eq_getElem hkl⟩
          (repeat (first|refine ja ?_|refine jb ?_|refine jc ?_|refine jd ?_|refine je ?_|refine jf ?_|refine jg ?_|refine jh ?_|refine ji ?_|refine jj ?_|refine jk ?_|refine jl ?_|refine jm ?_|refine jn ?_|refine jo ?_|refine jp ?_|refine jq ?_|refine jr ?_|refine js ?_|refine jt ?_|refine ju ?_|refine jv ?_|refine jw ?_|refine jx ?_|refine jy ?_|refine jz ?_|refine jA ?_|refine jB ?_|refine jC ?_|refine jD ?_|refine jE ?_|refine jF ?_|refine jG ?_|refine jH ?_|refine jI ?_|refine jJ ?_|refine jK ?_|refine jL ?_|refine jM (by assumption) ?_|refine jN (by assumption) rfl ?_|refine jO (by assumption) ?_|refine jP (by assumption) rfl ?_|refine jQ ?_|refine jR ?_|refine jS ?_|refine jT ?_|refine jU (by assumption) rfl ?_))
          refine M.share_j (fun vals w' => ∃ ok ii, vals = [vi ii, .bool ok] ∧ P2 W p q n va us l (k + 1) ok ii w') ?_ ?_
          · rintro vals w10 ⟨ok, ii, rfl, st⟩ _
            (repeat (first|refine ja ?_|refine jb ?_|refine jc ?_|refine jd ?_|refine je ?_|refine jf ?_|refine jg ?_|refine jh ?_|refine ji ?_|refine jj ?_|refine jk ?_|refine jl ?_|refine jm ?_|refine jn ?_|refine jo ?_|refine jp ?_|refine jq ?_|refine jr ?_|refine js ?_|refine jt ?_|refine ju ?_|refine jv ?_|refine jw ?_|refine jx ?_|refine jy ?_|refine jz ?_|refine jA ?_|refine jB ?_|refine jC ?_|refine jD ?_|refine jE ?_|refine jF ?_|refine jG ?_|refine jH ?_|refine jI ?_|refine jJ ?_|refine jK ?_|refine jL ?_|refine jM (by assumption) ?_|refine jN (by assumption) rfl ?_|refine jO (by assumption) ?_|refine jP (by assumption) rfl ?_|refine jQ ?_|refine jR ?_|refine jS ?_|refine jT ?_|refine jU (by assumption) rfl ?_))
            exact hK2 (k + 1) _ _ (by omega) ⟨ok, ii, by simp, by omega, st⟩
          · intro K3 hK3
            have h9d := h9
            have frd := fr
            have ald := al
            refine M.idxLV_i (hb.keep frd.1 (fun _ _ _ h => h)) rfl (by omega) (by omega) (x := x) (by rw [Int.toNat_natCast]; exact hx) (fun bb oo hA hcc => ?_)
            (repeat (first|refine ja ?_|refine jb ?_|refine jc ?_|refine jd ?_|refine je ?_|refine jf ?_|refine jg ?_|refine jh ?_|refine ji ?_|refine jj ?_|refine jk ?_|refine jl ?_|refine jm ?_|refine jn ?_|refine jo ?_|refine jp ?_|refine jq ?_|refine jr ?_|refine js ?_|refine jt ?_|refine ju ?_|refine jv ?_|refine jw ?_|refine jx ?_|refine jy ?_|refine jz ?_|refine jA ?_|refine jB ?_|refine jC ?_|refine jD ?_|refine jE ?_|refine jF ?_|refine jG ?_|refine jH ?_|refine jI ?_|refine jJ ?_|refine jK ?_|refine jL ?_|refine jM (by assumption) ?_|refine jN (by assumption) rfl ?_|refine jO (by assumption) ?_|refine jP (by assumption) rfl ?_|refine jQ ?_|refine jR ?_|refine jS ?_|refine jT ?_|refine jU (by assumption) rfl ?_))
            refine M.call_i (dec_tw h9d I.wf x) ?_; rintro _ w10 ⟨rfl, O2, h10, m10⟩
            have sh : ∀ c ∈ s.cls, Shut t c := by
              rcases out with ⟨_, h⟩ | ⟨h, _⟩
              · exact h
              · cases h
            have I10 := I.dec h9.fine (by omega) x
            cases hm : t.may x with
            | false =>
              (repeat (first|refine ja ?_|refine jb ?_|refine jc ?_|refine jd ?_|refine je ?_|refine jf ?_|refine jg ?_|refine jh ?_|refine ji ?_|refine jj ?_|refine jk ?_|refine jl ?_|refine jm ?_|refine jn ?_|refine jo ?_|refine jp ?_|refine jq ?_|refine jr ?_|refine js ?_|refine jt ?_|refine ju ?_|refine jv ?_|refine jw ?_|refine jx ?_|refine jy ?_|refine jz ?_|refine jA ?_|refine jB ?_|refine jC ?_|refine jD ?_|refine jE ?_|refine jF ?_|refine jG ?_|refine jH ?_|refine jI ?_|refine jJ ?_|refine jK ?_|refine jL ?_|refine jM (by assumption) ?_|refine jN (by assumption) rfl ?_|refine jO (by assumption) ?_|refine jP (by assumption) rfl ?_|refine jQ ?_|refine jR ?_|refine jS ?_|refine jT ?_|refine jU (by assumption) rfl ?_))
              have e : t.dec x = t := by unfold Tr.dec; rw [hm]; rfl
              rw [e] at h10
              exact hK3 _ _ ⟨true, ii, rfl, t, s, O2, bk, cv, wv, h10, I.mono (by omega) (by omega) (by omega), rl, dc, ald.step m10 frd, frd.step m10, .inl ⟨rfl, sh⟩, hvt⟩
            | true =>
              (repeat (first|refine ja ?_|refine jb ?_|refine jc ?_|refine jd ?_|refine je ?_|refine jf ?_|refine jg ?_|refine jh ?_|refine ji ?_|refine jj ?_|refine jk ?_|refine jl ?_|refine jm ?_|refine jn ?_|refine jo ?_|refine jp ?_|refine jq ?_|refine jr ?_|refine js ?_|refine jt ?_|refine ju ?_|refine jv ?_|refine jw ?_|refine jx ?_|refine jy ?_|refine jz ?_|refine jA ?_|refine jB ?_|refine jC ?_|refine jD ?_|refine jE ?_|refine jF ?_|refine jG ?_|refine jH ?_|refine jI ?_|refine jJ ?_|refine jK ?_|refine jL ?_|refine jM (by assumption) ?_|refine jN (by assumption) rfl ?_|refine jO (by assumption) ?_|refine jP (by assumption) rfl ?_|refine jQ ?_|refine jR ?_|refine jS ?_|refine jT ?_|refine jU (by assumption) rfl ?_))
              refine M.call_i (run_inv h10 I10 (by omega) (by omega) (by omega)) ?_; rintro _ w11 ⟨t', s', O', wv', ii', ok, rfl, h11, m11, R⟩
              refine M.extract_i (v := vi ii') rfl ?_
              refine M.extract_i (v := .bool ok) rfl ?_
              obtain ⟨new, nb, hxt⟩ := id R.ext
              have rl' := rl.ceq R.ceq R.ev
              have fr10 := frd.step m10
              exact hK3 _ _ ⟨ok, ii', rfl, t', s', O', bk, cv, wv', h11, (I10.run h10.fine h11.fine R).mono (by omega) (by omega) (by omega), rl', (dc.dec x hm).ext hxt, (ald.step m10 frd).step m11 fr10, fr10.step m11, out_step h9.fine h11.fine hm hxt R.ceq rl' (fun c hc x hx => (I.wi.rng c hc x hx).1) (fun c hc x hx => (R.wi.rng c hc x hx).1) sh R.out, by rw [hxt.vars, (dec_L t x hm).2.2]; exact hvt⟩
        · (repeat (first|refine ja ?_|refine jb ?_|refine jc ?_|refine jd ?_|refine je ?_|refine jf ?_|refine jg ?_|refine jh ?_|refine ji ?_|refine jj ?_|refine jk ?_|refine jl ?_|refine jm ?_|refine jn ?_|refine jo ?_|refine jp ?_|refine jq ?_|refine jr ?_|refine js ?_|refine jt ?_|refine ju ?_|refine jv ?_|refine jw ?_|refine jx ?_|refine jy ?_|refine jz ?_|refine jA ?_|refine jB ?_|refine jC ?_|refine jD ?_|refine jE ?_|refine jF ?_|refine jG ?_|refine jH ?_|refine jI ?_|refine jJ ?_|refine jK ?_|refine jL ?_|refine jM (by assumption) ?_|refine jN (by assumption) rfl ?_|refine jO (by assumption) ?_|refine jP (by assumption) rfl ?_|refine jQ ?_|refine jR ?_|refine jS ?_|refine jT ?_|refine jU (by assumption) rfl ?_))
          refine M.call_i (awake12_ret w9) ?_; rintro _ w10 ⟨rfl, k10⟩
          exact ⟨rfl, fr.1.trans k10 (fun _ _ h => h)⟩
end Go.Proofs.Ytnmbgfonlpjicaa
