import Derived.Test.YtnmbgfonlpjicaaW11j
namespace Go.Proofs.Ytnmbgfonlpjicaa
open Go.Mw Go.MapKept
set_option linter.unusedVariables false
set_option linter.unusedSimpArgs false
set_option maxRecDepth 100000
attribute [local irreducible] M.val M.unit M.next M.pick M.new M.nilCheck M.load1 M.loadA M.store M.fieldAddr M.indexSl M.indexArr M.slice M.makeSlice M.buildSlice M.len M.lenS M.cap M.append M.extract M.conv M.not M.neg M.bin M.shift M.eqB M.eqNil M.call M.callv M.gd M.share M.cond M.loop M.draw pureW readW Ret
/-! breakwater/watch.New: function 10 -/
def sh10 (x0 : Value) (R : Kt) (w : World) : Prop :=
  M.share (fun K1 w =>
  M.bin .lss x0 (Value.int IntKind.i64 0) (fun t4 w =>
  M.gd t4 false (fun k w => k x0 w) (fun t6 w =>
  M.gd t4 false (fun k w => M.bin .gtr t6 (Value.int IntKind.i64 1048576) k w) (fun t7 w =>
  M.pick t4 (Value.bool true) t7 (fun t8 w =>
  M.cond t8
  (K1 [(Value.int IntKind.i64 0)] w)
  (K1 [x0] w)) w) w) w) w) (fun s1 w => ∀ _ : List Value,
  M.val Try.prog (Instr.makeMap 61 none) (fun t10 w =>
  M.bin .mul (Value.int IntKind.i64 2) (s1.getD 0 undef) (fun t12 w =>
  M.makeSlice 25 1 24 #[.slice none 0 0] t12 t12 (fun t13 w =>
  pureW Try.prog (Instr.build 64 #[(0, (s1.getD 0 undef)), (2, t10), (3, t13)]) (fun t14 w =>
  M.new 64 (Value.cells t14) (fun t15 w =>
  R t15 w) w) w) w) w) w) w
theorem ok10 (x0 : Value) (R : Kt) (w : World) (h : sh10 x0 R w) : Ret Try.prog 10 #[x0] w R :=
  ret_mk <| calls_of_comp mixed (c := Try.f10.body.getD .skip) (args := [x0]) (rs := [(ResultVar.tmp 2)]) (Ann.seq Ann.text (Ann.join [0] [3, 4, 5, 6, 7, 8] (Ann.seq Ann.text (Ann.cond Ann.text Ann.leaf)) (Ann.seq Ann.text Ann.leaf)))
    Try.func10 (by kernel_rfl) (by kernel_rfl)
    (Eq.mp (by kernel_rfl) h)

def Wt.new (vars : Int) : Wt := ⟨(Tr.new vars).vars, 0, [], List.replicate (2 * (Tr.new vars).vars) [], [], []⟩
theorem wnew_ret (vars : Int) (w : World) : Ret Try.prog 10 #[vi vars] w (fun v w' => ∃ q ow r vb bvs, v = ptr q ∧ WB w' q ow (fun _ => 0) (fun _ => undef) (Wt.new vars) r vb (.slice none 0 0) (.slice none 0 0) bvs ∧ Keep w w' No ∧ ∀ b, ow b ≠ 0 → w.heap.size ≤ b) := by
  refine ok10 _ _ _ ?_
  unfold sh10
  refine M.share_j (fun vals w' => ∃ n : Nat, vals = [vi n] ∧ n = (Tr.new vars).vars ∧ w' = w) ?_ ?_
  case refine_2 =>
    intro K hK
    by_cases h0 : vars < 0
    · (repeat (first|refine ja ?_|refine jb ?_|refine jc ?_|refine jd ?_|refine je ?_|refine jf ?_|refine jg ?_|refine jh ?_|refine ji ?_|refine jj ?_|refine jk ?_|refine jl ?_|refine jm ?_|refine jn ?_|refine jo ?_|refine jp ?_|refine jq ?_|refine jr ?_|refine js ?_|refine jt ?_|refine ju ?_|refine jv ?_|refine jw ?_|refine jx ?_|refine jy ?_|refine jz ?_|refine jA ?_|refine jB ?_|refine jC ?_|refine jD ?_|refine jE ?_|refine jF ?_|refine jG ?_|refine jH ?_|refine jI ?_|refine jJ ?_|refine jK ?_|refine jL ?_|refine jM (by assumption) ?_|refine jN (by assumption) rfl ?_|refine jO (by assumption) ?_|refine jP (by assumption) rfl ?_|refine jQ ?_|refine jR ?_|refine jS ?_|refine jT ?_|refine jU (by assumption) rfl ?_))
      exact hK _ _ ⟨0, rfl, by simp [Tr.new, h0], rfl⟩
    by_cases h1 : 1048576 < vars
    · (repeat (first|refine ja ?_|refine jb ?_|refine jc ?_|refine jd ?_|refine je ?_|refine jf ?_|refine jg ?_|refine jh ?_|refine ji ?_|refine jj ?_|refine jk ?_|refine jl ?_|refine jm ?_|refine jn ?_|refine jo ?_|refine jp ?_|refine jq ?_|refine jr ?_|refine js ?_|refine jt ?_|refine ju ?_|refine jv ?_|refine jw ?_|refine jx ?_|refine jy ?_|refine jz ?_|refine jA ?_|refine jB ?_|refine jC ?_|refine jD ?_|refine jE ?_|refine jF ?_|refine jG ?_|refine jH ?_|refine jI ?_|refine jJ ?_|refine jK ?_|refine jL ?_|refine jM (by assumption) ?_|refine jN (by assumption) rfl ?_|refine jO (by assumption) ?_|refine jP (by assumption) rfl ?_|refine jQ ?_|refine jR ?_|refine jS ?_|refine jT ?_|refine jU (by assumption) rfl ?_))
      exact hK _ _ ⟨0, rfl, by simp [Tr.new, h1], rfl⟩
    · (repeat (first|refine ja ?_|refine jb ?_|refine jc ?_|refine jd ?_|refine je ?_|refine jf ?_|refine jg ?_|refine jh ?_|refine ji ?_|refine jj ?_|refine jk ?_|refine jl ?_|refine jm ?_|refine jn ?_|refine jo ?_|refine jp ?_|refine jq ?_|refine jr ?_|refine js ?_|refine jt ?_|refine ju ?_|refine jv ?_|refine jw ?_|refine jx ?_|refine jy ?_|refine jz ?_|refine jA ?_|refine jB ?_|refine jC ?_|refine jD ?_|refine jE ?_|refine jF ?_|refine jG ?_|refine jH ?_|refine jI ?_|refine jJ ?_|refine jK ?_|refine jL ?_|refine jM (by assumption) ?_|refine jN (by assumption) rfl ?_|refine jO (by assumption) ?_|refine jP (by assumption) rfl ?_|refine jQ ?_|refine jR ?_|refine jS ?_|refine jT ?_|refine jU (by assumption) rfl ?_))
      have e : ((vars.toNat : Nat) : Int) = vars := by omega
      refine hK _ _ ⟨vars.toNat, by rw [e], by simp [Tr.new, h0, h1], rfl⟩
  rintro vals w' ⟨n, rfl, hn, rfl⟩ _
  have hnv : n ≤ 1048576 := by
    rw [hn]
    unfold Tr.new
    simp only
    split <;> omega
  simp only [List.getD_cons_zero, List.getD_cons_succ]
  refine M.makeMap_i (fun w1 m1 k1 s1 => ?_)
  refine M.mul_i (by omega) (by omega) ?_
  have e2 : (2 : Int) * (n : Int) = ((2 * n : Nat) : Int) := by omega
  rw [e2]
  refine M.makeSlice_i (z := .slice none 0 0) rfl rfl (by omega) (by omega) (fun w2 b2 k2 s2 => ?_)
  refine M.pure_i (.agg ⟨[vi n, vi 0, .map (some w'.heap.size), .slice (some ⟨w1.heap.size, 0, none⟩) (2 * n) (2 * n), .slice none 0 0, .slice none 0 0]⟩) (fun _ => by kernel_rfl) ?_
  refine M.new_i (l := [vi n, vi 0, .map (some w'.heap.size), .slice (some ⟨w1.heap.size, 0, none⟩) (2 * n) (2 * n), .slice none 0 0, .slice none 0 0]) (fun w3 b3 k3 s3 => ?_)
  have m3 := (m1.keep k2 (fun h => h)).keep k3 (fun h => h)
  have b23 := b2.keep k3 (fun h => h)
  refine ⟨w2.heap.size, fun b => if b = w2.heap.size then 1 else if b = w'.heap.size then 2 else if b = w1.heap.size then 3 else 0, w'.heap.size, .slice (some ⟨w1.heap.size, 0, none⟩) (2 * n) (2 * n), List.replicate (2 * n) (.slice none 0 0), rfl, ⟨?_, m3, ?_, ?_, fun i l hi => ?_, GC.nil _ _ _, GC.nil _ _ _, fun c hc => (by cases hc), ?_, ?_, fun b hb => ?_⟩, (k1.trans k2 (fun _ _ h => h)).trans k3 (fun _ _ h => h), fun b hb => ?_⟩
  · unfold Wt.new
    rw [← hn]; exact b3
  · have := GC.of_blk (w := w3) (L := fun b => (if b = w2.heap.size then 1 else if b = w'.heap.size then 2 else if b = w1.heap.size then 3 else 0) = 3) (sz := 1) (n := 2 * n) b23 (by simp only [if_neg (show ¬ w1.heap.size = w2.heap.size by omega), if_neg (show ¬ w1.heap.size = w'.heap.size by omega), if_true]) (by simp)
    rw [List.length_replicate]; exact this
  · unfold Wt.new
    rw [← hn]; simp
  · unfold Wt.new at hi
    simp only [List.getElem?_replicate] at hi
    split at hi
    · cases hi
      refine ⟨.slice none 0 0, by rw [List.getElem?_replicate, if_pos (by omega)], GC.nil _ _ _⟩
    · cases hi
  · simp
  · simp only [if_neg (show ¬ w'.heap.size = w2.heap.size by omega), if_true]
  · try simp only at hb
    split at hb
    · omega
    · split at hb
      · omega
      · split at hb
        · omega
        · exact absurd rfl hb
  · try simp only at hb
    split at hb
    · omega
    · split at hb
      · omega
      · split at hb
        · omega
        · exact absurd rfl hb
/-- A trail and a new watch. -/
theorem TWR.new {w w1 : World} {p q r : Nat} {lab ow : Nat → Nat} {t : Tr} {bk : Nat → Nat} {cv : Nat → Value} {s : Wt} {vb wv vd : Value} {bvs : List Value} (ht : TRep w p lab t) (k : Keep w w1 No) (hw : WB w1 q ow bk cv s r vb wv vd bvs) (ho : ∀ b, ow b ≠ 0 → w.heap.size ≤ b) :
    TWR w1 p q (fun b => lab b ≠ 0 ∨ ow b ≠ 0) bk cv wv t s :=
  ⟨lab, ow, r, vb, vd, bvs, ht.keep k (fun _ _ _ h => h), hw, fun b hb => by
    have := tr_lt ht hb
    by_cases e : ow b = 0
    · exact e
    · have := ho b e; omega, fun _ => Iff.rfl⟩
theorem wi_new (vars : Int) : WI (Tr.new vars) (Wt.new vars) X0 :=
  ⟨rfl, by simp [Wt.new], fun c hc => (by cases hc), by simp [Wt.new], fun c hc => (by cases hc), fun c hc => (by cases hc), fun c hc => (by cases hc), fun c hc => (by cases hc), fun d hd => (by cases hd)⟩
theorem ri_new (vars : Int) : RI (Tr.new vars) [] := fun i e h => by simp [Tr.new] at h
end Go.Proofs.Ytnmbgfonlpjicaa
