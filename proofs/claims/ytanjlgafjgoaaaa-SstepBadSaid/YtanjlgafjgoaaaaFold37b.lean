import Derived.Test.YtanjlgafjgoaaaaFold37
namespace Go.Proofs.Ytanjlgafjgoaaaa
open Go.Mw
set_option linter.unusedVariables false
set_option linter.unusedSimpArgs false
set_option maxRecDepth 100000
attribute [local irreducible] M.val M.unit M.next M.pick M.new M.nilCheck M.load1 M.loadA M.store M.fieldAddr M.indexSl M.indexArr M.slice M.makeSlice M.buildSlice M.len M.lenS M.cap M.append M.extract M.conv M.not M.neg M.bin M.shift M.eqB M.eqNil M.scat M.call M.callv M.gd M.share M.cond M.loop M.draw pureW readW Ret
section
variable {w : World} {F : Nat → Prop} {p : Nat} {N : List Nd} {most : Int}
def tailB (N : List Nd) (x0 : Value) (op a b W : Int) (R : Kt) (w : World) : Prop :=
  M.call Try.prog 72 #[x0, vi op, vi a, vi b] (fun t118 w =>
  M.cond t118
  (M.call Try.prog 7 #[x0, vi W, (Value.int IntKind.u64 0)] (fun t121 w =>
  M.extract 0 t121 (fun t122 w =>
  M.extract 1 t121 (fun t123 w =>
  R (.tuple #[t122, t123]) w) w) w) w)
  (M.bin .eql (vi op) (Value.int IntKind.i64 12) (fun t126 w =>
  M.gd t126 true (fun k w => k (vi a) w) (fun t128 w =>
  M.gd t126 true (fun k w => k (vi b) w) (fun t129 w =>
  M.gd t126 true (fun k w => M.bin .eql t128 t129 k w) (fun t130 w =>
  M.pick t126 t130 (Value.bool false) (fun t131 w =>
  M.cond t131
  (M.call Try.prog 7 #[x0, (Value.int IntKind.i64 1), (Value.int IntKind.u64 1)] (fun t133 w =>
  M.extract 0 t133 (fun t134 w =>
  M.extract 1 t133 (fun t135 w =>
  R (.tuple #[t134, t135]) w) w) w) w)
  (M.bin .eql (vi op) (Value.int IntKind.i64 6) (fun t138 w =>
  M.gd t138 false (fun k w => k (vi op) w) (fun t140 w =>
  M.gd t138 false (fun k w => M.bin .eql t140 (Value.int IntKind.i64 7) k w) (fun t141 w =>
  M.pick t138 (Value.bool true) t141 (fun t142 w =>
  M.gd t142 true (fun k w => k (vi a) w) (fun t144 w =>
  M.gd t142 true (fun k w => k (vi b) w) (fun t145 w =>
  M.gd t142 true (fun k w => M.bin .eql t144 t145 k w) (fun t146 w =>
  M.pick t142 t146 (Value.bool false) (fun t147 w =>
  M.cond t147
  (R (.tuple #[vi a, (Value.int IntKind.i64 0)]) w)
  (M.call Try.prog 68 #[x0, vi op, vi a, vi b] (fun t153 w =>
  M.extract 0 t153 (fun t154 w =>
  M.extract 1 t153 (fun t155 w =>
  R (.tuple #[t154, t155]) w) w) w) w)) w) w) w) w) w) w) w) w)) w) w) w) w) w)) w
theorem tailB_ret {w0 : World} (hd0 : DagO w0 F p N most) (k : Keep w0 w No) (op a b W : Int) : tailB N (ptr p) op a b W (AskO w0 F p most (
      if noughtN N op a b then constN most N W 0
      else if op = 12 ∧ a = b then constN most N 1 1
      else if (op = 6 ∨ op = 7) ∧ a = b then (N, a, 0)
      else binaryN most N op a b)) w := by
  unfold tailB
  refine M.call_i (nought_ret (hd0.keepN k) op a b) ?_; rintro _ w1 ⟨rfl, k1⟩
  have k01 := k.trans k1 (fun _ _ h => h)
  have hd1 := hd0.keepN k01
  cases hn : noughtN N op a b with
  | true =>
    rw [if_pos rfl]
    (repeat (first|refine ja ?_|refine jb ?_|refine jc ?_|refine jd ?_|refine je ?_|refine jf ?_|refine jg ?_|refine jh ?_|refine ji ?_|refine jj ?_|refine jk ?_|refine jl ?_|refine jm ?_|refine jn ?_|refine jo ?_|refine jp ?_|refine jq ?_|refine jr ?_|refine js ?_|refine jt ?_|refine ju ?_|refine jv ?_|refine jw ?_|refine jx ?_|refine jy ?_|refine jz ?_|refine jA ?_|refine jB ?_|refine jC ?_|refine jD ?_|refine jE ?_|refine jF ?_|refine jG ?_|refine jH ?_|refine jI ?_|refine jJ ?_|refine jK ?_|refine jL ?_|refine jM (by assumption) ?_|refine jN (by assumption) rfl ?_|refine jO (by assumption) ?_|refine jP (by assumption) rfl ?_|refine jQ ?_|refine jR ?_|refine jS ?_|refine jT ?_|refine jU (by assumption) rfl ?_))
    exact M.pass_i k01 (const_ret hd1 _ 0) (fun _ _ h => h)
  | false =>
    rw [if_neg (by decide)]
    by_cases h12 : op = 12
    · by_cases hab : a = b
      · rw [if_pos ⟨h12, hab⟩]
        (repeat (first|refine ja ?_|refine jb ?_|refine jc ?_|refine jd ?_|refine je ?_|refine jf ?_|refine jg ?_|refine jh ?_|refine ji ?_|refine jj ?_|refine jk ?_|refine jl ?_|refine jm ?_|refine jn ?_|refine jo ?_|refine jp ?_|refine jq ?_|refine jr ?_|refine js ?_|refine jt ?_|refine ju ?_|refine jv ?_|refine jw ?_|refine jx ?_|refine jy ?_|refine jz ?_|refine jA ?_|refine jB ?_|refine jC ?_|refine jD ?_|refine jE ?_|refine jF ?_|refine jG ?_|refine jH ?_|refine jI ?_|refine jJ ?_|refine jK ?_|refine jL ?_|refine jM (by assumption) ?_|refine jN (by assumption) rfl ?_|refine jO (by assumption) ?_|refine jP (by assumption) rfl ?_|refine jQ ?_|refine jR ?_|refine jS ?_|refine jT ?_|refine jU (by assumption) rfl ?_))
        exact M.pass_i k01 (const_ret hd1 1 1) (fun _ _ h => h)
      · rw [if_neg (fun h => hab h.2), if_neg (fun h => hab h.2)]
        (repeat (first|refine ja ?_|refine jb ?_|refine jc ?_|refine jd ?_|refine je ?_|refine jf ?_|refine jg ?_|refine jh ?_|refine ji ?_|refine jj ?_|refine jk ?_|refine jl ?_|refine jm ?_|refine jn ?_|refine jo ?_|refine jp ?_|refine jq ?_|refine jr ?_|refine js ?_|refine jt ?_|refine ju ?_|refine jv ?_|refine jw ?_|refine jx ?_|refine jy ?_|refine jz ?_|refine jA ?_|refine jB ?_|refine jC ?_|refine jD ?_|refine jE ?_|refine jF ?_|refine jG ?_|refine jH ?_|refine jI ?_|refine jJ ?_|refine jK ?_|refine jL ?_|refine jM (by assumption) ?_|refine jN (by assumption) rfl ?_|refine jO (by assumption) ?_|refine jP (by assumption) rfl ?_|refine jQ ?_|refine jR ?_|refine jS ?_|refine jT ?_|refine jU (by assumption) rfl ?_))
        exact M.pass_i k01 (binary_ret hd1 op a b) (fun _ _ h => h)
    · rw [if_neg (fun h => h12 h.1)]
      by_cases h67 : op = 6 ∨ op = 7
      · by_cases hab : a = b
        · rw [if_pos ⟨h67, hab⟩]
          rcases h67 with e | e
          all_goals
            (repeat (first|refine ja ?_|refine jb ?_|refine jc ?_|refine jd ?_|refine je ?_|refine jf ?_|refine jg ?_|refine jh ?_|refine ji ?_|refine jj ?_|refine jk ?_|refine jl ?_|refine jm ?_|refine jn ?_|refine jo ?_|refine jp ?_|refine jq ?_|refine jr ?_|refine js ?_|refine jt ?_|refine ju ?_|refine jv ?_|refine jw ?_|refine jx ?_|refine jy ?_|refine jz ?_|refine jA ?_|refine jB ?_|refine jC ?_|refine jD ?_|refine jE ?_|refine jF ?_|refine jG ?_|refine jH ?_|refine jI ?_|refine jJ ?_|refine jK ?_|refine jL ?_|refine jM (by assumption) ?_|refine jN (by assumption) rfl ?_|refine jO (by assumption) ?_|refine jP (by assumption) rfl ?_|refine jQ ?_|refine jR ?_|refine jS ?_|refine jT ?_|refine jU (by assumption) rfl ?_))
            exact AskO.stay hd0 k01 rfl rfl
        · rw [if_neg (fun h => hab h.2)]
          rcases h67 with e | e
          all_goals
            (repeat (first|refine ja ?_|refine jb ?_|refine jc ?_|refine jd ?_|refine je ?_|refine jf ?_|refine jg ?_|refine jh ?_|refine ji ?_|refine jj ?_|refine jk ?_|refine jl ?_|refine jm ?_|refine jn ?_|refine jo ?_|refine jp ?_|refine jq ?_|refine jr ?_|refine js ?_|refine jt ?_|refine ju ?_|refine jv ?_|refine jw ?_|refine jx ?_|refine jy ?_|refine jz ?_|refine jA ?_|refine jB ?_|refine jC ?_|refine jD ?_|refine jE ?_|refine jF ?_|refine jG ?_|refine jH ?_|refine jI ?_|refine jJ ?_|refine jK ?_|refine jL ?_|refine jM (by assumption) ?_|refine jN (by assumption) rfl ?_|refine jO (by assumption) ?_|refine jP (by assumption) rfl ?_|refine jQ ?_|refine jR ?_|refine jS ?_|refine jT ?_|refine jU (by assumption) rfl ?_))
            exact M.pass_i k01 (binary_ret hd1 op a b) (fun _ _ h => h)
      · rw [if_neg (fun h => h67 h.1)]
        (repeat (first|refine ja ?_|refine jb ?_|refine jc ?_|refine jd ?_|refine je ?_|refine jf ?_|refine jg ?_|refine jh ?_|refine ji ?_|refine jj ?_|refine jk ?_|refine jl ?_|refine jm ?_|refine jn ?_|refine jo ?_|refine jp ?_|refine jq ?_|refine jr ?_|refine js ?_|refine jt ?_|refine ju ?_|refine jv ?_|refine jw ?_|refine jx ?_|refine jy ?_|refine jz ?_|refine jA ?_|refine jB ?_|refine jC ?_|refine jD ?_|refine jE ?_|refine jF ?_|refine jG ?_|refine jH ?_|refine jI ?_|refine jJ ?_|refine jK ?_|refine jL ?_|refine jM (by assumption) ?_|refine jN (by assumption) rfl ?_|refine jO (by assumption) ?_|refine jP (by assumption) rfl ?_|refine jQ ?_|refine jR ?_|refine jS ?_|refine jT ?_|refine jU (by assumption) rfl ?_))
        exact M.pass_i k01 (binary_ret hd1 op a b) (fun _ _ h => h)
theorem foldBin_bad {op a b : Int} (h : isN N a = false ∨ isN N b = false ∨ wdN N a ≠ wdN N b ∨ op < 1 ∨ 14 < op) : foldBin most N op a b = binaryN most N op a b := by
  unfold foldBin
  rw [if_pos h]
theorem foldBin_two {op a b : Int} {x y : W64} (h : ¬ (isN N a = false ∨ isN N b = false ∨ wdN N a ≠ wdN N b ∨ op < 1 ∨ 14 < op)) (hx : knownN N a = some x) (hy : knownN N b = some y) : foldBin most N op a b = constN most N (if 12 ≤ op then 1 else wdN N a) (binW op (wdN N a) x y) := by
  unfold foldBin
  rw [if_neg h, hx, hy]
theorem foldBin_rest {op a b : Int} (h : ¬ (isN N a = false ∨ isN N b = false ∨ wdN N a ≠ wdN N b ∨ op < 1 ∨ 14 < op)) (hk : ¬ ∃ x y, knownN N a = some x ∧ knownN N b = some y) : foldBin most N op a b = (if rightN N op b then (N, a, 0)
      else if twinsN op && rightN N op a then (N, b, 0)
      else if noughtN N op a b then constN most N (if 12 ≤ op then 1 else wdN N a) 0
      else if op = 12 ∧ a = b then constN most N 1 1
      else if (op = 6 ∨ op = 7) ∧ a = b then (N, a, 0)
      else binaryN most N op a b) := by
  unfold foldBin
  rw [if_neg h]
  cases hx : knownN N a with
  | none => rfl
  | some x =>
    cases hy : knownN N b with
    | none => rfl
    | some y => exact absurd ⟨x, y, hx, hy⟩ hk
set_option maxHeartbeats 4000000 in
theorem foldBin_ret (hd : DagO w F p N most) (op a b : Int) :
    Ret Try.prog 49 #[ptr p, vi op, vi a, vi b] w (AskO w F p most (foldBin most N op a b)) := by
  refine ok49 _ _ _ _ _ _ ?_
  unfold sh49
  refine M.call_i (hd.node a) ?_; rintro _ w1 ⟨rfl, k1⟩
  refine M.extract_i (v := encN (nodeAt N a)) rfl ?_
  refine M.extract_i (v := .bool (isN N a)) rfl ?_
  refine M.new_i (l := zeroNd.cells) (fun w2 b2 k2 s2 => ?_)
  refine M.storeAll_i b2 rfl rfl (cells_one _) (fun w3 b3 k3 s3 => ?_)
  have k03 := keepT1 (k1.trans k2 (fun _ _ h => h)) k3 k1.size
  refine M.call_i ((hd.keepN k03).node b) ?_; rintro _ w4 ⟨rfl, k4⟩
  refine M.extract_i (v := encN (nodeAt N b)) rfl ?_
  refine M.extract_i (v := .bool (isN N b)) rfl ?_
  have b4 := b3.keep k4 (fun h => h)
  have k04 := k03.trans k4 (fun _ _ h => h)
  refine M.new_i (l := zeroNd.cells) (fun w5 b5 k5 s5 => ?_)
  have b5a := b4.keep k5 (fun h => h)
  have hne : w1.heap.size ≠ w4.heap.size := by have := b4.lt; omega
  refine M.storeAll_i b5 rfl rfl (cells_one _) (fun w6 b6 k6 s6 => ?_)
  have k := keepT1 (k04.trans k5 (fun _ _ h => h)) k6 k04.size
  have b6a : Blk w6 w1.heap.size [vi (nodeAt N a).op, vi (nodeAt N a).wd, vi (nodeAt N a).a, vi (nodeAt N a).b, vi (nodeAt N a).c, vw (nodeAt N a).val] := b5a.keep k6 hne
  have b6 : Blk w6 w4.heap.size [vi (nodeAt N b).op, vi (nodeAt N b).wd, vi (nodeAt N b).a, vi (nodeAt N b).b, vi (nodeAt N b).c, vw (nodeAt N b).val] := b6
  have hd6 := hd.keepN k
  have ea := nodeAt_width N a
  have eb := nodeAt_width N b
  cases ha : isN N a with
  | false =>
    rw [foldBin_bad (.inl ha)]
    (repeat (first|refine ja ?_|refine jb ?_|refine jc ?_|refine jd ?_|refine je ?_|refine jf ?_|refine jg ?_|refine jh ?_|refine ji ?_|refine jj ?_|refine jk ?_|refine jl ?_|refine jm ?_|refine jn ?_|refine jo ?_|refine jp ?_|refine jq ?_|refine jr ?_|refine js ?_|refine jt ?_|refine ju ?_|refine jv ?_|refine jw ?_|refine jx ?_|refine jy ?_|refine jz ?_|refine jA ?_|refine jB ?_|refine jC ?_|refine jD ?_|refine jE ?_|refine jF ?_|refine jG ?_|refine jH ?_|refine jI ?_|refine jJ ?_|refine jK ?_|refine jL ?_|refine jM (by assumption) ?_|refine jN (by assumption) rfl ?_|refine jO (by assumption) ?_|refine jP (by assumption) rfl ?_|refine jQ ?_|refine jR ?_|refine jS ?_|refine jT ?_|refine jU (by assumption) rfl ?_))
    exact M.pass_i k (binary_ret hd6 op a b) (fun _ _ h => h)
  | true =>
  cases hb : isN N b with
  | false =>
    rw [foldBin_bad (.inr (.inl hb))]
    (repeat (first|refine ja ?_|refine jb ?_|refine jc ?_|refine jd ?_|refine je ?_|refine jf ?_|refine jg ?_|refine jh ?_|refine ji ?_|refine jj ?_|refine jk ?_|refine jl ?_|refine jm ?_|refine jn ?_|refine jo ?_|refine jp ?_|refine jq ?_|refine jr ?_|refine js ?_|refine jt ?_|refine ju ?_|refine jv ?_|refine jw ?_|refine jx ?_|refine jy ?_|refine jz ?_|refine jA ?_|refine jB ?_|refine jC ?_|refine jD ?_|refine jE ?_|refine jF ?_|refine jG ?_|refine jH ?_|refine jI ?_|refine jJ ?_|refine jK ?_|refine jL ?_|refine jM (by assumption) ?_|refine jN (by assumption) rfl ?_|refine jO (by assumption) ?_|refine jP (by assumption) rfl ?_|refine jQ ?_|refine jR ?_|refine jS ?_|refine jT ?_|refine jU (by assumption) rfl ?_))
    exact M.pass_i k (binary_ret hd6 op a b) (fun _ _ h => h)
  | true =>
  by_cases hw : wdN N a = wdN N b
  case neg =>
    rw [foldBin_bad (.inr (.inr (.inl hw)))]
    (repeat (first|refine ja ?_|refine jb ?_|refine jc ?_|refine jd ?_|refine je ?_|refine jf ?_|refine jg ?_|refine jh ?_|refine ji ?_|refine jj ?_|refine jk ?_|refine jl ?_|refine jm ?_|refine jn ?_|refine jo ?_|refine jp ?_|refine jq ?_|refine jr ?_|refine js ?_|refine jt ?_|refine ju ?_|refine jv ?_|refine jw ?_|refine jx ?_|refine jy ?_|refine jz ?_|refine jA ?_|refine jB ?_|refine jC ?_|refine jD ?_|refine jE ?_|refine jF ?_|refine jG ?_|refine jH ?_|refine jI ?_|refine jJ ?_|refine jK ?_|refine jL ?_|refine jM (by assumption) ?_|refine jN (by assumption) rfl ?_|refine jO (by assumption) ?_|refine jP (by assumption) rfl ?_|refine jQ ?_|refine jR ?_|refine jS ?_|refine jT ?_|refine jU (by assumption) rfl ?_))
    exact M.pass_i k (binary_ret hd6 op a b) (fun _ _ h => h)
  by_cases h1 : op < 1
  · rw [foldBin_bad (.inr (.inr (.inr (.inl h1))))]
    (repeat (first|refine ja ?_|refine jb ?_|refine jc ?_|refine jd ?_|refine je ?_|refine jf ?_|refine jg ?_|refine jh ?_|refine ji ?_|refine jj ?_|refine jk ?_|refine jl ?_|refine jm ?_|refine jn ?_|refine jo ?_|refine jp ?_|refine jq ?_|refine jr ?_|refine js ?_|refine jt ?_|refine ju ?_|refine jv ?_|refine jw ?_|refine jx ?_|refine jy ?_|refine jz ?_|refine jA ?_|refine jB ?_|refine jC ?_|refine jD ?_|refine jE ?_|refine jF ?_|refine jG ?_|refine jH ?_|refine jI ?_|refine jJ ?_|refine jK ?_|refine jL ?_|refine jM (by assumption) ?_|refine jN (by assumption) rfl ?_|refine jO (by assumption) ?_|refine jP (by assumption) rfl ?_|refine jQ ?_|refine jR ?_|refine jS ?_|refine jT ?_|refine jU (by assumption) rfl ?_))
    exact M.pass_i k (binary_ret hd6 op a b) (fun _ _ h => h)
  by_cases h14 : 14 < op
  · rw [foldBin_bad (.inr (.inr (.inr (.inr h14))))]
    (repeat (first|refine ja ?_|refine jb ?_|refine jc ?_|refine jd ?_|refine je ?_|refine jf ?_|refine jg ?_|refine jh ?_|refine ji ?_|refine jj ?_|refine jk ?_|refine jl ?_|refine jm ?_|refine jn ?_|refine jo ?_|refine jp ?_|refine jq ?_|refine jr ?_|refine js ?_|refine jt ?_|refine ju ?_|refine jv ?_|refine jw ?_|refine jx ?_|refine jy ?_|refine jz ?_|refine jA ?_|refine jB ?_|refine jC ?_|refine jD ?_|refine jE ?_|refine jF ?_|refine jG ?_|refine jH ?_|refine jI ?_|refine jJ ?_|refine jK ?_|refine jL ?_|refine jM (by assumption) ?_|refine jN (by assumption) rfl ?_|refine jO (by assumption) ?_|refine jP (by assumption) rfl ?_|refine jQ ?_|refine jR ?_|refine jS ?_|refine jT ?_|refine jU (by assumption) rfl ?_))
    exact M.pass_i k (binary_ret hd6 op a b) (fun _ _ h => h)
  have hgd : ¬ (isN N a = false ∨ isN N b = false ∨ wdN N a ≠ wdN N b ∨ op < 1 ∨ 14 < op) := by rw [ha, hb]; simp; omega
  (repeat (first|refine ja ?_|refine jb ?_|refine jc ?_|refine jd ?_|refine je ?_|refine jf ?_|refine jg ?_|refine jh ?_|refine ji ?_|refine jj ?_|refine jk ?_|refine jl ?_|refine jm ?_|refine jn ?_|refine jo ?_|refine jp ?_|refine jq ?_|refine jr ?_|refine js ?_|refine jt ?_|refine ju ?_|refine jv ?_|refine jw ?_|refine jx ?_|refine jy ?_|refine jz ?_|refine jA ?_|refine jB ?_|refine jC ?_|refine jD ?_|refine jE ?_|refine jF ?_|refine jG ?_|refine jH ?_|refine jI ?_|refine jJ ?_|refine jK ?_|refine jL ?_|refine jM (by assumption) ?_|refine jN (by assumption) rfl ?_|refine jO (by assumption) ?_|refine jP (by assumption) rfl ?_|refine jQ ?_|refine jR ?_|refine jS ?_|refine jT ?_|refine jU (by assumption) rfl ?_))
  refine M.share_j (fun vals w' => vals = [vi (if 12 ≤ op then 1 else wdN N a)] ∧ w6 = w') ?_ ?_
  case refine_2 =>
    intro K hK
    have hK := hK _ _ ⟨rfl, rfl⟩
    by_cases h12 : 12 ≤ op
    · rw [if_pos h12] at hK
      (repeat (first|refine ja ?_|refine jb ?_|refine jc ?_|refine jd ?_|refine je ?_|refine jf ?_|refine jg ?_|refine jh ?_|refine ji ?_|refine jj ?_|refine jk ?_|refine jl ?_|refine jm ?_|refine jn ?_|refine jo ?_|refine jp ?_|refine jq ?_|refine jr ?_|refine js ?_|refine jt ?_|refine ju ?_|refine jv ?_|refine jw ?_|refine jx ?_|refine jy ?_|refine jz ?_|refine jA ?_|refine jB ?_|refine jC ?_|refine jD ?_|refine jE ?_|refine jF ?_|refine jG ?_|refine jH ?_|refine jI ?_|refine jJ ?_|refine jK ?_|refine jL ?_|refine jM (by assumption) ?_|refine jN (by assumption) rfl ?_|refine jO (by assumption) ?_|refine jP (by assumption) rfl ?_|refine jQ ?_|refine jR ?_|refine jS ?_|refine jT ?_|refine jU (by assumption) rfl ?_))
      exact hK
    · rw [if_neg h12, ← ea] at hK
      (repeat (first|refine ja ?_|refine jb ?_|refine jc ?_|refine jd ?_|refine je ?_|refine jf ?_|refine jg ?_|refine jh ?_|refine ji ?_|refine jj ?_|refine jk ?_|refine jl ?_|refine jm ?_|refine jn ?_|refine jo ?_|refine jp ?_|refine jq ?_|refine jr ?_|refine js ?_|refine jt ?_|refine ju ?_|refine jv ?_|refine jw ?_|refine jx ?_|refine jy ?_|refine jz ?_|refine jA ?_|refine jB ?_|refine jC ?_|refine jD ?_|refine jE ?_|refine jF ?_|refine jG ?_|refine jH ?_|refine jI ?_|refine jJ ?_|refine jK ?_|refine jL ?_|refine jM (by assumption) ?_|refine jN (by assumption) rfl ?_|refine jO (by assumption) ?_|refine jP (by assumption) rfl ?_|refine jQ ?_|refine jR ?_|refine jS ?_|refine jT ?_|refine jU (by assumption) rfl ?_))
      exact hK
  rintro vals w' ⟨rfl, rfl⟩ _
  simp only [List.getD_cons_zero, List.getD_cons_succ]
  refine M.call_i (known_ret hd6 a) ?_; rintro _ w7 ⟨rfl, k7⟩
  refine M.extract_i (v := vw ((knownN N a).getD 0)) rfl ?_
  refine M.extract_i (v := .bool (knownN N a).isSome) rfl ?_
  have k07 := k.trans k7 (fun _ _ h => h)
  refine M.call_i (known_ret (hd.keepN k07) b) ?_; rintro _ w8 ⟨rfl, k8⟩
  refine M.extract_i (v := vw ((knownN N b).getD 0)) rfl ?_
  refine M.extract_i (v := .bool (knownN N b).isSome) rfl ?_
  have k08 := k07.trans k8 (fun _ _ h => h)
  have b8a := (b6a.keep k7 (fun h => h)).keep k8 (fun h => h)
  have hd8 := hd.keepN k08
  by_cases hk : ∃ x y, knownN N a = some x ∧ knownN N b = some y
  · obtain ⟨x, y, hx, hy⟩ := hk
    rw [foldBin_two hgd hx hy, hx, hy]
    (repeat (first|refine ja ?_|refine jb ?_|refine jc ?_|refine jd ?_|refine je ?_|refine jf ?_|refine jg ?_|refine jh ?_|refine ji ?_|refine jj ?_|refine jk ?_|refine jl ?_|refine jm ?_|refine jn ?_|refine jo ?_|refine jp ?_|refine jq ?_|refine jr ?_|refine js ?_|refine jt ?_|refine ju ?_|refine jv ?_|refine jw ?_|refine jx ?_|refine jy ?_|refine jz ?_|refine jA ?_|refine jB ?_|refine jC ?_|refine jD ?_|refine jE ?_|refine jF ?_|refine jG ?_|refine jH ?_|refine jI ?_|refine jJ ?_|refine jK ?_|refine jL ?_|refine jM (by assumption) ?_|refine jN (by assumption) rfl ?_|refine jO (by assumption) ?_|refine jP (by assumption) rfl ?_|refine jQ ?_|refine jR ?_|refine jS ?_|refine jT ?_|refine jU (by assumption) rfl ?_))
    refine M.call_i (wbinary_ret op (nodeAt N a).wd x y w8) ?_; rintro _ w9 ⟨rfl, rfl⟩
    refine M.extract_i (v := vw (binW op (nodeAt N a).wd x y)) rfl ?_
    refine M.extract_i (v := vi (binE op (nodeAt N a).wd)) rfl ?_
    rw [ea]
    exact M.pass_i k08 (const_ret hd8 _ _) (fun _ _ h => h)
  · rw [foldBin_rest hgd hk]
    have h2 : (knownN N a).isSome = false ∨ ((knownN N a).isSome = true ∧ (knownN N b).isSome = false) := by
      cases hx : knownN N a with
      | none => exact .inl rfl
      | some x =>
        cases hy : knownN N b with
        | none => exact .inr ⟨rfl, rfl⟩
        | some y => exact absurd ⟨x, y, hx, hy⟩ hk
    rcases h2 with e | ⟨e, e2⟩
    all_goals
      rw [e]
      first | rw [e2] | skip
      (repeat (first|refine ja ?_|refine jb ?_|refine jc ?_|refine jd ?_|refine je ?_|refine jf ?_|refine jg ?_|refine jh ?_|refine ji ?_|refine jj ?_|refine jk ?_|refine jl ?_|refine jm ?_|refine jn ?_|refine jo ?_|refine jp ?_|refine jq ?_|refine jr ?_|refine js ?_|refine jt ?_|refine ju ?_|refine jv ?_|refine jw ?_|refine jx ?_|refine jy ?_|refine jz ?_|refine jA ?_|refine jB ?_|refine jC ?_|refine jD ?_|refine jE ?_|refine jF ?_|refine jG ?_|refine jH ?_|refine jI ?_|refine jJ ?_|refine jK ?_|refine jL ?_|refine jM (by assumption) ?_|refine jN (by assumption) rfl ?_|refine jO (by assumption) ?_|refine jP (by assumption) rfl ?_|refine jQ ?_|refine jR ?_|refine jS ?_|refine jT ?_|refine jU (by assumption) rfl ?_))
      refine M.call_i (right_ret hd8 op b) ?_; rintro _ w9 ⟨rfl, k9⟩
      have k09 := k08.trans k9 (fun _ _ h => h)
      have hd9 := hd.keepN k09
      cases hr : rightN N op b with
      | true =>
        rw [if_pos rfl]
        (repeat (first|refine ja ?_|refine jb ?_|refine jc ?_|refine jd ?_|refine je ?_|refine jf ?_|refine jg ?_|refine jh ?_|refine ji ?_|refine jj ?_|refine jk ?_|refine jl ?_|refine jm ?_|refine jn ?_|refine jo ?_|refine jp ?_|refine jq ?_|refine jr ?_|refine js ?_|refine jt ?_|refine ju ?_|refine jv ?_|refine jw ?_|refine jx ?_|refine jy ?_|refine jz ?_|refine jA ?_|refine jB ?_|refine jC ?_|refine jD ?_|refine jE ?_|refine jF ?_|refine jG ?_|refine jH ?_|refine jI ?_|refine jJ ?_|refine jK ?_|refine jL ?_|refine jM (by assumption) ?_|refine jN (by assumption) rfl ?_|refine jO (by assumption) ?_|refine jP (by assumption) rfl ?_|refine jQ ?_|refine jR ?_|refine jS ?_|refine jT ?_|refine jU (by assumption) rfl ?_))
        exact AskO.stay hd k09 rfl rfl
      | false =>
        rw [if_neg (by decide)]
        (repeat (first|refine ja ?_|refine jb ?_|refine jc ?_|refine jd ?_|refine je ?_|refine jf ?_|refine jg ?_|refine jh ?_|refine ji ?_|refine jj ?_|refine jk ?_|refine jl ?_|refine jm ?_|refine jn ?_|refine jo ?_|refine jp ?_|refine jq ?_|refine jr ?_|refine js ?_|refine jt ?_|refine ju ?_|refine jv ?_|refine jw ?_|refine jx ?_|refine jy ?_|refine jz ?_|refine jA ?_|refine jB ?_|refine jC ?_|refine jD ?_|refine jE ?_|refine jF ?_|refine jG ?_|refine jH ?_|refine jI ?_|refine jJ ?_|refine jK ?_|refine jL ?_|refine jM (by assumption) ?_|refine jN (by assumption) rfl ?_|refine jO (by assumption) ?_|refine jP (by assumption) rfl ?_|refine jQ ?_|refine jR ?_|refine jS ?_|refine jT ?_|refine jU (by assumption) rfl ?_))
        refine M.call_i (twins_ret op w9) ?_; rintro _ w10 ⟨rfl, rfl⟩
        cases ht : twinsN op with
        | false =>
          rw [Bool.false_and, if_neg (by decide)]
          (repeat (first|refine ja ?_|refine jb ?_|refine jc ?_|refine jd ?_|refine je ?_|refine jf ?_|refine jg ?_|refine jh ?_|refine ji ?_|refine jj ?_|refine jk ?_|refine jl ?_|refine jm ?_|refine jn ?_|refine jo ?_|refine jp ?_|refine jq ?_|refine jr ?_|refine js ?_|refine jt ?_|refine ju ?_|refine jv ?_|refine jw ?_|refine jx ?_|refine jy ?_|refine jz ?_|refine jA ?_|refine jB ?_|refine jC ?_|refine jD ?_|refine jE ?_|refine jF ?_|refine jG ?_|refine jH ?_|refine jI ?_|refine jJ ?_|refine jK ?_|refine jL ?_|refine jM (by assumption) ?_|refine jN (by assumption) rfl ?_|refine jO (by assumption) ?_|refine jP (by assumption) rfl ?_|refine jQ ?_|refine jR ?_|refine jS ?_|refine jT ?_|refine jU (by assumption) rfl ?_))
          exact tailB_ret hd k09 op a b _
        | true =>
          (repeat (first|refine ja ?_|refine jb ?_|refine jc ?_|refine jd ?_|refine je ?_|refine jf ?_|refine jg ?_|refine jh ?_|refine ji ?_|refine jj ?_|refine jk ?_|refine jl ?_|refine jm ?_|refine jn ?_|refine jo ?_|refine jp ?_|refine jq ?_|refine jr ?_|refine js ?_|refine jt ?_|refine ju ?_|refine jv ?_|refine jw ?_|refine jx ?_|refine jy ?_|refine jz ?_|refine jA ?_|refine jB ?_|refine jC ?_|refine jD ?_|refine jE ?_|refine jF ?_|refine jG ?_|refine jH ?_|refine jI ?_|refine jJ ?_|refine jK ?_|refine jL ?_|refine jM (by assumption) ?_|refine jN (by assumption) rfl ?_|refine jO (by assumption) ?_|refine jP (by assumption) rfl ?_|refine jQ ?_|refine jR ?_|refine jS ?_|refine jT ?_|refine jU (by assumption) rfl ?_))
          refine M.call_i (right_ret hd9 op a) ?_; rintro _ w11 ⟨rfl, k11⟩
          have k011 := k09.trans k11 (fun _ _ h => h)
          rw [Bool.true_and]
          cases hr2 : rightN N op a with
          | true =>
            rw [if_pos rfl]
            (repeat (first|refine ja ?_|refine jb ?_|refine jc ?_|refine jd ?_|refine je ?_|refine jf ?_|refine jg ?_|refine jh ?_|refine ji ?_|refine jj ?_|refine jk ?_|refine jl ?_|refine jm ?_|refine jn ?_|refine jo ?_|refine jp ?_|refine jq ?_|refine jr ?_|refine js ?_|refine jt ?_|refine ju ?_|refine jv ?_|refine jw ?_|refine jx ?_|refine jy ?_|refine jz ?_|refine jA ?_|refine jB ?_|refine jC ?_|refine jD ?_|refine jE ?_|refine jF ?_|refine jG ?_|refine jH ?_|refine jI ?_|refine jJ ?_|refine jK ?_|refine jL ?_|refine jM (by assumption) ?_|refine jN (by assumption) rfl ?_|refine jO (by assumption) ?_|refine jP (by assumption) rfl ?_|refine jQ ?_|refine jR ?_|refine jS ?_|refine jT ?_|refine jU (by assumption) rfl ?_))
            exact AskO.stay hd k011 rfl rfl
          | false =>
            rw [if_neg (by decide)]
            (repeat (first|refine ja ?_|refine jb ?_|refine jc ?_|refine jd ?_|refine je ?_|refine jf ?_|refine jg ?_|refine jh ?_|refine ji ?_|refine jj ?_|refine jk ?_|refine jl ?_|refine jm ?_|refine jn ?_|refine jo ?_|refine jp ?_|refine jq ?_|refine jr ?_|refine js ?_|refine jt ?_|refine ju ?_|refine jv ?_|refine jw ?_|refine jx ?_|refine jy ?_|refine jz ?_|refine jA ?_|refine jB ?_|refine jC ?_|refine jD ?_|refine jE ?_|refine jF ?_|refine jG ?_|refine jH ?_|refine jI ?_|refine jJ ?_|refine jK ?_|refine jL ?_|refine jM (by assumption) ?_|refine jN (by assumption) rfl ?_|refine jO (by assumption) ?_|refine jP (by assumption) rfl ?_|refine jQ ?_|refine jR ?_|refine jS ?_|refine jT ?_|refine jU (by assumption) rfl ?_))
            exact tailB_ret hd k011 op a b _
set_option maxHeartbeats 1000000 in
theorem foldExt_ret (hd : DagO w F p N most) (a n : Int) :
    Ret Try.prog 50 #[ptr p, vi a, vi n, .bool false] w (AskO w F p most (foldExt most N a n)) := by
  refine ok50 _ _ _ _ _ _ ?_
  unfold sh50
  refine M.call_i (hd.node a) ?_; rintro _ w1 ⟨rfl, k1⟩
  refine M.extract_i (v := encN (nodeAt N a)) rfl ?_
  refine M.extract_i (v := .bool (isN N a)) rfl ?_
  refine M.new_i (l := zeroNd.cells) (fun w2 b2 k2 s2 => ?_)
  refine M.storeAll_i b2 rfl rfl (cells_one _) (fun w3 b3 k3 s3 => ?_)
  have k := keepT1 (k1.trans k2 (fun _ _ h => h)) k3 k1.size
  have b3 : Blk w3 w1.heap.size [vi (nodeAt N a).op, vi (nodeAt N a).wd, vi (nodeAt N a).a, vi (nodeAt N a).b, vi (nodeAt N a).c, vw (nodeAt N a).val] := b3
  have hd3 := hd.keepN k
  have ea := nodeAt_width N a
  unfold foldExt
  cases hi : isN N a with
  | false =>
    rw [if_pos (.inl rfl)]
    (repeat (first|refine ja ?_|refine jb ?_|refine jc ?_|refine jd ?_|refine je ?_|refine jf ?_|refine jg ?_|refine jh ?_|refine ji ?_|refine jj ?_|refine jk ?_|refine jl ?_|refine jm ?_|refine jn ?_|refine jo ?_|refine jp ?_|refine jq ?_|refine jr ?_|refine js ?_|refine jt ?_|refine ju ?_|refine jv ?_|refine jw ?_|refine jx ?_|refine jy ?_|refine jz ?_|refine jA ?_|refine jB ?_|refine jC ?_|refine jD ?_|refine jE ?_|refine jF ?_|refine jG ?_|refine jH ?_|refine jI ?_|refine jJ ?_|refine jK ?_|refine jL ?_|refine jM (by assumption) ?_|refine jN (by assumption) rfl ?_|refine jO (by assumption) ?_|refine jP (by assumption) rfl ?_|refine jQ ?_|refine jR ?_|refine jS ?_|refine jT ?_|refine jU (by assumption) rfl ?_))
    exact M.pass_i k (extend_ret hd3 a n false) (fun _ _ h => h)
  | true =>
    by_cases h1 : n < wdN N a
    · rw [if_pos (.inr (.inl h1))]
      (repeat (first|refine ja ?_|refine jb ?_|refine jc ?_|refine jd ?_|refine je ?_|refine jf ?_|refine jg ?_|refine jh ?_|refine ji ?_|refine jj ?_|refine jk ?_|refine jl ?_|refine jm ?_|refine jn ?_|refine jo ?_|refine jp ?_|refine jq ?_|refine jr ?_|refine js ?_|refine jt ?_|refine ju ?_|refine jv ?_|refine jw ?_|refine jx ?_|refine jy ?_|refine jz ?_|refine jA ?_|refine jB ?_|refine jC ?_|refine jD ?_|refine jE ?_|refine jF ?_|refine jG ?_|refine jH ?_|refine jI ?_|refine jJ ?_|refine jK ?_|refine jL ?_|refine jM (by assumption) ?_|refine jN (by assumption) rfl ?_|refine jO (by assumption) ?_|refine jP (by assumption) rfl ?_|refine jQ ?_|refine jR ?_|refine jS ?_|refine jT ?_|refine jU (by assumption) rfl ?_))
      exact M.pass_i k (extend_ret hd3 a n false) (fun _ _ h => h)
    by_cases h2 : 64 < n
    · rw [if_pos (.inr (.inr h2))]
      (repeat (first|refine ja ?_|refine jb ?_|refine jc ?_|refine jd ?_|refine je ?_|refine jf ?_|refine jg ?_|refine jh ?_|refine ji ?_|refine jj ?_|refine jk ?_|refine jl ?_|refine jm ?_|refine jn ?_|refine jo ?_|refine jp ?_|refine jq ?_|refine jr ?_|refine js ?_|refine jt ?_|refine ju ?_|refine jv ?_|refine jw ?_|refine jx ?_|refine jy ?_|refine jz ?_|refine jA ?_|refine jB ?_|refine jC ?_|refine jD ?_|refine jE ?_|refine jF ?_|refine jG ?_|refine jH ?_|refine jI ?_|refine jJ ?_|refine jK ?_|refine jL ?_|refine jM (by assumption) ?_|refine jN (by assumption) rfl ?_|refine jO (by assumption) ?_|refine jP (by assumption) rfl ?_|refine jQ ?_|refine jR ?_|refine jS ?_|refine jT ?_|refine jU (by assumption) rfl ?_))
      exact M.pass_i k (extend_ret hd3 a n false) (fun _ _ h => h)
    rw [if_neg (by simp; omega)]
    (repeat (first|refine ja ?_|refine jb ?_|refine jc ?_|refine jd ?_|refine je ?_|refine jf ?_|refine jg ?_|refine jh ?_|refine ji ?_|refine jj ?_|refine jk ?_|refine jl ?_|refine jm ?_|refine jn ?_|refine jo ?_|refine jp ?_|refine jq ?_|refine jr ?_|refine js ?_|refine jt ?_|refine ju ?_|refine jv ?_|refine jw ?_|refine jx ?_|refine jy ?_|refine jz ?_|refine jA ?_|refine jB ?_|refine jC ?_|refine jD ?_|refine jE ?_|refine jF ?_|refine jG ?_|refine jH ?_|refine jI ?_|refine jJ ?_|refine jK ?_|refine jL ?_|refine jM (by assumption) ?_|refine jN (by assumption) rfl ?_|refine jO (by assumption) ?_|refine jP (by assumption) rfl ?_|refine jQ ?_|refine jR ?_|refine jS ?_|refine jT ?_|refine jU (by assumption) rfl ?_))
    refine M.call_i (known_ret hd3 a) ?_; rintro _ w4 ⟨rfl, k4⟩
    refine M.extract_i (v := vw ((knownN N a).getD 0)) rfl ?_
    refine M.extract_i (v := .bool (knownN N a).isSome) rfl ?_
    have k04 := k.trans k4 (fun _ _ h => h)
    have hd4 := hd.keepN k04
    cases hk : knownN N a with
    | none =>
      (repeat (first|refine ja ?_|refine jb ?_|refine jc ?_|refine jd ?_|refine je ?_|refine jf ?_|refine jg ?_|refine jh ?_|refine ji ?_|refine jj ?_|refine jk ?_|refine jl ?_|refine jm ?_|refine jn ?_|refine jo ?_|refine jp ?_|refine jq ?_|refine jr ?_|refine js ?_|refine jt ?_|refine ju ?_|refine jv ?_|refine jw ?_|refine jx ?_|refine jy ?_|refine jz ?_|refine jA ?_|refine jB ?_|refine jC ?_|refine jD ?_|refine jE ?_|refine jF ?_|refine jG ?_|refine jH ?_|refine jI ?_|refine jJ ?_|refine jK ?_|refine jL ?_|refine jM (by assumption) ?_|refine jN (by assumption) rfl ?_|refine jO (by assumption) ?_|refine jP (by assumption) rfl ?_|refine jQ ?_|refine jR ?_|refine jS ?_|refine jT ?_|refine jU (by assumption) rfl ?_))
      exact M.pass_i k04 (extend_ret hd4 a n false) (fun _ _ h => h)
    | some v =>
      (repeat (first|refine ja ?_|refine jb ?_|refine jc ?_|refine jd ?_|refine je ?_|refine jf ?_|refine jg ?_|refine jh ?_|refine ji ?_|refine jj ?_|refine jk ?_|refine jl ?_|refine jm ?_|refine jn ?_|refine jo ?_|refine jp ?_|refine jq ?_|refine jr ?_|refine js ?_|refine jt ?_|refine ju ?_|refine jv ?_|refine jw ?_|refine jx ?_|refine jy ?_|refine jz ?_|refine jA ?_|refine jB ?_|refine jC ?_|refine jD ?_|refine jE ?_|refine jF ?_|refine jG ?_|refine jH ?_|refine jI ?_|refine jJ ?_|refine jK ?_|refine jL ?_|refine jM (by assumption) ?_|refine jN (by assumption) rfl ?_|refine jO (by assumption) ?_|refine jP (by assumption) rfl ?_|refine jQ ?_|refine jR ?_|refine jS ?_|refine jT ?_|refine jU (by assumption) rfl ?_))
      refine M.share_j (fun vals w' => vals = [vw v] ∧ w4 = w') ?_ ?_
      · rintro vals w' ⟨rfl, rfl⟩ _
        simp only [List.getD_cons_zero, List.getD_cons_succ]
        exact M.pass_i k04 (const_ret hd4 n v) (fun _ _ h => h)
      · intro K hK
        (repeat (first|refine ja ?_|refine jb ?_|refine jc ?_|refine jd ?_|refine je ?_|refine jf ?_|refine jg ?_|refine jh ?_|refine ji ?_|refine jj ?_|refine jk ?_|refine jl ?_|refine jm ?_|refine jn ?_|refine jo ?_|refine jp ?_|refine jq ?_|refine jr ?_|refine js ?_|refine jt ?_|refine ju ?_|refine jv ?_|refine jw ?_|refine jx ?_|refine jy ?_|refine jz ?_|refine jA ?_|refine jB ?_|refine jC ?_|refine jD ?_|refine jE ?_|refine jF ?_|refine jG ?_|refine jH ?_|refine jI ?_|refine jJ ?_|refine jK ?_|refine jL ?_|refine jM (by assumption) ?_|refine jN (by assumption) rfl ?_|refine jO (by assumption) ?_|refine jP (by assumption) rfl ?_|refine jQ ?_|refine jR ?_|refine jS ?_|refine jT ?_|refine jU (by assumption) rfl ?_))
        exact hK _ _ ⟨rfl, rfl⟩
end
end Go.Proofs.Ytanjlgafjgoaaaa
