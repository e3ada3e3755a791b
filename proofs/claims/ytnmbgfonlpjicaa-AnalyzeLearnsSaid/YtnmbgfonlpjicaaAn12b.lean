import Derived.Test.YtnmbgfonlpjicaaAn12a
import Derived.RangeFuncBox
import Derived.RangeFuncCalls
import Derived.RangeFuncLeaves
import Derived.Shelf.Abstract
import Derived.WalkKit
import Derived.OwnWalkIn
import Derived.TacticsInMore
import Derived.LoopNIn
import Derived.LoopIn
import Derived.Maps.AppendAt
namespace Go.Proofs.Ytnmbgfonlpjicaa
open Go.Mw Go.RowKit Go.Shelf
set_option linter.unusedVariables false
set_option linter.unusedSimpArgs false
attribute [local go_sem] Oper.semAt_some
theorem Keep.grown {w w' : World} (h : Keep w w' No) : w.grownBy w' none := ⟨h.os, h.tape, h.output, h.size, fun k hk _ => h.blk k hk (fun h => h)⟩
theorem Keep.of_below {n : Nat} {w w' : World} (h : Below n w w') : Keep w w' (n ≤ ·) := ⟨h.os, h.tape, h.output, h.size, fun k hk hn => h.block k (by have hn : ¬ n ≤ k := hn; omega)⟩
theorem Keep.of_grown {w w' : World} {r : Option Nat} (h : w.grownBy w' r) : Keep w w' (fun b => some b = r) := ⟨h.os, h.tape, h.output, h.size, fun k hk hn => h.block k hk hn⟩
/-- An index, and a literal of a list. -/
abbrev Bk (xs : List Int) := { q : Int × Int // q.2 ∈ xs }
def bkl {xs : List Int} (l : List (Bk xs)) : List Int := l.map (fun q => q.1.2)
set_option maxRecDepth 100000 in
set_option maxHeartbeats 4000000 in
theorem back1_in (l Bn : Nat) {S : Nat → Prop} {xs : List Int} {A : Option Addr} {cap : Nat} (J Jx : List (Bk xs) → World → Prop) (hlen : xs.length ≤ 1000000)
    (hY : ∀ pre (x : Bk xs) W, J pre W → pre.length < xs.length → YieldAt Fence.wide 2 Try.prog l #[vi x.1.1, vi x.1.2] W fun e W' =>
      (e = .returned (.bool true) ∧ J (pre ++ [x]) W' ∧ Keep W W' S) ∨ (e = .returned (.bool false) ∧ Jx (pre ++ [x]) W'))
    (W : World) (hBn : Blk W Bn [.slice A xs.length cap]) (hBl : ¬ S Bn) (hX : ∀ (j : Nat) x, xs[j]? = some x → ∃ b0, A = some ⟨b0, 0, none⟩ ∧ W.cell? ⟨b0, j, none⟩ = some (vi x) ∧ ¬ S b0) (h0 : J [] W) :
    CallsIn Fence.wide 3 Try.prog 56 #[.func (.yield l) #[] #[], .pointer (some ⟨Bn, 0, none⟩)] W fun e W' => (∃ v, e = .returned v) ∧
      ((∃ ys, bkl ys = xs.reverse ∧ J ys W') ∨ (∃ pre, (∃ rest, bkl pre ++ rest = xs.reverse) ∧ Jx pre W')) := by
  have c0 : W.cell? ⟨Bn, 0, none⟩ = some (.slice A xs.length cap) := hBn.cell rfl
  refine callsIn_of_wp Try.func56 rfl trivial ?_ rfl
  simp only [Try.ntmps56, List.size_toArray, List.length_cons, List.length_nil, Nat.reduceAdd, Nat.reduceSub, Array.replicate_succ, Array.replicate_zero, List.push_toArray, List.append_toArray, List.nil_append, List.cons_append]
  gi_wp2
  gi_loopw [3] (fun p wr => ∃ (k : Nat) (pre : List (Bk xs)), p = vi ((xs.length : Int) - 1 - k) ∧ k ≤ xs.length ∧ bkl pre = xs.reverse.take k ∧ J pre wr ∧ Keep W wr S)
    (fun p wr => match p with | .int _ i => (i + 1).toNat | _ => 0)
  case atStart =>
    exact ⟨0, [], by simp, by omega, by simp [bkl], h0, Keep.refl _ _⟩
  case round =>
    obtain ⟨k, pre, rfl, hk, hpre, hJs, hkp⟩ := hrel
    have cr0 : wr.cell? ⟨Bn, 0, none⟩ = some (.slice A xs.length cap) := (hBn.keep hkp hBl).cell rfl
    by_cases hlt : k < xs.length
    · obtain ⟨x, hx⟩ : ∃ x, xs[xs.length - 1 - k]? = some x := ⟨_, List.getElem?_eq_getElem (by omega)⟩
      have hxr : xs.reverse[k]? = some x := by rw [List.getElem?_reverse (by omega)]; exact hx
      obtain ⟨b0, rfl, hc, hS⟩ := hX _ x hx
      have hcr := hkp.cell hS hc
      have hi : (xs.length : Int) - 1 - k = ((xs.length - 1 - k : Nat) : Int) := by omega
      rw [hi]
      have hpl : pre.length = k := by
        have := congrArg List.length hpre
        unfold bkl at this
        rw [List.length_map, List.length_take, List.length_reverse] at this
        omega
      obtain ⟨fn, tmps, assign, body, hy, hR⟩ := hY pre ⟨(((xs.length - 1 - k : Nat) : Int), x), List.mem_of_getElem? hx⟩ wr hJs (by omega)
      dsimp only at hy
      generalize hjj : xs.length - 1 - k = j at *
      have hj0 : (0 : Int) ≤ j := by omega
      have hjl : (j : Int) < xs.length := by omega
      gi_wp2
      have hq : bkl (pre ++ [(⟨((j : Int), x), List.mem_of_getElem? hx⟩ : Bk xs)]) = xs.reverse.take (k + 1) := by
        unfold bkl at hpre ⊢
        rw [List.map_append, hpre, List.take_add_one, hxr]; rfl
      refine hR.mono ?_
      rintro e W3 (⟨rfl, hJ3, hk3⟩ | ⟨rfl, hJx3⟩)
      · gi_wp2
        go_roundw
        case rel => exact ⟨k + 1, _, by congr 1; omega, by omega, hq, hJ3, hkp.trans hk3 (fun _ _ h => h)⟩
        case measure => (simp; try omega)
      · gi_wp2
        refine bodyPost_ret (results_none rfl _ _ _) rfl ?_
        exact ⟨⟨_, rfl⟩, .inr ⟨_, ⟨_, by rw [hq]; exact List.take_append_drop (k + 1) _⟩, hJx3⟩⟩
    · have e : k = xs.length := by omega
      subst e
      have hneg : ¬ (0 : Int) ≤ (xs.length : Int) - 1 - xs.length := by omega
      gi_wp2
      go_end0
      exact ⟨⟨_, rfl⟩, .inl ⟨pre, by rw [hpre, ← List.length_reverse, List.take_length], hJs⟩⟩
theorem back1_stops (Bn : Nat) {S : Nat → Prop} {xs : List Int} {A : Option Addr} {cap : Nat} (hlen : xs.length ≤ 1000000) (hBl : ¬ S Bn) {w : World} (hBn : Blk w Bn [.slice A xs.length cap])
    (hX : ∀ (j : Nat) x, xs[j]? = some x → ∃ b0, A = some ⟨b0, 0, none⟩ ∧ b0 < w.heap.size ∧ w.cell? ⟨b0, j, none⟩ = some (vi x) ∧ ¬ S b0) :
    SeqStopsK Fence.wide 3 Try.prog 56 #[.pointer (some ⟨Bn, 0, none⟩)] (fun x : Bk xs => #[vi x.1.1, vi x.1.2]) (fun W W' => Keep W W' S) (fun ys => bkl ys = xs.reverse) (fun pre => ∃ rest, bkl pre ++ rest = xs.reverse) xs.length w := fun l J Jx W hW hJ _ hY h0 => by
  have hk : Keep w W (w.heap.size ≤ ·) := Keep.of_below hW
  have hlt := hBn.lt
  exact back1_in l Bn (S := S) J Jx hlen hY W (hBn.keep hk (fun h => by have h : w.heap.size ≤ Bn := h; omega)) hBl (fun j x hx => by
    obtain ⟨b0, h1, h2, h3, h4⟩ := hX j x hx
    exact ⟨b0, h1, hk.cell (fun h => by have h : w.heap.size ≤ b0 := h; omega) h3, h4⟩) h0
/-! slices.Backward[[]int,int]: function 42 -/
def sh42 (x0 : Value) (R : Kt) (w : World) : Prop :=
  M.new 25 (Value.cells x0) (fun t1 w =>
  R (.func (Fn.func 56) #[] #[t1]) w) w
theorem ok42 (x0 : Value) (R : Kt) (w : World) (h : sh42 x0 R w) : Ret Try.prog 42 #[x0] w R :=
  ret_mk <| calls_of_comp mixed (c := Try.f42.body.getD .skip) (args := [x0]) (rs := [(ResultVar.tmp 2)]) (Ann.seq Ann.text (Ann.seq Ann.text Ann.leaf))
    Try.func42 (by kernel_rfl) (by kernel_rfl)
    (Eq.mp (by kernel_rfl) h)

theorem backward_ret (x : Value) (hx : x.oneCell' = true) (w : World) : Ret Try.prog 42 #[x] w (fun r w' => r = .func (.func 56) #[] #[.pointer (some ⟨w.heap.size, 0, none⟩)] ∧ Blk w' w.heap.size [x] ∧ Keep w w' No ∧ w'.heap.size = w.heap.size + 1) := by
  have hc : x.cells = #[x] := by cases x <;> simp_all [Value.cells, Value.oneCell']
  refine ok42 _ _ _ ?_
  unfold sh42
  rw [hc]
  refine M.new_i (l := [x]) (fun w1 b1 k1 s1 => ?_)
  exact ⟨rfl, b1, k1, s1⟩
section
variable {n0 b p : Nat} {w w' : World} {cs : List Value} {lv mp vs os : Value} {m : LS} {t : Tr} {lab : Nat → Nat}
theorem blk_cells {w : World} {b : Nat} {l : List Value} (h : Blk w b l) {o : Obj} (ho : w.heap[b]? = some o) : o.isCells = true := by
  obtain ⟨T, hT⟩ := h
  rw [hT] at ho
  cases ho; rfl
theorem gc_cells {w : World} {L : Nat → Prop} {v : Value} {n : Nat} {l : List Value} (h : GC w L 1 v n l) {y : Nat} (hy : blkOf v y) {o : Obj} (ho : w.heap[y]? = some o) : o.isCells = true := by
  obtain ⟨n', c', hv⟩ := hy
  obtain ⟨_, ⟨h1, _⟩ | ⟨b', c2, rest, h1, h2, h3, h4⟩⟩ := h
  · rw [h1] at hv; cases hv
  · rw [h1] at hv
    simp only [Value.slice.injEq, Option.some.injEq, Addr.mk.injEq] at hv
    obtain ⟨⟨rfl, _⟩, _⟩ := hv
    exact blk_cells h3 ho
/-- What is written is cells. -/
theorem LMod.others {vs' os' : Value} (h : LMod b vs os vs' os' w w') (hR : LRn n0 w b cs p lv mp vs os m) : KeepsOthers w w' :=
  ⟨h.1.size, fun k o hk ho => by
    have hlt : k < w.heap.size := (Array.getElem?_eq_some_iff.1 hk).1
    rw [h.1.blk k hlt (fun e => ?_)]
    · exact hk
    · rcases e with e | e | e
      · subst e; rw [blk_cells hR.blk hk] at ho; cases ho
      · rw [gc_cells hR.gv e hk] at ho; cases ho
      · rw [gc_cells hR.go e hk] at ho; cases ho⟩
theorem LRn.grown {row : Option Nat} (h : LRn n0 w b cs p lv mp vs os m) (hg : w.grownBy w' row) (hr : ∀ r, row = some r → ∃ o : Obj, w.heap[r]? = some o ∧ o.isCells = false) : LRn n0 w' b cs p lv mp vs os m := by
  have k := Keep.of_grown hg
  have no : ∀ y, (∀ o, w.heap[y]? = some o → o.isCells = true) → ¬ (some y = row) := fun y hy e => by
    obtain ⟨o, ho, hc⟩ := hr y e.symm
    rw [hy o ho] at hc; cases hc
  exact ⟨h.blk.keep k (no b (fun o ho => blk_cells h.blk ho)), h.lc, h.gv.keep k (fun y _ e => no y (fun o ho => gc_cells h.gv e ho)), h.go.keep k (fun y _ e => no y (fun o ho => gc_cells h.go e ho)), h.dv, h.dd, h.b0⟩
theorem blk_grown {row : Option Nat} {n : Nat} {l : List Value} (h : Blk w n l) (hg : w.grownBy w' row) (hr : ∀ r, row = some r → ∃ o : Obj, w.heap[r]? = some o ∧ o.isCells = false) : Blk w' n l :=
  h.keep (Keep.of_grown hg) (fun e => by
    obtain ⟨o, ho, hc⟩ := hr n e.symm
    rw [blk_cells h ho] at hc; cases hc)
end
end Go.Proofs.Ytnmbgfonlpjicaa
