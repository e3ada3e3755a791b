import Derived.Test.YtfffepeloiefiaaSub32b
import Derived.RangeFuncBox
import Derived.RangeFuncLeaves
import Derived.Shelf.Abstract
import Derived.WalkKit
import Derived.OwnWalkIn
import Derived.TacticsInMore
import Derived.LoopNIn
import Derived.LoopIn
import Derived.Maps.AppendAt
namespace Go.Proofs.Ytfffepeloiefiaa
open Go.Mw Go.RowKit Go.Shelf
set_option linter.unusedVariables false
set_option linter.unusedSimpArgs false
attribute [local go_sem] Oper.semAt_some
theorem Keep.grown {w w' : World} (h : Keep w w' No) : w.grownBy w' none := ⟨h.os, h.tape, h.output, h.size, fun k hk _ => h.blk k hk (fun h => h)⟩
theorem Keep.of_below {n : Nat} {w w' : World} (h : Below n w w') : Keep w w' (n ≤ ·) := ⟨h.os, h.tape, h.output, h.size, fun k hk hn => h.block k (by have hn : ¬ n ≤ k := hn; omega)⟩
theorem Keep.of_grown {w w' : World} {r : Option Nat} (h : w.grownBy w' r) : Keep w w' (fun b => some b = r) := ⟨h.os, h.tape, h.output, h.size, fun k hk hn => h.block k hk hn⟩
theorem Boxed.appended2 {W w1 : World} {n₀ B : Nat} {t e : TypeId} {size : Nat} {v v' : Value} {k m : Nat} {xs ys : List Value} {tmp : Obj}
    (hv : Boxed W B t v) (hte : t ≠ e) (hrow : W.ownsRow n₀ e size v k xs) (hn₀ : n₀ ≤ W.heap.size) (hown' : w1.ownsRow n₀ e size v' m ys) (hgrow : (W.alloc tmp).grownBy w1 v.ownBlock) :
    Boxed w1 B t v ∧ Boxed (w1.setCell ⟨B, 0, none⟩ v') B t v' ∧ (w1.setCell ⟨B, 0, none⟩ v').ownsRow n₀ e size v' m ys ∧ KeepsOthers W (w1.setCell ⟨B, 0, none⟩ v') ∧ Keep W (w1.setCell ⟨B, 0, none⟩ v') (fun b => b = B ∨ n₀ ≤ b) := by
  have hv1 : Boxed w1 B t v := (hv.alloc tmp).kept hgrow (hv.not_row hte hrow)
  refine ⟨hv1, hv1.set v', hown'.kept (grownBy_setCell' w1 B v') (.inr (hv1.not_row hte hown').symm), ?_, ?_⟩
  · refine ((KeepsOthers.alloc W tmp).trans (KeepsOthers.of_grownBy hgrow fun j o ej hj => ?_)).trans (KeepsOthers.setCell _ _ _)
    rcases (hrow.alloc tmp).2 with ⟨rfl, _⟩ | ⟨g, cap, cur, rfl, _, hgb, _⟩
    · simp [Value.ownBlock] at ej
    · obtain rfl : g = j := by simpa [Value.ownBlock] using ej
      rw [hgb] at hj; cases hj; rfl
  · refine ((Keep.alloc W tmp _).trans (Keep.of_grown hgrow) fun j hj ej => ?_).trans (setCell_keep w1 B 0 v') (fun b _ h => .inl h)
    rcases hrow.2 with ⟨rfl, _⟩ | ⟨g, cap, cur, rfl, hb, _, _⟩
    · simp [Value.ownBlock] at ej
    · obtain rfl : g = j := by simpa [Value.ownBlock] using ej.symm
      exact .inr hb
theorem shl1_run (t : TypeId) (n : Nat) (hn : n ≤ 12) (w : World) : (binOp .shl t (.int .i64 1) (.int .i64 n)).run Try.prog w = .ok (vi ((2 ^ n : Nat) : Int)) w := by
  have hp := pow_le20 (n := n) (by omega)
  have h : (Op.shift .shl .i64 1 .i64 n).run Try.prog w = .ok (vi ((2 ^ n : Nat) : Int)) w := by
    have e : (2 : Int) ^ (min n IntKind.i64.bits) = ((2 ^ n : Nat) : Int) := pow_cast n (by omega)
    unfold Op.shift
    rw [if_neg (by omega)]
    simp only [Int.toNat_natCast]
    rw [e, Int.one_mul, wrap_i64 (by omega) (by omega)]
    rfl
  exact h
/-- Between two rounds: what the device is, and what a round leaves. -/
theorem masks1_in (l Bn : Nat) {S D : Nat → Prop} {d : Dv} {a b : Value} (J Jx : List Int → World → Prop) (hJ : ∀ pre W W', J pre W → Keep W W' No → J pre W') (hlen : d.pend.length ≤ 12) (hI : ∀ p ∈ d.pend, I64 p.e) (hD : ∀ b, D b → ¬ S b)
    (hY : ∀ pre x W, J pre W → pre.length < 4096 → YieldAt Fence.wide 2 Try.prog l #[vi x] W fun e W' =>
      (e = .returned (.bool true) ∧ J (pre ++ [x]) W' ∧ Keep W W' S) ∨ (e = .returned (.bool false) ∧ Jx (pre ++ [x]) W'))
    (W : World) (hBn : Blk W Bn [a, b, vi d.ep]) (hBl : ¬ S Bn) (hL : DvO W D a b d) (h0 : J [] W) :
    CallsIn Fence.wide 3 Try.prog 57 #[.func (.yield l) #[] #[], .pointer (some ⟨Bn, 0, none⟩)] W fun e W' => (∃ v, e = .returned v) ∧
      ((∃ ys, ys = masksL (epsP d.pend) ∧ J ys W') ∨ (∃ pre, True ∧ Jx pre W')) := by
  obtain ⟨h1, A, c, rfl, hr, hc⟩ := id hL
  have c0 : W.cell? ⟨Bn, 0, none⟩ = some a := hBn.cell rfl
  have c1 : W.cell? ⟨Bn, 1, none⟩ = some (.slice A d.pend.length c) := hBn.cell rfl
  have c2 : W.cell? ⟨Bn, 2, none⟩ = some (vi d.ep) := hBn.cell rfl
  have hshl := shl1_run 3 d.pend.length hlen
  refine callsIn_of_wp Try.func57 rfl trivial ?_ rfl
  simp only [Try.ntmps57, List.size_toArray, List.length_cons, List.length_nil, Nat.reduceAdd, Nat.reduceSub, Array.replicate_succ, Array.replicate_zero, List.push_toArray, List.append_toArray, List.nil_append, List.cons_append]
  gi_wp2
  have hw : wrap64 (2 ^ d.pend.length) = ((2 ^ d.pend.length : Nat) : Int) := by
    have hp := pow_le20 (n := d.pend.length) (by omega)
    have e : (2 : Int) ^ d.pend.length = ((2 ^ d.pend.length : Nat) : Int) := (Int.natCast_pow 2 _).symm
    rw [e]
    unfold wrap64; omega
  rw [hw]
  have hp4 : 2 ^ d.pend.length ≤ 4096 := by
    have : 2 ^ d.pend.length ≤ 2 ^ 12 := Nat.pow_le_pow_right (by omega) hlen
    omega
  obtain ⟨N, hN⟩ : ∃ N, 2 ^ d.pend.length = N := ⟨_, rfl⟩
  have hml : masksL (epsP d.pend) = masksN (epsP d.pend) N := by unfold masksL; rw [eps_len, if_neg (by omega), hN]
  rw [hN] at hp4 ⊢
  gi_loopw [8] (fun p wr => ∃ i : Nat, p = vi i ∧ i ≤ N ∧ J (masksN (epsP d.pend) i) wr ∧ Keep W wr S)
    (fun p wr => match p with | .int _ i => (N - i.toNat) | _ => 0)
  case atStart =>
    exact ⟨0, rfl, by omega, by simpa [masksN, natsI] using h0, Keep.refl _ _⟩
  case round =>
    obtain ⟨i, rfl, hi, hJi, hk⟩ := hrel
    have hBr := hBn.keep hk hBl
    have hLr := hL.keep hk (fun b _ hb => hD b hb)
    have cr0 : wr.cell? ⟨Bn, 0, none⟩ = some a := hBr.cell rfl
    have cr1 : wr.cell? ⟨Bn, 1, none⟩ = some (.slice A d.pend.length c) := hBr.cell rfl
    have cr2 : wr.cell? ⟨Bn, 2, none⟩ = some (vi d.ep) := hBr.cell rfl
    have hmi := masksN_len (epsP d.pend) i
    by_cases hlt : i < N
    · have hlt2 : (i : Int) < N := by omega
      gi_wp2_with (refine ⟨trivial, ?_⟩; gi_at_call 58; refine (callsIn_wide.2 (ret_of (allowed_ret hLr (by omega) hI (i : Int)))).mono ?_; rintro e w2 ⟨v, rfl, rfl, k2⟩; obtain ⟨fn, tmps, assign, body, hy, hR⟩ := hY _ (i : Int) w2 (hJ _ _ _ hJi k2) (by omega); cases hb : allowB (epsP d.pend) (i : Int))
      · refine ⟨fun _ h => (by cases h), ?_⟩
        have hs := masksN_succ (epsP d.pend) i
        rw [hb] at hs
        simp only [Bool.false_eq_true, if_false, List.append_nil] at hs
        gi_wp2
        go_roundw
        case rel => exact ⟨i + 1, by simp, by omega, by rw [hs]; exact hJ _ _ _ hJi k2, hk.trans k2 (fun _ _ h => h.elim)⟩
        case measure => simp; omega
      · have hs := masksN_succ (epsP d.pend) i
        rw [hb, if_pos rfl] at hs
        refine hR.mono ?_
        rintro e W3 (⟨rfl, hJ3, hk3⟩ | ⟨rfl, hJx3⟩)
        · gi_wp2
          go_roundw
          case rel => exact ⟨i + 1, by simp, by omega, by rw [hs]; exact hJ3, (hk.trans k2 (fun _ _ h => h.elim)).trans hk3 (fun _ _ h => h)⟩
          case measure => simp; omega
        · gi_wp2
          refine bodyPost_ret (results_none rfl _ _ _) rfl ?_
          exact ⟨⟨_, rfl⟩, .inr ⟨_, trivial, hJx3⟩⟩
    · have e1 : i = N := by omega
      subst e1
      have hlt2 : ¬ (i : Int) < i := by omega
      gi_wp2
      go_end0
      exact ⟨⟨_, rfl⟩, .inl (by first | exact hJi | exact ⟨_, hml.symm, hJi⟩ | (rw [hml]; exact hJi))⟩
theorem masks1_stops (Bn : Nat) {S D : Nat → Prop} {d : Dv} {a b : Value} (hlen : d.pend.length ≤ 12) (hI : ∀ p ∈ d.pend, I64 p.e) (hD : ∀ b, D b → ¬ S b) (hBl : ¬ S Bn) {w : World} (hDw : ∀ b, D b → b < w.heap.size) (hBw : Bn < w.heap.size) (hBn : Blk w Bn [a, b, vi d.ep]) (hL : DvO w D a b d) :
    SeqStopsK Fence.wide 3 Try.prog 57 #[.pointer (some ⟨Bn, 0, none⟩)] (fun x : Int => #[vi x]) (fun W W' => Keep W W' S) (fun ys => ys = masksL (epsP d.pend)) (fun _ => True) 4096 w := fun l J Jx W hW hJ _ hY h0 => by
  have hk : Keep w W (w.heap.size ≤ ·) := Keep.of_below hW
  exact masks1_in l Bn (S := S) J Jx (fun pre A B h k => hJ pre A B none h (Keep.grown k) (fun r e => by cases e)) hlen hI hD hY W (hBn.keep hk (fun h => by have h : w.heap.size ≤ Bn := h; omega)) hBl (hL.keep hk (fun b _ hb h => by have := hDw b hb; have h : w.heap.size ≤ b := h; omega)) h0
/-! breakwater/subset.masks: function 30 -/
def sh30 (x0 : Value) (R : Kt) (w : World) : Prop :=
  M.new 37 (Value.cells x0) (fun t1 w =>
  R (.func (Fn.func 57) #[] #[t1]) w) w
theorem ok30 (x0 : Value) (R : Kt) (w : World) (h : sh30 x0 R w) : Ret Try.prog 30 #[x0] w R :=
  ret_mk <| calls_of_comp mixed (c := Try.f30.body.getD .skip) (args := [x0]) (rs := [(ResultVar.tmp 2)]) (Ann.seq Ann.text (Ann.seq Ann.text Ann.leaf))
    Try.func30 (by kernel_rfl) (by kernel_rfl)
    (Eq.mp (by kernel_rfl) h)

theorem submasks_ret (x : Value) (l : List Value) (hx : x = .agg ⟨l⟩) (w : World) : Ret Try.prog 30 #[x] w (fun r w' => r = .func (.func 57) #[] #[.pointer (some ⟨w.heap.size, 0, none⟩)] ∧ w' = w.alloc (.cells ⟨l⟩ 37)) := by
  subst hx
  refine ok30 _ _ _ ?_
  unfold sh30
  exact ⟨rfl, rfl⟩
theorem Try.info3 : (Try.prog.info? 3).map (fun i => (i.zero, i.size, i.bytes)) = some (some (.int .i64 0), 1, 8) := by kernel_rfl
inductive Hold (p : Prop) : Prop | mk (h : p) : Hold p
theorem hold {p : Prop} (h : Hold p) : p := by cases h; assumption
theorem gi_of_owns {w : World} {n₀ : Nat} {e : TypeId} {v : Value} {xs : List Int} (h : w.ownsRow n₀ e 1 v xs.length (xs.map vi)) : GI w (n₀ ≤ ·) v xs := by
  obtain ⟨h1, h | ⟨g, cap, cur, h2, h3, h4, h5, h6, h7, h8⟩⟩ := h
  · exact ⟨h1, .inl h⟩
  · refine ⟨h1, .inr ⟨g, cap, cur.toList.drop (xs.length * 1), h2, h3, ⟨e, ?_⟩, ?_⟩⟩
    · rw [h4]
      congr 2
      rw [← h8, List.take_append_drop]
    · have e1 : cur.toList.length = cur.size := Array.length_toList
      rw [List.length_drop, h1, e1]
      have : cur.size = cap * 1 := h7
      have : xs.length ≤ cap := h5
      omega
set_option maxRecDepth 100000 in
set_option maxHeartbeats 2000000 in
theorem subMasks_ret {w : World} {D : Nat → Prop} {d : Dv} {a b : Value} (h : DvO w D a b d) (hI : ∀ p ∈ d.pend, I64 p.e) :
    Ret Try.prog 19 #[.agg ⟨[a, b, vi d.ep]⟩] w (fun r w' => GI w' (w.heap.size ≤ ·) r (masksL (epsP d.pend)) ∧ Keep w w' No) := by
  have h := h.mono (D' := (· < w.heap.size)) (fun b hb _ => hb)
  obtain ⟨h1, A, c, rfl, hr, hc⟩ := id h
  obtain ⟨i0, hi, hz0, hz1, hz2⟩ := info_parts Try.info3
  refine ret_mk ((callsIn_wide (n := 4)).1 ?_)
  refine callsIn_of_wp_marks Try.func19 rfl trivial ?_ rfl
  simp only [Try.ntmps19, List.size_toArray, List.length_cons, List.length_nil, Nat.reduceAdd, Nat.reduceSub, Array.replicate_succ, Array.replicate_zero, List.push_toArray, List.append_toArray, List.nil_append, List.cons_append]
  have b1 : Blk (w.alloc (.cells ⟨[a, .slice A d.pend.length c, vi d.ep]⟩ 37)) w.heap.size [a, .slice A d.pend.length c, vi d.ep] := Blk.alloc _ _ _
  have c0 : (w.alloc (.cells ⟨[a, .slice A d.pend.length c, vi d.ep]⟩ 37)).cell? ⟨w.heap.size, 0, none⟩ = some a := b1.cell rfl
  have c1 : (w.alloc (.cells ⟨[a, .slice A d.pend.length c, vi d.ep]⟩ 37)).cell? ⟨w.heap.size, 1, none⟩ = some (.slice A d.pend.length c) := b1.cell rfl
  have c2 : (w.alloc (.cells ⟨[a, .slice A d.pend.length c, vi d.ep]⟩ 37)).cell? ⟨w.heap.size, 2, none⟩ = some (vi d.ep) := b1.cell rfl
  by_cases h12 : 12 < d.pend.length
  · have h12' : (12 : Int) < d.pend.length := by omega
    gi_wp2
    refine ⟨_, results_tmp rfl _ _ _, _, rfl, ?_, Keep.alloc _ _ _⟩
    unfold masksL
    rw [eps_len, if_pos h12]; exact GI.nil _ _
  · have h12' : ¬ (12 : Int) < d.pend.length := by omega
    gi_wp2_with (refine ⟨trivial, ?_⟩; gi_at_call 30; refine (callsIn_wide.2 (ret_of (submasks_ret _ [a, .slice A d.pend.length c, vi d.ep] rfl _))).mono ?_; rintro e w2 ⟨v, rfl, rfl, rfl⟩)
    have bO : Boxed ((w.alloc (.cells ⟨[a, .slice A d.pend.length c, vi d.ep]⟩ 37)).alloc (.cells #[.slice none 0 0] 22)) (w.heap.size + 1) 22 (.slice none 0 0) := by
      have := Boxed.new (w.alloc (.cells ⟨[a, .slice A d.pend.length c, vi d.ep]⟩ 37)) 22 (.slice none 0 0)
      rwa [World.size_alloc] at this
    have k2 : Keep w ((w.alloc (.cells ⟨[a, .slice A d.pend.length c, vi d.ep]⟩ 37)).alloc (.cells #[.slice none 0 0] 22)) No := (Keep.alloc _ _ _).trans (Keep.alloc _ _ _) (fun _ _ h => h)
    have s2 : ((w.alloc (.cells ⟨[a, .slice A d.pend.length c, vi d.ep]⟩ 37)).alloc (.cells #[.slice none 0 0] 22)).heap.size = w.heap.size + 2 := by simp
    generalize ((w.alloc (.cells ⟨[a, .slice A d.pend.length c, vi d.ep]⟩ 37)).alloc (.cells #[.slice none 0 0] 22)) = w2 at bO k2 s2 ⊢
    have bN := Blk.alloc w2 [a, .slice A d.pend.length c, vi d.ep] 37
    have bO3 := bO.alloc (.cells ⟨[a, .slice A d.pend.length c, vi d.ep]⟩ 37)
    have k3 : Keep w (w2.alloc (.cells ⟨[a, .slice A d.pend.length c, vi d.ep]⟩ 37)) No := k2.trans (Keep.alloc _ _ _) (fun _ _ h => h)
    have s3 : (w2.alloc (.cells ⟨[a, .slice A d.pend.length c, vi d.ep]⟩ 37)).heap.size = w.heap.size + 3 := by simp [s2]
    rw [s2] at bN
    generalize (w2.alloc (.cells ⟨[a, .slice A d.pend.length c, vi d.ep]⟩ 37)) = w3 at bN bO3 k3 s3 ⊢
    let S : Nat → Prop := fun b => b = w.heap.size + 1 ∨ w.heap.size + 3 ≤ b
    have hKt : ∀ {A B C : World}, Keep A B S → Keep B C S → Keep A C S := fun h k => h.trans k (fun _ _ h => h)
    have hKb : ∀ (W : World) (l : Nat) (o o' : Obj), w3.heap.size ≤ l → W.heap[l]? = some o → o.isCells = false → o.isWalk = false → Keep W (W.putObj l o') S := fun W l o o' hl _ _ _ =>
      (Keep.of_grown (grownBy_putObj' W l o')).mono (fun b _ e => by
        have e : b = l := by simpa using e
        exact .inr (by omega))
    have hst := masks1_stops (w.heap.size + 2) (S := S) (by omega) hI (fun b hb h => by
      have hb : b < w.heap.size := hb
      rcases h with h | h <;> omega) (fun h => by rcases h with h | h <;> omega) (w := w3) (by rw [s3]; intro b hb; have hb : b < w.heap.size := hb; omega) (by rw [s3]; omega) bN (h.keep k3 (fun _ _ _ h => h))
    refine wpIn_rangeFunc_ownG (F := Fence.wide) (n := 4) (Kp := fun W W' => Keep W W' S) rfl (by omega) (gf := 57) (lb := #[.pointer (some ⟨w.heap.size + 1 + 1, 0, none⟩)]) rfl trivial (enters_of Try.func57 (by kernel_rfl) rfl)
      hst hKt hKb (Below.refl _ _) (fun _ => rfl)
      (fun pre W => (∃ v, Boxed W (w.heap.size + 1) 22 v ∧ W.ownsRow (w.heap.size + 3) 3 1 v pre.length (pre.map vi) ∧ True) ∧ Keep w W No ∧ w3.heap.size ≤ W.heap.size)
      (fun _ _ _ => False)
      ?own (fun _ _ _ _ _ hs _ _ => hs)
      ⟨⟨_, bO3, World.ownsRow_nil _ _ _ _, trivial⟩, k3, Nat.le_refl _⟩
      (fun x => { tmps := #[Value.agg ⟨[a, Value.slice A d.pend.length c, vi d.ep]⟩, Value.pointer (some ⟨w.heap.size, 0, none⟩), Value.slice none 0 0, Value.pointer (some ⟨w.heap.size + 1, 0, none⟩), vi x,
          Value.pointer (some ⟨w.heap.size, 1, none⟩), Value.slice A d.pend.length c, Value.int IntKind.i64 d.pend.length, Value.bool false, Value.agg #[a, Value.slice A d.pend.length c, vi d.ep],
          Value.func (Fn.func 57) #[] #[Value.pointer (some ⟨w.heap.size + 1 + 1, 0, none⟩)], vi x, undef, undef, undef, undef, undef], defers := [] }) ?assign ?body ?done ?stop
    case own =>
      refine OwnFrom.and (Own.from (holdsRow_own (w.heap.size + 3) (w.heap.size + 1) 22 3 1 (fun pre => pre.length) (fun pre : List Int => pre.map vi) (fun pre v => True)) _) ?_
      rintro s X Y row ⟨hk, hs⟩ hg hrow
      have kg := Keep.of_grown hg
      refine ⟨hk.trans kg (fun b hb e => ?_), Nat.le_trans hs kg.size⟩
      have := (hrow b e.symm).1
      omega
    case assign =>
      intro l x W K hK
      gi_wp2
      exact hK
    case body =>
      rintro l pre x W ⟨⟨v, hv, hrow, _⟩, hk, hsz⟩ hlt
      have hc := hv.cell
      gi_wp2_with (gi_at_builtin; refine hold ?_)
      refine Hold.mk ?_
      refine wpListIn_append_own _ rfl _ _ 22 rfl (w.heap.size + 3) 3 i0 (.int .i64 0) 1 8 Try.underlying22 hi hz0 hz1 hz2 rfl (by decide) _ _ _ rfl (hrow.alloc _) ⟨W.heap.size, 0, none⟩ 1 1 [.int .i64 x] rfl rfl (cell_one_new _ _ _) (by simp [Value.oneCell']) (by unfold maxLen; omega) (by omega) (by simp; omega) ?_
      intro v' w1 hown' hgrow _
      obtain ⟨g', cap', rfl⟩ := ownsRow_succ hown'
      obtain ⟨hv1, hv2, hr2, hk2, hb2⟩ := Boxed.appended2 hv (by decide) hrow (by omega) hown' hgrow
      have hc1 := hv1.cell
      have hf1 := hv1.frozen
      gi_wp2
      exact ⟨hk2.from _, hb2, ⟨_, hv2, by simpa using hr2, trivial⟩, hk.trans hb2 (fun b hb h => by rcases h with h | h <;> omega), Nat.le_trans hsz hb2.size⟩
    case done =>
      rintro D2 ys W hD2 rfl ⟨⟨v, hv, hrow, _⟩, hk, hsz⟩ hK
      have hc := hv.cell
      gi_wp2
      refine ⟨by simp, .inl ⟨_, _, rfl, run_takeDeferred hK, ?_⟩⟩
      refine ⟨_, results_tmp rfl _ _ _, v, rfl, ?_, ?_⟩
      · exact (gi_of_owns (ownsRow_putObj hrow _ hK rfl)).mono (fun b _ h => by have h : w.heap.size + 3 ≤ b := h; show w.heap.size ≤ b; omega)
      · exact hk.trans (Keep.of_grown (grownBy_putObj' W D2 _)) (fun b hb e => by
          have e : b = D2 := by simpa using e
          omega)
    case stop =>
      rintro D2 c pre W _ _ h _
      exact h.elim
end Go.Proofs.Ytfffepeloiefiaa
