import Derived.Test.YtanjlgafjgoaaaaGreatK11
import Derived.WalkKit
import Derived.ProofKit
import Derived.OpenShut
import Derived.ShutString
import Derived.ChangeOld
import Derived.Below
import Derived.SizedLaws
import Derived.Carry
import Derived.ChangeArms
import Derived.Lib.SmallJoins
import Derived.Deep.Slices
namespace Go.Proofs.YtanjlgafjgoaaaaGreat
open Go.Mw
set_option linter.unusedVariables false
set_option linter.unusedSimpArgs false
set_option maxRecDepth 100000
attribute [local irreducible] M.val M.unit M.next M.pick M.new M.nilCheck M.load1 M.loadA M.store M.fieldAddr M.indexSl M.indexArr M.slice M.makeSlice M.buildSlice M.len M.lenS M.cap M.append M.extract M.conv M.not M.neg M.bin M.shift M.eqB M.eqNil M.scat M.call M.callv M.gd M.share M.cond M.loop M.draw pureW readW Ret
def sh11 (x0 x1 : Value) (R : Kt) (w : World) : Prop :=
  M.loop [(Value.slice none 0 0), (Value.int IntKind.i64 0)] (fun s1 K1 w => ∀ _ : List Value,
  M.bin .lss (s1.getD 1 undef) x0 (fun t10 w =>
  M.cond t10
  (M.share (fun K2 w =>
  M.len x1 (fun t15 w =>
  M.bin .lss (s1.getD 1 undef) t15 (fun t16 w =>
  M.cond t16
  (M.indexSl 1 x1 (s1.getD 1 undef) (fun t19 w =>
  M.load1 t19 (fun t20 w =>
  M.conv .u8 t20 (fun t21 w =>
  K2 [t21] w) w) w) w)
  (K2 [(Value.int IntKind.u8 0)] w)) w) w) (fun s2 w => ∀ _ : List Value,
  M.buildSlice 5 1 #[.int .u8 0] 1 [(0, (s2.getD 0 undef))] (fun t24 w =>
  M.append 5 1 1 #[.int .u8 0] (s1.getD 0 undef) t24 (fun t25 w =>
  M.bin .add (s1.getD 1 undef) (Value.int IntKind.i64 1) (fun t12 w =>
  K1 [t25, t12] w) w) w) w) w)
  (R (s1.getD 0 undef) w)) w) w
theorem ok11 (x0 x1 : Value) (R : Kt) (w : World) (h : sh11 x0 x1 R w) : Ret Tryz.prog 11 #[x0, x1] w R :=
  ret_mk <| calls_of_comp mixed (c := Tryz.f11.body.getD .skip) (args := [x0, x1]) (rs := [(ResultVar.tmp 4)]) (Ann.seq Ann.text (Ann.seq Ann.text (Ann.seq (Ann.seq Ann.text (Ann.block (Ann.loop [5, 6] [7, 8, 9, 10, 11, 12, 13, 14, 15, 16, 17, 18, 19, 20, 21, 22, 23, 24, 25] (Ann.seq (Ann.seq Ann.text (Ann.cond Ann.leaf Ann.leaf)) (Ann.seq (Ann.block (Ann.seq Ann.text (Ann.join [7] [13, 14, 15, 16, 17, 18, 19, 20, 21] (Ann.seq Ann.text (Ann.cond Ann.text Ann.leaf)) Ann.text))) Ann.text))))) (Ann.seq Ann.text Ann.leaf))))
    Tryz.func11 (by kernel_rfl) (by kernel_rfl)
    (Eq.mp (by kernel_rfl) h)
def sh13 (x0 x1 x2 : Value) (R : Kt) (w : World) : Prop :=
  M.loop [(Value.int IntKind.i64 (-1)), (Value.int IntKind.i64 0)] (fun s1 K1 w => ∀ _ : List Value,
  M.len x1 (fun t14 w =>
  M.bin .lss (s1.getD 1 undef) t14 (fun t15 w =>
  M.cond t15
  (M.share (fun K2 w =>
  M.indexSl 19 x1 (s1.getD 1 undef) (fun t22 w =>
  M.loadA 19 t22 (fun t23 w =>
  M.call Tryz.prog 10 #[x0, t23, x2] (fun t25 w =>
  M.extract 0 t25 (fun t26 w =>
  M.extract 1 t25 (fun t27 w =>
  M.extract 2 t25 (fun t28 w =>
  M.new 48 #[.int .u64 0, .int .u64 0, .int .u64 0, .int .u64 0, .int .u64 0, .int .u64 0, .int .u64 0, .int .u64 0, .slice none 0 0, .int .i64 0, .int .i64 0, .int .i64 0, .int .i64 0, .int .i64 0, .int .u64 0, .slice none 0 0, .slice none 0 0, .int .i64 0] (fun t9 w =>
  M.store 18 t9 t26 (fun _ w =>
  M.bin .neq t28 (Value.int IntKind.i64 0) (fun t30 w =>
  M.gd t30 false (fun k w => k t27 w) (fun t32 w =>
  M.gd t30 false (fun k w => k t32 w) (fun t33 w =>
  M.gd t33 true (fun k w => k (s1.getD 0 undef) w) (fun t34 w =>
  M.gd t33 true (fun k w => M.bin .geq t34 (Value.int IntKind.i64 0) k w) (fun t35 w =>
  M.gd t30 false (fun k w => M.pick t33 t35 (Value.bool false) k w) (fun t36 w =>
  M.pick t30 (Value.bool true) t36 (fun t37 w =>
  M.cond t37
  (R (Value.int IntKind.i64 (-1)) w)
  (M.cond t27
  (K2 [(s1.getD 1 undef)] w)
  (K2 [(s1.getD 0 undef)] w))) w) w) w) w) w) w) w) w) w) w) w) w) w) w) w) (fun s2 w => ∀ _ : List Value,
  M.bin .add (s1.getD 1 undef) (Value.int IntKind.i64 1) (fun t17 w =>
  K1 [(s2.getD 0 undef), t17] w) w) w)
  (R (s1.getD 0 undef) w)) w) w) w
theorem ok13 (x0 x1 x2 : Value) (R : Kt) (w : World) (h : sh13 x0 x1 x2 R w) : Ret Tryz.prog 13 #[x0, x1, x2] w R :=
  ret_mk <| calls_of_comp mixed (c := Tryz.f13.body.getD .skip) (args := [x0, x1, x2]) (rs := [(ResultVar.tmp 6)]) (Ann.seq Ann.text (Ann.seq Ann.text (Ann.seq (Ann.seq Ann.text (Ann.block (Ann.loop [7, 8] [6, 9, 10, 11, 12, 13, 14, 15, 16, 17, 18, 19, 20, 21, 22, 23, 24, 25, 26, 27, 28, 29, 30, 31, 32, 33, 34, 35, 36, 37, 38, 39] (Ann.seq (Ann.seq Ann.text (Ann.cond Ann.leaf Ann.leaf)) (Ann.seq (Ann.jblock [7] [6, 9, 10, 11, 18, 19, 20, 21, 22, 23, 24, 25, 26, 27, 28, 29, 30, 31, 32, 33, 34, 35, 36, 37, 38, 39] (Ann.seq Ann.text (Ann.seq (Ann.seq Ann.text (Ann.cond (Ann.seq Ann.text Ann.leaf) Ann.leaf)) (Ann.seq Ann.text (Ann.cond Ann.text Ann.leaf))))) Ann.text))))) (Ann.seq Ann.text Ann.leaf))))
    Tryz.func13 (by kernel_rfl) (by kernel_rfl)
    (Eq.mp (by kernel_rfl) h)
theorem cut8_nat (x : W64) : (cutW 8 x).toNat = x.toNat % 256 := by
  unfold cutW
  have : maskW 8 = 255 := by decide
  rw [this, BitVec.toNat_and]
  exact Nat.and_two_pow_sub_one_eq_mod _ 8
def byteC (env : List W64) (i : Nat) : W64 := if i < env.length then cutW 8 (env.getD i 0) else 0
theorem bytesC_eq (n : Int) (env : List W64) : bytesC n env = (List.range n.toNat).map (byteC env) := rfl
section
variable {w : World} {D De : Nat → Prop} {ev : Value} {env : List W64}
theorem binput37_ret (hv : LV vw w De ev env) (hel : env.length ≤ 1000000) {n : Int} (hn : n ≤ 1000000) :
    Ret Tryz.prog 11 #[vi n, ev] w (fun r w' => LV vB8 w' (w.heap.size ≤ ·) r (bytesC n env) ∧ Keep w w' No) := by
  have hv := hv.mono (D' := fun q => q < w.heap.size) (fun q hq _ => hq)
  obtain ⟨E, ce, rfl, hr, hce⟩ := hv
  refine ok11 _ _ _ _ ?_
  unfold sh11
  refine M.loop_i (σ := Nat) (fun i vals w' => ∃ sv, vals = [sv, vi i] ∧ i ≤ n.toNat ∧ GC w' (w.heap.size ≤ ·) 1 sv i (((List.range i).map (byteC env)).map vB8) ∧ Keep w w' No) (fun i => n.toNat - i) 0 ⟨_, rfl, by omega, GC.nil _ _ _, Keep.refl _ _⟩ ?_
  rintro i vals w1 K ⟨sv, rfl, hi, hg, k1⟩ hK _
  simp only [List.getD_cons_zero, List.getD_cons_succ]
  by_cases hlt : i < n.toNat
  · refine M.lss_t (by omega) ?_
    refine M.cond_t ?_
    refine M.share_j (fun vals w' => vals = [vB8 (byteC env i)] ∧ w1 = w') ?_ ?_
    · rintro vals w' ⟨rfl, rfl⟩ _
      simp only [List.getD_cons_zero, List.getD_cons_succ]
      refine M.buildSlice_i [vB8 (byteC env i)] (by kernel_rfl) (fun w2 b2 k2 s2 => ?_)
      have hg2 := hg.keep k2 (fun _ _ _ h => h)
      refine M.append_i hg2 (Row.of_blk' (D := fun _ => True) b2 trivial) rfl (by simp; rfl) rfl (by omega) (by omega) (fun v3 w3 g3 k3 => ?_)
      refine M.add_i (by omega) (by omega) ?_
      have q1 := k1.size
      have q2 := k2.size
      refine hK (i + 1) _ _ (by omega) ⟨v3, rfl, by omega, ?_, (k1.trans k2 (fun _ _ h => h)).trans k3 (fun q hq h => by have h : w.heap.size ≤ q := h; omega)⟩
      have := g3.mono (L' := (w.heap.size ≤ ·)) (fun q hq h => by rcases h with h | h; exact h; (show w.heap.size ≤ q); omega)
      rw [List.range_succ, List.map_append, List.map_append]
      exact this
    · intro K2 hK2
      refine M.len_i ?_
      have hr1 := hr.keep k1 (fun _ _ _ h => h)
      by_cases hle : i < env.length
      · have e : byteC env i = cutW 8 env[i] := by
          unfold byteC
          rw [if_pos hle, List.getD_eq_getElem?_getD, List.getElem?_eq_getElem hle]; rfl
        rw [e] at hK2
        refine M.lss_t (by omega) ?_
        refine M.cond_t ?_
        refine M.idxLV_i hr1 rfl (by omega) (by omega) (x := env[i]) (by rw [Int.toNat_natCast]; exact List.getElem?_eq_getElem hle) (fun bb oo hA hcc => ?_)
        refine M.load_i hcc ?_
        refine M.byte_i ?_
        refine hK2 _ _ ⟨?_, rfl⟩
        have : ((env[i].toNat : Int) % 256) = ((cutW 8 env[i]).toNat : Int) := by rw [cut8_nat]; omega
        rw [this]
      · have e : byteC env i = 0 := by unfold byteC; rw [if_neg hle]
        rw [e] at hK2
        refine M.lss_f (by omega) ?_
        refine M.cond_f ?_
        exact hK2 _ _ ⟨rfl, rfl⟩
  · have e : i = n.toNat := by omega
    refine M.lss_f (by omega) ?_
    refine M.cond_f ?_
    rw [e] at hg
    obtain ⟨A, c, rfl, h2, h3⟩ := GC.row2 hg (by omega)
    exact ⟨⟨A, c, by simp [bytesC_eq], h2, by simpa [bytesC_eq] using h3⟩, k1⟩
theorem two_filter {α : Type} {p : α → Bool} {l : List α} {o x y : α} {i j : Nat} (h : l.filter p = [o]) (hi : l[i]? = some x) (hj : l[j]? = some y) (hij : i < j) (hx : p x = true) (hy : p y = true) : False := by
  obtain ⟨hjl, hjg⟩ := List.getElem?_eq_some_iff.1 hj
  obtain ⟨hil, hig⟩ := List.getElem?_eq_some_iff.1 hi
  have e : l = l.take j ++ y :: l.drop (j + 1) := by rw [← hjg, List.getElem_cons_drop, List.take_append_drop]
  rw [e, List.filter_append, List.filter_cons_of_pos hy] at h
  have hm : x ∈ (l.take j).filter p := List.mem_filter.2 ⟨by rw [List.mem_iff_getElem?]; exact ⟨i, by rw [List.getElem?_take_of_lt hij]; exact hi⟩, hx⟩
  have := congrArg List.length h
  simp only [List.length_append, List.length_cons, List.length_nil] at this
  have h0 := List.length_pos_of_mem hm
  omega
end
section
variable {w : World} {F De D : Nat → Prop} {p : Nat} {N : List Nd} {most : Int} {ev lv : Value} {env : List W64} {outs : List Sy} {t : St}
theorem one37_ret (hd : DagO w F p N most) (he : LV vw w De ev env) (hel : env.length ≤ 1000000) (ho : OutS w D lv outs) (hw : ∀ o ∈ outs, WfS N o ∧ o.few) (hol : outs.length ≤ 1000000) (hH : Hd N env outs = [t]) :
    Ret Tryz.prog 13 #[ptr p, lv, ev] w (fun r w' => ∃ (i : Nat) (o : Sy), r = vi i ∧ outs[i]? = some o ∧ stHolds N env o = true ∧ stOf N env o = t ∧ Keep w w' No) := by
  obtain ⟨o, hfl, hot⟩ : ∃ o, outs.filter (stHolds N env) = [o] ∧ stOf N env o = t := by
    unfold Hd at hH
    match hf : outs.filter (stHolds N env), hH with
    | [o], hH => exact ⟨o, rfl, by simpa using hH⟩
  obtain ⟨A, cap, cs, rfl, _, _⟩ := id ho
  refine ok13 _ _ _ _ _ ?_
  unfold sh13
  refine M.loop_i (σ := Nat) (fun i vals w' => ∃ z : Int, vals = [vi z, vi i] ∧ i ≤ outs.length ∧ ((z = -1 ∧ ∀ j x, j < i → outs[j]? = some x → stHolds N env x = false) ∨ (∃ (a : Nat) (x : Sy), z = a ∧ a < i ∧ outs[a]? = some x ∧ stHolds N env x = true)) ∧ Keep w w' No) (fun i => outs.length - i) 0 ⟨-1, rfl, by omega, .inl ⟨rfl, fun j x h => by omega⟩, Keep.refl _ _⟩ ?_
  rintro i vals w1 K ⟨z, rfl, hi, hz, k1⟩ hK _
  simp only [List.getD_cons_zero, List.getD_cons_succ]
  have ho1 := ho.keep k1 (fun _ _ _ h => h)
  by_cases hlt : i < outs.length
  · have hx : outs[i]? = some outs[i] := List.getElem?_eq_getElem hlt
    generalize outs[i] = x at hx
    have hwx := hw x (by rw [List.mem_iff_getElem?]; exact ⟨i, hx⟩)
    refine M.len_i ?_
    refine M.lss_t (by omega) ?_
    refine M.cond_t ?_
    refine M.share_j (fun vals w' => vals = [vi (if stHolds N env x then (i : Int) else z)] ∧ Keep w1 w' No) ?_ ?_
    · rintro vals w2 ⟨rfl, k2⟩ _
      simp only [List.getD_cons_zero, List.getD_cons_succ]
      refine M.add_i (by omega) (by omega) ?_
      refine hK (i + 1) _ _ (by omega) ⟨_, rfl, by omega, ?_, k1.trans k2 (fun _ _ h => h)⟩
      cases hh : stHolds N env x with
      | true => exact .inr ⟨i, x, rfl, by omega, hx, hh⟩
      | false =>
        rcases hz with ⟨hz, hn⟩ | ⟨a, y, h1, h2, h3, h4⟩
        · refine .inl ⟨by simpa using hz, fun j u hj hu => ?_⟩
          by_cases e : j = i
          · subst e
            rw [hx] at hu
            rw [← Option.some.inj hu]; exact hh
          · exact hn j u (by omega) hu
        · exact .inr ⟨a, y, by simpa using h1, by omega, h3, h4⟩
    · intro K2 hK2
      refine M.idxOut_i ho1 (by omega) (by rw [Int.toNat_natCast]; exact hx) (fun bb oo L hcc hL => ?_)
      refine M.load19_i hL.len19 hcc ?_
      refine M.call_i (of_ret (hd.keepN k1) (he.keep k1 (fun _ _ _ h => h)) hel hL hwx.2) ?_
      rintro _ w2 ⟨v, rfl, hst, k2⟩
      rw [hwx.1.bad] at hst ⊢
      simp only [Bool.false_eq_true, if_false] at hst ⊢
      obtain ⟨h8, c, a, b, rfl, hc, hdv⟩ := hst
      refine M.extract_i rfl ?_
      refine M.extract_i rfl ?_
      refine M.extract_i rfl ?_
      refine M.new_i (l := zSt) (fun w3 b3 k3 s3 => ?_)
      refine M.storeAll_i b3 (sv_len h8) rfl (sv_one (LV.one hc) (LV.one hdv.1) (LN.one hdv.2)) (fun w4 b4 k4 s4 => ?_)
      have k14 : Keep w1 w4 No := (k2.trans k3 (fun _ _ h => h)).trans k4 (fun q hq e => by have e : q = w2.heap.size := e; have := k2.size; omega)
      cases hh : stHolds N env x with
      | false =>
        rw [hh] at hK2
        (repeat (first|refine jg ?_|refine jh ?_|refine jl ?_|refine jp ?_|refine jJ ?_))
        exact hK2 _ _ ⟨rfl, k14⟩
      | true =>
        rw [hh] at hK2
        have hzn : z = -1 := by
          rcases hz with ⟨hz, _⟩ | ⟨a, y, h1, h2, h3, h4⟩
          · exact hz
          · exact (two_filter hfl h3 hx h2 h4 hh).elim
        subst hzn
        (repeat (first|refine jf ?_|refine jg ?_|refine jk ?_|refine jl ?_|refine jo ?_|refine jp ?_|refine jF ?_|refine jJ ?_))
        exact hK2 _ _ ⟨rfl, k14⟩
  · have e : i = outs.length := by omega
    refine M.len_i ?_
    refine M.lss_f (by omega) ?_
    refine M.cond_f ?_
    rcases hz with ⟨hz, hn⟩ | ⟨a, y, h1, h2, h3, h4⟩
    · have hm : o ∈ outs.filter (stHolds N env) := by rw [hfl]; simp
      obtain ⟨ho1, ho2⟩ := List.mem_filter.1 hm
      obtain ⟨j, hj, e2⟩ := List.mem_iff_getElem.1 ho1
      have := hn j o (by omega) (by rw [List.getElem?_eq_getElem hj, e2])
      rw [ho2] at this
      cases this
    · have hm : y ∈ outs.filter (stHolds N env) := List.mem_filter.2 ⟨by rw [List.mem_iff_getElem?]; exact ⟨a, h3⟩, h4⟩
      rw [hfl] at hm
      have ey : y = o := by simpa using hm
      exact ⟨a, y, by rw [h1], h3, h4, by rw [ey]; exact hot, k1⟩
end
end Go.Proofs.YtanjlgafjgoaaaaGreat
namespace Go.Proofs.YtanjlgafjgoaaaaGreat
open Go.Mw
set_option linter.unusedVariables false
set_option linter.unusedSimpArgs false
set_option maxRecDepth 100000
attribute [local irreducible] M.val M.unit M.next M.pick M.new M.nilCheck M.load1 M.loadA M.store M.fieldAddr M.indexSl M.indexArr M.slice M.makeSlice M.buildSlice M.len M.lenS M.cap M.append M.extract M.conv M.not M.neg M.bin M.shift M.eqB M.eqNil M.scat M.call M.callv M.gd M.share M.cond M.loop M.draw pureW readW Ret
theorem var8_const {most : Int} {N : List Nd} {x : W64} (h : Var8 N) : Var8 (constN most N 64 x).1 := by
  unfold constN
  rw [if_pos (by decide)]
  intro m hm h21
  rcases made_vars hm with hm | rfl
  · exact h m hm h21
  · exact absurd h21 (by show ¬ (20 : Int) = 21; decide)
theorem var8_dev {most : Int} : ∀ (xs : List W64) (N : List Nd) (acc : List Int), Var8 N → Var8 (devN most N xs acc).1
  | [], N, acc, h => h
  | x :: xs, N, acc, h => by
    unfold devN
    split
    · exact var8_dev xs _ _ (var8_const h)
    · exact var8_const h
theorem start_facts {most : Int} {xs : List W64} {m : Nat} (hm : m ≤ 255) (hx : xs.length ≤ 10) (hmost : 1000 ≤ most) :
    (constN most (devN most [] xs []).1 64 0).2.2 = 0 ∧ Var8 (constN most (devN most [] xs []).1 64 0).1 ∧
    WfS (constN most (devN most [] xs []).1 64 0).1 ⟨List.replicate 8 (constN most (devN most [] xs []).1 64 0).2.1, List.replicate m (constN most (devN most [] xs []).1 64 0).2.1, 0, 0, 0, 0, 0, -1, ⟨(devN most [] xs []).2.1, [], 0⟩, []⟩ ∧
    Bd 0 ⟨List.replicate 8 (constN most (devN most [] xs []).1 64 0).2.1, List.replicate m (constN most (devN most [] xs []).1 64 0).2.1, 0, 0, 0, 0, 0, -1, ⟨(devN most [] xs []).2.1, [], 0⟩, []⟩ := by
  have hG0 : GoodN ([] : List Nd) := fun i n h => by simp at h
  obtain ⟨h1, h2, h3, h4⟩ := devN_spec (most := most) xs [] [] [] hG0 (by simp; omega) ⟨rfl, fun i id x h => by simp at h⟩
  simp only [List.nil_append, List.length_nil, Nat.zero_add] at h3 h4
  have v1 := var8_dev (most := most) xs [] [] (fun n h => by simp at h)
  generalize devN most [] xs [] = dv at h1 h2 h3 h4 v1 ⊢
  obtain ⟨c1, ⟨k, ck, ck2⟩, ⟨M, cM⟩, cG, _⟩ := const_at (most := most) h2 (by omega) 0
  have v2 := var8_const (most := most) (x := 0) v1
  generalize constN most dv.1 64 0 = cz at c1 ck ck2 cM cG v2 ⊢
  have hz : wdN cz.1 cz.2.1 = 64 := by rw [ck]; exact wdN_at ck2
  have h4' := h4.ext (M := M)
  rw [← cM] at h4'
  refine ⟨c1, v2, WfS.of (by simp) ?_ ?_ ?_ ?_ ?_ ?_, ?_⟩
  · intro id hid; rw [(List.mem_replicate.1 hid).2]; exact hz
  · intro id hid; rw [(List.mem_replicate.1 hid).2]; exact hz
  · intro id hid
    obtain ⟨i, hi, e⟩ := List.mem_iff_getElem.1 hid
    have hix : i < xs.length := by rw [← h4.1]; exact hi
    obtain ⟨k2, e1, e2⟩ := h4'.2 i id xs[i] (by rw [List.getElem?_eq_getElem hi, e]) (List.getElem?_eq_getElem hix)
    rw [e1]; exact wdN_at e2
  · intro x hx; simp at hx
  · intro x hx; simp at hx
  · intro h; exact absurd h (by show ¬ (0 : Int) = 1; decide)
  · refine ⟨by simpa using hm, by rw [h4.1]; exact hx, by simp, ?_, ?_, ?_, ?_⟩ <;> (constructor <;> first | omega | (simp only; omega))
theorem rem_i {k : Kt} {w : World} {n m : Nat} (hm : 0 < m) (hn : n < 1000000) (hm2 : m < 1000000) (h : k (vi ((n % m : Nat) : Int)) w) : M.bin .rem (vi (n : Int)) (vi (m : Int)) k w := by
  refine M.bin_i (v := vi ((n % m : Nat) : Int)) ?_ h
  simp only [ibin]
  rw [if_neg (by omega), Int.tmod_eq_emod_of_nonneg (by omega)]
  congr 2
theorem Bd.bnd {k : Nat} {s : Sy} (h : Bd k s) (hk : k ≤ 1000) (hc : s.conds.length ≤ k) : Bnd s ∧ (0 ≤ s.steps ∧ s.steps ≤ 1000000) := by
  obtain ⟨h1, h2, h3, h4, h5, h6, h7⟩ := h
  exact ⟨⟨by omega, by omega, by omega, by omega, by omega, by omega, by omega⟩, by omega⟩
theorem Bd.few {k : Nat} {s : Sy} (h : Bd k s) (hk : k ≤ 1000) (hc : s.conds.length ≤ k) : s.few := by
  obtain ⟨h1, h2, h3, h4, h5, h6, h7⟩ := h
  exact ⟨by omega, ⟨by omega, by omega⟩, by omega⟩
theorem Bd.nmc {k : Nat} {s : Sy} {N : List Nd} {env : List W64} (h : Bd k s) (hk : k ≤ 1000) : NmC (stOf N env s) := by
  obtain ⟨h1, h2, h3, h4, h5, h6, h7⟩ := h
  refine ⟨by simp [stOf]; omega, by simp [stOf, devOf]; omega, by simp [stOf, devOf]; omega, ?_, ?_, ?_, ?_⟩
  · show 0 ≤ s.dev.ep ∧ s.dev.ep ≤ 1000000; omega
  · show 0 ≤ s.calls ∧ s.calls ≤ 1000000; omega
  · show 0 ≤ s.steps ∧ s.steps ≤ 1000000; omega
  · show 0 ≤ s.pc ∧ s.pc ≤ 1000000; omega
theorem Bd.up {k : Nat} {s : Sy} (h : Bd k s) {j : Nat} (hj : k ≤ j) : Bd j s := by
  obtain ⟨h1, h2, h3, h4, h5, h6, h7⟩ := h
  exact ⟨h1, h2, by omega, by omega, by omega, by omega, by omega⟩
theorem SyO.l3 {w : World} {D : Nat → Prop} {L : List Value} {s : Sy} (h : SyO w D (.agg ⟨L⟩) s) : s.regs.length = 8 ∧ ∃ c a b d, L = s.vals c a b d ∧ L3 w D c a b d s := by
  obtain ⟨h8, c, a, b, d, e, h1, h2, h3⟩ := h
  simp only [Value.agg.injEq, Array.mk.injEq] at e
  exact ⟨h8, c, a, b, d, e, h1, h2, h3⟩
theorem plainR_len {N : List Nd} {e : Int} {s : Sy} : (plainR N e s).2.2.length ≤ 1 := by
  unfold plainR
  exact addP_len (N := N) (outs := [])
theorem eachP_len {most : Int} {N : List Nd} {e : Int} {s : Sy} {id : Int} {n : Nat} {code : Int} {f : Nat → Sy} : (eachP most N e s id n code f).2.2.length ≤ n + 1 := by
  unfold eachP
  split
  · split
    · exact Nat.le_trans plainR_len (by omega)
    · exact Nat.le_trans plainR_len (by omega)
  · have h1 := eachK_len most id f n (N, e, [])
    simp only [List.length_nil] at h1
    exact Nat.le_trans addP_len (by omega)
theorem stepI_len {most : Int} {N : List Nd} {s : Sy} {i : Ins} {inputs mw : Int} (h1 : s.cells.length ≤ 255) (h2 : s.dev.disk.length ≤ 10) : (stepI most N s i inputs mw).2.2.length ≤ 256 := by
  have p : ∀ {N : List Nd} {e : Int} {s : Sy}, (plainR N e s).2.2.length ≤ 256 := fun {N e s} => Nat.le_trans plainR_len (by omega)
  have b : (branchP most N 0 s i).2.2.length ≤ 256 := by
    unfold branchP
    simp only
    refine Nat.le_trans addP_len ?_
    have := addP_len (N := (notP most (isP most N 0 (s.reg i.a) 0).1 (isP most N 0 (s.reg i.a) 0).2.2 (isP most N 0 (s.reg i.a) 0).2.1).1) (e := (notP most (isP most N 0 (s.reg i.a) 0).1 (isP most N 0 (s.reg i.a) 0).2.2 (isP most N 0 (s.reg i.a) 0).2.1).2.2) (outs := []) (s' := s.at i) (cnd := (notP most (isP most N 0 (s.reg i.a) 0).1 (isP most N 0 (s.reg i.a) 0).2.2 (isP most N 0 (s.reg i.a) 0).2.1).2.1)
    simp only [List.length_nil] at this
    omega
  unfold stepI setR
  by_cases o1 : i.op = 1
  · rw [if_pos o1]; exact p
  rw [if_neg o1]
  by_cases o2 : i.op = 2
  · rw [if_pos o2]; exact p
  rw [if_neg o2]
  by_cases o3 : i.op = 3
  · rw [if_pos o3]; exact p
  rw [if_neg o3]
  by_cases o4 : i.op = 4
  · rw [if_pos o4]; exact p
  rw [if_neg o4]
  by_cases o5 : i.op = 5
  · rw [if_pos o5]; exact p
  rw [if_neg o5]
  by_cases o6 : i.op = 6
  · rw [if_pos o6]; exact b
  rw [if_neg o6]
  by_cases o7 : i.op = 7
  · rw [if_pos o7]; exact Nat.le_trans eachP_len (by omega)
  rw [if_neg o7]
  by_cases o8 : i.op = 8
  · rw [if_pos o8]; exact Nat.le_trans eachP_len (by omega)
  rw [if_neg o8]
  by_cases o9 : i.op = 9
  · rw [if_pos o9]; exact p
  rw [if_neg o9]
  by_cases o10 : i.op = 10
  · rw [if_pos o10]; exact Nat.le_trans eachP_len (by omega)
  rw [if_neg o10]
  by_cases o11 : i.op = 11
  · rw [if_pos o11]; exact Nat.le_trans eachP_len (by omega)
  rw [if_neg o11]
  by_cases o12 : i.op = 12
  · rw [if_pos o12]; exact p
  rw [if_neg o12]
  by_cases o13 : i.op = 13
  · rw [if_pos o13]; exact p
  rw [if_neg o13]
  by_cases o14 : i.op = 14
  · rw [if_pos o14]; exact p
  rw [if_neg o14]
  exact p
theorem stepN_len {most : Int} {N : List Nd} {code : List Ins} {s : Sy} {inputs mw : Int} (h1 : s.cells.length ≤ 255) (h2 : s.dev.disk.length ≤ 10) : (stepN most N code s inputs mw).2.2.length ≤ 256 := by
  unfold stepN
  split
  · simp
  split
  · simp
  split
  · simp
  · rename_i i _
    have := stepI_len (most := most) (N := N) (s := { s with steps := s.steps + 1 }) (i := i) (inputs := inputs) (mw := mw) h1 h2
    show (if _ then _ else _ : Rp).2.2.length ≤ 256
    split
    · exact this
    · simp
theorem yv_at {s : Sy} {c a b d : Value} (h8 : s.regs.length = 8) (j : Nat) : (s.vals c a b d)[0 + (8 + j)]? = ([c, vi s.pc, vi s.steps, vi s.calls, vi s.en, vi s.code, vi s.value, a, b, vi s.dev.ep, d] : List Value)[j]? := by
  unfold Sy.vals
  rw [Nat.zero_add, List.getElem?_append_right (by simp [h8])]
  simp [h8]
end Go.Proofs.YtanjlgafjgoaaaaGreat
namespace Go.Proofs.YtanjlgafjgoaaaaGreat
open Go.Mw
set_option linter.unusedVariables false
set_option linter.unusedSimpArgs false
set_option maxRecDepth 100000
attribute [local irreducible] M.val M.unit M.next M.pick M.new M.nilCheck M.load1 M.loadA M.store M.fieldAddr M.indexSl M.indexArr M.slice M.makeSlice M.buildSlice M.len M.lenS M.cap M.append M.extract M.conv M.not M.neg M.bin M.shift M.eqB M.eqNil M.scat M.call M.callv M.gd M.share M.cond M.loop M.draw pureW readW Ret
def sh4 (x0 x1 x2 : Value) (R : Kt) (w : World) : Prop :=
  M.new 25 (Value.cells x0) (fun t3 w =>
  M.loadA 5 t3 (fun t25 w =>
  M.call Tryz.prog 5 #[t25] (fun t26 w =>
  M.bin .eql t26 (Value.int IntKind.i64 0) (fun t27 w =>
  M.gd t27 false (fun k w => k x1 w) (fun t29 w =>
  M.gd t27 false (fun k w => M.len t29 k w) (fun t30 w =>
  M.gd t27 false (fun k w => M.bin .gtr t30 (Value.int IntKind.i64 300) k w) (fun t31 w =>
  M.pick t27 (Value.bool true) t31 (fun t32 w =>
  M.cond t32
  (M.call Tryz.prog 6 #[] (fun t33 w =>
  R t33 w) w)
  (M.call Tryz.prog 7 #[(Value.int IntKind.i64 30000)] (fun t34 w =>
  M.eqNil 0 false t34 (fun t36 w =>
  M.cond t36
  (R (Value.bool false) w)
  (M.fieldAddr 1 t3 (fun t39 w =>
  M.load1 t39 (fun t40 w =>
  M.call Tryz.prog 8 #[t34, t40] (fun t41 w =>
  M.extract 0 t41 (fun t42 w =>
  M.extract 1 t41 (fun t43 w =>
  M.new 33 #[.slice none 0 0, .slice none 0 0, .int .i64 0] (fun t8 w =>
  M.store 3 t8 t42 (fun _ w =>
  M.loadA 3 t8 (fun t46 w =>
  M.fieldAddr 2 t3 (fun t47 w =>
  M.load1 t47 (fun t48 w =>
  M.call Tryz.prog 9 #[t34, t46, t48, (Value.slice none 0 0)] (fun t49 w =>
  M.extract 0 t49 (fun t50 w =>
  M.extract 1 t49 (fun t51 w =>
  M.new 39 #[.int .i64 0, .int .i64 0, .int .i64 0, .int .i64 0, .int .i64 0, .int .i64 0, .int .i64 0, .int .i64 0, .slice none 0 0, .int .i64 0, .int .i64 0, .int .i64 0, .int .i64 0, .int .i64 0, .int .i64 0, .slice none 0 0, .slice none 0 0, .int .i64 0, .slice none 0 0] (fun t10 w =>
  M.store 19 t10 t50 (fun _ w =>
  M.bin .neq t51 (Value.int IntKind.i64 0) (fun t53 w =>
  M.cond t53
  (R (Value.bool false) w)
  (M.loadA 19 t10 (fun t54 w =>
  M.buildSlice 39 19 #[.int .i64 0, .int .i64 0, .int .i64 0, .int .i64 0, .int .i64 0, .int .i64 0, .int .i64 0, .int .i64 0, .slice none 0 0, .int .i64 0, .int .i64 0, .int .i64 0, .int .i64 0, .int .i64 0, .int .i64 0, .slice none 0 0, .slice none 0 0, .int .i64 0, .slice none 0 0] 1 [(0, t54)] (fun t55 w =>
  M.loadA 19 t10 (fun t58 w =>
  M.call Tryz.prog 10 #[t34, t58, x1] (fun t60 w =>
  M.extract 0 t60 (fun t61 w =>
  M.extract 1 t60 (fun t62 w =>
  M.extract 2 t60 (fun t63 w =>
  M.new 48 #[.int .u64 0, .int .u64 0, .int .u64 0, .int .u64 0, .int .u64 0, .int .u64 0, .int .u64 0, .int .u64 0, .slice none 0 0, .int .i64 0, .int .i64 0, .int .i64 0, .int .i64 0, .int .i64 0, .int .u64 0, .slice none 0 0, .slice none 0 0, .int .i64 0] (fun t13 w =>
  M.store 18 t13 t61 (fun _ w =>
  M.loop [t55, (Value.int IntKind.i64 0)] (fun s1 K1 w => ∀ _ : List Value,
  M.conv .i64 x2 (fun t66 w =>
  M.bin .rem t66 (Value.int IntKind.i64 6) (fun t67 w =>
  M.bin .lss (s1.getD 1 undef) t67 (fun t68 w =>
  M.cond t68
  (M.loop [(Value.slice none 0 0), (Value.int IntKind.i64 0)] (fun s2 K2 w => ∀ _ : List Value,
  M.len (s1.getD 0 undef) (fun t73 w =>
  M.bin .lss (s2.getD 1 undef) t73 (fun t74 w =>
  M.cond t74
  (M.share (fun K3 w =>
  M.indexSl 19 (s1.getD 0 undef) (s2.getD 1 undef) (fun t79 w =>
  M.fieldAddr 12 t79 (fun t80 w =>
  M.load1 t80 (fun t81 w =>
  M.bin .neq t81 (Value.int IntKind.i64 0) (fun t82 w =>
  M.cond t82
  (M.indexSl 19 (s1.getD 0 undef) (s2.getD 1 undef) (fun t86 w =>
  M.loadA 19 t86 (fun t87 w =>
  M.buildSlice 39 19 #[.int .i64 0, .int .i64 0, .int .i64 0, .int .i64 0, .int .i64 0, .int .i64 0, .int .i64 0, .int .i64 0, .slice none 0 0, .int .i64 0, .int .i64 0, .int .i64 0, .int .i64 0, .int .i64 0, .int .i64 0, .slice none 0 0, .slice none 0 0, .int .i64 0, .slice none 0 0] 1 [(0, t87)] (fun t88 w =>
  M.append 39 19 216 #[.int .i64 0, .int .i64 0, .int .i64 0, .int .i64 0, .int .i64 0, .int .i64 0, .int .i64 0, .int .i64 0, .slice none 0 0, .int .i64 0, .int .i64 0, .int .i64 0, .int .i64 0, .int .i64 0, .int .i64 0, .slice none 0 0, .slice none 0 0, .int .i64 0, .slice none 0 0] (s2.getD 0 undef) t88 (fun t89 w =>
  K3 [t89] w) w) w) w) w)
  (M.draw (fun w =>
  M.fieldAddr 0 t3 (fun t92 w =>
  M.load1 t92 (fun t93 w =>
  M.indexSl 19 (s1.getD 0 undef) (s2.getD 1 undef) (fun t96 w =>
  M.loadA 19 t96 (fun t97 w =>
  M.fieldAddr 3 t3 (fun t98 w =>
  M.load1 t98 (fun t99 w =>
  M.fieldAddr 4 t3 (fun t100 w =>
  M.load1 t100 (fun t101 w =>
  M.call Tryz.prog 12 #[t34, t93, t97, t99, t101] (fun t102 w =>
  M.extract 0 t102 (fun t103 w =>
  M.extract 1 t102 (fun t104 w =>
  M.bin .neq t104 (Value.int IntKind.i64 0) (fun t106 w =>
  M.gd t106 false (fun k w => k (s2.getD 0 undef) w) (fun t108 w =>
  M.gd t106 false (fun k w => M.len t108 k w) (fun t109 w =>
  M.gd t106 false (fun k w => M.bin .gtr t109 (Value.int IntKind.i64 300) k w) (fun t110 w =>
  M.pick t106 (Value.bool true) t110 (fun t111 w =>
  M.cond t111
  (M.bin .eql t104 (Value.int IntKind.i64 0) (fun t113 w =>
  M.gd t113 false (fun k w => k t104 w) (fun t115 w =>
  M.gd t113 false (fun k w => M.bin .eql t115 (Value.int IntKind.i64 8) k w) (fun t116 w =>
  M.pick t113 (Value.bool true) t116 (fun t117 w =>
  M.gd t117 true (fun k w => M.call Tryz.prog 6 #[] k w) (fun t119 w =>
  M.pick t117 t119 (Value.bool false) (fun t120 w =>
  R t120 w) w) w) w) w) w) w)
  (M.append 39 19 216 #[.int .i64 0, .int .i64 0, .int .i64 0, .int .i64 0, .int .i64 0, .int .i64 0, .int .i64 0, .int .i64 0, .slice none 0 0, .int .i64 0, .int .i64 0, .int .i64 0, .int .i64 0, .int .i64 0, .int .i64 0, .slice none 0 0, .slice none 0 0, .int .i64 0, .slice none 0 0] (s2.getD 0 undef) t103 (fun t123 w =>
  K3 [t123] w) w)) w) w) w) w) w) w) w) w) w) w) w) w) w) w) w) w) w)) w) w) w) w) (fun s3 w => ∀ _ : List Value,
  M.bin .add (s2.getD 1 undef) (Value.int IntKind.i64 1) (fun t76 w =>
  K2 [(s3.getD 0 undef), t76] w) w) w)
  (M.draw (fun w =>
  M.fieldAddr 0 t3 (fun t125 w =>
  M.load1 t125 (fun t126 w =>
  M.loadA 18 t13 (fun t127 w =>
  M.fieldAddr 3 t3 (fun t128 w =>
  M.load1 t128 (fun t129 w =>
  M.fieldAddr 4 t3 (fun t132 w =>
  M.load1 t132 (fun t133 w =>
  M.call Tryz.prog 11 #[t129, x1] (fun t131 w =>
  ((M.load1 t132 (fun v' _ => v' = t133) w) ∧ ((M.loadA 18 t13 (fun v' _ => v' = t127) w) ∧ ((M.load1 t125 (fun v' _ => v' = t126) w) ∧ M.call Tryz.prog 14 #[t126, t127, t131, t133] (fun t134 w =>
  M.store 18 t13 t134 (fun _ w =>
  M.bin .add (s1.getD 1 undef) (Value.int IntKind.i64 1) (fun t70 w =>
  K1 [(s2.getD 0 undef), t70] w) w) w) w)))) w) w) w) w) w) w) w) w) w)) w) w) w)
  (M.call Tryz.prog 13 #[t34, (s1.getD 0 undef), x1] (fun t138 w =>
  M.bin .lss t138 (Value.int IntKind.i64 0) (fun t140 w =>
  M.cond t140
  (R (Value.bool false) w)
  (M.indexSl 19 (s1.getD 0 undef) t138 (fun t145 w =>
  M.loadA 19 t145 (fun t146 w =>
  M.call Tryz.prog 10 #[t34, t146, x1] (fun t148 w =>
  M.extract 0 t148 (fun t149 w =>
  M.extract 1 t148 (fun t150 w =>
  M.extract 2 t148 (fun t151 w =>
  M.new 48 #[.int .u64 0, .int .u64 0, .int .u64 0, .int .u64 0, .int .u64 0, .int .u64 0, .int .u64 0, .int .u64 0, .slice none 0 0, .int .i64 0, .int .i64 0, .int .i64 0, .int .i64 0, .int .i64 0, .int .u64 0, .slice none 0 0, .slice none 0 0, .int .i64 0] (fun t22 w =>
  M.store 18 t22 t149 (fun _ w =>
  M.loadA 18 t22 (fun t152 w =>
  M.loadA 18 t13 (fun t153 w =>
  M.call Tryz.prog 15 #[t152, t153] (fun t154 w =>
  M.gd t154 true (fun k w => M.call Tryz.prog 6 #[] k w) (fun t156 w =>
  M.pick t154 t156 (Value.bool false) (fun t157 w =>
  R t157 w) w) w) w) w) w) w) w) w) w) w) w) w) w)) w) w)) w) w) w) w) w) w) w) w) w) w) w) w) w)) w) w) w) w) w) w) w) w) w) w) w) w) w) w) w) w)) w) w)) w) w) w) w) w) w) w) w
theorem ok4 (x0 x1 x2 : Value) (R : Kt) (w : World) (h : sh4 x0 x1 x2 R w) : Ret Tryz.prog 4 #[x0, x1, x2] w R :=
  ret_mk <| calls_of_comp mixed (c := Tryz.f4.body.getD .skip) (args := [x0, x1, x2]) (rs := [(ResultVar.tmp 6)]) (Ann.seq Ann.text (Ann.seq (Ann.seq Ann.text (Ann.cond (Ann.seq Ann.text Ann.leaf) Ann.leaf)) (Ann.seq Ann.text (Ann.seq (Ann.seq Ann.text (Ann.cond (Ann.seq Ann.text Ann.leaf) Ann.leaf)) (Ann.seq Ann.text (Ann.seq Ann.text (Ann.seq (Ann.seq Ann.text (Ann.cond (Ann.seq Ann.text Ann.leaf) Ann.leaf)) (Ann.seq Ann.text (Ann.seq Ann.text (Ann.seq (Ann.seq Ann.text (Ann.block (Ann.loop [12, 16] [6, 17, 18, 19, 20, 64, 65, 66, 67, 68, 69, 70, 71, 72, 73, 74, 75, 76, 77, 78, 79, 80, 81, 82, 83, 84, 85, 86, 87, 88, 89, 90, 91, 92, 93, 94, 95, 96, 97, 98, 99, 100, 101, 102, 103, 104, 105, 106, 107, 108, 109, 110, 111, 112, 113, 114, 115, 116, 117, 118, 119, 120, 121, 122, 123, 124, 125, 126, 127, 128, 129, 130, 131, 132, 133, 134] (Ann.seq (Ann.seq Ann.text (Ann.cond Ann.leaf Ann.leaf)) (Ann.seq (Ann.block (Ann.seq Ann.text (Ann.seq (Ann.seq Ann.text (Ann.block (Ann.loop [17, 18] [6, 19, 20, 71, 72, 73, 74, 75, 76, 77, 78, 79, 80, 81, 82, 83, 84, 85, 86, 87, 88, 89, 90, 91, 92, 93, 94, 95, 96, 97, 98, 99, 100, 101, 102, 103, 104, 105, 106, 107, 108, 109, 110, 111, 112, 113, 114, 115, 116, 117, 118, 119, 120, 121, 122, 123] (Ann.seq (Ann.seq Ann.text (Ann.cond Ann.leaf Ann.leaf)) (Ann.seq (Ann.jblock [17] [6, 19, 20, 77, 78, 79, 80, 81, 82, 83, 84, 85, 86, 87, 88, 89, 90, 91, 92, 93, 94, 95, 96, 97, 98, 99, 100, 101, 102, 103, 104, 105, 106, 107, 108, 109, 110, 111, 112, 113, 114, 115, 116, 117, 118, 119, 120, 121, 122, 123] (Ann.seq (Ann.seq Ann.text (Ann.cond (Ann.seq Ann.text Ann.leaf) Ann.leaf)) (Ann.seq (Ann.draw (Sch.take 0 (Sch.take 1 (Sch.take 2 (Sch.take 3 (Sch.take 4 (Sch.take 5 (Sch.take 6 (Sch.take 7 (Sch.take 8 (Sch.take 9 (Sch.take 10 (Sch.one 11 (Sch.take 12 (Sch.take 13 (Sch.take 14 (Sch.take 15 (Sch.take 16 Sch.done)))))))))))))))))) (Ann.seq (Ann.seq Ann.text (Ann.cond (Ann.seq Ann.text Ann.leaf) Ann.leaf)) Ann.text)))) Ann.text))))) (Ann.seq Ann.text (Ann.draw (Sch.take 0 (Sch.take 1 (Sch.take 2 (Sch.take 3 (Sch.take 4 (Sch.take 5 (Sch.take 7 (Sch.take 8 (Sch.one 6 (Sch.one 9 (Sch.one 10 Sch.done)))))))))))))))) Ann.text))))) (Ann.seq Ann.text (Ann.seq (Ann.seq Ann.text (Ann.cond (Ann.seq Ann.text Ann.leaf) Ann.leaf)) (Ann.seq Ann.text (Ann.seq Ann.text Ann.leaf))))))))))))))
    Tryz.func4 (by kernel_rfl) (by kernel_rfl)
    (Eq.mp (by kernel_rfl) h)
theorem OutS.single {w : World} {D : Nat → Prop} {b : Nat} {L : List Value} {s : Sy} (hb : Blk w b L) (hD : D b) (hs : SyO w D (.agg ⟨L⟩) s) : OutS w D (.slice (some ⟨b, 0, none⟩) 1 1) [s] := by
  refine ⟨_, _, [L], rfl, ?_, rfl, Nat.le_refl _, fun k u t g1 g2 => ?_⟩
  · simpa using (Row.of_blk' (D := D) hb hD)
  · match k, g1, g2 with
    | 0, g1, g2 =>
      simp only [List.getElem?_cons_zero, Option.some.injEq] at g1 g2
      subst g1 g2
      exact hs
    | k + 1, g1, _ => simp at g1
theorem SyO.one {w : World} {D : Nat → Prop} {L : List Value} {s : Sy} (h : SyO w D (.agg ⟨L⟩) s) : ∀ y ∈ L, y.oneCell' = true := by
  obtain ⟨h8, c, a, b, d, e, h1, h2, h3⟩ := h
  simp only [Value.agg.injEq, Array.mk.injEq] at e
  rw [e]
  exact sy_vals_one h1 h2 h3
theorem OutO.nil (w : World) (D : Nat → Prop) : OutO w D (.slice none 0 0) [] := ⟨[], GC.nil _ _ _, rfl, fun k v s h => by simp at h⟩
theorem OutO.keep {w w' : World} {D S : Nat → Prop} {v : Value} {outs : List Sy} (h : OutO w D v outs) (k : Keep w w' S) (hb : ∀ x, blkOf v x → ¬ S x) (hs : ∀ b, b < w.heap.size → D b → ¬ S b) : OutO w' D v outs := by
  obtain ⟨cs, h1, h2, h3⟩ := h
  exact ⟨cs, h1.keep k (fun x _ h => hb x h), h2, fun k' u t g1 g2 => (h3 k' u t g1 g2).keep k hs⟩
theorem OutO.mono {w : World} {D D' : Nat → Prop} {v : Value} {outs : List Sy} (h : OutO w D v outs) (hd : ∀ b, b < w.heap.size → D b → D' b) : OutO w D' v outs := by
  obtain ⟨cs, h1, h2, h3⟩ := h
  exact ⟨cs, h1, h2, fun k' u t g1 g2 => (h3 k' u t g1 g2).mono hd⟩
theorem OutO.lt {w : World} {D : Nat → Prop} {v : Value} {outs : List Sy} (h : OutO w D v outs) {x : Nat} (hx : blkOf v x) : x < w.heap.size := by
  obtain ⟨cs, h1, _⟩ := h
  obtain ⟨_, l, hl⟩ := GC.blkOf h1 hx
  exact hl.lt
theorem OutO.s {w : World} {D D' : Nat → Prop} {v : Value} {outs : List Sy} (h : OutO w D v outs) (hb : ∀ x, blkOf v x → D' x) (hd : ∀ b, b < w.heap.size → D b → D' b) : OutS w D' v outs := by
  obtain ⟨cs, h1, h2, h3⟩ := h
  obtain ⟨A, c, rfl, hr, hc⟩ := GC.row2 h1 (by omega)
  exact ⟨A, c, cs, rfl, hr.mono (fun x _ h => hb x h), h2, hc, fun k u t g1 g2 => (h3 k u t g1 g2).mono hd⟩
theorem M.appendGr_i {kt : Kt} {w : World} {D D' : Nat → Prop} {el : Nat} {zero : Array Value} {v lv : Value} {outs l : List Sy} (h : OutO w D v outs) (hD : ∀ x, D x → ¬ blkOf v x) (hl : OutS w D' lv l) (hDD : ∀ x, x < w.heap.size → D' x → D x) (hz : zero.size = 19) (hb : outs.length + l.length ≤ 100000)
    (hk : ∀ v' w', OutO w' (fun x => D x ∧ ¬ blkOf v' x) v' (outs ++ l) → Keep w w' (blkOf v) → (∀ x, blkOf v' x → blkOf v x ∨ w.heap.size ≤ x) → kt v' w') : M.append el 19 216 zero v lv kt w := by
  obtain ⟨cs, h1, h2, h3⟩ := h
  obtain ⟨A, cap, ds, rfl, hr, g2, _, g3⟩ := hl
  have hall : ∀ u ∈ ds, u.length = 19 ∧ ∀ y ∈ u, y.oneCell' = true := fun u hu => by
    obtain ⟨k, hk⟩ := List.mem_iff_getElem?.1 hu
    have hkl := (List.getElem?_eq_some_iff.1 hk).1
    have := g3 k u l[k] hk (List.getElem?_eq_getElem (by omega))
    exact ⟨this.len19, this.one⟩
  have hlt : ∀ x, blkOf v x → x < w.heap.size := fun x hx => by
    obtain ⟨_, l', hl'⟩ := GC.blkOf h1 hx
    exact hl'.lt
  refine M.append_i h1 hr (by rw [flat19 ds (fun u hu => (hall u hu).1), g2]) (fun y hy => ?_) hz (by omega) (by omega) (fun v' w' a1 a2 => ?_)
  · obtain ⟨u, hu, hyu⟩ := List.mem_flatten.1 hy
    exact (hall u hu).2 y hyu
  have hnew : ∀ x, blkOf v' x → blkOf v x ∨ w.heap.size ≤ x := fun x hx => (GC.blkOf a1 hx).1
  refine hk v' w' ⟨cs ++ ds, ?_, by simp [h2, g2], fun k u t q1 q2 => ?_⟩ a2 hnew
  · have := GC.own a1
    rw [List.flatten_append, List.length_append]
    exact this
  · have key : SyO w D (.agg ⟨u⟩) t := by
      by_cases hkl : k < cs.length
      · rw [List.getElem?_append_left hkl] at q1
        rw [List.getElem?_append_left (by omega)] at q2
        exact h3 k u t q1 q2
      · rw [List.getElem?_append_right (by omega)] at q1 q2
        rw [h2] at q1
        exact (g3 _ u t q1 q2).mono hDD
    exact ((key.mono (D' := fun x => D x ∧ x < w.heap.size) (fun x hx h => ⟨h, hx⟩)).keep a2 (fun x _ h => hD x h.1)).mono (fun x _ h => ⟨h.1, fun hb' => by
      rcases hnew x hb' with hb' | hb'
      · exact hD x h.1 hb'
      · omega⟩)
def OkA (N : List Nd) (k : Nat) (l : List Sy) : Prop := ∀ o ∈ l, WfS N o ∧ Bd k o ∧ o.conds.length ≤ k
theorem OkA.ext {N : List Nd} {k : Nat} {l : List Sy} (M : List Nd) (h : OkA N k l) : OkA (N ++ M) k l := fun o ho => ⟨(h o ho).1.ext M, (h o ho).2⟩
theorem OkA.app {N : List Nd} {k : Nat} {a b : List Sy} (h : OkA N k a) (h2 : OkA N k b) : OkA N k (a ++ b) := fun o ho => by
  rcases List.mem_append.1 ho with ho | ho
  · exact h o ho
  · exact h2 o ho
theorem OkA.wf {N : List Nd} {k : Nat} {l : List Sy} (h : OkA N k l) : ∀ o ∈ l, WfS N o := fun o ho => (h o ho).1
theorem Hd_up {N M : List Nd} (hG : GoodN (N ++ M)) {env : List W64} {i k : Nat} {all nxt l : List Sy} {s : Sy} {f : St → St} (hx : all[k]? = some s) (ha : OkA N i all) (hn : OkA N (i + 1) nxt)
    (h : Hd N env nxt = (Hd N env (all.take k)).map f) (hl : Hd (N ++ M) env l = if stHolds N env s then [f (stOf N env s)] else []) : Hd (N ++ M) env (nxt ++ l) = (Hd (N ++ M) env (all.take (k + 1))).map f := by
  rw [Hd_ext hG env (l := all.take (k + 1)) (fun o ho => ha.wf o (List.mem_of_mem_take ho)), Hd_app, Hd_ext hG env hn.wf, h, hl, List.take_add_one, hx, Option.toList_some, Hd_app, Hd_one, List.map_append]
  congr 1
  cases stHolds N env s <;> rfl
def Dm (F : Nat → Prop) (T : Nat) (nv : Value) : Nat → Prop := fun x => ¬ F x ∧ x ≠ T ∧ ¬ blkOf nv x
structure InvB (w0 T : Nat) (w' : World) (F : Nat → Prop) (p : Nat) (N : List Nd) (env : List W64) (f : St → St) (av nv : Value) (all nxt : List Sy) (t : St) (i k : Nat) : Prop where
  dag : DagO w' F p N 30000
  v8 : Var8 N
  oa : OutS w' (Dm F T nv) av all
  on : OutO w' (Dm F T nv) nv nxt
  nb : ∀ x, blkOf nv x → ¬ F x ∧ x ≠ T ∧ w0 ≤ x
  nw : ∃ nl, Blk w' T nl ∧ StO w' (Dm F T nv) (.agg ⟨nl⟩) t
  oka : OkA N i all
  okn : OkA N (i + 1) nxt
  ha : Hd N env all = [t]
  hn : Hd N env nxt = (Hd N env (all.take k)).map f
  ln : nxt.length ≤ 556 + k
  la : all.length ≤ 1 + 556 * i
  kl : k ≤ all.length
  low : ∀ x, x < w0 → ¬ F x
  nT : ¬ F T
  lT : w0 ≤ T
section
variable {w0 T p : Nat} {w' : World} {F : Nat → Prop} {N : List Nd} {env : List W64} {f : St → St} {av nv : Value} {all nxt : List Sy} {t : St} {i k : Nat}
theorem InvB.keepN {w2 : World} (h : InvB w0 T w' F p N env f av nv all nxt t i k) (q : Keep w' w2 No) : InvB w0 T w2 F p N env f av nv all nxt t i k := by
  obtain ⟨nl, h1, h2⟩ := h.nw
  exact ⟨h.dag.keepN q, h.v8, h.oa.keep q (fun _ _ _ h => h), h.on.keep q (fun _ _ h => h) (fun _ _ _ h => h), h.nb, ⟨nl, h1.keep q (fun h => h), h2.keep q (fun _ _ _ h => h)⟩, h.oka, h.okn, h.ha, h.hn, h.ln, h.la, h.kl, h.low, h.nT, h.lT⟩
theorem InvB.grow {w2 : World} {F2 : Nat → Prop} {N2 M : List Nd} (h : InvB w0 T w' F p N env f av nv all nxt t i k) (q : Keep w' w2 F) (hF : ∀ x, x < w'.heap.size → F2 x → F x) (hd : DagO w2 F2 p N2 30000) (hM : N2 = N ++ M) (hv : Var8 N2) (hw0 : w0 ≤ w'.heap.size) :
    InvB w0 T w2 F2 p N2 env f av nv all nxt t i k := by
  subst hM
  obtain ⟨nl, h1, h2⟩ := h.nw
  have hT := h1.lt
  have hup : ∀ x, (Dm F T nv x ∧ x < w'.heap.size) → Dm F2 T nv x := fun x hx => ⟨fun hf => hx.1.1 (hF x hx.2 hf), hx.1.2⟩
  have hlt := fun x (hx : blkOf nv x) => h.on.lt hx
  refine ⟨hd, hv, ?_, ?_, fun x hx => ⟨fun hf => (h.nb x hx).1 (hF x (hlt x hx) hf), (h.nb x hx).2⟩, ⟨nl, h1.keep q h.nT, ?_⟩, h.oka.ext M, h.okn.ext M, ?_, ?_, h.ln, h.la, h.kl, fun x hx hf => h.low x hx (hF x (by omega) hf), fun hf => h.nT (hF T hT hf), h.lT⟩
  · exact ((h.oa.mono (D' := fun x => Dm F T nv x ∧ x < w'.heap.size) (fun x hx h => ⟨h, hx⟩)).keep q (fun x _ h => h.1.1)).mono (fun x _ h => hup x h)
  · exact ((h.on.mono (D' := fun x => Dm F T nv x ∧ x < w'.heap.size) (fun x hx h => ⟨h, hx⟩)).keep q (fun x hx => (h.nb x hx).1) (fun x _ h => h.1.1)).mono (fun x _ h => hup x h)
  · exact ((h2.mono (D' := fun x => Dm F T nv x ∧ x < w'.heap.size) (fun x hx h => ⟨h, hx⟩)).keep q (fun x _ h => h.1.1)).mono (fun x _ h => hup x h)
  · rw [Hd_ext hd.good env h.oka.wf]; exact h.ha
  · rw [Hd_ext hd.good env h.okn.wf, Hd_ext hd.good env (fun o ho => h.oka.wf o (List.mem_of_mem_take ho))]; exact h.hn
theorem InvB.app {w2 : World} {nv2 : Value} {l : List Sy} {s : Sy} (h : InvB w0 T w' F p N env f av nv all nxt t i k) (hx : all[k]? = some s) (ho : OutO w2 (fun x => Dm F T nv x ∧ ¬ blkOf nv2 x) nv2 (nxt ++ l)) (q : Keep w' w2 (blkOf nv))
    (hb : ∀ x, blkOf nv2 x → blkOf nv x ∨ w'.heap.size ≤ x) (hl : Hd N env l = if stHolds N env s then [f (stOf N env s)] else []) (hk : OkA N (i + 1) l) (hle : nxt.length + l.length ≤ 556 + (k + 1)) (hw0 : w0 ≤ w'.heap.size) :
    InvB w0 T w2 F p N env f av nv2 all (nxt ++ l) t i (k + 1) := by
  obtain ⟨nl, h1, h2⟩ := h.nw
  have hT := h1.lt
  have hG := h.dag.good
  have hup : ∀ x, (Dm F T nv x ∧ x < w'.heap.size) → Dm F T nv2 x := fun x hx => ⟨hx.1.1, hx.1.2.1, fun hf => by
    rcases hb x hf with hf | hf
    · exact hx.1.2.2 hf
    · have := hx.2; omega⟩
  have e : N = N ++ [] := by simp
  refine ⟨h.dag.keep q (fun x hx hf => (h.nb x hf).1 hx), h.v8, ?_, ho.mono (fun x _ h => ⟨h.1.1, h.1.2.1, h.2⟩), fun x hx => ?_, ⟨nl, h1.keep q (fun hf => (h.nb T hf).2.1 rfl), ?_⟩, h.oka, h.okn.app hk, h.ha, ?_, by rw [List.length_append]; exact hle, h.la, (List.getElem?_eq_some_iff.1 hx).1, h.low, h.nT, h.lT⟩
  · exact ((h.oa.mono (D' := fun x => Dm F T nv x ∧ x < w'.heap.size) (fun x hx h => ⟨h, hx⟩)).keep q (fun x _ h => h.1.2.2)).mono (fun x _ h => hup x h)
  · rcases hb x hx with hf | hf
    · exact h.nb x hf
    · exact ⟨fun hF => by have := h.dag.lt hF; omega, by omega, by omega⟩
  · exact ((h2.mono (D' := fun x => Dm F T nv x ∧ x < w'.heap.size) (fun x hx h => ⟨h, hx⟩)).keep q (fun x _ h => h.1.2.2)).mono (fun x _ h => hup x h)
  · have hG' : GoodN (N ++ []) := by rw [← e]; exact hG
    have := Hd_up (M := []) hG' (env := env) (l := l) hx h.oka h.okn h.hn (by rw [← e]; exact hl)
    rw [← e] at this
    exact this
end
end Go.Proofs.YtanjlgafjgoaaaaGreat
namespace Go.Proofs.YtanjlgafjgoaaaaGreat
open Go.Mw
set_option linter.unusedVariables false
set_option linter.unusedSimpArgs false
set_option maxRecDepth 100000
attribute [local irreducible] M.val M.unit M.next M.pick M.new M.nilCheck M.load1 M.loadA M.store M.fieldAddr M.indexSl M.indexArr M.slice M.makeSlice M.buildSlice M.len M.lenS M.cap M.append M.extract M.conv M.not M.neg M.bin M.shift M.eqB M.eqNil M.scat M.call M.callv M.gd M.share M.cond M.loop M.draw pureW readW Ret
theorem fill19v (a0 a1 a2 a3 a4 a5 a6 a7 a8 a9 b0 b1 b2 b3 b4 b5 b6 b7 b8 : Value) : Instr.fill (fun i => some (i * 19, 19)) (mkCells #[.int .i64 0, .int .i64 0, .int .i64 0, .int .i64 0, .int .i64 0, .int .i64 0, .int .i64 0, .int .i64 0, .slice none 0 0, .int .i64 0, .int .i64 0, .int .i64 0, .int .i64 0, .int .i64 0, .int .i64 0, .slice none 0 0, .slice none 0 0, .int .i64 0, .slice none 0 0] (1 * 19)) [(0, .agg ⟨[a0, a1, a2, a3, a4, a5, a6, a7, a8, a9, b0, b1, b2, b3, b4, b5, b6, b7, b8]⟩)] = some ⟨[a0, a1, a2, a3, a4, a5, a6, a7, a8, a9, b0, b1, b2, b3, b4, b5, b6, b7, b8]⟩ := by kernel_rfl
theorem fill19 {L : List Value} (h : L.length = 19) : Instr.fill (fun i => some (i * 19, 19)) (mkCells #[.int .i64 0, .int .i64 0, .int .i64 0, .int .i64 0, .int .i64 0, .int .i64 0, .int .i64 0, .int .i64 0, .slice none 0 0, .int .i64 0, .int .i64 0, .int .i64 0, .int .i64 0, .int .i64 0, .int .i64 0, .slice none 0 0, .slice none 0 0, .int .i64 0, .slice none 0 0] (1 * 19)) [(0, .agg ⟨L⟩)] = some ⟨L⟩ := by
  match L, h with
  | [a0, a1, a2, a3, a4, a5, a6, a7, a8, a9, b0, b1, b2, b3, b4, b5, b6, b7, b8], _ => exact fill19v _ _ _ _ _ _ _ _ _ _ _ _ _ _ _ _ _ _ _
theorem StO.len18 {w : World} {D : Nat → Prop} {L : List Value} {s : St} (h : StO w D (.agg ⟨L⟩) s) : L.length = 18 := by
  obtain ⟨h8, c, a, b, e, _⟩ := h
  simp only [Value.agg.injEq, Array.mk.injEq] at e
  rw [e]; exact sv_len h8
section
variable {w0 T p : Nat} {w' : World} {F : Nat → Prop} {N : List Nd} {env : List W64} {f : St → St} {av nv : Value} {all nxt : List Sy} {t : St} {i k : Nat}
theorem InvB.some (h : InvB w0 T w' F p N env f av nv all nxt t i k) : ∃ o, o ∈ all ∧ stOf N env o = t := by
  have hH := h.ha
  unfold Hd at hH
  match hf : all.filter (stHolds N env), hH with
  | [o], hH =>
    have hm : o ∈ all.filter (stHolds N env) := by rw [hf]; simp
    exact ⟨o, (List.mem_filter.1 hm).1, by simpa using hH⟩
theorem InvB.nmc (h : InvB w0 T w' F p N env f av nv all nxt t i k) (hi : i ≤ 1000) : NmC t := by
  obtain ⟨o, h1, rfl⟩ := h.some
  exact Bd.nmc (h.oka o h1).2.1 hi
theorem InvB.fewT (h : InvB w0 T w' F p N env f av nv all nxt t i k) (hi : i ≤ 1000) : t.few := by
  obtain ⟨o, h1, rfl⟩ := h.some
  have := Bd.few (h.oka o h1).2.1 hi (h.oka o h1).2.2
  exact ⟨by simpa [stOf] using this.1, by simpa [stOf, devOf] using this.2.1.1, by simpa [stOf, devOf] using this.2.1.2⟩
theorem InvB.turn {w2 : World} {nl : List Value} (h : InvB w0 T w' F p N env f av nv all nxt t i all.length) (q : Keep w' w2 (· = T)) (b : Blk w2 T nl) (st : StO w2 (Dm F T (.slice none 0 0)) (.agg ⟨nl⟩) (f t)) :
    InvB w0 T w2 F p N env f nv (.slice none 0 0) nxt [] (f t) (i + 1) 0 := by
  have hno : ∀ x, ¬ blkOf (.slice none 0 0) x := fun x ⟨n, c', e⟩ => by simp at e
  have h1 := h.ln
  have h2 := h.la
  refine ⟨h.dag.keep q (fun x hx e => h.nT (by have e : x = T := e; rw [← e]; exact hx)), h.v8, ?_, OutO.nil _ _, fun x hx => (hno x hx).elim, ⟨nl, b, st⟩, h.okn, fun o ho => by simp at ho, ?_, rfl, by simp, by omega, by omega, h.low, h.nT, h.lT⟩
  · exact (h.on.s (D' := Dm F T (.slice none 0 0)) (fun x hx => ⟨(h.nb x hx).1, (h.nb x hx).2.1, hno x⟩) (fun x _ hx => ⟨hx.1, hx.2.1, hno x⟩)).keep q (fun x _ hx e => hx.2.1 e)
  · rw [h.hn, List.take_length, h.ha]; rfl
end
set_option maxHeartbeats 16000000 in
theorem sstepAll_ret {w : World} {v ev : Value} {code : List Ins} {blocks env : List W64} {n inputs mw : Int} {deep : Nat} (hst : deep < 256) (h : PlO w v code blocks n inputs mw) (hv : LV vw w (· < w.heap.size) ev env) :
    Ret Tryz.prog 4 #[v, ev, .int .u8 (deep : Int)] w (fun r w' => r = .bool true ∧ Keep w w' No) := by
  obtain ⟨A, cA, B, cB, rfl, hrA, hcA, hrB, hcB⟩ := id h
  obtain ⟨E, cE, rfl, hrE, hcE⟩ := id hv
  refine ok4 _ _ _ _ _ ?_
  unfold sh4
  refine M.new_i (l := [.slice A code.length cA, .slice B blocks.length cB, vi n, vi inputs, vi mw]) (fun w1 b1 k1 s1 => ?_)
  refine M.loadAll_i b1 rfl ?_
  have h1 : PlO w1 (.agg ⟨[.slice A code.length cA, .slice B blocks.length cB, vi n, vi inputs, vi mw]⟩) code blocks n inputs mw := by
    have q1 := k1.size
    exact ⟨A, cA, B, cB, rfl, (hrA.keep k1 (fun _ _ _ h => h)).mono (fun x _ h => by omega), hcA, (hrB.keep k1 (fun _ _ _ h => h)).mono (fun x _ h => by omega), hcB⟩
  refine M.call_i (few37_ret h1) ?_
  rintro _ w2 ⟨z, rfl, hz, k2⟩
  have b2 := b1.keep k2 (fun h => h)
  have k02 := k1.trans k2 (fun _ _ h => h)
  rcases hz with rfl | ⟨rfl, g1, g2, g3, g4, g5⟩
  · (repeat (first|refine ji ?_|refine jk ?_|refine jo ?_|refine jG ?_))
    refine M.call_i (awake37_ret w2) ?_; rintro _ w3 ⟨rfl, k3⟩
    exact ⟨rfl, k02.trans k3 (fun _ _ h => h)⟩
  by_cases hel : 300 < env.length
  · (repeat (first|refine ja ?_|refine jg ?_|refine jl ?_|refine jo ?_|refine jC ?_|refine jH ?_))
    refine M.call_i (awake37_ret w2) ?_; rintro _ w3 ⟨rfl, k3⟩
    exact ⟨rfl, k02.trans k3 (fun _ _ h => h)⟩
  (repeat (first|refine ja ?_|refine jg ?_|refine jl ?_|refine jp ?_|refine jD ?_|refine jH ?_))
  refine M.call_i (new_ret 30000 w2) ?_; rintro _ w3 ⟨F3, p, rfl, hd3, hF3, k3⟩
  rw [if_neg (by omega)] at hd3
  have q02 := k02.size
  have k03 := k02.trans k3 (fun _ _ h => h)
  have hb2 := b2.lt
  have b3 := b2.keep k3 (fun h => h)
  have hlow3 : ∀ x, x < w2.heap.size → ¬ F3 x := fun x hx hf => by have := hF3 x hf; omega
  (repeat (first|refine jc ?_|refine jp ?_|refine jt ?_|refine jN (by assumption) rfl ?_))
  have hB3 : LV vw w3 (fun x => ¬ F3 x) (.slice B blocks.length cB) blocks := ⟨B, cB, rfl, (hrB.keep k03 (fun _ _ _ h => h)).mono (fun x _ hx => hlow3 x (by omega)), hcB⟩
  refine M.call_i (device_ret hd3 hB3 (by omega) (fun _ h => h)) ?_; rintro _ w5 ⟨F5, a5, rfl, hd5, hF5, k5, l5⟩
  obtain ⟨sf1, sf2, sf3, sf4⟩ := start_facts (most := 30000) (xs := blocks) (m := cellsOk n) (by unfold cellsOk; split <;> omega) g2 (by decide)
  generalize devN 30000 [] blocks [] = dv at hd5 l5 sf1 sf2 sf3 sf4 ⊢
  refine M.extract_i (v := .agg ⟨[a5, .slice none 0 0, vi 0]⟩) rfl ?_
  refine M.extract_i (v := vi dv.2.2) rfl ?_
  have q3 := k3.size
  have q5 := k5.size
  have hlow5 : ∀ x, x < w2.heap.size → ¬ F5 x := fun x hx hf => hlow3 x hx (hF5 x (by omega) hf)
  have k05 : Keep w w5 No := k03.trans k5 (fun x hx hf => hlow3 x (by omega) hf)
  have b5 := b3.keep k5 (hlow3 _ hb2)
  refine M.new_i (l := [.slice none 0 0, .slice none 0 0, vi 0]) (fun w6 d6 k6 s6 => ?_)
  refine M.storeAll_i (vs := [a5, .slice none 0 0, vi 0]) d6 rfl rfl (by
    simp only [List.mem_cons, List.not_mem_nil, or_false, forall_eq_or_imp, forall_eq]
    exact ⟨LV.one l5, rfl, rfl⟩) (fun w7 d7 k7 s7 => ?_)
  have k57 : Keep w5 w7 No := k6.trans k7 (fun x hx e => by have e : x = w5.heap.size := e; omega)
  have b7 := b5.keep k57 (fun h => h)
  have k07 := k05.trans k57 (fun _ _ h => h)
  have hd7 := hd5.keepN k57
  have l7 : LV vi w7 (fun x => ¬ F5 x) a5 dv.2.1 := (l5.keep k57 (fun _ _ _ h => h)).mono (fun x _ h => h.2)
  refine M.loadAll_i d7 rfl ?_
  (repeat (first|refine jc ?_|refine jN (by assumption) rfl ?_))
  have hv7 : SDvO w7 (fun x => ¬ F5 x) a5 (.slice none 0 0) ⟨dv.2.1, [], 0⟩ := ⟨l7, LN.nil _ _ _⟩
  refine M.call_i (sstart_ret (d := ⟨dv.2.1, [], 0⟩) hd7 hv7 (LV.nil vi w7 (fun x => ¬ F5 x)) (fun _ h => h) n sf1) ?_; rintro _ w8 ⟨F8, v8, rfl, hd8, hF8, k8, hs8⟩
  generalize constN 30000 dv.1 64 0 = cz at hd8 hs8 sf1 sf2 sf3 sf4 ⊢
  refine M.extract_i (v := v8) rfl ?_
  refine M.extract_i (v := vi 0) rfl ?_
  have q7 := k57.size
  have q8 := k8.size
  have hlow8 : ∀ x, x < w2.heap.size → ¬ F8 x := fun x hx hf => hlow5 x hx (hF8 x (by omega) hf)
  have k08 : Keep w w8 No := k07.trans k8 (fun x hx hf => hlow5 x (by omega) hf)
  have b8 := b7.keep k8 (hlow5 _ hb2)
  have hs8 := hs8.mono (D' := fun x => ¬ F8 x ∧ x < w8.heap.size) (fun x hx hf => ⟨hf.2, hx⟩)
  generalize hs0 : (⟨List.replicate 8 cz.2.1, List.replicate (cellsOk n) cz.2.1, 0, 0, 0, 0, 0, -1, ⟨dv.2.1, [], 0⟩, []⟩ : Sy) = s0 at hs8 sf3 sf4
  obtain ⟨h8, c, a, b, d, rfl, lc, ldv, lcd⟩ := id hs8
  have hen0 : s0.en = 0 := by subst hs0; rfl
  have hcn0 : s0.conds = [] := by subst hs0; rfl
  have hl19 := vals_len (s := s0) (c := c) (a := a) (b := b) (d := d) h8
  refine M.new_i (l := zSy) (fun w9 t9 k9 s9 => ?_)
  refine M.storeAll_i t9 hl19 rfl (vals_one (LV.one lc) (LV.one ldv.1) (LN.one ldv.2) (LV.one lcd)) (fun w10 t10 k10 s10 => ?_)
  have k810 : Keep w8 w10 No := k9.trans k10 (fun x hx e => by have e : x = w8.heap.size := e; omega)
  have k010 := k08.trans k810 (fun _ _ h => h)
  have b10 := b8.keep k810 (fun h => h)
  have hd10 := hd8.keepN k810
  refine M.neq_f rfl ?_
  refine M.cond_f ?_
  refine M.loadAll_i t10 hl19 ?_
  refine M.buildSlice_i (s0.vals c a b d) (fill19 hl19) (fun wa ba ka sa => ?_)
  have ta := t10.keep ka (fun h => h)
  have k8a := k810.trans ka (fun _ _ h => h)
  have k0a := k010.trans ka (fun _ _ h => h)
  have bA := b10.keep ka (fun h => h)
  have hda := hd10.keepN ka
  have q10 := k810.size
  have qa := ka.size
  refine M.loadAll_i ta hl19 ?_
  have hEa : LV vw wa (· < w.heap.size) (.slice E env.length cE) env := hv.keep k0a (fun _ _ _ h => h)
  have hfew0 := Bd.few sf4 (by omega) (by rw [hcn0]; exact Nat.le_refl _)
  refine M.call_i (of_ret hda hEa (by omega) (hs8.keep k8a (fun _ _ _ h => h)) hfew0) ?_; rintro _ w11 ⟨v11, rfl, st11, k11⟩
  rw [sf3.bad] at st11 ⊢
  simp only [Bool.false_eq_true, if_false] at st11 ⊢
  refine M.extract_i rfl ?_
  refine M.extract_i rfl ?_
  refine M.extract_i rfl ?_
  obtain ⟨sh8, sc, sa, sb, rfl, slc, sld⟩ := id st11
  refine M.new_i (l := zSt) (fun w12 t12 k12 s12 => ?_)
  refine M.storeAll_i t12 (sv_len sh8) rfl (sv_one (LV.one slc) (LV.one sld.1) (LN.one sld.2)) (fun w13 u13 k13 s13 => ?_)
  have k1113 : Keep w11 w13 No := k12.trans k13 (fun x hx e => by have e : x = w11.heap.size := e; omega)
  have ka13 := k11.trans k1113 (fun _ _ h => h)
  have k013 := k0a.trans ka13 (fun _ _ h => h)
  have b13 := bA.keep ka13 (fun h => h)
  have hE13 : LV vw w13 (· < w.heap.size) (.slice E env.length cE) env := hv.keep k013 (fun _ _ _ h => h)
  have q11 := k11.size
  have q13 := k1113.size
  have nF : ∀ x, w8.heap.size ≤ x → ¬ F8 x := fun x hx hf => by have := hd8.lt hf; omega
  have hd13 := hda.keepN ka13
  have hno : ∀ x, ¬ blkOf (.slice none 0 0) x := fun x ⟨n, c', e⟩ => by simp at e
  have hD0 : ∀ x, ¬ F8 x → x < w11.heap.size → Dm F8 w11.heap.size (.slice none 0 0) x := fun x hf hx => ⟨hf, by omega, hno x⟩
  have hsa := (hs8.keep k8a (fun _ _ _ h => h)).mono (D' := fun x => ¬ F8 x ∧ x < w11.heap.size) (fun x _ h => ⟨h.1, by have := h.2; omega⟩)
  have hOA : OutS wa (fun x => ¬ F8 x ∧ x < w11.heap.size) (.slice (some ⟨w10.heap.size, 0, none⟩) 1 1) [s0] := OutS.single ba ⟨nF _ (by omega), by have := ba.lt; omega⟩ hsa
  have hf : ∀ o ∈ [s0], WfS cz.1 o ∧ Bd 0 o ∧ o.conds.length ≤ 0 := fun o ho => by
    rw [List.mem_singleton.1 ho]
    exact ⟨sf3, sf4, by rw [hcn0]; exact Nat.le_refl _⟩
  have I0 : InvB w2.heap.size w11.heap.size w13 F8 p cz.1 env (stepC code (bytesC inputs env) mw) (.slice (some ⟨w10.heap.size, 0, none⟩) 1 1) (.slice none 0 0) [s0] [] (stOf cz.1 env s0) 0 0 := by
    refine ⟨hd13, sf2, (hOA.keep ka13 (fun _ _ _ h => h)).mono (fun x _ h => hD0 x h.1 h.2), OutO.nil _ _, fun x hx => (hno x hx).elim, ⟨_, u13, ?_⟩, hf, fun o ho => by simp at ho, ?_, rfl, by simp, by simp, by simp, hlow8, nF _ (by omega), by omega⟩
    · have h1 := (slc.mono (D' := fun x => wa.heap.size ≤ x ∧ x < w11.heap.size) (fun x hx h => ⟨h, hx⟩)).keep k1113 (fun _ _ _ h => h)
      have h2 := (sld.mono (D' := fun x => wa.heap.size ≤ x ∧ x < w11.heap.size) (fun x hx h => ⟨h, hx⟩)).keep k1113 (fun _ _ _ h => h)
      exact StO.of_vals sh8 (h1.mono (fun x _ h => hD0 x (nF x (by omega)) h.2)) (h2.mono (fun x _ h => hD0 x (nF x (by omega)) h.2))
    · have : stHolds cz.1 env s0 = true := by unfold stHolds; rw [hcn0]; rfl
      rw [Hd_one, this]; rfl
  generalize hf0 : stepC code (bytesC inputs env) mw = f at I0
  generalize hT : w11.heap.size = T at I0
  have hTw : w2.heap.size ≤ T := by omega
  have hm6 : deep % 6 < 6 := Nat.mod_lt _ (by decide)
  refine M.loop_i (σ := Nat) (fun i vals w' => ∃ F N av all t, vals = [av, vi i] ∧ i ≤ deep % 6 ∧ InvB w2.heap.size T w' F p N env f av (.slice none 0 0) all [] t i 0 ∧ Blk w' w.heap.size [.slice A code.length cA, .slice B blocks.length cB, vi n, vi inputs, vi mw] ∧ Keep w w' No ∧ w2.heap.size ≤ w'.heap.size) (fun i => 6 - i) 0 ⟨F8, cz.1, _, [s0], _, rfl, by omega, I0, b13, k013, by omega⟩ ?_
  clear hd13 hOA hf I0 hsa hs8 hd8 hda hd10 sf1 sf2 sf3 sf4 hfew0 st11 hv7 l7 l5 hd7 hd5 hB3 hd3 t10 t12 u13 b13 bA b10 b8 b7 b5 d7 d6 t9 lc ldv lcd slc sld ba ta hEa hE13 nF hD0
  rintro i vals w15 K ⟨F, N, av, all, t, rfl, hi, I, b15, k015, q15⟩ hK _
  simp only [List.getD_cons_zero, List.getD_cons_succ]
  refine M.int8_i (by omega) (by omega) ?_
  refine rem_i (n := deep) (m := 6) (by decide) (by omega) (by decide) ?_
  obtain ⟨Aa, ca, csa, rfl, _, _⟩ := id I.oa
  have hla := I.la
  by_cases hlt : i < deep % 6
  rotate_left
  · refine M.lss_f (by omega) ?_
    refine M.cond_f ?_
    have hE15 : LV vw w15 (· < w.heap.size) (.slice E env.length cE) env := hv.keep k015 (fun _ _ _ h => h)
    have hfewO : ∀ o ∈ all, o.few := fun o h => Bd.few (I.oka o h).2.1 (by omega) (I.oka o h).2.2
    refine M.call_i (one37_ret I.dag hE15 (by omega) I.oa (fun o h => ⟨(I.oka o h).1, hfewO o h⟩) (by omega) I.ha) ?_; rintro _ w17 ⟨j, o, rfl, hoj, hoh, hot, k17⟩
    have hom : o ∈ all := by rw [List.mem_iff_getElem?]; exact ⟨j, hoj⟩
    have I17 := I.keepN k17
    have hfT := I.fewT (by omega)
    subst hot
    refine M.lss_f (by omega) ?_
    refine M.cond_f ?_
    refine M.idxOut_i I17.oa (by omega) (by rw [Int.toNat_natCast]; exact hoj) (fun bb oo L hcc hL => ?_)
    refine M.load19_i hL.len19 hcc ?_
    refine M.call_i (of_ret I17.dag (hE15.keep k17 (fun _ _ _ h => h)) (by omega) hL (hfewO o hom)) ?_; rintro _ w21 ⟨v21, rfl, st21, k21⟩
    rw [(I.oka o hom).1.bad] at st21 ⊢
    simp only [Bool.false_eq_true, if_false] at st21 ⊢
    refine M.extract_i rfl ?_
    refine M.extract_i rfl ?_
    refine M.extract_i rfl ?_
    obtain ⟨th8, ac, aa, ab, rfl, alc, ald⟩ := id st21
    refine M.new_i (l := zSt) (fun w22 a22 k22 s22 => ?_)
    refine M.storeAll_i a22 (sv_len th8) rfl (sv_one (LV.one alc) (LV.one ald.1) (LN.one ald.2)) (fun w23 a23 k23 s23 => ?_)
    have k2123 : Keep w21 w23 No := k22.trans k23 (fun x hx e => by have e : x = w21.heap.size := e; omega)
    have kk := k21.trans k2123 (fun _ _ h => h)
    obtain ⟨nl, hnb, hns⟩ := I17.nw
    refine M.loadAll_i a23 (sv_len th8) ?_
    refine M.loadAll_i (hnb.keep kk (fun h => h)) hns.len18 ?_
    have hsa2 : StO w23 (w17.heap.size ≤ ·) (.agg ⟨(stOf N env o).vals ac aa ab⟩) (stOf N env o) := st21.keep k2123 (fun _ _ _ h => h)
    refine M.call_i (same33_ret hsa2 (hns.keep kk (fun _ _ _ h => h)) hfT) ?_; rintro _ w24 ⟨rfl, k24⟩
    (repeat (refine jf ?_))
    refine M.call_i (awake37_ret w24) ?_; rintro _ w25 ⟨rfl, k25⟩
    (repeat (refine jk ?_))
    exact ⟨rfl, (((k015.trans k17 (fun _ _ h => h)).trans kk (fun _ _ h => h)).trans k24 (fun _ _ h => h)).trans k25 (fun _ _ h => h)⟩
  refine M.lss_t (by omega) ?_
  refine M.cond_t ?_
  refine M.loop_i (σ := Nat) (fun k vals w' => ∃ F N nv nxt, vals = [nv, vi k] ∧ InvB w2.heap.size T w' F p N env f (.slice Aa all.length ca) nv all nxt t i k ∧ Blk w' w.heap.size [.slice A code.length cA, .slice B blocks.length cB, vi n, vi inputs, vi mw] ∧ Keep w w' No ∧ w2.heap.size ≤ w'.heap.size) (fun k => all.length - k) 0 ⟨F, N, _, [], rfl, I, b15, k015, q15⟩ ?_
  clear I b15 k015 q15
  rintro k vals w16 K2 ⟨F, N, nv, nxt, rfl, I, b16, k016, q16⟩ hK2 _
  simp only [List.getD_cons_zero, List.getD_cons_succ]
  obtain ⟨csn, gn, _, _⟩ := id I.on
  obtain ⟨An, cn, rfl, _, _⟩ := GC.row2 gn (by omega)
  have hln := I.ln
  have hkl := I.kl
  have hT16 : T < w16.heap.size := by obtain ⟨nl, h1, _⟩ := I.nw; exact h1.lt
  refine M.len_i ?_
  by_cases hlk : k < all.length
  rotate_left
  · obtain rfl : k = all.length := by omega
    refine M.lss_f (by omega) ?_
    refine M.cond_f ?_
    refine M.draw_i ?_
    have kd := Keep.drew w16 No
    have Id := I.keepN kd
    have bdr := b16.keep kd (fun h => h)
    have k0d := k016.trans kd (fun _ _ h => h)
    have qd := kd.size
    obtain ⟨nl, hnb, hns⟩ := Id.nw
    have hEd : LV vw w16.drew (· < w.heap.size) (.slice E env.length cE) env := hv.keep k0d (fun _ _ _ h => h)
    refine M.field_i ?_
    refine M.loadB_i bdr rfl ?_
    refine M.loadAll_i hnb hns.len18 ?_
    refine M.field_i ?_
    refine M.loadB_i bdr rfl ?_
    refine M.field_i ?_
    refine M.loadB_i bdr rfl ?_
    refine M.call_i (binput37_ret hEd (by omega) (n := inputs) (by omega)) ?_; rintro iv w17 ⟨hiv, k17⟩
    have b17 := bdr.keep k17 (fun h => h)
    have n17 := hnb.keep k17 (fun h => h)
    have s17 := hns.keep k17 (fun _ _ _ h => h)
    have k017 := k0d.trans k17 (fun _ _ h => h)
    have q17 := k17.size
    refine ⟨M.loadB_i b17 rfl rfl, M.loadAll_i n17 hns.len18 rfl, M.loadB_i b17 rfl rfl, ?_⟩
    have hcode17 : LN Ins.cells w17 (· < w.heap.size) (.slice A code.length cA) code := ⟨A, cA, rfl, hrA.keep k017 (fun _ _ _ h => h), hcA⟩
    have hbl : (bytesC inputs env).length ≤ 1000000 := by simp [bytesC]; omega
    refine M.call_i (rstep_ret (bs := bytesC inputs env) (mw := mw) hcode17 (by omega) s17 hiv hbl (I.nmc (by omega))) ?_; rintro r19 w19 ⟨hst19, k19⟩
    rw [hf0] at hst19
    have q19 := k19.size
    have I19 := (Id.keepN k17).keepN k19
    have hst19 := hst19.mono (D' := Dm F T (.slice none 0 0)) (fun x _ h => by
      rcases h with h | h
      · exact ⟨h.1, h.2.1, hno x⟩
      · exact ⟨fun hf => by have := I.dag.lt hf; omega, by omega, hno x⟩)
    obtain ⟨th8, tc, ta, tb, rfl, tlc, tld⟩ := id hst19
    refine M.storeAll_i (n17.keep k19 (fun h => h)) (sv_len th8) hns.len18 (sv_one (LV.one tlc) (LV.one tld.1) (LN.one tld.2)) (fun w20 u20 k20 s20 => ?_)
    refine M.add_i (by omega) (by omega) ?_
    exact hK (i + 1) _ _ (by omega) ⟨F, N, _, nxt, f t, rfl, by omega, I19.turn k20 u20 (StO.of_vals th8 (tlc.keep k20 (fun x _ h e => h.2.1 e)) (tld.keep k20 (fun x _ h e => h.2.1 e))), (b17.keep k19 (fun h => h)).keep k20 (fun e => by have e : w.heap.size = T := e; omega), (k017.trans k19 (fun _ _ h => h)).trans k20 (fun x hx e => by have e : x = T := e; omega), by omega⟩
  refine M.lss_t (by omega) ?_
  refine M.cond_t ?_
  have hx : all[k]? = some all[k] := List.getElem?_eq_getElem hlk
  generalize all[k] = s at hx
  have hsm : s ∈ all := by rw [List.mem_iff_getElem?]; exact ⟨k, hx⟩
  obtain ⟨hwf, hbd, hcn⟩ := I.oka s hsm
  have hnew : Dm F T (.slice An nxt.length cn) w16.heap.size := ⟨fun hf => by have := I.dag.lt hf; omega, by omega, fun hb => by have := I.on.lt hb; omega⟩
  refine M.share_j (fun vals w' => ∃ F2 N2 nv2 nxt2, vals = [nv2] ∧ InvB w2.heap.size T w' F2 p N2 env f (.slice Aa all.length ca) nv2 all nxt2 t i (k + 1) ∧ Blk w' w.heap.size [.slice A code.length cA, .slice B blocks.length cB, vi n, vi inputs, vi mw] ∧ Keep w w' No ∧ w2.heap.size ≤ w'.heap.size) ?_ ?_
  · rintro vals w' ⟨F2, N2, nv2, nxt2, rfl, I2, b2, k2, q2⟩ _
    simp only [List.getD_cons_zero, List.getD_cons_succ]
    refine M.add_i (by omega) (by omega) ?_
    exact hK2 (k + 1) _ _ (by omega) ⟨F2, N2, nv2, nxt2, rfl, I2, b2, k2, q2⟩
  intro K3 hK3
  refine M.idxOut_i I.oa (by omega) (by rw [Int.toNat_natCast]; exact hx) (fun bb oo L hcc hL => ?_)
  obtain ⟨s8, c1, a1, b1, d1, rfl, _⟩ := SyO.l3 hL
  refine M.field_i ?_
  refine M.load_i (hcc 12 _ (yv_at s8 4)) ?_
  by_cases hen : s.en = 0
  rotate_left
  · refine M.neq_t hen ?_
    refine M.cond_t ?_
    refine M.idxOut_i I.oa (by omega) (by rw [Int.toNat_natCast]; exact hx) (fun bb2 oo2 L2 hcc2 hL2 => ?_)
    refine M.load19_i hL2.len19 hcc2 ?_
    refine M.buildSlice_i L2 (fill19 hL2.len19) (fun w3 b3 k3 s3 => ?_)
    have I3 := I.keepN k3
    refine M.appendGr_i I3.on (fun x h => h.2.2) (OutS.single b3 hnew (hL2.keep k3 (fun _ _ _ h => h))) (fun x _ h => h) rfl (by simp; omega) (fun v4 w4 o4 k4 n4 => ?_)
    have q3 := k3.size
    have q4 := k4.size
    refine hK3 _ _ ⟨F, N, v4, nxt ++ [s], rfl, I3.app hx o4 k4 n4 ?_ ?_ (by simp; omega) (by omega), (b16.keep k3 (fun h => h)).keep k4 (fun hb => by have := (I.nb _ hb).2.2; omega), (k016.trans k3 (fun _ _ h => h)).trans k4 (fun x hx' hb => by have := (I.nb _ hb).2.2; omega), by omega⟩
    · have e : f (stOf N env s) = stOf N env s := by
        rw [← hf0]; unfold stepC; exact if_pos hen
      rw [Hd_one, e]
    · intro o ho
      rw [List.mem_singleton.1 ho]
      exact ⟨hwf, hbd.up (by omega), by omega⟩
  refine M.neq_f hen ?_
  refine M.cond_f ?_
  refine M.draw_i ?_
  have kd := Keep.drew w16 No
  have Id := I.keepN kd
  have bdr := b16.keep kd (fun h => h)
  have k0d := k016.trans kd (fun _ _ h => h)
  have qd := kd.size
  refine M.field_i ?_
  refine M.loadB_i bdr rfl ?_
  refine M.idxOut_i Id.oa (by omega) (by rw [Int.toNat_natCast]; exact hx) (fun bb2 oo2 L2 hcc2 hL2 => ?_)
  refine M.load19_i hL2.len19 hcc2 ?_
  refine M.field_i ?_
  refine M.loadB_i bdr rfl ?_
  refine M.field_i ?_
  refine M.loadB_i bdr rfl ?_
  have hcode : LN Ins.cells w16.drew (· < w.heap.size) (.slice A code.length cA) code := ⟨A, cA, rfl, hrA.keep k0d (fun _ _ _ h => h), hcA⟩
  obtain ⟨hB, hS⟩ := Bd.bnd hbd (by omega) hcn
  have acc := step_means (most := 30000) (env := env) (k := i) (inputs := inputs) (mw := mw) (code := code) I.dag.good I.v8 hwf hen hbd g1
  have hlen := stepN_len (most := 30000) (N := N) (code := code) (s := s) (inputs := inputs) (mw := mw) hbd.1 hbd.2.1
  refine M.call_i (Step37_z (Z := fun x => x ≠ T ∧ ¬ blkOf (.slice An nxt.length cn) x) Id.dag hcode (by omega) hL2 (fun x h => h.1) hB hS (by omega) (fun x h => h.2) (fun x h => ⟨by omega, fun hb => by have := Id.on.lt hb; omega⟩)) ?_; rintro _ w17 ⟨F17, v17, rfl, hd17, hF17, k17, hO17⟩
  generalize stepN 30000 N code s inputs mw = R at hd17 hO17 acc hlen ⊢
  have q17 := k17.size
  have k017 : Keep w w17 No := k0d.trans k17 (fun x hx h => I.low x (by omega) h)
  have b17 := bdr.keep k17 (I.low _ (by omega))
  refine M.extract_i (v := v17) rfl ?_
  refine M.extract_i (v := vi R.2.1) rfl ?_
  by_cases he : R.2.1 = 0
  rotate_left
  · have he8 : R.2.1 = 8 := acc.err.resolve_left he
    refine M.neq_t he ?_
    (repeat (first|refine jf ?_|refine jg ?_|refine ji ?_|refine jk ?_|refine jl ?_|refine jo ?_|refine jG ?_|refine jH ?_))
    refine M.call_i (awake37_ret w17) ?_; rintro _ w18 ⟨rfl, k18⟩
    (repeat (refine jk ?_))
    exact ⟨rfl, k017.trans k18 (fun _ _ h => h)⟩
  refine M.neq_f he ?_
  by_cases hgt : 300 < nxt.length
  · (repeat (first|refine ja ?_|refine jf ?_|refine jg ?_|refine ji ?_|refine jk ?_|refine jl ?_|refine jo ?_|refine jC ?_|refine jG ?_))
    refine M.call_i (awake37_ret w17) ?_; rintro _ w18 ⟨rfl, k18⟩
    (repeat (refine jk ?_))
    exact ⟨rfl, k017.trans k18 (fun _ _ h => h)⟩
  (repeat (first|refine ja ?_|refine jg ?_|refine jl ?_|refine jp ?_|refine jD ?_))
  obtain ⟨_, M1, hM1, hG17, hv8, hout, hH⟩ := acc.ok he
  have I17 := Id.grow k17 hF17 hd17 hM1 hv8 (by omega)
  refine M.appendGr_i I17.on (fun x h => h.2.2) hO17 (fun x _ h => h) rfl (by omega) (fun v4 w4 o4 k4 n4 => ?_)
  have q4 := k4.size
  have e1 : stHolds R.1 env s = stHolds N env s := by rw [hM1] at hG17 ⊢; exact hwf.holds_ext hG17 env
  have e2 : stOf R.1 env s = stOf N env s := by rw [hM1] at hG17 ⊢; exact hwf.stOf_ext hG17 env
  refine hK3 _ _ ⟨F17, R.1, v4, nxt ++ R.2.2, rfl, I17.app hx o4 k4 n4 (by rw [hH, e1, e2, hf0]) (fun o ho => ⟨(hout o ho).wf, (hout o ho).bd, by have := (hout o ho).cn; omega⟩) (by omega) (by omega), b17.keep k4 (fun hb => by have := (I.nb _ hb).2.2; omega), k017.trans k4 (fun x hx' hb => by have := (I.nb _ hb).2.2; omega), by omega⟩
end Go.Proofs.YtanjlgafjgoaaaaGreat
set_option linter.unusedVariables false
set_option linter.unusedSimpArgs false
namespace Go.Mw
open Go.RowKit Go.ChangeShapes Go.WideShapes Go.ChangeAt Go.Deep
theorem Keep.below {w w' : World} (h : Keep w w' No) : Below w.heap.size w w' :=
  ⟨h.os, h.tape, h.output, h.size, fun k hk => h.blk k hk (fun h => h)⟩
section
variable {H : Type} {enc : TypeId × Value → H} {P : Program} {w : World} {base : Nat} {spare : Nat → Bool} {held : Bool}
theorem dec_int {t : TypeId} {k : IntKind} {fuel : Nat} {cs : List Value} {x : DataW H × List MemPlace} (ht : P.underlying t = some (.int k)) (h : DataW.trod enc P w base spare held fuel t cs = some x) :
    ∃ n, cs = [.int k n] ∧ (Lit.int k n).wf = true := by
  obtain ⟨n, h1, _, h2⟩ := DataW.trod_int ht h
  exact ⟨n, h1, h2⟩
theorem wf_u64 {n : Int} (h : (Lit.int .u64 n).wf = true) : 0 ≤ n ∧ n < 18446744073709551616 := by
  simp [Lit.wf, IntKind.min, IntKind.max, IntKind.signed, IntKind.bits] at h
  omega
theorem arg_int {r : Reach} {b0 : Nat} {t : TypeId} {k : IntKind} {v : Value} {d : DataW H} {ps : List MemPlace} (ht : P.underlying t = some (.int k)) (hv : Value.okWide P w r b0 t v) (h : DataW.Trod enc P w base spare held t v d ps) :
    ∃ n, v = .int k n ∧ (Lit.int k n).wf = true := by
  obtain ⟨n, h1, _, _, h2⟩ := open_int ht hv h
  exact ⟨n, h1, h2⟩
theorem cells_row {a : Addr} {l : List Value} (h : ∀ i (hi : i < l.length), w.cell? (a.add i) = some l[i]) : Row w (· < w.heap.size) (some a) l := by
  rcases Nat.eq_zero_or_pos l.length with h0 | h0
  · exact .inl (List.length_eq_zero_iff.1 h0)
  have h1 := h 0 h0
  have ha : a.add 0 = a := rfl
  rw [ha] at h1
  obtain ⟨b, o, sp⟩ := a
  have hlt := World.block_lt_of_cell? w _ h1
  have hsp : sp = none := by
    cases sp with
    | none => rfl
    | some s =>
      simp only [World.cell?] at h1
      split at h1 <;> simp at h1
  subst hsp
  cases hb : w.heap[b]? with
  | none => simp [World.cell?, hb] at h1
  | some ob =>
    cases ob with
    | cells c T fz =>
      refine .inr ⟨b, o, c, T, fz, rfl, hlt, hb, fun i hi => ?_⟩
      have := h i hi
      rw [add_mk] at this
      simp only [World.cell?, hb] at this
      rw [List.getElem?_eq_getElem hi]
      simpa using this
    | _ => simp [World.cell?, hb] at h1
theorem cells_get {a : Addr} {n : Nat} {cs : List Value} (h : w.cells? base a n = some cs) : cs.length = n ∧ ∀ i (hi : i < cs.length), w.cell? (a.add i) = some cs[i] := by
  unfold World.cells? at h
  split at h
  · have hl := mapM_some_length h
    refine ⟨by simpa using hl, fun i hi => ?_⟩
    have hl' : cs.length = n := by simpa using hl
    have := mapM_some_get h i i (by rw [List.getElem?_range (by omega)])
    rw [this, List.getElem?_eq_getElem hi]
  · cases h
theorem add_add (a : Addr) (m n : Nat) (h : a.spot = none) : (a.add m).add n = a.add (m + n) := by
  obtain ⟨b, o, sp⟩ := a
  have h : sp = none := h
  subst h
  rw [add_mk, add_mk, add_mk, Nat.add_assoc]
theorem open_list {α : Type} {t e : TypeId} {fuel : Nat} {cs : List Value} {x : DataW H × List MemPlace} (ht : P.underlying t = some (.slice e)) {sz : Nat} (hsz : P.cellsOf e = sz) (hpos : 0 < sz)
    (h : DataW.trod enc P w base spare held fuel t cs = some x) (en : α → List Value) (Good : α → Prop)
    (dec : ∀ n cs y, DataW.trod enc P w base spare held n e cs = some y → cs.length = sz → ∃ z, cs = en z ∧ Good z) :
    ∃ A c, ∃ xs : List α, cs = [.slice A xs.length c] ∧ Row w (· < w.heap.size) A (xs.flatMap en) ∧ (∀ z ∈ xs, Good z ∧ (en z).length = sz) ∧ xs.length ≤ c ∧ c ≤ maxLen ∧ (xs.flatMap en).length = xs.length * sz := by
  rcases open_slice ht h with ⟨rfl, _⟩ | ⟨a, len, cap, m, n, D, Pl, rfl, hb, hl, hm, hmm, rfl, hx⟩
  · exact ⟨none, 0, [], rfl, .inl rfl, by simp, Nat.le_refl _, by unfold maxLen; omega, by simp⟩
  · have hlm : len ≤ m := by rw [hmm]; split <;> omega
    have hz : ∀ i, i < len → ∃ z, w.cells? base (a.add (i * sz)) sz = some (en z) ∧ Good z ∧ (en z).length = sz := fun i hi => by
      obtain ⟨cs', h1, h2⟩ := hx i (by omega)
      rw [hsz] at h1
      have hlen := (cells_get h1).1
      obtain ⟨z, rfl, hg⟩ := dec _ _ _ h2 hlen
      exact ⟨z, h1, hg, hlen⟩
    have : ∀ k, k ≤ len → ∃ xs : List α, xs.length = k ∧ ∀ i (hi : i < xs.length), w.cells? base (a.add (i * sz)) sz = some (en xs[i]) ∧ Good xs[i] ∧ (en xs[i]).length = sz := by
      intro k
      induction k with
      | zero => intro _; exact ⟨[], rfl, fun i hi => by simp at hi⟩
      | succ k ih =>
        intro hk
        obtain ⟨xs, h1, h2⟩ := ih (by omega)
        obtain ⟨z, h3, h4, h5⟩ := hz k (by omega)
        refine ⟨xs ++ [z], by simp [h1], fun i hi => ?_⟩
        by_cases hik : i < xs.length
        · rw [List.getElem_append_left hik]; exact h2 i hik
        · have : i = xs.length := by simp at hi; omega
          subst this
          rw [List.getElem_append_right (Nat.le_refl _)]
          simp only [Nat.sub_self, List.getElem_cons_zero]
          rw [h1]; exact ⟨h3, h4, h5⟩
    obtain ⟨xs, hxl, hxs⟩ := this len (Nat.le_refl _)
    have hflen : ∀ l : List α, (∀ z ∈ l, (en z).length = sz) → (l.flatMap en).length = l.length * sz := by
      intro l
      induction l with
      | nil => intro _; simp
      | cons z l ih =>
        intro hl
        simp only [List.flatMap_cons, List.length_append, List.length_cons, hl z List.mem_cons_self, ih (fun y hy => hl y (List.mem_cons_of_mem _ hy)), Nat.add_mul]
        omega
    have hall : ∀ z ∈ xs, Good z ∧ (en z).length = sz := fun z hz => by
      obtain ⟨i, hi⟩ := List.mem_iff_getElem.1 hz
      obtain ⟨hi, rfl⟩ := hi
      exact (hxs i hi).2
    subst hxl
    refine ⟨some a, cap, xs, rfl, ?_, hall, hl, hm, hflen xs fun z hz => (hall z hz).2⟩
    refine cells_row fun j hj => ?_
    -- the cell j is the cell j % sz of element j / sz
    have hfl := hflen xs fun z hz => (hall z hz).2
    have hj' : j < xs.length * sz := by omega
    have hd : j / sz < xs.length := Nat.div_lt_of_lt_mul (by rw [Nat.mul_comm]; exact hj')
    obtain ⟨c1, _, c3⟩ := hxs (j / sz) hd
    obtain ⟨_, c4⟩ := cells_get c1
    have hmod : j % sz < sz := Nat.mod_lt _ hpos
    have c5 := c4 (j % sz) (by omega)
    have hspot : a.spot = none := by
      cases hs : a.spot with
      | none => rfl
      | some s =>
        exfalso
        obtain ⟨c1, _, c3⟩ := hxs 0 (Nat.lt_of_le_of_lt (Nat.zero_le _) hd)
        have c4 := (cells_get c1).2 0 (by omega)
        simp only [Nat.zero_mul] at c4
        have ha : (a.add 0).add 0 = a := rfl
        rw [ha] at c4
        simp only [World.cell?, hs] at c4
        split at c4 <;> simp at c4
    rw [add_add _ _ _ hspot] at c5
    have e1 : j / sz * sz + j % sz = j := by rw [Nat.mul_comm]; exact Nat.div_add_mod j sz
    rw [e1] at c5
    rw [c5]
    congr 1
    have key : ∀ (l : List α) (i : Nat) (k : Nat) (hi : i < l.length) (hk : k < (en l[i]).length), (∀ z ∈ l, (en z).length = sz) → (l.flatMap en)[i * sz + k]? = some ((en l[i])[k]) := by
      intro l
      induction l with
      | nil => intro i k hi; simp at hi
      | cons z l ih =>
        intro i k hi hk hl
        cases i with
        | zero =>
          simp only [List.flatMap_cons, Nat.zero_mul, Nat.zero_add, List.getElem_cons_zero] at hk ⊢
          rw [List.getElem?_append_left hk, List.getElem?_eq_getElem hk]
        | succ i =>
          simp only [List.flatMap_cons, List.getElem_cons_succ] at hk ⊢
          have hzl := hl z List.mem_cons_self
          rw [List.getElem?_append_right (by rw [Nat.add_mul]; omega)]
          have e2 : (i + 1) * sz + k - (en z).length = i * sz + k := by rw [Nat.add_mul]; omega
          rw [e2]
          exact ih i k (by simpa using hi) hk (fun y hy => hl y (List.mem_cons_of_mem _ hy))
    have k1 := key xs (j / sz) (j % sz) hd (by omega) (fun z hz => (hall z hz).2)
    rw [e1, List.getElem?_eq_getElem hj] at k1
    exact (Option.some.inj k1).symm
theorem arg_list {α : Type} {r : Reach} {b0 : Nat} {t e : TypeId} {v : Value} {d : DataW H} {ps : List MemPlace} (ht : P.underlying t = some (.slice e)) {sz : Nat} (hsz : P.cellsOf e = sz) (hpos : 0 < sz)
    (hv : Value.okWide P w r b0 t v) (h : DataW.Trod enc P w base spare held t v d ps) (en : α → List Value) (Good : α → Prop)
    (dec : ∀ n cs y, DataW.trod enc P w base spare held n e cs = some y → cs.length = sz → ∃ z, cs = en z ∧ Good z) :
    ∃ A c, ∃ xs : List α, v = .slice A xs.length c ∧ Row w (· < w.heap.size) A (xs.flatMap en) ∧ (∀ z ∈ xs, Good z ∧ (en z).length = sz) ∧ xs.length ≤ c ∧ c ≤ maxLen ∧ (xs.flatMap en).length = xs.length * sz := by
  obtain ⟨fuel, hf⟩ := h
  obtain ⟨a, len, cap, rfl⟩ := okWide_slice ht hv
  obtain ⟨A, c, xs, h1, h2⟩ := open_list ht hsz hpos hf en Good dec
  simp only [Value.cells, List.cons.injEq, and_true] at h1
  exact ⟨A, c, xs, h1, h2⟩
theorem flat1 {α : Type} (f : α → Value) (xs : List α) : xs.flatMap (fun z => [f z]) = xs.map f := by
  induction xs with
  | nil => rfl
  | cons x xs ih => simp [ih]
end
end Go.Mw
namespace Go.Proofs.YtanjlgafjgoaaaaGreat
open Go.Mw Go.ChangeShapes Go.WideShapes Go.ChangeAt Go.RowKit Go.Deep Go.Joins
set_option linter.unusedVariables false
set_option maxRecDepth 100000
variable {H : Type} {enc : TypeId × Value → H}
theorem dec_w {W : World} {base : Nat} {spare : Nat → Bool} {held : Bool} (n : Nat) (cs : List Value) (y : DataW H × List MemPlace) (h : DataW.trod enc Tryz.prog W base spare held n 42 cs = some y)
    (hl : cs.length = 1) : ∃ z : W64, cs = [vw z] ∧ True := by
  obtain ⟨a0, h0, g0⟩ := dec_int Tryz.underlying42 h
  have := wf_u64 g0
  refine ⟨BitVec.ofNat 64 a0.toNat, ?_, trivial⟩
  subst h0
  have e : ((BitVec.ofNat 64 a0.toNat).toNat : Int) = a0 := by
    rw [BitVec.toNat_ofNat, Nat.mod_eq_of_lt (by omega)]; omega
  show [Value.int .u64 a0] = [Value.int .u64 ((BitVec.ofNat 64 a0.toNat).toNat : Int)]
  rw [e]
section
variable {W : World} {base : Nat} {spare : Nat → Bool} {held : Bool}
theorem flds {t : TypeId} {fs : Array Field} {fuel : Nat} {cs : List Value} {x : DataW H × List MemPlace} (ht : Tryz.prog.underlying t = some (.struct fs)) (h : DataW.trod enc Tryz.prog W base spare held fuel t cs = some x) :
    ∃ n, cs.length = Tryz.prog.cellsOf t ∧ ∀ (i : Nat) (f : Field) (o k : Nat) (u : TypeId), fs[i]? = some f → f.offset = o → f.type = u → Tryz.prog.cellsOf u = k → ∃ y, DataW.trod enc Tryz.prog W base spare held n u ((cs.drop o).take k) = some y := by
  obtain ⟨xs, n, _, _, hl, hxl, hf⟩ := DataW.trod_struct ht h
  refine ⟨n, hl, fun i f o k u hi ho hu hk => ?_⟩
  have := hf i f hi
  subst ho hu hk
  rw [this]
  have hlt : i < xs.length := by
    rw [hxl]
    exact (Array.getElem?_eq_some_iff.1 hi).1
  exact ⟨xs[i], List.getElem?_eq_getElem hlt⟩
theorem cI : Tryz.prog.cellsOf 3 = 1 := by kernel_rfl
theorem cW : Tryz.prog.cellsOf 42 = 1 := by kernel_rfl
theorem cSw : Tryz.prog.cellsOf 23 = 1 := by kernel_rfl
theorem cSi : Tryz.prog.cellsOf 22 = 1 := by kernel_rfl
theorem one_int {n : Nat} {v : Value} {y : DataW H × List MemPlace} (h : DataW.trod enc Tryz.prog W base spare held n 3 [v] = some y) : ∃ z : Int, v = vi z := by
  obtain ⟨a0, h0, _⟩ := dec_int Tryz.underlying3 h
  simp only [List.cons.injEq, and_true] at h0
  exact ⟨a0, h0⟩
theorem dec_in (n : Nat) (cs : List Value) (y : DataW H × List MemPlace) (h : DataW.trod enc Tryz.prog W base spare held n 61 cs = some y)
    (hl : cs.length = 5) : ∃ z : Ins, cs = z.cells ∧ True := by
  obtain ⟨m, _, hf⟩ := flds Tryz.underlying61 h
  match cs, hl with
  | [c0, c1, c2, c3, c5], _ =>
    obtain ⟨y0, e0⟩ := hf 0 _ 0 1 3 rfl rfl rfl cI
    obtain ⟨y1, e1⟩ := hf 1 _ 1 1 3 rfl rfl rfl cI
    obtain ⟨y2, e2⟩ := hf 2 _ 2 1 3 rfl rfl rfl cI
    obtain ⟨y3, e3⟩ := hf 3 _ 3 1 3 rfl rfl rfl cI
    obtain ⟨y5, e5⟩ := hf 4 _ 4 1 42 rfl rfl rfl cW
    obtain ⟨z0, rfl⟩ := one_int (v := c0) e0
    obtain ⟨z1, rfl⟩ := one_int (v := c1) e1
    obtain ⟨z2, rfl⟩ := one_int (v := c2) e2
    obtain ⟨z3, rfl⟩ := one_int (v := c3) e3
    obtain ⟨z5, h5, _⟩ := dec_w _ _ _ e5 rfl
    have h5 : [c5] = [vw z5] := h5
    simp only [List.cons.injEq, and_true] at h5
    subst h5
    exact ⟨⟨z0, z1, z2, z3, z5⟩, rfl, trivial⟩
theorem one_code {n : Nat} {v : Value} {y : DataW H × List MemPlace} (h : DataW.trod enc Tryz.prog W base spare held n 22 [v] = some y) : ∃ A c, ∃ xs : List Ins, v = .slice A xs.length c ∧ Row W (· < W.heap.size) A (xs.flatMap Ins.cells) ∧ xs.length ≤ c := by
  obtain ⟨A, c, xs, h1, hr, hx, hc, _, _⟩ := open_list Tryz.underlying22 (by kernel_rfl) (by decide) h Ins.cells (fun _ => True) dec_in
  simp only [List.cons.injEq, and_true] at h1
  exact ⟨A, c, xs, h1, hr, hc⟩
theorem one_words {n : Nat} {v : Value} {y : DataW H × List MemPlace} (h : DataW.trod enc Tryz.prog W base spare held n 23 [v] = some y) : ∃ A c, ∃ xs : List W64, v = .slice A xs.length c ∧ Row W (· < W.heap.size) A (xs.map vw) ∧ xs.length ≤ c := by
  obtain ⟨A, c, xs, h1, hr, hx, hc, _, _⟩ := open_list Tryz.underlying23 (by kernel_rfl) (by decide) h (fun z => [vw z]) (fun _ => True) dec_w
  rw [flat1] at hr
  simp only [List.cons.injEq, and_true] at h1
  exact ⟨A, c, xs, h1, hr, hc⟩
theorem one_play {n : Nat} {cs : List Value} {y : DataW H × List MemPlace} (h : DataW.trod enc Tryz.prog W base spare held n 25 cs = some y) (hl : cs.length = 5) : ∃ code blocks, ∃ n0 n1 n2 : Int, PlO W (.agg ⟨cs⟩) code blocks n0 n1 n2 := by
  obtain ⟨m, _, hf⟩ := flds Tryz.underlying25 h
  match cs, hl with
  | [c0, c1, c2, c3, c4], _ =>
    obtain ⟨_, e0⟩ := hf 0 _ 0 1 22 rfl rfl rfl cSi
    obtain ⟨_, e1⟩ := hf 1 _ 1 1 23 rfl rfl rfl cSw
    obtain ⟨_, e2⟩ := hf 2 _ 2 1 3 rfl rfl rfl cI
    obtain ⟨_, e3⟩ := hf 3 _ 3 1 3 rfl rfl rfl cI
    obtain ⟨_, e4⟩ := hf 4 _ 4 1 3 rfl rfl rfl cI
    obtain ⟨A, c, code, rfl, hA, hc⟩ := one_code (v := c0) e0
    obtain ⟨B, cb, blocks, rfl, hB, hb⟩ := one_words (v := c1) e1
    obtain ⟨z2, rfl⟩ := one_int (v := c2) e2
    obtain ⟨z3, rfl⟩ := one_int (v := c3) e3
    obtain ⟨z4, rfl⟩ := one_int (v := c4) e4
    exact ⟨code, blocks, z2, z3, z4, A, c, B, cb, rfl, hA, hc, hB, hb⟩
end
theorem arg_words {b0 : Nat} {W : World} {v0 : Value} {d0 : DataW H} {p0 : List MemPlace} (w0 : Value.okWide Tryz.prog W .any b0 23 v0) (h0 : DataW.Trod enc Tryz.prog W 0 (fun _ => true) true 23 v0 d0 p0) :
    ∃ xs : List W64, LV vw W (· < W.heap.size) v0 xs := by
  obtain ⟨A, c, xs, rfl, hr, hx, hc, _, _⟩ := arg_list Tryz.underlying23 (by kernel_rfl) (by decide) w0 h0 (fun z => [vw z]) (fun _ => True) dec_w
  rw [flat1] at hr
  exact ⟨xs, A, c, rfl, hr, hc⟩
theorem arg_byte {b0 : Nat} {W : World} {v0 : Value} {d0 : DataW H} {p0 : List MemPlace} (w0 : Value.okWide Tryz.prog W .any b0 5 v0) (h0 : DataW.Trod enc Tryz.prog W 0 (fun _ => true) true 5 v0 d0 p0) :
    ∃ m : Nat, v0 = .int .u8 (m : Int) ∧ m < 256 := by
  obtain ⟨a1, rfl, g1⟩ := arg_int Tryz.underlying5 w0 h0
  have : 0 ≤ a1 ∧ a1 < 256 := by
    simp [Lit.wf, IntKind.min, IntKind.max, IntKind.signed, IntKind.bits] at g1
    omega
  obtain ⟨m, rfl⟩ := Int.eq_ofNat_of_zero_le this.1
  exact ⟨m, rfl, by omega⟩
end Go.Proofs.YtanjlgafjgoaaaaGreat
namespace Go.Proofs.YtanjlgafjgoaaaaGreat
open Go.Mw Go.ChangeShapes Go.WideShapes Go.ChangeAt Go.RowKit Go.Deep Go.Joins
set_option linter.unusedVariables false
set_option maxRecDepth 100000
variable {H : Type} {enc : TypeId × Value → H}
theorem sstepAll_law {b0 b1 b2 : Nat} (W : World) {v0 v1 v2 : Value} {d0 d1 d2 : DataW H} {p0 p1 p2 : List MemPlace} (w0 : Value.okWide Tryz.prog W .any b0 25 v0) (h0 : DataW.Trod enc Tryz.prog W 0 (fun _ => true) true 25 v0 d0 p0)
    (w1 : Value.okWide Tryz.prog W .any b1 23 v1) (h1 : DataW.Trod enc Tryz.prog W 0 (fun _ => true) true 23 v1 d1 p1) (w2 : Value.okWide Tryz.prog W .any b2 5 v2) (h2 : DataW.Trod enc Tryz.prog W 0 (fun _ => true) true 5 v2 d2 p2) :
    Ret Tryz.prog 4 #[v0, v1, v2] W (fun v w' => v = .bool true ∧ Keep W w' No) := by
  obtain ⟨⟨cs⟩, rfl, hsz⟩ := okWide_struct Tryz.underlying25 w0
  obtain ⟨fuel, hf⟩ := h0
  have hC : Tryz.prog.cellsOf 25 = 5 := by kernel_rfl
  obtain ⟨code, blocks, n0, n1, n2, hp⟩ := one_play (cs := cs) hf (by rw [hC] at hsz; simpa using hsz)
  obtain ⟨env, he⟩ := arg_words w1 h1
  obtain ⟨m, rfl, hm⟩ := arg_byte w2 h2
  exact sstepAll_ret (deep := m) hm hp he
end Go.Proofs.YtanjlgafjgoaaaaGreat
