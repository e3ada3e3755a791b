import Derived.Test.YtfkbacoiocniaaaUnit06P
import Derived.Test.YtfkbacoiocniaaaMapI
import Derived.Test.YtfkbacoiocniaaaSort
namespace Go.Proofs.Ytfkbacoiocniaaa
open Go.Mw
set_option linter.unusedVariables false
set_option linter.unusedSimpArgs false
set_option maxRecDepth 100000
attribute [local irreducible] M.val M.unit M.next M.pick M.new M.nilCheck M.load1 M.loadA M.store M.fieldAddr M.indexSl M.indexArr M.slice M.makeSlice M.buildSlice M.len M.lenS M.cap M.append M.extract M.conv M.not M.neg M.bin M.shift M.eqB M.eqNil M.call M.callv M.gd M.share M.cond M.loop M.draw pureW readW Ret
/-! (breakwater/unit.set).add: function 103 -/
def sh103 (x0 x1 : Value) (R : Kt) (w : World) : Prop :=
  M.unit Try.prog (Instr.mapUpdate 134 x0 x1 (Value.bool true)) (fun _ w =>
  M.call Try.prog 50 #[x1] (fun t9 w =>
  readW Try.prog (Instr.lookup 134 x0 t9 false) (fun t10 w =>
  M.not t10 (fun t11 w =>
  R t11 w) w) w) w) w
theorem ok103 (x0 x1 : Value) (R : Kt) (w : World) (h : sh103 x0 x1 R w) : Ret Try.prog 103 #[x0, x1] w R :=
  ret_mk <| calls_of_comp mixed (c := Try.f103.body.getD .skip) (args := [x0, x1]) (rs := [(ResultVar.tmp 4)]) (Ann.seq Ann.text (Ann.seq Ann.text (Ann.seq Ann.text Ann.leaf)))
    Try.func103 (by kernel_rfl) (by kernel_rfl)
    (Eq.mp (by kernel_rfl) h)
/-! (breakwater/unit.set).rest: function 104 -/
def sh104 (x0 x1 : Value) (R : Kt) (w : World) : Prop :=
  M.len x1 (fun t12 w =>
  M.loop [(Value.int IntKind.i64 (-1)), (Value.int IntKind.i64 0), (Value.int IntKind.i64 0)] (fun s1 K1 w => ∀ _ : List Value,
  M.bin .lss (s1.getD 2 undef) t12 (fun t14 w =>
  M.cond t14
  (M.indexSl 1 x1 (s1.getD 2 undef) (fun t15 w =>
  M.load1 t15 (fun t16 w =>
  M.share (fun K2 w =>
  M.bin .lss t16 (Value.int IntKind.i64 0) (fun t19 w =>
  M.gd t19 false (fun k w => k x0 w) (fun t21 w =>
  M.gd t19 false (fun k w => k t16 w) (fun t22 w =>
  M.gd t19 false (fun k w => M.call Try.prog 50 #[t22] k w) (fun t23 w =>
  M.gd t19 false (fun k w => readW Try.prog (Instr.lookup 134 t21 t23 false) k w) (fun t24 w =>
  M.gd t19 false (fun k w => k t24 w) (fun t25 w =>
  M.gd t25 true (fun k w => k x0 w) (fun t26 w =>
  M.gd t25 true (fun k w => k t16 w) (fun t27 w =>
  M.gd t25 true (fun k w => readW Try.prog (Instr.lookup 134 t26 t27 false) k w) (fun t28 w =>
  M.gd t25 true (fun k w => M.not t28 k w) (fun t29 w =>
  M.gd t19 false (fun k w => M.pick t25 t29 (Value.bool false) k w) (fun t30 w =>
  M.pick t19 (Value.bool true) t30 (fun t31 w =>
  M.cond t31
  (K2 [(s1.getD 0 undef), (s1.getD 1 undef)] w)
  (readW Try.prog (Instr.lookup 134 x0 t16 false) (fun t35 w =>
  M.cond t35
  (R (.tuple #[t16, (Value.int IntKind.i64 1), (Value.bool true)]) w)
  (M.bin .neq t16 (s1.getD 0 undef) (fun t40 w =>
  M.cond t40
  (M.bin .add (s1.getD 1 undef) (Value.int IntKind.i64 1) (fun t43 w =>
  K2 [t16, t43] w) w)
  (K2 [(s1.getD 0 undef), (s1.getD 1 undef)] w)) w)) w)) w) w) w) w) w) w) w) w) w) w) w) w) (fun s2 w => ∀ _ : List Value,
  M.bin .add (s1.getD 2 undef) (Value.int IntKind.i64 1) (fun t44 w =>
  K1 [(s2.getD 0 undef), (s2.getD 1 undef), t44] w) w) w) w) w)
  (R (.tuple #[(s1.getD 0 undef), (s1.getD 1 undef), (Value.bool false)]) w)) w) w) w
theorem ok104 (x0 x1 : Value) (R : Kt) (w : World) (h : sh104 x0 x1 R w) : Ret Try.prog 104 #[x0, x1] w R :=
  ret_mk <| calls_of_comp mixed (c := Try.f104.body.getD .skip) (args := [x0, x1]) (rs := [(ResultVar.tmp 4), (ResultVar.tmp 5), (ResultVar.tmp 6)]) (Ann.seq Ann.text (Ann.seq Ann.text (Ann.seq (Ann.seq Ann.text (Ann.block (Ann.loop [7, 8, 13] [4, 5, 6, 10, 14, 15, 16, 17, 18, 19, 20, 21, 22, 23, 24, 25, 26, 27, 28, 29, 30, 31, 32, 33, 34, 35, 36, 37, 38, 39, 40, 41, 42, 43, 44] (Ann.seq Ann.text (Ann.seq (Ann.cond Ann.leaf Ann.leaf) (Ann.seq (Ann.block (Ann.seq Ann.text (Ann.jblock [7, 8] [4, 5, 6, 17, 18, 19, 20, 21, 22, 23, 24, 25, 26, 27, 28, 29, 30, 31, 32, 33, 34, 35, 36, 37, 38, 39, 40, 41, 42, 43] (Ann.seq Ann.text (Ann.cond Ann.leaf (Ann.seq Ann.text (Ann.cond (Ann.seq Ann.text Ann.leaf) (Ann.seq Ann.text (Ann.cond (Ann.seq Ann.text Ann.text) Ann.leaf))))))))) Ann.text)))))) (Ann.seq Ann.text Ann.leaf))))
    Try.func104 (by kernel_rfl) (by kernel_rfl)
    (Eq.mp (by kernel_rfl) h)

abbrev setKV (s : List Int) : List (Int × Value) := s.map fun x => (x, vb true)
abbrev SetO (w : World) (r : Nat) (s : List Int) : Prop := MapO w r (setKV s)
def addS (s : List Int) (x : Int) : List Int := if x ∈ s then s else s ++ [x]
theorem mem_addS {s : List Int} {x y : Int} : y ∈ addS s x ↔ y = x ∨ y ∈ s := by
  unfold addS
  split
  · rename_i h
    constructor
    · exact .inr
    · rintro (rfl | h1)
      · exact h
      · exact h1
  · simp [or_comm]
theorem lkp_set (s : List Int) (x : Int) : (lkp (setKV s) x).getD (vb false) = vb (decide (x ∈ s)) := by
  unfold lkp
  by_cases h : x ∈ s
  · have : ∃ p, (setKV s).find? (fun p => decide (p.1 = x)) = some p ∧ p.2 = vb true := by
      cases hf : (setKV s).find? (fun p => decide (p.1 = x)) with
      | none =>
        rw [List.find?_eq_none] at hf
        exact absurd (by simp) (hf (x, vb true) (List.mem_map.2 ⟨x, h, rfl⟩))
      | some p =>
        refine ⟨p, rfl, ?_⟩
        obtain ⟨y, _, hy⟩ := List.mem_map.1 (List.mem_of_find?_eq_some hf)
        rw [← hy]
    obtain ⟨p, h1, h2⟩ := this
    rw [h1]
    simp [h, h2]
  · have : (setKV s).find? (fun p => decide (p.1 = x)) = none := by
      rw [List.find?_eq_none]
      intro p hp
      obtain ⟨y, hy, rfl⟩ := List.mem_map.1 hp
      simp only [decide_eq_true_eq]
      intro e; exact h (e ▸ hy)
    rw [this]
    simp [h]
theorem upd_set (s : List Int) (x : Int) : upd (setKV s) x (vb true) = setKV (addS s x) := by
  unfold upd addS
  have e : (setKV s).any (fun p => decide (p.1 = x)) = decide (x ∈ s) := by
    by_cases h : x ∈ s
    · simp only [h, decide_true]
      exact List.any_eq_true.2 ⟨(x, vb true), List.mem_map.2 ⟨x, h, rfl⟩, by simp⟩
    · simp only [h, decide_false]
      rw [List.any_eq_false]
      intro p hp
      obtain ⟨y, hy, rfl⟩ := List.mem_map.1 hp
      simp only [decide_eq_true_eq]
      intro e; exact h (e ▸ hy)
  rw [e]
  by_cases h : x ∈ s
  · simp only [h, decide_true, if_true]
    rw [List.map_map]
    apply List.map_congr_left
    intro y hy
    by_cases hyx : y = x <;> simp [hyx]
  · simp [h]
theorem zeroB (w : World) : (zeroValue 4).run Try.prog w = .ok (vb false) w := Try.zeroValue4 w
theorem M.has_i {k : Kt} {w : World} {r : Nat} {s : List Int} {x : Int} (hm : SetO w r s) (h : k (vb (decide (x ∈ s))) w) : readW Try.prog (Instr.lookup 134 (.map (some r)) (vi x) false) k w := by
  refine M.lookup_i (kt := 3) (et := 4) (z := vb false) (by kernel_rfl) (by kernel_rfl) zeroB hm ?_
  rw [lkp_set]; exact h
theorem add_ret {w : World} {r : Nat} {s : List Int} {x : Int} (hm : SetO w r s) (hx : I64 x) :
    Ret Try.prog 103 #[.map (some r), vi x] w (fun v w' => v = .bool (decide (notOf x ∉ addS s x)) ∧ SetO w' r (addS s x) ∧ Keep w w' (· = r)) := by
  refine ok103 _ _ _ _ ?_
  unfold sh103
  refine M.mapUpdate_i (kt := 3) (et := 4) (by kernel_rfl) (by kernel_rfl) hm (fun w1 h1 k1 s1 => ?_)
  rw [upd_set] at h1
  refine M.call_i (not_ret hx w1) ?_; rintro _ w2 ⟨rfl, k2⟩
  refine M.has_i (h1.keep k2 (fun h => h)) ?_
  refine M.not_i ⟨?_, h1.keep k2 (fun h => h), k1.trans k2 (fun _ _ h => h.elim)⟩
  simp
/-- What 'rest' tells. -/
def RestR (s c : List Int) (a n : Int) (h : Bool) : Prop := (h = true ∧ heldC s c = true) ∨ (h = false ∧ heldC s c = false ∧
  ((n = 0 ∧ openC s c = []) ∨ (n = 1 ∧ a ∈ openC s c ∧ ∀ y ∈ openC s c, y = a) ∨ (1 < n ∧ ∃ x y, x ∈ openC s c ∧ y ∈ openC s c ∧ x ≠ y)))
theorem heldC_snoc (s c : List Int) (x : Int) : heldC s (c ++ [x]) = (heldC s c || (decide (0 ≤ x) && decide (x ∈ s))) := by simp [heldC]
theorem openC_snoc (s c : List Int) (x : Int) : openC s (c ++ [x]) = openC s c ++ if 0 ≤ x ∧ x ∉ s ∧ notOf x ∉ s then [x] else [] := by
  unfold openC
  rw [List.filter_append]
  congr 1
  by_cases h : 0 ≤ x ∧ x ∉ s ∧ notOf x ∉ s
  · rw [if_pos h]; simp [List.filter_cons, h]
  · rw [if_neg h]
    rw [List.filter_cons, if_neg]
    · rfl
    · intro hh
      simp only [Bool.and_eq_true, decide_eq_true_eq] at hh
      exact h ⟨hh.1, hh.2.1, hh.2.2⟩
set_option maxHeartbeats 1000000 in
theorem rest_ret {w : World} {D : Nat → Prop} {r : Nat} {s c : List Int} {u : Value} (hm : SetO w r s) (hc : LV vi w D u c) (hf : Few c.length) (hI : ∀ x ∈ c, I64 x) :
    Ret Try.prog 104 #[.map (some r), u] w (fun v w' => ∃ a n h, v = .tuple #[vi a, vi n, .bool h] ∧ RestR s c a n h ∧ Keep w w' No) := by
  obtain ⟨A, cp, rfl, hr, _⟩ := hc
  refine ok104 _ _ _ _ ?_
  unfold sh104
  (repeat (first | refine M.len_i ?_ | refine M.nilCheck_i ?_ | refine M.field_i ?_ | refine M.draw_i ?_ | refine M.cap_i ?_ | refine M.gd_tt ?_ | refine M.gd_ff ?_ | refine M.gd_ft ?_ | refine M.gd_tf ?_ | refine M.gd_u ?_ | refine M.pick_t ?_ | refine M.pick_f ?_ | refine M.not_t ?_ | refine M.not_f ?_ | refine M.cond_t ?_ | refine M.cond_f ?_ | refine M.eqNilP_tn ?_ | refine M.eqNilP_ts ?_ | refine M.eqNilP_fn ?_ | refine M.eqNilP_fs ?_ | refine M.eqNilS_tn ?_ | refine M.eqNilS_ts ?_ | refine M.eqNilS_fn ?_ | refine M.eqNilS_fs ?_ | refine M.lss_t (by omega) ?_ | refine M.lss_f (by omega) ?_ | refine M.leq_t (by omega) ?_ | refine M.leq_f (by omega) ?_ | refine M.gtr_t (by omega) ?_ | refine M.gtr_f (by omega) ?_ | refine M.geq_t (by omega) ?_ | refine M.geq_f (by omega) ?_ | refine M.eql_t (by omega) ?_ | refine M.eql_f (by omega) ?_ | refine M.neq_t (by omega) ?_ | refine M.neq_f (by omega) ?_ | refine M.add_i (by omega) (by omega) ?_ | refine M.sub_i (by omega) (by omega) ?_ | refine M.load_i (by assumption) ?_ | refine M.loadB_i (by assumption) rfl ?_ | refine M.st_i (by assumption) ?_ | refine M.stB_i (by assumption) rfl ?_ | refine M.gs_ff ?_ | refine M.gs_tt ?_ | refine M.gs_ft ?_ | refine M.gs_tf ?_ | refine M.stAll_i (by assumption) rfl ?_))
  refine M.loop_i (σ := Int × Int × Nat) (fun t vals w' => vals = [vi t.1, vi t.2.1, vi t.2.2] ∧ t.2.2 ≤ c.length ∧ t.2.1 ≤ t.2.2 ∧ 0 ≤ t.2.1 ∧ heldC s (c.take t.2.2) = false ∧
      ((t.2.1 = 0 ∧ t.1 = -1 ∧ openC s (c.take t.2.2) = []) ∨ (t.2.1 = 1 ∧ t.1 ∈ openC s (c.take t.2.2) ∧ ∀ y ∈ openC s (c.take t.2.2), y = t.1) ∨ (1 < t.2.1 ∧ t.1 ∈ openC s (c.take t.2.2) ∧ ∃ x y, x ∈ openC s (c.take t.2.2) ∧ y ∈ openC s (c.take t.2.2) ∧ x ≠ y)) ∧ Keep w w' No)
    (fun t => c.length - t.2.2) (-1, 0, 0) ⟨rfl, by show 0 ≤ c.length; omega, by show (0 : Int) ≤ ((0 : Nat) : Int); omega, by show (0 : Int) ≤ 0; omega, by simp [heldC], .inl ⟨rfl, rfl, by simp [openC]⟩, Keep.refl _ _⟩ ?_
  rintro ⟨a, n, i⟩ vals w1 K ⟨rfl, hi, hn, hn0, hh, ho, k1⟩ hK _
  simp only at hi hn hn0 hh ho
  simp only [List.getD_cons_zero, List.getD_cons_succ]
  have hm := hm.keep k1 (fun h => h)
  have hr := hr.keep k1 (fun _ _ _ h => h)
  by_cases hlt : i < c.length
  · obtain ⟨x, hx⟩ : ∃ x, c[i]? = some x := ⟨_, List.getElem?_eq_getElem hlt⟩
    have e1 : c.take (i + 1) = c.take i ++ [x] := by rw [List.take_add_one, hx]; rfl
    have hIx := hI x (List.mem_of_getElem? hx)
    (repeat (first | refine M.len_i ?_ | refine M.nilCheck_i ?_ | refine M.field_i ?_ | refine M.draw_i ?_ | refine M.cap_i ?_ | refine M.gd_tt ?_ | refine M.gd_ff ?_ | refine M.gd_ft ?_ | refine M.gd_tf ?_ | refine M.gd_u ?_ | refine M.pick_t ?_ | refine M.pick_f ?_ | refine M.not_t ?_ | refine M.not_f ?_ | refine M.cond_t ?_ | refine M.cond_f ?_ | refine M.eqNilP_tn ?_ | refine M.eqNilP_ts ?_ | refine M.eqNilP_fn ?_ | refine M.eqNilP_fs ?_ | refine M.eqNilS_tn ?_ | refine M.eqNilS_ts ?_ | refine M.eqNilS_fn ?_ | refine M.eqNilS_fs ?_ | refine M.lss_t (by omega) ?_ | refine M.lss_f (by omega) ?_ | refine M.leq_t (by omega) ?_ | refine M.leq_f (by omega) ?_ | refine M.gtr_t (by omega) ?_ | refine M.gtr_f (by omega) ?_ | refine M.geq_t (by omega) ?_ | refine M.geq_f (by omega) ?_ | refine M.eql_t (by omega) ?_ | refine M.eql_f (by omega) ?_ | refine M.neq_t (by omega) ?_ | refine M.neq_f (by omega) ?_ | refine M.add_i (by omega) (by omega) ?_ | refine M.sub_i (by omega) (by omega) ?_ | refine M.load_i (by assumption) ?_ | refine M.loadB_i (by assumption) rfl ?_ | refine M.st_i (by assumption) ?_ | refine M.stB_i (by assumption) rfl ?_ | refine M.gs_ff ?_ | refine M.gs_tt ?_ | refine M.gs_ft ?_ | refine M.gs_tf ?_ | refine M.stAll_i (by assumption) rfl ?_))
    refine M.idxLV_i hr rfl (by omega) (by omega) (x := x) (by simpa using hx) (fun bb oo hA hcc => ?_)
    (repeat (first | refine M.len_i ?_ | refine M.nilCheck_i ?_ | refine M.field_i ?_ | refine M.draw_i ?_ | refine M.cap_i ?_ | refine M.gd_tt ?_ | refine M.gd_ff ?_ | refine M.gd_ft ?_ | refine M.gd_tf ?_ | refine M.gd_u ?_ | refine M.pick_t ?_ | refine M.pick_f ?_ | refine M.not_t ?_ | refine M.not_f ?_ | refine M.cond_t ?_ | refine M.cond_f ?_ | refine M.eqNilP_tn ?_ | refine M.eqNilP_ts ?_ | refine M.eqNilP_fn ?_ | refine M.eqNilP_fs ?_ | refine M.eqNilS_tn ?_ | refine M.eqNilS_ts ?_ | refine M.eqNilS_fn ?_ | refine M.eqNilS_fs ?_ | refine M.lss_t (by omega) ?_ | refine M.lss_f (by omega) ?_ | refine M.leq_t (by omega) ?_ | refine M.leq_f (by omega) ?_ | refine M.gtr_t (by omega) ?_ | refine M.gtr_f (by omega) ?_ | refine M.geq_t (by omega) ?_ | refine M.geq_f (by omega) ?_ | refine M.eql_t (by omega) ?_ | refine M.eql_f (by omega) ?_ | refine M.neq_t (by omega) ?_ | refine M.neq_f (by omega) ?_ | refine M.add_i (by omega) (by omega) ?_ | refine M.sub_i (by omega) (by omega) ?_ | refine M.load_i (by assumption) ?_ | refine M.loadB_i (by assumption) rfl ?_ | refine M.st_i (by assumption) ?_ | refine M.stB_i (by assumption) rfl ?_ | refine M.gs_ff ?_ | refine M.gs_tt ?_ | refine M.gs_ft ?_ | refine M.gs_tf ?_ | refine M.stAll_i (by assumption) rfl ?_))
    refine M.share_j (fun vals w' => ∃ (a' n' : Int), vals = [vi a', vi n'] ∧ n' ≤ i + 1 ∧ 0 ≤ n' ∧ heldC s (c.take (i + 1)) = false ∧
      ((n' = 0 ∧ a' = -1 ∧ openC s (c.take (i + 1)) = []) ∨ (n' = 1 ∧ a' ∈ openC s (c.take (i + 1)) ∧ ∀ y ∈ openC s (c.take (i + 1)), y = a') ∨ (1 < n' ∧ a' ∈ openC s (c.take (i + 1)) ∧ ∃ x y, x ∈ openC s (c.take (i + 1)) ∧ y ∈ openC s (c.take (i + 1)) ∧ x ≠ y)) ∧ Keep w w' No) ?_ ?_
    · rintro vals w2 ⟨a', n', rfl, g1, g2, g3, g4, k2⟩ _
      simp only [List.getD_cons_zero, List.getD_cons_succ]
      (repeat (first | refine M.len_i ?_ | refine M.nilCheck_i ?_ | refine M.field_i ?_ | refine M.draw_i ?_ | refine M.cap_i ?_ | refine M.gd_tt ?_ | refine M.gd_ff ?_ | refine M.gd_ft ?_ | refine M.gd_tf ?_ | refine M.gd_u ?_ | refine M.pick_t ?_ | refine M.pick_f ?_ | refine M.not_t ?_ | refine M.not_f ?_ | refine M.cond_t ?_ | refine M.cond_f ?_ | refine M.eqNilP_tn ?_ | refine M.eqNilP_ts ?_ | refine M.eqNilP_fn ?_ | refine M.eqNilP_fs ?_ | refine M.eqNilS_tn ?_ | refine M.eqNilS_ts ?_ | refine M.eqNilS_fn ?_ | refine M.eqNilS_fs ?_ | refine M.lss_t (by omega) ?_ | refine M.lss_f (by omega) ?_ | refine M.leq_t (by omega) ?_ | refine M.leq_f (by omega) ?_ | refine M.gtr_t (by omega) ?_ | refine M.gtr_f (by omega) ?_ | refine M.geq_t (by omega) ?_ | refine M.geq_f (by omega) ?_ | refine M.eql_t (by omega) ?_ | refine M.eql_f (by omega) ?_ | refine M.neq_t (by omega) ?_ | refine M.neq_f (by omega) ?_ | refine M.add_i (by omega) (by omega) ?_ | refine M.sub_i (by omega) (by omega) ?_ | refine M.load_i (by assumption) ?_ | refine M.loadB_i (by assumption) rfl ?_ | refine M.st_i (by assumption) ?_ | refine M.stB_i (by assumption) rfl ?_ | refine M.gs_ff ?_ | refine M.gs_tt ?_ | refine M.gs_ft ?_ | refine M.gs_tf ?_ | refine M.stAll_i (by assumption) rfl ?_))
      exact hK (a', n', i + 1) _ _ (by show c.length - (i + 1) < c.length - i; omega) ⟨by simp, by show i + 1 ≤ c.length; omega, by show n' ≤ ((i + 1 : Nat) : Int); omega, g2, g3, g4, k2⟩
    · intro K2 hK2
      -- nothing new
      have skip : ∀ w2, Keep w w2 No → (x < 0 ∨ (x ∉ s ∧ notOf x ∈ s)) → K2 [vi a, vi n] w2 := fun w2 k2 hsk => by
        have h1 : heldC s (c.take (i + 1)) = false := by
          rw [e1, heldC_snoc, hh]
          rcases hsk with h | h
          · simp; intro h2; omega
          · simp [h.1]
        have h2 : openC s (c.take (i + 1)) = openC s (c.take i) := by
          rw [e1, openC_snoc, if_neg]
          · simp
          · rintro ⟨h3, h4, h5⟩
            rcases hsk with h | h
            · omega
            · exact h5 h.2
        refine hK2 _ _ ⟨a, n, rfl, by omega, hn0, h1, ?_, k2⟩
        rw [h2]; exact ho
      by_cases h0 : x < 0
      · (repeat (first | refine M.len_i ?_ | refine M.nilCheck_i ?_ | refine M.field_i ?_ | refine M.draw_i ?_ | refine M.cap_i ?_ | refine M.gd_tt ?_ | refine M.gd_ff ?_ | refine M.gd_ft ?_ | refine M.gd_tf ?_ | refine M.gd_u ?_ | refine M.pick_t ?_ | refine M.pick_f ?_ | refine M.not_t ?_ | refine M.not_f ?_ | refine M.cond_t ?_ | refine M.cond_f ?_ | refine M.eqNilP_tn ?_ | refine M.eqNilP_ts ?_ | refine M.eqNilP_fn ?_ | refine M.eqNilP_fs ?_ | refine M.eqNilS_tn ?_ | refine M.eqNilS_ts ?_ | refine M.eqNilS_fn ?_ | refine M.eqNilS_fs ?_ | refine M.lss_t (by omega) ?_ | refine M.lss_f (by omega) ?_ | refine M.leq_t (by omega) ?_ | refine M.leq_f (by omega) ?_ | refine M.gtr_t (by omega) ?_ | refine M.gtr_f (by omega) ?_ | refine M.geq_t (by omega) ?_ | refine M.geq_f (by omega) ?_ | refine M.eql_t (by omega) ?_ | refine M.eql_f (by omega) ?_ | refine M.neq_t (by omega) ?_ | refine M.neq_f (by omega) ?_ | refine M.add_i (by omega) (by omega) ?_ | refine M.sub_i (by omega) (by omega) ?_ | refine M.load_i (by assumption) ?_ | refine M.loadB_i (by assumption) rfl ?_ | refine M.st_i (by assumption) ?_ | refine M.stB_i (by assumption) rfl ?_ | refine M.gs_ff ?_ | refine M.gs_tt ?_ | refine M.gs_ft ?_ | refine M.gs_tf ?_ | refine M.stAll_i (by assumption) rfl ?_))
        exact skip _ k1 (.inl h0)
      have h00 : 0 ≤ x := by omega
      have stop : x ∈ s → ∀ w2, Keep w w2 No → ∃ a n h, Value.tuple #[vi x, Value.int IntKind.i64 1, Value.bool true] = .tuple #[vi a, vi n, .bool h] ∧ RestR s c a n h ∧ Keep w w2 No := fun hxs w2 k2 =>
        ⟨x, 1, true, rfl, .inl ⟨rfl, heldC_iff.2 ⟨x, List.mem_of_getElem? hx, h00, hxs⟩⟩, k2⟩
      (repeat (first | refine M.len_i ?_ | refine M.nilCheck_i ?_ | refine M.field_i ?_ | refine M.draw_i ?_ | refine M.cap_i ?_ | refine M.gd_tt ?_ | refine M.gd_ff ?_ | refine M.gd_ft ?_ | refine M.gd_tf ?_ | refine M.gd_u ?_ | refine M.pick_t ?_ | refine M.pick_f ?_ | refine M.not_t ?_ | refine M.not_f ?_ | refine M.cond_t ?_ | refine M.cond_f ?_ | refine M.eqNilP_tn ?_ | refine M.eqNilP_ts ?_ | refine M.eqNilP_fn ?_ | refine M.eqNilP_fs ?_ | refine M.eqNilS_tn ?_ | refine M.eqNilS_ts ?_ | refine M.eqNilS_fn ?_ | refine M.eqNilS_fs ?_ | refine M.lss_t (by omega) ?_ | refine M.lss_f (by omega) ?_ | refine M.leq_t (by omega) ?_ | refine M.leq_f (by omega) ?_ | refine M.gtr_t (by omega) ?_ | refine M.gtr_f (by omega) ?_ | refine M.geq_t (by omega) ?_ | refine M.geq_f (by omega) ?_ | refine M.eql_t (by omega) ?_ | refine M.eql_f (by omega) ?_ | refine M.neq_t (by omega) ?_ | refine M.neq_f (by omega) ?_ | refine M.add_i (by omega) (by omega) ?_ | refine M.sub_i (by omega) (by omega) ?_ | refine M.load_i (by assumption) ?_ | refine M.loadB_i (by assumption) rfl ?_ | refine M.st_i (by assumption) ?_ | refine M.stB_i (by assumption) rfl ?_ | refine M.gs_ff ?_ | refine M.gs_tt ?_ | refine M.gs_ft ?_ | refine M.gs_tf ?_ | refine M.stAll_i (by assumption) rfl ?_))
      refine M.call_i (not_ret hIx w1) ?_; rintro _ w2 ⟨rfl, k2⟩
      have hm := hm.keep k2 (fun h => h)
      have k12 := k1.trans k2 (fun _ _ h => h)
      (repeat (first | refine M.len_i ?_ | refine M.nilCheck_i ?_ | refine M.field_i ?_ | refine M.draw_i ?_ | refine M.cap_i ?_ | refine M.gd_tt ?_ | refine M.gd_ff ?_ | refine M.gd_ft ?_ | refine M.gd_tf ?_ | refine M.gd_u ?_ | refine M.pick_t ?_ | refine M.pick_f ?_ | refine M.not_t ?_ | refine M.not_f ?_ | refine M.cond_t ?_ | refine M.cond_f ?_ | refine M.eqNilP_tn ?_ | refine M.eqNilP_ts ?_ | refine M.eqNilP_fn ?_ | refine M.eqNilP_fs ?_ | refine M.eqNilS_tn ?_ | refine M.eqNilS_ts ?_ | refine M.eqNilS_fn ?_ | refine M.eqNilS_fs ?_ | refine M.lss_t (by omega) ?_ | refine M.lss_f (by omega) ?_ | refine M.leq_t (by omega) ?_ | refine M.leq_f (by omega) ?_ | refine M.gtr_t (by omega) ?_ | refine M.gtr_f (by omega) ?_ | refine M.geq_t (by omega) ?_ | refine M.geq_f (by omega) ?_ | refine M.eql_t (by omega) ?_ | refine M.eql_f (by omega) ?_ | refine M.neq_t (by omega) ?_ | refine M.neq_f (by omega) ?_ | refine M.add_i (by omega) (by omega) ?_ | refine M.sub_i (by omega) (by omega) ?_ | refine M.load_i (by assumption) ?_ | refine M.loadB_i (by assumption) rfl ?_ | refine M.st_i (by assumption) ?_ | refine M.stB_i (by assumption) rfl ?_ | refine M.gs_ff ?_ | refine M.gs_tt ?_ | refine M.gs_ft ?_ | refine M.gs_tf ?_ | refine M.stAll_i (by assumption) rfl ?_))
      refine M.has_i hm ?_
      by_cases hnx : notOf x ∈ s
      · simp only [hnx, decide_true]
        (repeat (first | refine M.len_i ?_ | refine M.nilCheck_i ?_ | refine M.field_i ?_ | refine M.draw_i ?_ | refine M.cap_i ?_ | refine M.gd_tt ?_ | refine M.gd_ff ?_ | refine M.gd_ft ?_ | refine M.gd_tf ?_ | refine M.gd_u ?_ | refine M.pick_t ?_ | refine M.pick_f ?_ | refine M.not_t ?_ | refine M.not_f ?_ | refine M.cond_t ?_ | refine M.cond_f ?_ | refine M.eqNilP_tn ?_ | refine M.eqNilP_ts ?_ | refine M.eqNilP_fn ?_ | refine M.eqNilP_fs ?_ | refine M.eqNilS_tn ?_ | refine M.eqNilS_ts ?_ | refine M.eqNilS_fn ?_ | refine M.eqNilS_fs ?_ | refine M.lss_t (by omega) ?_ | refine M.lss_f (by omega) ?_ | refine M.leq_t (by omega) ?_ | refine M.leq_f (by omega) ?_ | refine M.gtr_t (by omega) ?_ | refine M.gtr_f (by omega) ?_ | refine M.geq_t (by omega) ?_ | refine M.geq_f (by omega) ?_ | refine M.eql_t (by omega) ?_ | refine M.eql_f (by omega) ?_ | refine M.neq_t (by omega) ?_ | refine M.neq_f (by omega) ?_ | refine M.add_i (by omega) (by omega) ?_ | refine M.sub_i (by omega) (by omega) ?_ | refine M.load_i (by assumption) ?_ | refine M.loadB_i (by assumption) rfl ?_ | refine M.st_i (by assumption) ?_ | refine M.stB_i (by assumption) rfl ?_ | refine M.gs_ff ?_ | refine M.gs_tt ?_ | refine M.gs_ft ?_ | refine M.gs_tf ?_ | refine M.stAll_i (by assumption) rfl ?_))
        refine M.has_i hm ?_
        by_cases hxs : x ∈ s
        · simp only [hxs, decide_true]
          (repeat (first | refine M.len_i ?_ | refine M.nilCheck_i ?_ | refine M.field_i ?_ | refine M.draw_i ?_ | refine M.cap_i ?_ | refine M.gd_tt ?_ | refine M.gd_ff ?_ | refine M.gd_ft ?_ | refine M.gd_tf ?_ | refine M.gd_u ?_ | refine M.pick_t ?_ | refine M.pick_f ?_ | refine M.not_t ?_ | refine M.not_f ?_ | refine M.cond_t ?_ | refine M.cond_f ?_ | refine M.eqNilP_tn ?_ | refine M.eqNilP_ts ?_ | refine M.eqNilP_fn ?_ | refine M.eqNilP_fs ?_ | refine M.eqNilS_tn ?_ | refine M.eqNilS_ts ?_ | refine M.eqNilS_fn ?_ | refine M.eqNilS_fs ?_ | refine M.lss_t (by omega) ?_ | refine M.lss_f (by omega) ?_ | refine M.leq_t (by omega) ?_ | refine M.leq_f (by omega) ?_ | refine M.gtr_t (by omega) ?_ | refine M.gtr_f (by omega) ?_ | refine M.geq_t (by omega) ?_ | refine M.geq_f (by omega) ?_ | refine M.eql_t (by omega) ?_ | refine M.eql_f (by omega) ?_ | refine M.neq_t (by omega) ?_ | refine M.neq_f (by omega) ?_ | refine M.add_i (by omega) (by omega) ?_ | refine M.sub_i (by omega) (by omega) ?_ | refine M.load_i (by assumption) ?_ | refine M.loadB_i (by assumption) rfl ?_ | refine M.st_i (by assumption) ?_ | refine M.stB_i (by assumption) rfl ?_ | refine M.gs_ff ?_ | refine M.gs_tt ?_ | refine M.gs_ft ?_ | refine M.gs_tf ?_ | refine M.stAll_i (by assumption) rfl ?_))
          refine M.has_i hm ?_
          simp only [hxs, decide_true]
          (repeat (first | refine M.len_i ?_ | refine M.nilCheck_i ?_ | refine M.field_i ?_ | refine M.draw_i ?_ | refine M.cap_i ?_ | refine M.gd_tt ?_ | refine M.gd_ff ?_ | refine M.gd_ft ?_ | refine M.gd_tf ?_ | refine M.gd_u ?_ | refine M.pick_t ?_ | refine M.pick_f ?_ | refine M.not_t ?_ | refine M.not_f ?_ | refine M.cond_t ?_ | refine M.cond_f ?_ | refine M.eqNilP_tn ?_ | refine M.eqNilP_ts ?_ | refine M.eqNilP_fn ?_ | refine M.eqNilP_fs ?_ | refine M.eqNilS_tn ?_ | refine M.eqNilS_ts ?_ | refine M.eqNilS_fn ?_ | refine M.eqNilS_fs ?_ | refine M.lss_t (by omega) ?_ | refine M.lss_f (by omega) ?_ | refine M.leq_t (by omega) ?_ | refine M.leq_f (by omega) ?_ | refine M.gtr_t (by omega) ?_ | refine M.gtr_f (by omega) ?_ | refine M.geq_t (by omega) ?_ | refine M.geq_f (by omega) ?_ | refine M.eql_t (by omega) ?_ | refine M.eql_f (by omega) ?_ | refine M.neq_t (by omega) ?_ | refine M.neq_f (by omega) ?_ | refine M.add_i (by omega) (by omega) ?_ | refine M.sub_i (by omega) (by omega) ?_ | refine M.load_i (by assumption) ?_ | refine M.loadB_i (by assumption) rfl ?_ | refine M.st_i (by assumption) ?_ | refine M.stB_i (by assumption) rfl ?_ | refine M.gs_ff ?_ | refine M.gs_tt ?_ | refine M.gs_ft ?_ | refine M.gs_tf ?_ | refine M.stAll_i (by assumption) rfl ?_))
          exact stop hxs w2 k12
        · simp only [hxs, decide_false]
          (repeat (first | refine M.len_i ?_ | refine M.nilCheck_i ?_ | refine M.field_i ?_ | refine M.draw_i ?_ | refine M.cap_i ?_ | refine M.gd_tt ?_ | refine M.gd_ff ?_ | refine M.gd_ft ?_ | refine M.gd_tf ?_ | refine M.gd_u ?_ | refine M.pick_t ?_ | refine M.pick_f ?_ | refine M.not_t ?_ | refine M.not_f ?_ | refine M.cond_t ?_ | refine M.cond_f ?_ | refine M.eqNilP_tn ?_ | refine M.eqNilP_ts ?_ | refine M.eqNilP_fn ?_ | refine M.eqNilP_fs ?_ | refine M.eqNilS_tn ?_ | refine M.eqNilS_ts ?_ | refine M.eqNilS_fn ?_ | refine M.eqNilS_fs ?_ | refine M.lss_t (by omega) ?_ | refine M.lss_f (by omega) ?_ | refine M.leq_t (by omega) ?_ | refine M.leq_f (by omega) ?_ | refine M.gtr_t (by omega) ?_ | refine M.gtr_f (by omega) ?_ | refine M.geq_t (by omega) ?_ | refine M.geq_f (by omega) ?_ | refine M.eql_t (by omega) ?_ | refine M.eql_f (by omega) ?_ | refine M.neq_t (by omega) ?_ | refine M.neq_f (by omega) ?_ | refine M.add_i (by omega) (by omega) ?_ | refine M.sub_i (by omega) (by omega) ?_ | refine M.load_i (by assumption) ?_ | refine M.loadB_i (by assumption) rfl ?_ | refine M.st_i (by assumption) ?_ | refine M.stB_i (by assumption) rfl ?_ | refine M.gs_ff ?_ | refine M.gs_tt ?_ | refine M.gs_ft ?_ | refine M.gs_tf ?_ | refine M.stAll_i (by assumption) rfl ?_))
          exact skip _ k12 (.inr ⟨hxs, hnx⟩)
      · simp only [hnx, decide_false]
        (repeat (first | refine M.len_i ?_ | refine M.nilCheck_i ?_ | refine M.field_i ?_ | refine M.draw_i ?_ | refine M.cap_i ?_ | refine M.gd_tt ?_ | refine M.gd_ff ?_ | refine M.gd_ft ?_ | refine M.gd_tf ?_ | refine M.gd_u ?_ | refine M.pick_t ?_ | refine M.pick_f ?_ | refine M.not_t ?_ | refine M.not_f ?_ | refine M.cond_t ?_ | refine M.cond_f ?_ | refine M.eqNilP_tn ?_ | refine M.eqNilP_ts ?_ | refine M.eqNilP_fn ?_ | refine M.eqNilP_fs ?_ | refine M.eqNilS_tn ?_ | refine M.eqNilS_ts ?_ | refine M.eqNilS_fn ?_ | refine M.eqNilS_fs ?_ | refine M.lss_t (by omega) ?_ | refine M.lss_f (by omega) ?_ | refine M.leq_t (by omega) ?_ | refine M.leq_f (by omega) ?_ | refine M.gtr_t (by omega) ?_ | refine M.gtr_f (by omega) ?_ | refine M.geq_t (by omega) ?_ | refine M.geq_f (by omega) ?_ | refine M.eql_t (by omega) ?_ | refine M.eql_f (by omega) ?_ | refine M.neq_t (by omega) ?_ | refine M.neq_f (by omega) ?_ | refine M.add_i (by omega) (by omega) ?_ | refine M.sub_i (by omega) (by omega) ?_ | refine M.load_i (by assumption) ?_ | refine M.loadB_i (by assumption) rfl ?_ | refine M.st_i (by assumption) ?_ | refine M.stB_i (by assumption) rfl ?_ | refine M.gs_ff ?_ | refine M.gs_tt ?_ | refine M.gs_ft ?_ | refine M.gs_tf ?_ | refine M.stAll_i (by assumption) rfl ?_))
        refine M.has_i hm ?_
        by_cases hxs : x ∈ s
        · simp only [hxs, decide_true]
          (repeat (first | refine M.len_i ?_ | refine M.nilCheck_i ?_ | refine M.field_i ?_ | refine M.draw_i ?_ | refine M.cap_i ?_ | refine M.gd_tt ?_ | refine M.gd_ff ?_ | refine M.gd_ft ?_ | refine M.gd_tf ?_ | refine M.gd_u ?_ | refine M.pick_t ?_ | refine M.pick_f ?_ | refine M.not_t ?_ | refine M.not_f ?_ | refine M.cond_t ?_ | refine M.cond_f ?_ | refine M.eqNilP_tn ?_ | refine M.eqNilP_ts ?_ | refine M.eqNilP_fn ?_ | refine M.eqNilP_fs ?_ | refine M.eqNilS_tn ?_ | refine M.eqNilS_ts ?_ | refine M.eqNilS_fn ?_ | refine M.eqNilS_fs ?_ | refine M.lss_t (by omega) ?_ | refine M.lss_f (by omega) ?_ | refine M.leq_t (by omega) ?_ | refine M.leq_f (by omega) ?_ | refine M.gtr_t (by omega) ?_ | refine M.gtr_f (by omega) ?_ | refine M.geq_t (by omega) ?_ | refine M.geq_f (by omega) ?_ | refine M.eql_t (by omega) ?_ | refine M.eql_f (by omega) ?_ | refine M.neq_t (by omega) ?_ | refine M.neq_f (by omega) ?_ | refine M.add_i (by omega) (by omega) ?_ | refine M.sub_i (by omega) (by omega) ?_ | refine M.load_i (by assumption) ?_ | refine M.loadB_i (by assumption) rfl ?_ | refine M.st_i (by assumption) ?_ | refine M.stB_i (by assumption) rfl ?_ | refine M.gs_ff ?_ | refine M.gs_tt ?_ | refine M.gs_ft ?_ | refine M.gs_tf ?_ | refine M.stAll_i (by assumption) rfl ?_))
          exact stop hxs w2 k12
        · simp only [hxs, decide_false]
          (repeat (first | refine M.len_i ?_ | refine M.nilCheck_i ?_ | refine M.field_i ?_ | refine M.draw_i ?_ | refine M.cap_i ?_ | refine M.gd_tt ?_ | refine M.gd_ff ?_ | refine M.gd_ft ?_ | refine M.gd_tf ?_ | refine M.gd_u ?_ | refine M.pick_t ?_ | refine M.pick_f ?_ | refine M.not_t ?_ | refine M.not_f ?_ | refine M.cond_t ?_ | refine M.cond_f ?_ | refine M.eqNilP_tn ?_ | refine M.eqNilP_ts ?_ | refine M.eqNilP_fn ?_ | refine M.eqNilP_fs ?_ | refine M.eqNilS_tn ?_ | refine M.eqNilS_ts ?_ | refine M.eqNilS_fn ?_ | refine M.eqNilS_fs ?_ | refine M.lss_t (by omega) ?_ | refine M.lss_f (by omega) ?_ | refine M.leq_t (by omega) ?_ | refine M.leq_f (by omega) ?_ | refine M.gtr_t (by omega) ?_ | refine M.gtr_f (by omega) ?_ | refine M.geq_t (by omega) ?_ | refine M.geq_f (by omega) ?_ | refine M.eql_t (by omega) ?_ | refine M.eql_f (by omega) ?_ | refine M.neq_t (by omega) ?_ | refine M.neq_f (by omega) ?_ | refine M.add_i (by omega) (by omega) ?_ | refine M.sub_i (by omega) (by omega) ?_ | refine M.load_i (by assumption) ?_ | refine M.loadB_i (by assumption) rfl ?_ | refine M.st_i (by assumption) ?_ | refine M.stB_i (by assumption) rfl ?_ | refine M.gs_ff ?_ | refine M.gs_tt ?_ | refine M.gs_ft ?_ | refine M.gs_tf ?_ | refine M.stAll_i (by assumption) rfl ?_))
          have h1 : heldC s (c.take (i + 1)) = false := by rw [e1, heldC_snoc, hh]; simp [hxs]
          have h2 : openC s (c.take (i + 1)) = openC s (c.take i) ++ [x] := by rw [e1, openC_snoc, if_pos ⟨h00, hxs, hnx⟩]
          have hmem : ∀ y, y ∈ openC s (c.take (i + 1)) ↔ y ∈ openC s (c.take i) ∨ y = x := fun y => by rw [h2]; simp
          by_cases hxa : x = a
          · (repeat (first | refine M.len_i ?_ | refine M.nilCheck_i ?_ | refine M.field_i ?_ | refine M.draw_i ?_ | refine M.cap_i ?_ | refine M.gd_tt ?_ | refine M.gd_ff ?_ | refine M.gd_ft ?_ | refine M.gd_tf ?_ | refine M.gd_u ?_ | refine M.pick_t ?_ | refine M.pick_f ?_ | refine M.not_t ?_ | refine M.not_f ?_ | refine M.cond_t ?_ | refine M.cond_f ?_ | refine M.eqNilP_tn ?_ | refine M.eqNilP_ts ?_ | refine M.eqNilP_fn ?_ | refine M.eqNilP_fs ?_ | refine M.eqNilS_tn ?_ | refine M.eqNilS_ts ?_ | refine M.eqNilS_fn ?_ | refine M.eqNilS_fs ?_ | refine M.lss_t (by omega) ?_ | refine M.lss_f (by omega) ?_ | refine M.leq_t (by omega) ?_ | refine M.leq_f (by omega) ?_ | refine M.gtr_t (by omega) ?_ | refine M.gtr_f (by omega) ?_ | refine M.geq_t (by omega) ?_ | refine M.geq_f (by omega) ?_ | refine M.eql_t (by omega) ?_ | refine M.eql_f (by omega) ?_ | refine M.neq_t (by omega) ?_ | refine M.neq_f (by omega) ?_ | refine M.add_i (by omega) (by omega) ?_ | refine M.sub_i (by omega) (by omega) ?_ | refine M.load_i (by assumption) ?_ | refine M.loadB_i (by assumption) rfl ?_ | refine M.st_i (by assumption) ?_ | refine M.stB_i (by assumption) rfl ?_ | refine M.gs_ff ?_ | refine M.gs_tt ?_ | refine M.gs_ft ?_ | refine M.gs_tf ?_ | refine M.stAll_i (by assumption) rfl ?_))
            refine hK2 _ _ ⟨a, n, rfl, by omega, hn0, h1, ?_, k12⟩
            rcases ho with ⟨g1, g2, g3⟩ | ⟨g1, g2, g3⟩ | ⟨g1, g2, y, z, g3, g4, g5⟩
            · omega
            · refine .inr (.inl ⟨g1, (hmem _).2 (.inl g2), fun y hy => ?_⟩)
              rcases (hmem y).1 hy with h | h
              · exact g3 y h
              · rw [h, hxa]
            · exact .inr (.inr ⟨g1, (hmem _).2 (.inl g2), y, z, (hmem _).2 (.inl g3), (hmem _).2 (.inl g4), g5⟩)
          · have hlen : c.length ≤ 100000000000 := hf
            (repeat (first | refine M.len_i ?_ | refine M.nilCheck_i ?_ | refine M.field_i ?_ | refine M.draw_i ?_ | refine M.cap_i ?_ | refine M.gd_tt ?_ | refine M.gd_ff ?_ | refine M.gd_ft ?_ | refine M.gd_tf ?_ | refine M.gd_u ?_ | refine M.pick_t ?_ | refine M.pick_f ?_ | refine M.not_t ?_ | refine M.not_f ?_ | refine M.cond_t ?_ | refine M.cond_f ?_ | refine M.eqNilP_tn ?_ | refine M.eqNilP_ts ?_ | refine M.eqNilP_fn ?_ | refine M.eqNilP_fs ?_ | refine M.eqNilS_tn ?_ | refine M.eqNilS_ts ?_ | refine M.eqNilS_fn ?_ | refine M.eqNilS_fs ?_ | refine M.lss_t (by omega) ?_ | refine M.lss_f (by omega) ?_ | refine M.leq_t (by omega) ?_ | refine M.leq_f (by omega) ?_ | refine M.gtr_t (by omega) ?_ | refine M.gtr_f (by omega) ?_ | refine M.geq_t (by omega) ?_ | refine M.geq_f (by omega) ?_ | refine M.eql_t (by omega) ?_ | refine M.eql_f (by omega) ?_ | refine M.neq_t (by omega) ?_ | refine M.neq_f (by omega) ?_ | refine M.add_i (by omega) (by omega) ?_ | refine M.sub_i (by omega) (by omega) ?_ | refine M.load_i (by assumption) ?_ | refine M.loadB_i (by assumption) rfl ?_ | refine M.st_i (by assumption) ?_ | refine M.stB_i (by assumption) rfl ?_ | refine M.gs_ff ?_ | refine M.gs_tt ?_ | refine M.gs_ft ?_ | refine M.gs_tf ?_ | refine M.stAll_i (by assumption) rfl ?_))
            refine hK2 _ _ ⟨x, n + 1, rfl, by omega, by omega, h1, ?_, k12⟩
            rcases ho with ⟨g1, g2, g3⟩ | ⟨g1, g2, g3⟩ | ⟨g1, g2, y, z, g3, g4, g5⟩
            · refine .inr (.inl ⟨by omega, (hmem _).2 (.inr rfl), fun y hy => ?_⟩)
              rcases (hmem y).1 hy with h | h
              · rw [g3] at h; simp at h
              · exact h
            · exact .inr (.inr ⟨by omega, (hmem _).2 (.inr rfl), a, x, (hmem _).2 (.inl g2), (hmem _).2 (.inr rfl), fun e => hxa e.symm⟩)
            · exact .inr (.inr ⟨by omega, (hmem _).2 (.inr rfl), y, z, (hmem _).2 (.inl g3), (hmem _).2 (.inl g4), g5⟩)
  · (repeat (first | refine M.len_i ?_ | refine M.nilCheck_i ?_ | refine M.field_i ?_ | refine M.draw_i ?_ | refine M.cap_i ?_ | refine M.gd_tt ?_ | refine M.gd_ff ?_ | refine M.gd_ft ?_ | refine M.gd_tf ?_ | refine M.gd_u ?_ | refine M.pick_t ?_ | refine M.pick_f ?_ | refine M.not_t ?_ | refine M.not_f ?_ | refine M.cond_t ?_ | refine M.cond_f ?_ | refine M.eqNilP_tn ?_ | refine M.eqNilP_ts ?_ | refine M.eqNilP_fn ?_ | refine M.eqNilP_fs ?_ | refine M.eqNilS_tn ?_ | refine M.eqNilS_ts ?_ | refine M.eqNilS_fn ?_ | refine M.eqNilS_fs ?_ | refine M.lss_t (by omega) ?_ | refine M.lss_f (by omega) ?_ | refine M.leq_t (by omega) ?_ | refine M.leq_f (by omega) ?_ | refine M.gtr_t (by omega) ?_ | refine M.gtr_f (by omega) ?_ | refine M.geq_t (by omega) ?_ | refine M.geq_f (by omega) ?_ | refine M.eql_t (by omega) ?_ | refine M.eql_f (by omega) ?_ | refine M.neq_t (by omega) ?_ | refine M.neq_f (by omega) ?_ | refine M.add_i (by omega) (by omega) ?_ | refine M.sub_i (by omega) (by omega) ?_ | refine M.load_i (by assumption) ?_ | refine M.loadB_i (by assumption) rfl ?_ | refine M.st_i (by assumption) ?_ | refine M.stB_i (by assumption) rfl ?_ | refine M.gs_ff ?_ | refine M.gs_tt ?_ | refine M.gs_ft ?_ | refine M.gs_tf ?_ | refine M.stAll_i (by assumption) rfl ?_))
    have : i = c.length := by omega
    subst this
    rw [List.take_length] at hh ho
    refine ⟨a, n, false, rfl, .inr ⟨rfl, hh, ?_⟩, k1⟩
    rcases ho with ⟨h1, _, h2⟩ | h | ⟨h1, _, h2⟩
    · exact .inl ⟨h1, h2⟩
    · exact .inr (.inl h)
    · exact .inr (.inr ⟨h1, h2⟩)
end Go.Proofs.Ytfkbacoiocniaaa
