import Derived.Test.YthkkjjbjpbgcpaaSem16e
import Derived.Test.YthkkjjbjpbgcpaaSort
import Derived.WideLaws
namespace Go.Proofs.Ythkkjjbjpbgcpaa
open Go.Mw Go.Maps Go.MapKept
set_option linter.unusedVariables false
set_option linter.unusedSimpArgs false
set_option maxRecDepth 100000
attribute [local irreducible] M.val M.unit M.next M.pick M.new M.nilCheck M.load1 M.loadA M.store M.fieldAddr M.indexSl M.indexArr M.slice M.makeSlice M.buildSlice M.len M.lenS M.cap M.append M.extract M.conv M.not M.neg M.bin M.shift M.eqB M.eqNil M.scat M.call M.callv M.gd M.share M.cond M.loop M.draw pureW readW Ret
/-! breakwater/sem.below: function 58 -/
def sh58 (x0 x1 : Value) (R : Kt) (w : World) : Prop :=
  M.val Try.prog (Instr.makeMap 99 none) (fun t8 w =>
  M.share (fun K1 w =>
  M.call Try.prog 20 #[x0, x1] (fun t12 w =>
  M.extract 0 t12 (fun t13 w =>
  M.extract 1 t12 (fun t14 w =>
  M.new 55 #[.int .i64 0, .int .i64 0, .int .i64 0, .int .i64 0, .int .i64 0, .int .u64 0] (fun t6 w =>
  M.store 6 t6 t13 (fun _ w =>
  M.cond t14
  (M.call Try.prog 68 #[x0, x1, t8, (.func (.func 69) #[] #[])] (fun t19 w =>
  K1 [] w) w)
  (K1 [] w)) w) w) w) w) w) (fun s1 w => ∀ _ : List Value,
  R t8 w) w) w
theorem ok58 (x0 x1 : Value) (R : Kt) (w : World) (h : sh58 x0 x1 R w) : Ret Try.prog 58 #[x0, x1] w R :=
  ret_mk <| calls_of_comp mixed (c := Try.f58.body.getD .skip) (args := [x0, x1]) (rs := [(ResultVar.tmp 4)]) (Ann.seq Ann.text (Ann.seq Ann.text (Ann.join [] [6, 7, 9, 10, 11, 12, 13, 14, 15, 16, 17, 18, 19] (Ann.seq Ann.text (Ann.seq Ann.text (Ann.cond Ann.text Ann.leaf))) (Ann.seq Ann.text Ann.leaf))))
    Try.func58 (by kernel_rfl) (by kernel_rfl)
    (Eq.mp (by kernel_rfl) h)
/-! breakwater/sem.Vars: function 29 -/
def sh29 (x0 x1 : Value) (R : Kt) (w : World) : Prop :=
  M.call Try.prog 58 #[x0, x1] (fun t10 w =>
  M.val Try.prog (Instr.range 99 t10) (fun t11 w =>
  M.loop [(Value.slice none 0 0)] (fun s1 K1 w => ∀ _ : List Value,
  M.val Try.prog (Instr.next t11 false 0) (fun t12 w =>
  M.extract 0 t12 (fun t13 w =>
  M.cond t13
  (M.share (fun K2 w =>
  M.val Try.prog (Instr.entry t11) (fun t14 w =>
  M.extract 1 t14 (fun t15 w =>
  M.new 55 #[.int .i64 0, .int .i64 0, .int .i64 0, .int .i64 0, .int .i64 0, .int .u64 0] (fun t7 w =>
  M.store 6 t7 t15 (fun _ w =>
  M.fieldAddr 0 t7 (fun t16 w =>
  M.load1 t16 (fun t17 w =>
  M.bin .eql t17 (Value.int IntKind.i64 21) (fun t18 w =>
  M.cond t18
  (M.fieldAddr 2 t7 (fun t20 w =>
  M.load1 t20 (fun t21 w =>
  M.buildSlice 3 1 #[.int .i64 0] 1 [(0, t21)] (fun t22 w =>
  M.append 3 1 8 #[.int .i64 0] (s1.getD 0 undef) t22 (fun t23 w =>
  K2 [t23] w) w) w) w) w)
  (K2 [(s1.getD 0 undef)] w)) w) w) w) w) w) w) w) (fun s2 w => ∀ _ : List Value,
  K1 [(s2.getD 0 undef)] w) w)
  (M.call Try.prog 59 #[(s1.getD 0 undef)] (fun t25 w =>
  M.call Try.prog 60 #[(s1.getD 0 undef)] (fun t27 w =>
  R t27 w) w) w)) w) w) w) w) w
theorem ok29 (x0 x1 : Value) (R : Kt) (w : World) (h : sh29 x0 x1 R w) : Ret Try.prog 29 #[x0, x1] w R :=
  ret_mk <| calls_of_comp mixed (c := Try.f29.body.getD .skip) (args := [x0, x1]) (rs := [(ResultVar.tmp 4)]) (Ann.seq Ann.text (Ann.seq Ann.text (Ann.seq (Ann.seq Ann.text (Ann.block (Ann.loop [5] [7, 12, 13, 14, 15, 16, 17, 18, 19, 20, 21, 22, 23] (Ann.seq Ann.text (Ann.seq (Ann.cond Ann.leaf Ann.leaf) (Ann.jblock [5] [7, 14, 15, 16, 17, 18, 19, 20, 21, 22, 23] (Ann.seq Ann.text (Ann.seq Ann.text (Ann.cond Ann.text Ann.leaf))))))))) (Ann.seq Ann.text (Ann.seq Ann.text Ann.leaf)))))
    Try.func29 (by kernel_rfl) (by kernel_rfl)
    (Eq.mp (by kernel_rfl) h)

theorem MapO.nodup {w : World} {r : Nat} {kv : List (Int × Value)} (h : MapO w r kv) : (kv.map (·.1)).Nodup := by
  obtain ⟨es, c, h1, h2, h3⟩ := h
  have h4 := h2.2.2
  rw [keys_of h3] at h4
  have : (kv.map (fun p => vi p.1)) = (kv.map (·.1)).map vi := by rw [List.map_map]; rfl
  rw [this] at h4
  exact List.Pairwise.of_map vi (fun a b h e => h (by rw [e])) h4
theorem M.lenMap_i {k : Kt} {w : World} {t ty : TypeId} {cs : Array Bool} {r : Nat} {kv : List (Int × Value)} (ht : Try.prog.underlying t = some (.map (Try.prog.mapKeyOf t) (Try.prog.mapElemOf t))) (hm : MapO w r kv) (h : k (vi kv.length) w) :
    M.next Try.prog (builtin .len #[t] ty cs #[.map (some r)]) k w := by
  obtain ⟨es, c, h1, h2, h3⟩ := hm
  have hl : es.size = kv.length := by
    have := congrArg List.length h3
    simpa using this
  refine M.next_i (v := vi kv.length) (w' := w) ?_ h
  have := run_len_map (P := Try.prog) w t ty r es c ht h1
  rw [hl] at this
  exact this
theorem lkp_mem {kv : List (Int × Value)} {x : Int} : (∃ v, lkp kv x = some v) ↔ x ∈ kv.map (·.1) := by
  unfold lkp
  constructor
  · rintro ⟨v, h⟩
    cases hf : kv.find? (fun p => decide (p.1 = x)) with
    | none => simp [hf] at h
    | some p =>
      have h1 := List.mem_of_find?_eq_some hf
      have h2 := List.find?_some hf
      simp at h2
      exact List.mem_map.2 ⟨p, h1, h2⟩
  · intro h
    obtain ⟨p, hp, rfl⟩ := List.mem_map.1 h
    cases hf : kv.find? (fun q => decide (q.1 = p.1)) with
    | none =>
      rw [List.find?_eq_none] at hf
      exact absurd (by simp) (hf p hp)
    | some q => exact ⟨q.2, rfl⟩
theorem lkp_at {kv : List (Int × Value)} (hn : (kv.map (·.1)).Nodup) {x : Int} {v : Value} (h : (x, v) ∈ kv) : lkp kv x = some v := by
  unfold lkp
  cases hf : kv.find? (fun p => decide (p.1 = x)) with
  | none =>
    rw [List.find?_eq_none] at hf
    exact absurd (by simp) (hf _ h)
  | some q =>
    have h1 := List.mem_of_find?_eq_some hf
    have h2 := List.find?_some hf
    simp at h2
    obtain ⟨i, hi⟩ := List.mem_iff_getElem?.1 h
    obtain ⟨j, hj⟩ := List.mem_iff_getElem?.1 h1
    have : i = j := nodup_idx hn (a := x) (by simp [hi]) (by simp [hj, h2])
    subst this
    rw [hi] at hj
    cases hj; rfl
/-- All terms that a term is made of, as a map. -/
def BelO (w : World) (r : Nat) (N : List Nd) (id : Int) : Prop := ∃ kv, MapO w r kv ∧ (∀ x, x ∈ kv.map (·.1) ↔ x ∈ belN N id) ∧ ∀ x v, (x, v) ∈ kv → v = encN (nodeAt N x)
theorem below_ret {w : World} {F : Nat → Prop} {p : Nat} {N : List Nd} {most : Int} (hd : DagO w F p N most) (id : Int) :
    Ret Try.prog 58 #[ptr p, vi id] w (fun x w' => ∃ r, x = .map (some r) ∧ w.heap.size ≤ r ∧ BelO w' r N id ∧ Keep w w' No) := by
  have hG := hd.good
  refine ok58 _ _ _ _ ?_
  unfold sh58
  refine M.makeMap_i (fun w1 m1 k1 s1 => ?_)
  refine M.share_j (fun vals w' => BelO w' w.heap.size N id ∧ Keep w w' No) ?_ ?_
  · rintro vals w2 ⟨h1, h2⟩ _
    exact ⟨_, rfl, Nat.le_refl _, h1, h2⟩
  · intro K hK
    have hd1 := hd.keepN k1
    refine M.call_i (hd1.node id) ?_; rintro _ w2 ⟨rfl, k2⟩
    refine M.extract_i rfl ?_
    refine M.extract_i rfl ?_
    refine M.new_i (l := zeroNd.cells) (fun w3 b3 k3 s3 => ?_)
    refine M.storeAll_i b3 rfl rfl (cells_one _) (fun w4 b4 k4 s4 => ?_)
    have q2 := k2.size
    have k14 : Keep w1 w4 No := (k2.trans k3 (fun _ _ h => h)).trans k4 (fun b hb h => by omega)
    have m4 := m1.keep k14 (fun h => h)
    cases hid : isN N id with
    | false =>
      (repeat (first|refine ja ?_|refine jb ?_|refine jc ?_|refine jd ?_|refine je ?_|refine jf ?_|refine jg ?_|refine jh ?_|refine ji ?_|refine jj ?_|refine jk ?_|refine jl ?_|refine jm ?_|refine jn ?_|refine jo ?_|refine jp ?_|refine jq ?_|refine jr ?_|refine js ?_|refine jt ?_|refine ju ?_|refine jv ?_|refine jw ?_|refine jx ?_|refine jy ?_|refine jz ?_|refine jA ?_|refine jB ?_|refine jC ?_|refine jD ?_|refine jE ?_|refine jF ?_|refine jG ?_|refine jH ?_|refine jI ?_|refine jJ ?_|refine jK ?_|refine jL ?_|refine jM (by assumption) ?_|refine jN (by assumption) rfl ?_|refine jO (by assumption) ?_|refine jP (by assumption) rfl ?_|refine jQ ?_|refine jR ?_|refine jS ?_|refine jT ?_|refine jU (by assumption) rfl ?_))
      refine hK _ _ ⟨⟨[], m4, fun x => ?_, fun x v h => by simp at h⟩, k1.trans k14 (fun _ _ h => h)⟩
      rw [mem_belN hG, hid]; simp
    | true =>
      (repeat (first|refine ja ?_|refine jb ?_|refine jc ?_|refine jd ?_|refine je ?_|refine jf ?_|refine jg ?_|refine jh ?_|refine ji ?_|refine jj ?_|refine jk ?_|refine jl ?_|refine jm ?_|refine jn ?_|refine jo ?_|refine jp ?_|refine jq ?_|refine jr ?_|refine js ?_|refine jt ?_|refine ju ?_|refine jv ?_|refine jw ?_|refine jx ?_|refine jy ?_|refine jz ?_|refine jA ?_|refine jB ?_|refine jC ?_|refine jD ?_|refine jE ?_|refine jF ?_|refine jG ?_|refine jH ?_|refine jI ?_|refine jJ ?_|refine jK ?_|refine jL ?_|refine jM (by assumption) ?_|refine jN (by assumption) rfl ?_|refine jO (by assumption) ?_|refine jP (by assumption) rfl ?_|refine jQ ?_|refine jR ?_|refine jS ?_|refine jT ?_|refine jU (by assumption) rfl ?_))
      have hF : ¬ F w.heap.size := fun h => by have := hd.lt h; omega
      refine M.call_i (onceN_ret (hd1.keepN k14) hid m4 hF) ?_
      rintro _ w5 ⟨kv, held, m5, hh, hr, k5⟩
      refine hK _ _ ⟨⟨kv, m5, fun x => ?_, fun x v h => ?_⟩, ((k1.trans k14 (fun _ _ h => h)).trans k5 (fun b hb h => by omega))⟩
      · rw [mem_belN hG, hid, ← lkp_mem, hh x, ← hr x]
        by_cases hx : x ∈ held <;> simp [hx]
      · have h1 := lkp_at (MapO.nodup m5) h
        rw [hh x] at h1
        by_cases hx : x ∈ held
        · rw [if_pos hx] at h1; exact (Option.some.inj h1).symm
        · rw [if_neg hx] at h1; simp at h1
theorem filt_lt {x : Int} : ∀ (L : List Int), x ∈ L → (L.filter (decide <| · ≠ x)).length < L.length := by
  intro L
  induction L with
  | nil => intro h; simp at h
  | cons a L ih =>
    intro h
    simp only [List.filter_cons]
    have hle := List.length_filter_le (decide <| · ≠ x) L
    by_cases ha : a = x
    · rw [if_neg (by simpa using ha), List.length_cons]; omega
    · rw [if_pos (by simpa using ha)]
      have := ih (by rcases List.mem_cons.1 h with h | h; exact absurd h.symm ha; exact h)
      rw [List.length_cons, List.length_cons]; omega
theorem varsA_app (N : List Nd) (a b : List Int) : varsA N (a ++ b) = varsA N a ++ varsA N b := by unfold varsA; rw [List.filterMap_append]
theorem vars_ret {w : World} {F : Nat → Prop} {p : Nat} {N : List Nd} {most : Int} (hd : DagO w F p N most) (id : Int) :
    Ret Try.prog 29 #[ptr p, vi id] w (fun x w' => GI w' (w.heap.size ≤ ·) x (varsN N id) ∧ Keep w w' No) := by
  have hG := hd.good
  have hNl := hd.len.1
  refine ok29 _ _ _ _ ?_
  unfold sh29
  refine M.call_i (below_ret hd id) ?_; rintro _ w1 ⟨r, rfl, hr, ⟨kv, m1, h1, h2⟩, k1⟩
  have q1 := k1.size
  have hrl := m1.lt
  have hnd := MapO.nodup m1
  have hkl : (kv.map (·.1)).length ≤ N.length := by rw [nodup_len hnd (nodup_belN N id) h1]; exact belN_len
  refine M.range_i (kt := 3) (et := 55) (by kernel_rfl) m1 (fun w2 hit k2 s2 => ?_)
  refine M.loop_i (σ := List Int × List Int × Option Int) (fun t vals w' => ∃ vo, vals = [vo] ∧ IterO w' w1.heap.size r kv t.1 t.2.2 ∧ GI w' (fun b => w1.heap.size < b) vo (varsA N t.2.1) ∧ (∀ y, y ∈ kv.map (·.1) ↔ y ∈ t.2.1 ∨ y ∈ t.1) ∧ t.2.1.length + t.1.length ≤ N.length ∧ Keep w w' No)
    (fun t => t.1.length) (kv.map (·.1), [], none) ⟨_, rfl, hit, GI.nil _ _, by simp, by simpa using hkl, k1.trans k2 (fun _ _ h => h)⟩ ?_
  rintro ⟨left, cs, last⟩ vals w3 K ⟨vo, rfl, hit, ho, hmem, hlen, k3⟩ hK _
  simp only at hit ho hmem hlen
  simp only [List.getD_cons_zero, List.getD_cons_succ]
  have q3 := k3.size
  refine M.mapNext_i hit (by omega) (fun hleft => ?_) (fun x xv w7 hx hxv hit7 k7 s7 => ?_)
  · subst hleft
    refine M.extract_i rfl ?_
    (repeat (first|refine ja ?_|refine jb ?_|refine jc ?_|refine jd ?_|refine je ?_|refine jf ?_|refine jg ?_|refine jh ?_|refine ji ?_|refine jj ?_|refine jk ?_|refine jl ?_|refine jm ?_|refine jn ?_|refine jo ?_|refine jp ?_|refine jq ?_|refine jr ?_|refine js ?_|refine jt ?_|refine ju ?_|refine jv ?_|refine jw ?_|refine jx ?_|refine jy ?_|refine jz ?_|refine jA ?_|refine jB ?_|refine jC ?_|refine jD ?_|refine jE ?_|refine jF ?_|refine jG ?_|refine jH ?_|refine jI ?_|refine jJ ?_|refine jK ?_|refine jL ?_|refine jM (by assumption) ?_|refine jN (by assumption) rfl ?_|refine jO (by assumption) ?_|refine jP (by assumption) rfl ?_|refine jQ ?_|refine jR ?_|refine jS ?_|refine jT ?_|refine jU (by assumption) rfl ?_))
    have hvl := varsA_len (N := N) (l := cs)
    have hlen : cs.length ≤ N.length := by simpa using hlen
    refine M.call_i (sort_ret ho (by omega)) ?_; rintro _ w7 ⟨rfl, g7, k7⟩
    have hfew : Few ((varsA N cs).mergeSort leI).length := by rw [List.length_mergeSort]; show _ ≤ 100000000000; omega
    refine M.call_i (compact_ret g7 hfew (sort_le _)) ?_; rintro _ w8 ⟨g8, k8⟩
    have e : srt ((varsA N cs).mergeSort leI) = varsN N id := by
      rw [srt_ext (m := varsA N cs) (fun y => List.mem_mergeSort)]
      refine varsN_of (fun x => ?_)
      rw [← h1, hmem]; simp
    rw [e] at g8
    exact ⟨g8.mono (fun b hb h => by have h : w1.heap.size < b := h; show w.heap.size ≤ b; omega), (k3.trans k7 (fun b hb h => by have h : w1.heap.size < b := h; omega)).trans k8 (fun b hb h => by have h : w1.heap.size < b := h; omega)⟩
  · refine M.extract_i rfl ?_
    have hflt := filt_lt left hx
    have hitl : w1.heap.size < w3.heap.size := by
      obtain ⟨_, _, _, _, _, _, _, g, _⟩ := hit
      exact lt_of_heap g
    have ho7 := ho.keep k7 (fun b hb h1 h2 => by have h1 : w1.heap.size < b := h1; omega)
    have k37 : Keep w w7 No := k3.trans k7 (fun b hb h => by omega)
    have hm7 : ∀ y, y ∈ kv.map (·.1) ↔ y ∈ cs ++ [x] ∨ y ∈ left.filter (decide <| · ≠ x) := fun y => by
      rw [hmem, List.mem_append, List.mem_filter]
      by_cases hy : y = x
      · subst hy; simp [hx]
      · simp [hy]
    (repeat (first|refine ja ?_|refine jb ?_|refine jc ?_|refine jd ?_|refine je ?_|refine jf ?_|refine jg ?_|refine jh ?_|refine ji ?_|refine jj ?_|refine jk ?_|refine jl ?_|refine jm ?_|refine jn ?_|refine jo ?_|refine jp ?_|refine jq ?_|refine jr ?_|refine js ?_|refine jt ?_|refine ju ?_|refine jv ?_|refine jw ?_|refine jx ?_|refine jy ?_|refine jz ?_|refine jA ?_|refine jB ?_|refine jC ?_|refine jD ?_|refine jE ?_|refine jF ?_|refine jG ?_|refine jH ?_|refine jI ?_|refine jJ ?_|refine jK ?_|refine jL ?_|refine jM (by assumption) ?_|refine jN (by assumption) rfl ?_|refine jO (by assumption) ?_|refine jP (by assumption) rfl ?_|refine jQ ?_|refine jR ?_|refine jS ?_|refine jT ?_|refine jU (by assumption) rfl ?_))
    refine M.share_j (fun vals w' => ∃ vo, vals = [vo] ∧ IterO w' w1.heap.size r kv (left.filter (decide <| · ≠ x)) (some x) ∧ GI w' (fun b => w1.heap.size < b) vo (varsA N (cs ++ [x])) ∧ Keep w w' No) ?_ ?_
    · rintro vals w8 ⟨vo, rfl, hit8, g8, k8⟩ _
      simp only [List.getD_cons_zero, List.getD_cons_succ]
      refine hK (left.filter (decide <| · ≠ x), cs ++ [x], some x) _ _ hflt ⟨vo, rfl, hit8, g8, hm7, ?_, k8⟩
      show (cs ++ [x]).length + (left.filter (decide <| · ≠ x)).length ≤ N.length
      rw [List.length_append, List.length_singleton]; omega
    · intro K2 hK2
      refine M.entry_i hit7 (fun xv' hxv' => ?_)
      refine M.extract_i rfl ?_
      have := h2 x xv' hxv'
      subst this
      refine M.new_i (l := zeroNd.cells) (fun w8 b8 k8 s8 => ?_)
      refine M.storeAll_i b8 rfl rfl (cells_one _) (fun w9 b9 k9 s9 => ?_)
      have b9 : Blk w9 w7.heap.size [vi (nodeAt N x).op, vi (nodeAt N x).wd, vi (nodeAt N x).a, vi (nodeAt N x).b, vi (nodeAt N x).c, vw (nodeAt N x).val] := b9
      have k79 : Keep w7 w9 No := k8.trans k9 (fun b hb h => by omega)
      have hit9 := hit7.keep k79 (fun h => h) (fun h => h)
      have ho9 := ho7.keep k79 (fun _ _ _ h => h)
      have hxb : x ∈ belN N id := (h1 x).1 ((hmem x).2 (.inr hx))
      have hxN : isN N x = true := by
        obtain ⟨h3, h4⟩ := (mem_belN hG).1 hxb
        exact h4.is hG h3
      have hnode : N[x.toNat]? = some (nodeAt N x) := by
        obtain ⟨j, n, rfl, hn⟩ := isN_get hxN
        unfold nodeAt
        rw [hxN, Int.toNat_natCast, hn]; rfl
      by_cases hop : (nodeAt N x).op = 21
      · (repeat (first|refine ja ?_|refine jb ?_|refine jc ?_|refine jd ?_|refine je ?_|refine jf ?_|refine jg ?_|refine jh ?_|refine ji ?_|refine jj ?_|refine jk ?_|refine jl ?_|refine jm ?_|refine jn ?_|refine jo ?_|refine jp ?_|refine jq ?_|refine jr ?_|refine js ?_|refine jt ?_|refine ju ?_|refine jv ?_|refine jw ?_|refine jx ?_|refine jy ?_|refine jz ?_|refine jA ?_|refine jB ?_|refine jC ?_|refine jD ?_|refine jE ?_|refine jF ?_|refine jG ?_|refine jH ?_|refine jI ?_|refine jJ ?_|refine jK ?_|refine jL ?_|refine jM (by assumption) ?_|refine jN (by assumption) rfl ?_|refine jO (by assumption) ?_|refine jP (by assumption) rfl ?_|refine jQ ?_|refine jR ?_|refine jS ?_|refine jT ?_|refine jU (by assumption) rfl ?_))
        refine M.buildSlice_i [vi (nodeAt N x).a] (by kernel_rfl) (fun w10 b10 k10 s10 => ?_)
        have hvl := varsA_len (N := N) (l := cs)
        refine M.append1_i (ho9.keep k10 (fun _ _ _ h => h)) (Row.of_blk' (D := fun _ => True) b10 trivial) rfl (by omega) (fun v11 w11 g11 k11 => ?_)
        have q79 := k79.size
        refine hK2 _ _ ⟨v11, rfl, (hit9.keep k10 (fun h => h) (fun h => h)).keep k11 (fun h => by have h : w1.heap.size < w1.heap.size := h; omega) (fun h => by have h : w1.heap.size < r := h; omega), ?_, ((k37.trans k79 (fun _ _ h => h)).trans k10 (fun _ _ h => h)).trans k11 (fun b hb h => by have h : w1.heap.size < b := h; omega)⟩
        have e : varsA N (cs ++ [x]) = varsA N cs ++ [(nodeAt N x).a] := by
          rw [varsA_app]
          congr 1
          unfold varsA
          simp [hnode, hop]
        rw [e]
        exact g11.mono (fun b hb h => by
          rcases h with h | h
          · exact h
          · show w1.heap.size < b; omega)
      · (repeat (first|refine ja ?_|refine jb ?_|refine jc ?_|refine jd ?_|refine je ?_|refine jf ?_|refine jg ?_|refine jh ?_|refine ji ?_|refine jj ?_|refine jk ?_|refine jl ?_|refine jm ?_|refine jn ?_|refine jo ?_|refine jp ?_|refine jq ?_|refine jr ?_|refine js ?_|refine jt ?_|refine ju ?_|refine jv ?_|refine jw ?_|refine jx ?_|refine jy ?_|refine jz ?_|refine jA ?_|refine jB ?_|refine jC ?_|refine jD ?_|refine jE ?_|refine jF ?_|refine jG ?_|refine jH ?_|refine jI ?_|refine jJ ?_|refine jK ?_|refine jL ?_|refine jM (by assumption) ?_|refine jN (by assumption) rfl ?_|refine jO (by assumption) ?_|refine jP (by assumption) rfl ?_|refine jQ ?_|refine jR ?_|refine jS ?_|refine jT ?_|refine jU (by assumption) rfl ?_))
        refine hK2 _ _ ⟨_, rfl, hit9, ?_, k37.trans k79 (fun _ _ h => h)⟩
        have e : varsA N (cs ++ [x]) = varsA N cs := by
          rw [varsA_app]
          have : varsA N [x] = [] := by
            unfold varsA
            simp [hnode, hop]
          rw [this, List.append_nil]
        rw [e]; exact ho9
end Go.Proofs.Ythkkjjbjpbgcpaa
