import Derived.Test.YtnbcglnefoinlaaK4
namespace Go.Proofs.Ytnbcglnefoinlaa
open Go.Mw Go.Maps Go.MapKept
set_option linter.unusedVariables false
set_option linter.unusedSimpArgs false
set_option maxRecDepth 100000
attribute [local irreducible] M.val M.unit M.next M.pick M.new M.nilCheck M.load1 M.loadA M.store M.fieldAddr M.indexSl M.indexArr M.slice M.makeSlice M.buildSlice M.len M.lenS M.cap M.append M.extract M.conv M.not M.neg M.bin M.shift M.eqB M.eqNil M.scat M.call M.callv M.gd M.share M.cond M.loop M.draw pureW readW Ret
def sh90 (x0 x1 : Value) (R : Kt) (w : World) : Prop :=
  M.bin .mul (Value.int IntKind.i64 2) x1 (fun t9 w =>
  M.makeSlice 3 1 8 #[.int .i64 0] x1 t9 (fun t10 w =>
  M.len t10 (fun t12 w =>
  M.loop [(Value.int IntKind.i64 0)] (fun s1 K1 w => ∀ _ : List Value,
  M.bin .lss (s1.getD 0 undef) t12 (fun t14 w =>
  M.cond t14
  (M.call Try.prog 27 #[x0] (fun t19 w =>
  M.call Try.prog 26 #[t19] (fun t20 w =>
  M.indexSl 1 t10 (s1.getD 0 undef) (fun t21 w =>
  M.store 1 t21 t20 (fun _ w =>
  M.bin .add (s1.getD 0 undef) (Value.int IntKind.i64 1) (fun t22 w =>
  K1 [t22] w) w) w) w) w) w)
  (R t10 w)) w) w) w) w) w
theorem ok90 (x0 x1 : Value) (R : Kt) (w : World) (h : sh90 x0 x1 R w) : Ret Try.prog 90 #[x0, x1] w R :=
  ret_mk <| calls_of_comp mixed (c := Try.f90.body.getD .skip) (args := [x0, x1]) (rs := [(ResultVar.tmp 4)]) (Ann.seq Ann.text (Ann.seq Ann.text (Ann.seq (Ann.seq Ann.text (Ann.block (Ann.loop [13] [6, 14, 15, 16, 17, 18, 19, 20, 21, 22] (Ann.seq Ann.text (Ann.seq (Ann.cond Ann.leaf Ann.leaf) (Ann.seq (Ann.block (Ann.seq Ann.text Ann.text)) Ann.text)))))) (Ann.seq Ann.text Ann.leaf))))
    Try.func90 (by kernel_rfl) (by kernel_rfl)
    (Eq.mp (by kernel_rfl) h)
def sh62 (x0 x1 x2 : Value) (R : Kt) (w : World) : Prop :=
  M.call Try.prog 30 #[x0, (Value.int IntKind.i64 0), x1, x2] (fun t16 w =>
  M.len t16 (fun t17 w =>
  M.bin .eql t17 (Value.int IntKind.i64 0) (fun t18 w =>
  M.cond t18
  (R (Value.slice none 0 0) w)
  (M.len x1 (fun t21 w =>
  M.call Try.prog 90 #[x0, t21] (fun t22 w =>
  M.len x2 (fun t24 w =>
  M.loop [t22, (Value.int IntKind.i64 0)] (fun s1 K1 w => ∀ _ : List Value,
  M.bin .lss (s1.getD 1 undef) t24 (fun t26 w =>
  M.cond t26
  (M.indexSl 1 x2 (s1.getD 1 undef) (fun t28 w =>
  M.load1 t28 (fun t29 w =>
  M.len (s1.getD 0 undef) (fun t33 w =>
  M.len (s1.getD 0 undef) (fun t35 w =>
  M.slice 1 (s1.getD 0 undef) (some (s1.getD 1 undef)) (some t33) (some t35) (fun t36 w =>
  M.len t36 (fun t38 w =>
  M.makeSlice 3 1 8 #[.int .i64 0] t38 t38 (fun t39 w =>
  M.len t39 (fun t41 w =>
  M.loop [(Value.int IntKind.i64 0)] (fun s2 K2 w => ∀ _ : List Value,
  M.bin .lss (s2.getD 0 undef) t41 (fun t43 w =>
  M.cond t43
  (M.indexSl 1 x1 (s2.getD 0 undef) (fun t51 w =>
  M.load1 t51 (fun t52 w =>
  M.call Try.prog 65 #[x0, t29, t52] (fun t53 w =>
  M.indexSl 1 t39 (s2.getD 0 undef) (fun t54 w =>
  M.store 1 t54 t53 (fun _ w =>
  M.bin .add (s2.getD 0 undef) (Value.int IntKind.i64 1) (fun t55 w =>
  K2 [t55] w) w) w) w) w) w) w)
  (M.draw (fun w =>
  M.slice 1 (s1.getD 0 undef) none (some (s1.getD 1 undef)) (some (s1.getD 1 undef)) (fun t59 w =>
  M.call Try.prog 61 #[x0, t36, t39] (fun t63 w =>
  M.append 3 1 8 #[.int .i64 0] t59 t63 (fun t64 w =>
  M.bin .add (s1.getD 1 undef) (Value.int IntKind.i64 1) (fun t65 w =>
  K1 [t64, t65] w) w) w) w) w) w)) w) w) w) w) w) w) w) w) w) w)
  (R (s1.getD 0 undef) w)) w) w) w) w) w)) w) w) w
theorem ok62 (x0 x1 x2 : Value) (R : Kt) (w : World) (h : sh62 x0 x1 x2 R w) : Ret Try.prog 62 #[x0, x1, x2] w R :=
  ret_mk <| calls_of_comp mixed (c := Try.f62.body.getD .skip) (args := [x0, x1, x2]) (rs := [(ResultVar.tmp 6)]) (Ann.seq Ann.text (Ann.seq (Ann.seq Ann.text (Ann.cond (Ann.seq Ann.text Ann.leaf) Ann.leaf)) (Ann.seq Ann.text (Ann.seq (Ann.seq Ann.text (Ann.block (Ann.loop [7, 25] [8, 9, 10, 11, 12, 26, 27, 28, 29, 30, 31, 32, 33, 34, 35, 36, 37, 38, 39, 40, 41, 42, 43, 44, 45, 46, 47, 48, 49, 50, 51, 52, 53, 54, 55, 56, 57, 58, 59, 60, 61, 62, 63, 64, 65] (Ann.seq Ann.text (Ann.seq (Ann.cond Ann.leaf Ann.leaf) (Ann.seq (Ann.block (Ann.seq Ann.text (Ann.seq Ann.text (Ann.seq Ann.text (Ann.seq (Ann.seq Ann.text (Ann.block (Ann.loop [42] [12, 43, 44, 45, 46, 47, 48, 49, 50, 51, 52, 53, 54, 55] (Ann.seq Ann.text (Ann.seq (Ann.cond Ann.leaf Ann.leaf) (Ann.seq (Ann.block (Ann.seq Ann.text Ann.text)) Ann.text)))))) (Ann.draw (Sch.take 0 (Sch.take 1 (Sch.take 2 (Sch.take 3 (Sch.take 4 (Sch.take 5 (Sch.take 6 (Sch.one 7 (Sch.one 8 (Sch.take 9 Sch.done)))))))))))))))) Ann.text)))))) (Ann.seq Ann.text Ann.leaf)))))
    Try.func62 (by kernel_rfl) (by kernel_rfl)
    (Eq.mp (by kernel_rfl) h)
theorem M.appendF_i {k : Kt} {w : World} {el sz bytes : Nat} {zero : Array Value} {D D' : Nat → Prop} {A B : Option Addr} {n m c : Nat} {xs ys : List Value}
    (h : Row w D A xs) (hx : xs.length = n * sz) (hr : Row w D' B ys) (hm : ys.length = m * sz) (hm0 : 0 < m) (hz : zero.size = sz) (hb0 : 0 < bytes)
    (hb : (2 * (n + m) + 512) * bytes ≤ 281474976710656)
    (hk : ∀ v' w', GC w' (w.heap.size ≤ ·) sz v' (n + m) (xs ++ ys) → Keep w w' No → k v' w') : M.append el sz bytes zero (.slice A n n) (.slice B m c) k w := by
  have hsrc := hr.srcL hm.symm
  have hold := h.srcL hx.symm
  have hlen : (xs ++ ys).length = (n + m) * sz := by simp [hx, hm, Nat.add_mul]
  unfold M.append
  refine ⟨ys, hsrc, ?_⟩
  rw [if_neg (by omega)]
  have hn := Go.Mw.nextslicecap_le (n := n + m) (c := n) (by omega)
  refine ⟨⟨Nat.le_trans (Nat.mul_le_mul_right bytes hn) hb, hb0⟩, xs, hold, fun c' h1 h2 => ?_⟩
  refine hk _ _ ⟨hlen, .inr ⟨_, c', (Builtin.zeroCells zero (c' - (n + m))).toList, rfl, Nat.le_refl _, ?_, ?_⟩⟩ ?_
  · have := Blk.alloc w.drew (xs ++ ys ++ (Builtin.zeroCells zero (c' - (n + m))).toList) el
    simpa using this
  · have e1 : (Builtin.zeroCells zero (c' - (n + m))).toList.length = (c' - (n + m)) * sz := by simp [Builtin.zeroCells, hz]
    rw [e1, hlen, ← Nat.add_mul]
    congr 1; omega
  · exact (Keep.drew w No).trans (Keep.alloc w.drew _ No) (fun _ _ h => h)
theorem Row.samez {w : World} {D : Nat → Prop} {A : Option Addr} {l : List Value} {sz n : Nat} (h : Row w D A l) (hn : l.length = n * sz) : Row w D (if n = 0 then A else A.map (·.add (0 * sz))) l := by
  split
  · exact h
  · have := h.drop 0
    simpa [add_mk] using this
theorem sl3_to {n c h : Nat} (hc : h ≤ c) : sl3 n c none (some (vi h)) (some (vi h)) = some (0, h, h) := by
  unfold sl3; simp only [sb_i hc, sb_i (Nat.le_refl h)]
theorem M.makeSlice2_i {k : Kt} {w : World} {el sz bytes : Nat} {zero : Array Value} {n c : Nat} {z : Value} (hz : zero = #[z]) (hs : sz = 1) (hnc : n ≤ c) (hb : bytes * c ≤ 281474976710656) (hn : c < 9223372036854775808)
    (h : ∀ w', Blk w' w.heap.size (List.replicate c z) → Keep w w' No → w'.heap.size = w.heap.size + 1 → k (.slice (some ⟨w.heap.size, 0, none⟩) n c) w') :
    M.makeSlice el sz bytes zero (.int .i64 n) (.int .i64 c) k w := by
  subst hz hs
  have e : mkCells #[z] (((c : Int).toNat) * 1) = ⟨List.replicate c z⟩ := by
    apply Array.ext'
    apply List.ext_getElem?
    intro i
    simp only [mkCells, Int.toNat_natCast, Nat.mul_one, Array.toList_map, List.getElem?_map]
    by_cases hi : i < c
    · simp [hi, Nat.mod_one]
    · simp [hi]
  unfold M.makeSlice
  refine ⟨⟨by omega, by omega, by omega, by omega⟩, ?_⟩
  rw [e, Int.toNat_natCast, Int.toNat_natCast]
  exact h _ (Blk.alloc w _ _) (Keep.alloc w _ _) (by simp)
theorem LV.to {w : World} {E : Nat → Prop} {A : Option Addr} {r : List Int} {n c h : Nat} (hr : LV vi w E (.slice A n c) r) (hh : h ≤ r.length) : LV vi w E (.slice (if h = 0 then A else A.map (·.add (0 * 1))) (h - 0) (h - 0)) (r.take h) := by
  obtain ⟨A', c', e, h1, h2⟩ := hr
  simp only [Value.slice.injEq] at e
  obtain ⟨rfl, rfl, rfl⟩ := e
  have hl : (r.take h).length = h := by rw [List.length_take]; omega
  refine ⟨_, h - 0, by rw [hl]; rfl, ?_, by omega⟩
  have := Row.samez (sz := 1) (n := h) (h1.take h) (by simp; omega)
  rw [List.map_take]
  exact this
theorem LV.from {w : World} {E : Nat → Prop} {A : Option Addr} {r : List Int} {n c l : Nat} (hr : LV vi w E (.slice A n c) r) (hl : l < n) : LV vi w E (.slice (if n = l then A else A.map (·.add (l * 1))) (n - l) (n - l)) (r.drop l) := by
  obtain ⟨A', c', e, h1, h2⟩ := hr
  simp only [Value.slice.injEq] at e
  obtain ⟨rfl, rfl, rfl⟩ := e
  refine ⟨_, r.length - l, by rw [List.length_drop], ?_, by rw [List.length_drop]; omega⟩
  rw [List.map_drop]
  exact Row.tail h1 (by simp)
theorem pad_pre {n : Nat} {l : List Int} : (pad n l).map vi = l.map vi ++ (List.replicate (n - l.length) 0).map vi := by simp [pad]
section
variable {w : World} {G : Nat → Prop} {g : Nat} {D : List GK}
theorem zeros_ret (h : GaO w G g D) {n : Nat} (hn : n ≤ 1000) :
    Ret Try.prog 90 #[ptr g, vi n] w (fun r w' => LV vi w' (w.heap.size ≤ ·) r (List.replicate n (nt 0)) ∧ Keep w w' No) := by
  refine ok90 _ _ _ _ ?_
  unfold sh90
  refine M.bin_i (v := vi ((2 * n : Nat) : Int)) ?_ ?_
  · simp only [ibin]
    rw [wrap_i64 (by omega) (by omega)]
    congr 2
  refine M.makeSlice2_i rfl rfl (by omega) (by omega) (by omega) (fun w1 b1 k1 s1 => ?_)
  (repeat (refine ja ?_))
  rw [← pad_nil] at b1
  refine M.loop_i (σ := Nat) (fun i vals w' => vals = [vi i] ∧ i ≤ n ∧ Keep w w' No ∧ Blk w' w.heap.size ((pad (2 * n) (List.replicate i (nt 0))).map vi)) (fun i => n - i) 0 ⟨rfl, by omega, k1, b1⟩ ?_
  rintro i vals w4 K ⟨rfl, hi, k4, bo⟩ hK _
  simp only [List.getD_cons_zero, List.getD_cons_succ]
  by_cases hlt : i < n
  · (repeat (first|refine jo ?_|refine jy ?_))
    refine M.call_i (gtrue_ret (h.keepN k4)) ?_; rintro _ _ ⟨rfl, rfl⟩
    refine M.call_i (ntr_ret (l := 0) (by omega) (by omega) _) ?_; rintro _ w5 ⟨rfl, k5⟩
    have bo := bo.keep k5 (fun h => h)
    refine M.idx_i (by omega) (by omega) ?_
    refine M.store_i bo (by rw [List.length_map, pad_len (by simp; omega)]; simp; omega) rfl (fun w6 bo k6 z6 => ?_)
    have e5 := pad_set (n := 2 * n) (l := List.replicate i (nt 0)) (x := nt 0) (by simp; omega)
    rw [List.length_replicate] at e5
    rw [show 0 + (i : Int).toNat * 1 = i by simp, e5] at bo
    (repeat (refine jK ?_))
    exact hK (i + 1) _ _ (by omega) ⟨by simp, by omega, (k4.trans k5 (fun _ _ h => h)).trans k6 (fun x hx e => by have e : x = w.heap.size := e; omega), by rw [List.replicate_succ']; exact bo⟩
  · have e : i = n := by omega
    subst e
    (repeat (first|refine jp ?_|refine jz ?_))
    rw [pad_pre] at bo
    exact ⟨⟨some ⟨w.heap.size, 0, none⟩, 2 * i, by simp, Row.of_blk bo (Nat.le_refl _), by simp; omega⟩, k4⟩
theorem rv_take_mod (i : Nat → Bool) (D : List GK) (r : List Int) {k : Nat} (h : k ≤ r.length) : rv i D (r.take k) = rv i D r % 2 ^ k := by
  have e : rv i D r = rv i D (r.take k) + 2 ^ k * rv i D (r.drop k) := by
    have := rv_app i D (r.take k) (r.drop k)
    rw [List.take_append_drop, List.length_take, Nat.min_eq_left h] at this
    exact this
  have hlt := rv_lt i D (r.take k)
  rw [List.length_take, Nat.min_eq_left h] at hlt
  rw [e, Nat.add_mul_mod_self_left, Nat.mod_eq_of_lt hlt]
theorem rv_split (i : Nat → Bool) (D : List GK) (r : List Int) {k : Nat} (h : k ≤ r.length) : rv i D r = rv i D (r.take k) + 2 ^ k * rv i D (r.drop k) := by
  have := rv_app i D (r.take k) (r.drop k)
  rw [List.take_append_drop, List.length_take, Nat.min_eq_left h] at this
  exact this
theorem mul_step {lo hi y i m : Nat} (h : lo < 2 ^ i) : lo + 2 ^ i * ((hi + y % 2 ^ m) % 2 ^ m) = (lo + 2 ^ i * hi + 2 ^ i * y) % 2 ^ (i + m) := by
  rw [Nat.pow_add, Nat.mod_mul, show lo + 2 ^ i * hi + 2 ^ i * y = lo + 2 ^ i * (hi + y) by rw [Nat.mul_add, Nat.add_assoc], Nat.add_mul_mod_self_left, Nat.mod_eq_of_lt h,
    Nat.add_mul_div_left _ _ (Nat.two_pow_pos i), Nat.div_eq_of_lt h, Nat.zero_add, Nat.add_mod_mod]
set_option maxHeartbeats 4000000 in
theorem mul_ret {va vb : Value} {a b : List Int} {n : Nat} (h : GaO w G g D) (hD : D.length ≤ 80000000) (hn0 : 0 < n) (hn : n ≤ 64) (ha : RowO w G va a) (hb : RowO w G vb b) (la : a.length = n) (lb : b.length = n) (fa : RF D a) (fb : RF D b) :
    Ret Try.prog 62 #[ptr g, va, vb] w (ROut w G g D 30000 n (fun i => (rv i D a * rv i D b) % 2 ^ n)) := by
  obtain ⟨A, ca, rfl, hra, hca⟩ := id ha
  obtain ⟨B, cb, rfl, hrb, hcb⟩ := id hb
  have hpos := h.wf.pos
  refine ok62 _ _ _ _ _ ?_
  unfold sh62
  refine M.call_i (aite_ret (c := 0) h (by omega) hn0 (by omega) ha hb la lb ⟨by omega, by omega⟩ fa fb) ?_; rintro _ w1 ⟨G1, D1, row, hr1, s, lr, _, _⟩
  obtain ⟨R1, cr1, rfl, _, _⟩ := hr1
  (repeat (first|refine ja ?_|refine jp ?_|refine jH ?_))
  have hs1 := s.len
  refine M.call_i (zeros_ret s.ga (by omega)) ?_; rintro zv w2 ⟨hz, k2⟩
  have sz1 := s.keep.size
  have hlt1 := s.ga.lt
  have hz : RowF w w2 G1 zv (List.replicate a.length (nt 0)) := hz.mono (fun x _ hx => ⟨fun hG => by have := hlt1 x hG; omega, by omega⟩)
  have s := s.keepN k2
  (repeat (refine ja ?_))
  have fz : RF D1 (List.replicate n (nt 0)) := fun x hx => by rw [(List.mem_replicate.1 hx).2]; exact s.ft ⟨by decide, by show (1 : Int) < _; omega⟩
  have ez : ∀ j, rv j D1 (List.replicate n (nt 0)) = 0 := fun j => by
    unfold rv
    rw [List.map_replicate, lv_nt, lv_zero s.ga.wf]
    exact nvB_zeros n
  rw [la] at hz
  refine M.loop_i (σ := Nat) (fun i vals w' => ∃ G1 D1 out ov, vals = [ov, vi i] ∧ GS w G g D w' G1 D1 (n + 6 * n * i) ∧ i ≤ n ∧ RowF w w' G1 ov out ∧ out.length = n ∧ RF D1 out ∧ ∀ j, rv j D1 out = (rv j D a * rv j D (b.take i)) % 2 ^ n) (fun i => n - i) 0
    ⟨G1, D1, _, zv, rfl, s.mono (by omega), by omega, hz, by simp, fz, fun j => by rw [ez]; simp [rv_nil]⟩ ?_
  clear s hs1 fz ez hz
  rintro i vals w3 K ⟨G3, D3, out, ov, rfl, s, hi, hof, lo, fo, hv⟩ hK _
  have ho := hof.o
  simp only [List.getD_cons_zero, List.getD_cons_succ]
  have hls := s.len
  have hni : 6 * n * i ≤ 6 * n * n := Nat.mul_le_mul_left _ hi
  have hnn : 6 * n * n ≤ 6 * 64 * 64 := Nat.mul_le_mul (Nat.mul_le_mul_left _ hn) hn
  by_cases hlt : i < n
  · obtain ⟨x, hx⟩ : ∃ x, b[i]? = some x := ⟨_, List.getElem?_eq_getElem (by omega)⟩
    have fx := fb x (List.mem_of_getElem? hx)
    obtain ⟨_, _, e2, hrb2, _⟩ := s.row hb
    simp only [Value.slice.injEq] at e2
    obtain ⟨rfl, _, rfl⟩ := e2
    obtain ⟨O, co, rfl, _, _⟩ := id ho
    (repeat (first|refine jo ?_|refine jy ?_))
    refine M.idxLV_i hrb2 rfl (by omega) (by omega) (x := x) (by simpa using hx) (fun bb oo hA hcc => ?_)
    (repeat (first|refine ja ?_|refine jM (by assumption) ?_))
    refine M.slice_i i out.length out.length (sl3_lhm (by omega) (by omega) (by obtain ⟨_, _, e3, _, h3⟩ := ho; simp only [Value.slice.injEq] at e3; omega)) ?_
    have hhi := LV.from (l := i) ho (by omega)
    generalize (if out.length = i then O else O.map (·.add (i * 1))) = H at hhi ⊢
    (repeat (refine ja ?_))
    refine M.makeSlice_i rfl rfl (by omega) (by omega) (fun w4 b4 k4 s4 => ?_)
    (repeat (refine ja ?_))
    rw [← pad_nil] at b4
    have hnew : ¬ G3 w3.heap.size := fun hx => by have := s.ga.lt _ hx; omega
    have q3 := s.keep.size
    refine M.loop_i (σ := Nat) (fun k vals w' => ∃ G4 D4 more, vals = [vi k] ∧ GS w3 G3 g D3 w' G4 D4 k ∧ k ≤ n - i ∧ Blk w' w3.heap.size ((pad (n - i) more).map vi) ∧ ¬ G4 w3.heap.size ∧ more.length = k ∧ RF D4 more ∧ ∀ j, rv j D4 more = if lv j D x then rv j D (a.take k) else 0) (fun k => n - i - k) 0
      ⟨G3, D3, [], rfl, (GS.refl s.ga).keepN k4, by omega, by rw [lo] at b4; exact b4, hnew, rfl, RF.nil _, fun j => by simp [rv_nil]⟩ ?_
    rintro k vals w5 K2 ⟨G4, D4, more, rfl, t, hk, bo, no, lm, fm, hm⟩ hK2 _
    simp only [List.getD_cons_zero, List.getD_cons_succ]
    have st := s.trans t
    have hlt4 := st.len
    by_cases hkn : k < n - i
    · obtain ⟨y, hy⟩ : ∃ y, a[k]? = some y := ⟨_, List.getElem?_eq_getElem (by omega)⟩
      have fy := fa y (List.mem_of_getElem? hy)
      obtain ⟨_, _, e2, hra2, _⟩ := st.row ha
      simp only [Value.slice.injEq] at e2
      obtain ⟨rfl, _, rfl⟩ := e2
      (repeat (first|refine jo ?_|refine jy ?_))
      refine M.idxLV_i hra2 rfl (by omega) (by omega) (x := y) (by simpa using hy) (fun bb oo hA hcc => ?_)
      (repeat (refine jM (by assumption) ?_))
      refine M.call_i (and_ret st.ga (by omega) (st.ft fx) (st.ft fy)) ?_; rintro _ w6 hg
      obtain ⟨G6, D6, z, rfl, t6, fz, vz⟩ := hg.gs
      obtain ⟨bo, no⟩ := t6.blk bo no
      refine M.idx_i (by omega) (by omega) ?_
      refine M.store_i bo (by rw [List.length_map, pad_len (by omega)]; simp; omega) rfl (fun w7 bo k7 z7 => ?_)
      have e5 := pad_set (n := n - i) (l := more) (x := z) (by omega)
      rw [lm] at e5
      rw [show 0 + (k : Int).toNat * 1 = k by simp, e5] at bo
      have t7 := (t.trans t6).keepO k7 (fun x hx => by
        have hx : x = w3.heap.size := hx
        subst hx
        exact ⟨Nat.le_refl _, no⟩)
      (repeat (refine jK ?_))
      refine hK2 (k + 1) _ _ (by omega) ⟨G6, D6, more ++ [z], by simp, t7, by omega, bo, no, by simp [lm], (t6.rf fm).snoc fz, fun j => ?_⟩
      have hya : a[k]'(by omega) = y := by rw [List.getElem?_eq_getElem (by omega)] at hy; exact Option.some.inj hy
      have ta := rv_take (i := j) (D := D) (r := a) (k := k) (by omega)
      rw [hya] at ta
      rw [ta, rv_app, rv_one, t6.rv fm, hm j, vz, lm]
      simp only [st.lv fx, st.lv fy]
      cases lv j D x <;> simp
    · obtain rfl : k = n - i := by omega
      (repeat (first|refine jd ?_|refine jp ?_|refine jz ?_))
      rw [pad_full lm] at bo
      have t := t.keepN (Keep.drew _ _)
      have bo := bo.keep (Keep.drew w5 No) (fun h => h)
      have st := s.trans t
      refine M.slice_i 0 i i (sl3_to (by obtain ⟨_, _, e3, _, h3⟩ := ho; simp only [Value.slice.injEq] at e3; omega)) ?_
      have hto := t.row (LV.to (h := i) ho (by omega))
      have hmore : RowO w5.drew G4 (.slice (some ⟨w3.heap.size, 0, none⟩) (out.length - i) (out.length - i)) more := LV.blk bo no (by omega)
      have hdl : (out.drop i).length = n - i := by rw [List.length_drop]; omega
      have fdr : RF D3 (out.drop i) := fun z hz => fo z (List.mem_of_mem_drop hz)
      refine M.call_i (add_ret (n := n - i) st.ga (by omega) (by omega) (by omega) (t.row hhi) hmore hdl lm (t.rf fdr) fm) ?_; rintro rv2 w6 ⟨G6, D6, row2, hr2, t6, l6, f6, v6⟩
      have hto6 := t6.row hto
      obtain ⟨B2, c2, rfl, hrow2, _⟩ := id hr2
      have q6 := st.keep.size
      have q7 := t6.keep.size
      obtain ⟨B3, c3, e3, hrow3, hc3⟩ := id hto6
      simp only [Value.slice.injEq] at e3
      obtain ⟨rfl, e31, e32⟩ := e3
      have hlt3 : (out.take i).length = i := by rw [List.length_take]; omega
      refine M.appendF_i (sz := 1) (ys := row2.map vi) hrow3 (by simp; omega) hrow2 (by simp) (by omega) rfl (by omega) (by omega) (fun v7 w7 g7 k7 => ?_)
      have t67 := (t.trans t6).keepN k7
      have st7 := s.trans t67
      (repeat (refine jK ?_))
      have e6 : 6 * n * (i + 1) = 6 * n * i + 6 * n := Nat.mul_succ _ _
      have g8 := g7.mono (L' := fun x => ¬ G6 x ∧ w.heap.size ≤ x) (fun x _ hx => by have hx : w6.heap.size ≤ x := hx; exact ⟨fun hG => by have := t6.ga.lt x hG; omega, by omega⟩)
      refine hK (i + 1) _ _ (by omega) ⟨G6, D6, out.take i ++ row2, v7, by simp, st7.mono (by omega), by omega, ?_, by rw [List.length_append]; omega, ?_, fun j => ?_⟩
      · obtain ⟨A8, c8, rfl, hr8, hc8⟩ := GC.row2 g8 (by omega)
        refine ⟨A8, c8, by rw [List.length_append, hlt3, l6]; congr 1, by rw [List.map_append]; exact hr8, by rw [List.length_append]; omega⟩
      · intro z hz
        rcases List.mem_append.1 hz with hz | hz
        · exact t6.ft (t.ft (fo z (List.mem_of_mem_take hz)))
        · exact f6 z hz
      · have fta : RF D3 (out.take i) := fo.take i
        have hxb : b[i]'(by omega) = x := by rw [List.getElem?_eq_getElem (by omega)] at hx; exact Option.some.inj hx
        have tb := rv_take (i := j) (D := D) (r := b) (k := i) (by omega)
        rw [hxb] at tb
        have hlo := rv_lt j D3 (out.take i)
        rw [hlt3] at hlo
        have hm' : rv j D4 more = (if lv j D x then rv j D a else 0) % 2 ^ (n - i) := by
          rw [hm j, rv_take_mod j D a (by omega)]
          cases lv j D x <;> simp
        rw [rv_app, hlt3, t6.rv (t.rf fta), t.rv fta, v6 j]
        show rv j D3 (out.take i) + 2 ^ i * ((rv j D4 (out.drop i) + rv j D4 more) % 2 ^ (n - i)) = _
        rw [t.rv fdr, hm', mul_step hlo, ← rv_split j D3 out (by omega), hv j, show i + (n - i) = n by omega, Nat.mod_add_mod, tb]
        congr 1
        cases lv j D x
        · simp
        · simp [Nat.mul_add]
          rw [Nat.mul_comm]
  · have e : i = n := by omega
    subst e
    (repeat (first|refine jp ?_|refine jz ?_))
    refine ⟨G3, D3, out, hof, s.mono (by omega), lo, fo, fun j => ?_⟩
    have q := hv j
    rw [List.take_of_length_le (by omega)] at q
    exact q
end
end Go.Proofs.Ytnbcglnefoinlaa
namespace Go.Proofs.Ytnbcglnefoinlaa
open Go.Mw Go.Maps Go.MapKept
set_option linter.unusedVariables false
set_option linter.unusedSimpArgs false
set_option maxRecDepth 100000
attribute [local irreducible] M.val M.unit M.next M.pick M.new M.nilCheck M.load1 M.loadA M.store M.fieldAddr M.indexSl M.indexArr M.slice M.makeSlice M.buildSlice M.len M.lenS M.cap M.append M.extract M.conv M.not M.neg M.bin M.shift M.eqB M.eqNil M.scat M.call M.callv M.gd M.share M.cond M.loop M.draw pureW readW Ret
def sh63 (x0 x1 x2 : Value) (R : Kt) (w : World) : Prop :=
  M.call Try.prog 30 #[x0, (Value.int IntKind.i64 0), x1, x2] (fun t17 w =>
  M.len t17 (fun t18 w =>
  M.bin .eql t18 (Value.int IntKind.i64 0) (fun t19 w =>
  M.cond t19
  (R (.tuple #[(Value.slice none 0 0), (Value.slice none 0 0)]) w)
  (M.len x1 (fun t21 w =>
  M.call Try.prog 27 #[x0] (fun t23 w =>
  M.call Try.prog 26 #[t23] (fun t24 w =>
  M.slice 1 x2 none (some t21) (some t21) (fun t28 w =>
  M.buildSlice 3 1 #[.int .i64 0] 1 [(0, t24)] (fun t30 w =>
  M.append 3 1 8 #[.int .i64 0] t28 t30 (fun t31 w =>
  M.bin .add t21 (Value.int IntKind.i64 1) (fun t34 w =>
  M.call Try.prog 90 #[x0, t34] (fun t35 w =>
  M.makeSlice 3 1 8 #[.int .i64 0] t21 t21 (fun t37 w =>
  M.bin .sub t21 (Value.int IntKind.i64 1) (fun t39 w =>
  M.loop [t35, t39] (fun s1 K1 w => ∀ _ : List Value,
  M.bin .geq (s1.getD 1 undef) (Value.int IntKind.i64 0) (fun t41 w =>
  M.cond t41
  (M.draw (fun w =>
  M.indexSl 1 x1 (s1.getD 1 undef) (fun t46 w =>
  M.load1 t46 (fun t47 w =>
  M.slice 1 (s1.getD 0 undef) none (some t21) (some t21) (fun t52 w =>
  M.buildSlice 3 1 #[.int .i64 0] 1 [(0, t47)] (fun t48 w =>
  M.append 3 1 8 #[.int .i64 0] t48 t52 (fun t53 w =>
  M.call Try.prog 69 #[x0, t53, t31] (fun t59 w =>
  M.call Try.prog 26 #[t59] (fun t60 w =>
  M.indexSl 1 t37 (s1.getD 1 undef) (fun t61 w =>
  M.store 1 t61 t60 (fun _ w =>
  M.draw (fun w =>
  M.indexSl 1 t37 (s1.getD 1 undef) (fun t65 w =>
  M.load1 t65 (fun t66 w =>
  M.call Try.prog 60 #[x0, t53, t31] (fun t70 w =>
  ((M.load1 t65 (fun v' _ => v' = t66) w) ∧ M.call Try.prog 30 #[x0, t66, t70, t53] (fun t72 w =>
  M.bin .sub (s1.getD 1 undef) (Value.int IntKind.i64 1) (fun t43 w =>
  K1 [t72, t43] w) w) w)) w) w) w) w) w) w) w) w) w) w) w) w) w) w)
  (M.draw (fun w =>
  M.slice 1 (s1.getD 0 undef) none (some t21) (some t21) (fun t77 w =>
  R (.tuple #[t37, t77]) w) w) w)) w) w) w) w) w) w) w) w) w) w) w) w)) w) w) w
theorem ok63 (x0 x1 x2 : Value) (R : Kt) (w : World) (h : sh63 x0 x1 x2 R w) : Ret Try.prog 63 #[x0, x1, x2] w R :=
  ret_mk <| calls_of_comp mixed (c := Try.f63.body.getD .skip) (args := [x0, x1, x2]) (rs := [(ResultVar.tmp 6), (ResultVar.tmp 7)]) (Ann.seq Ann.text (Ann.seq (Ann.seq Ann.text (Ann.cond (Ann.seq Ann.text Ann.leaf) Ann.leaf)) (Ann.seq Ann.text (Ann.seq Ann.text (Ann.seq Ann.text (Ann.seq Ann.text (Ann.seq Ann.text (Ann.seq (Ann.seq Ann.text (Ann.block (Ann.loop [11, 13] [40, 41, 42, 43, 44, 45, 46, 47, 48, 49, 50, 51, 52, 53, 54, 55, 56, 57, 58, 59, 60, 61, 62, 63, 64, 65, 66, 67, 68, 69, 70, 71, 72] (Ann.seq (Ann.seq Ann.text (Ann.cond Ann.leaf Ann.leaf)) (Ann.seq (Ann.block (Ann.seq (Ann.draw (Sch.take 0 (Sch.take 1 (Sch.take 2 (Sch.take 3 (Sch.take 5 (Sch.take 6 (Sch.take 7 (Sch.take 8 (Sch.one 4 (Sch.one 9 (Sch.take 10 Sch.done)))))))))))) (Ann.seq Ann.text (Ann.draw (Sch.take 0 (Sch.take 1 (Sch.take 2 (Sch.take 3 (Sch.take 4 (Sch.take 5 (Sch.take 6 (Sch.take 7 (Sch.take 9 (Sch.one 8 (Sch.one 10 (Sch.take 11 Sch.done)))))))))))))))) Ann.text))))) (Ann.seq (Ann.draw (Sch.take 0 (Sch.take 1 (Sch.take 2 (Sch.take 3 (Sch.take 4 (Sch.take 5 (Sch.take 6 Sch.done)))))))) Ann.leaf)))))))))
    Try.func63 (by kernel_rfl) (by kernel_rfl)
    (Eq.mp (by kernel_rfl) h)
structure DivI (A b Q R k : Nat) : Prop where
  pos : 0 < b → A = Q * b + R ∧ R < b
  zero : b = 0 → Q + 1 = 2 ^ k ∧ R = A
theorem div_step {A b Q R k : Nat} (a : Bool) (h : DivI A b Q R k) : DivI (2 * A + a.toNat) b ((!decide (2 * R + a.toNat < b)).toNat + 2 * Q) (if !decide (2 * R + a.toNat < b) then 2 * R + a.toNat - b else 2 * R + a.toNat) (k + 1) := by
  have ha : a.toNat ≤ 1 := by cases a <;> decide
  refine ⟨fun hb => ?_, fun hb => ?_⟩
  · obtain ⟨h1, h2⟩ := h.pos hb
    by_cases hlt : 2 * R + a.toNat < b
    · simp only [hlt, decide_true, Bool.not_true, Bool.toNat_false, Nat.zero_add, Bool.false_eq_true, if_false]
      refine ⟨?_, trivial⟩
      rw [h1, Nat.mul_assoc]; omega
    · simp only [hlt, decide_false, Bool.not_false, Bool.toNat_true, if_true]
      refine ⟨?_, by omega⟩
      rw [h1, Nat.add_mul, Nat.mul_assoc]; omega
  · obtain ⟨h1, h2⟩ := h.zero hb
    subst hb
    have hlt : ¬ (2 * R + a.toNat < 0) := by omega
    simp only [hlt, decide_false, Bool.not_false, Bool.toNat_true, if_true]
    refine ⟨?_, by omega⟩
    rw [Nat.pow_succ]; omega
theorem DivI.q {A b Q R k : Nat} (h : DivI A b Q R k) : Q = if b = 0 then 2 ^ k - 1 else A / b := by
  by_cases hb : b = 0
  · rw [if_pos hb]; have := (h.zero hb).1; omega
  · rw [if_neg hb]
    obtain ⟨h1, h2⟩ := h.pos (by omega)
    rw [h1, Nat.mul_comm, Nat.mul_add_div (by omega), Nat.div_eq_of_lt h2]; rfl
theorem DivI.r {A b Q R k : Nat} (h : DivI A b Q R k) : R = if b = 0 then A else A % b := by
  by_cases hb : b = 0
  · rw [if_pos hb]; exact (h.zero hb).2
  · rw [if_neg hb]
    obtain ⟨h1, h2⟩ := h.pos (by omega)
    rw [h1, Nat.mul_comm, Nat.mul_add_mod, Nat.mod_eq_of_lt h2]
theorem rv_high {i : Nat → Bool} {D : List GK} {a : List Int} {n k : Nat} (ha : a.length = n) (hk : k < n) : rv i D a / 2 ^ (n - (k + 1)) = 2 * (rv i D a / 2 ^ (n - k)) + (lv i D (a[n - (k + 1)]'(by omega))).toNat := by
  have hm : n - k = (n - (k + 1)) + 1 := by omega
  have hbit := rv_bit i D a (n - (k + 1)) (by omega)
  rw [hm, Nat.pow_succ, ← Nat.div_div_eq_div_mul]
  rw [Nat.testBit_eq_decide_div_mod_eq] at hbit
  generalize rv i D a / 2 ^ (n - (k + 1)) = z at hbit ⊢
  rw [← hbit]
  by_cases h : z % 2 = 1
  · simp [h]; omega
  · simp [h]; omega
abbrev RowQ (w : World) (G : Nat → Prop) (q : Nat) (v : Value) (r : List Int) : Prop := LV vi w (fun x => ¬ G x ∧ x ≠ q) v r
theorem RowQ.o {w : World} {G : Nat → Prop} {q : Nat} {v : Value} {r : List Int} (h : RowQ w G q v r) : RowO w G v r := h.mono (fun _ _ h => h.1)
theorem RowQ.step {w0 w : World} {G0 G : Nat → Prop} {g m q : Nat} {D0 D : List GK} {v : Value} {r : List Int} (h : RowQ w0 G0 q v r) (s : GS w0 G0 g D0 w G D m) : RowQ w G q v r :=
  ((h.mono (D' := fun x => (¬ G0 x ∧ x ≠ q) ∧ x < w0.heap.size) (fun x hx hf => ⟨hf, hx⟩)).keep s.keep (fun x _ hx => hx.1.1)).mono (fun x _ hx => ⟨fun hG => hx.1.1 (s.sub x hx.2 hG), hx.1.2⟩)
theorem RowO.q {w : World} {G : Nat → Prop} {q : Nat} {v : Value} {r : List Int} (h : RowO w G v r) (hq : w.heap.size ≤ q) : RowQ w G q v r := h.mono (fun x hx hf => ⟨hf, by omega⟩)
theorem rv_cons (i : Nat → Bool) (D : List GK) (x : Int) (r : List Int) : rv i D (x :: r) = (lv i D x).toNat + 2 * rv i D r := rfl
section
variable {w : World} {G : Nat → Prop} {g : Nat} {D : List GK}
theorem set_mid {i : Nat} {top : List Int} {x : Int} : ((List.replicate (i + 1) 0 ++ top).map vi).set i (vi x) = (List.replicate i 0 ++ x :: top).map vi := by
  rw [← List.map_set]
  congr 1
  rw [List.replicate_succ', List.append_assoc, List.set_append_right _ _ (by simp), List.length_replicate, Nat.sub_self]
  rfl
set_option maxHeartbeats 8000000 in
theorem divide_ret {va vb : Value} {a b : List Int} {n : Nat} (h : GaO w G g D) (hD : D.length ≤ 80000000) (hn0 : 0 < n) (hn : n ≤ 64) (ha : RowO w G va a) (hb : RowO w G vb b) (la : a.length = n) (lb : b.length = n) (fa : RF D a) (fb : RF D b) :
    Ret Try.prog 63 #[ptr g, va, vb] w (fun r w' => ∃ G' D' q e vq ve, r = .tuple #[vq, ve] ∧ RowF w w' G' vq q ∧ RowF w w' G' ve e ∧ GS w G g D w' G' D' 40000 ∧ q.length = n ∧ e.length = n ∧ RF D' q ∧ RF D' e ∧
      (∀ i, rv i D' q = if rv i D b = 0 then 2 ^ n - 1 else rv i D a / rv i D b) ∧ ∀ i, rv i D' e = if rv i D b = 0 then rv i D a else rv i D a % rv i D b) := by
  obtain ⟨A, ca, rfl, hra, hca⟩ := id ha
  obtain ⟨B, cb, rfl, hrb, hcb⟩ := id hb
  have hpos := h.wf.pos
  refine ok63 _ _ _ _ _ ?_
  unfold sh63
  refine M.call_i (aite_ret (c := 0) h (by omega) hn0 (by omega) ha hb la lb ⟨by omega, by omega⟩ fa fb) ?_; rintro _ w1 ⟨G1, D1, row, hr1, s, lr, _, _⟩
  obtain ⟨R1, cr1, rfl, _, _⟩ := hr1
  (repeat (first|refine ja ?_|refine jp ?_|refine jH ?_))
  have hs1 := s.len
  refine M.call_i (gtrue_ret s.ga) ?_; rintro _ _ ⟨rfl, rfl⟩
  refine M.call_i (ntr_ret (l := 0) (by omega) (by omega) _) ?_; rintro _ w2 ⟨rfl, k2⟩
  have s := s.keepN k2
  rw [la]
  refine M.slice_i 0 n n (sl3_to (by omega)) ?_
  have hbt := LV.to (h := n) (s.row hb) (by omega)
  rw [List.take_of_length_le (by omega)] at hbt
  refine M.buildSlice_i [vi (nt 0)] (by kernel_rfl) (fun w3 b3 k3 s3 => ?_)
  have s := s.keepN k3
  have hbt := hbt.keep k3 (fun _ _ _ h => h)
  obtain ⟨B3, c3, e3, hrow3, hc3⟩ := id hbt
  simp only [Value.slice.injEq] at e3
  obtain ⟨rfl, e31, e32⟩ := e3
  refine M.appendF_i (sz := 1) (m := 1) (D' := fun _ => True) (ys := [vi (nt 0)]) hrow3 (by simp; omega) (Row.of_blk' b3 trivial) rfl (by omega) rfl (by omega) (by omega) (fun byv w4 g4 k4 => ?_)
  have hlt3 := s.ga.lt
  have s := s.keepN k4
  have hby : RowO w4 G1 byv (b ++ [nt 0]) := by
    have g5 := g4.mono (L' := fun x => ¬ G1 x) (fun x _ hx hG => by have h1 := hlt3 x hG; have h2 : w3.heap.size ≤ x := hx; omega)
    obtain ⟨A8, c8, rfl, hr8, hc8⟩ := GC.row2 g5 (by omega)
    exact ⟨A8, c8, by rw [List.length_append, lb]; rfl, by rw [List.map_append]; exact hr8, by rw [List.length_append]; simp; omega⟩
  have hwf1 := s.ga.wf
  have fone : Ft D1 (nt 0) := s.ft ⟨by decide, by show (1 : Int) < _; omega⟩
  have lby : (b ++ [nt 0]).length = n + 1 := by rw [List.length_append, lb]; rfl
  have fby : RF D1 (b ++ [nt 0]) := (s.rf fb).snoc fone
  have vby : ∀ j, rv j D1 (b ++ [nt 0]) = rv j D b := fun j => by
    rw [rv_app, rv_one, lv_nt, lv_zero hwf1, s.rv fb]; simp
  generalize b ++ [nt 0] = by1 at hby lby fby vby
  (repeat (refine jK ?_))
  rw [show (n : Int) + 1 = ((n + 1 : Nat) : Int) by omega]
  refine M.call_i (zeros_ret s.ga (by omega)) ?_; rintro zv w5 ⟨hz, k5⟩
  have szz := s.keep.size
  have hltz := s.ga.lt
  have hz := hz.mono (D' := fun x => ¬ G1 x ∧ w.heap.size ≤ x) (fun x _ hx => by have hx : w4.heap.size ≤ x := hx; exact ⟨fun hG => by have := hltz x hG; omega, by omega⟩)
  have s := s.keepN k5
  have hby := RowO.q (hby.keep k5 (fun _ _ _ h => h)) (Nat.le_refl _)
  have hz := hz.mono (D' := fun x => (¬ G1 x ∧ x ≠ w5.heap.size) ∧ w.heap.size ≤ x) (fun x hx hh => ⟨⟨hh.1, by omega⟩, hh.2⟩)
  refine M.makeSlice_i rfl rfl (by omega) (by omega) (fun w6 b6 k6 s6 => ?_)
  have hnq : ¬ G1 w5.heap.size := fun hx => by have := s.ga.lt _ hx; omega
  have q5 := s.keep.size
  have sz5 := s.ga.lt
  have t0 := (GS.refl s.ga).keepN k6
  have hby := hby.keep k6 (fun _ _ _ h => h)
  have hz := hz.keep k6 (fun _ _ _ h => h)
  (repeat (refine jL ?_))
  have fz : RF D1 (List.replicate (n + 1) (nt 0)) := fun x hx => by rw [(List.mem_replicate.1 hx).2]; exact fone
  have ez : ∀ j, rv j D1 (List.replicate (n + 1) (nt 0)) = 0 := fun j => by
    unfold rv
    rw [List.map_replicate, lv_nt, lv_zero hwf1]
    exact nvB_zeros _
  have hAlt : ∀ j, rv j D a < 2 ^ n := fun j => by have := rv_lt j D a; rwa [la] at this
  have hBlt : ∀ j, rv j D b < 2 ^ n := fun j => by have := rv_lt j D b; rwa [lb] at this
  refine M.loop_i (σ := Nat) (fun k vals w' => ∃ G2 D2 rest rs top, vals = [rs, vi ((n : Int) - 1 - k)] ∧ GS w5 G1 g D1 w' G2 D2 (8 * (n + 1) * k) ∧ k ≤ n ∧ LV vi w' (fun x => (¬ G2 x ∧ x ≠ w5.heap.size) ∧ w.heap.size ≤ x) rs rest ∧ RowQ w' G2 w5.heap.size byv by1 ∧ rest.length = n + 1 ∧ RF D2 rest ∧ Blk w' w5.heap.size ((List.replicate (n - k) 0 ++ top).map vi) ∧ ¬ G2 w5.heap.size ∧ top.length = k ∧ RF D2 top ∧
      ∀ j, DivI (rv j D a / 2 ^ (n - k)) (rv j D b) (rv j D2 top) (rv j D2 rest) k) (fun k => n - k) 0
    ⟨G1, D1, _, zv, [], by simp, t0.mono (by omega), by omega, hz, hby, by simp, fz, by simpa using b6, hnq, rfl, RF.nil _, fun j => ?_⟩ ?_
  · rw [ez j, rv_nil, Nat.sub_zero, Nat.div_eq_of_lt (hAlt j)]
    exact ⟨fun hb => ⟨by omega, hb⟩, fun _ => ⟨rfl, rfl⟩⟩
  clear hz fz ez
  rintro k vals w7 K ⟨G2, D2, rest, rs, top, rfl, t, hk, hrs2, hby2, lrs, frs, bq, nq, ltop, ftop, hdv⟩ hK _
  simp only [List.getD_cons_zero, List.getD_cons_succ]
  have hrs : RowQ w7 G2 w5.heap.size rs rest := hrs2.mono (fun _ _ h => h.1)
  have st := s.trans t
  have hst := st.len
  have hkk : 8 * (n + 1) * k ≤ 8 * (n + 1) * n := Nat.mul_le_mul_left _ hk
  have hnn : 8 * (n + 1) * n ≤ 8 * 65 * 64 := Nat.mul_le_mul (Nat.mul_le_mul_left _ (by omega)) hn
  have h8 : 8 * (n + 1) * (k + 1) = 8 * (n + 1) * k + 8 * (n + 1) := Nat.mul_succ _ _
  by_cases hlt : k < n
  · obtain ⟨x, hx⟩ : ∃ x, a[n - (k + 1)]? = some x := ⟨_, List.getElem?_eq_getElem (by omega)⟩
    have fx := fa x (List.mem_of_getElem? hx)
    have ei : ((n : Int) - 1 - k).toNat = n - (k + 1) := by omega
    refine M.geq_i ?_
    rw [decide_eq_true (show (0 : Int) ≤ (n : Int) - 1 - k by omega)]
    have t := t.keepN (Keep.drew _ _)
    have st := s.trans t
    have kd := Keep.drew w7 No
    have hrs := hrs.keep kd (fun _ _ _ h => h)
    have hby2 := hby2.keep kd (fun _ _ _ h => h)
    have bq := bq.keep kd (fun h => h)
    obtain ⟨_, _, e2, hra2, _⟩ := st.row ha
    simp only [Value.slice.injEq] at e2
    obtain ⟨rfl, _, rfl⟩ := e2
    obtain ⟨RA, rc, rfl, hrr, hrc⟩ := id hrs
    (repeat (first|refine jd ?_|refine jo ?_))
    refine M.idxLV_i hra2 la (by omega) (by omega) (x := x) (by rw [ei]; exact hx) (fun bb oo hA hcc => ?_)
    (repeat (refine jM (by assumption) ?_))
    refine M.slice_i 0 n n (sl3_to (by omega)) ?_
    have hrt := LV.to (h := n) hrs (by omega)
    refine M.buildSlice_i [vi x] (by kernel_rfl) (fun w8 b8 k8 s8 => ?_)
    have hlt2 := t.ga.lt
    have q7 := k8.size
    have hqd := bq.lt
    have hrt8 := hrt.keep k8 (fun _ _ _ h => h)
    have hltk : (rest.take n).length = n := by rw [List.length_take]; omega
    obtain ⟨Rt, ct, e3, hrowt, _⟩ := id hrt8
    simp only [Value.slice.injEq] at e3
    obtain ⟨rfl, e31, e32⟩ := e3
    refine M.appendF_i (sz := 1) (n := 1) (xs := [vi x]) (D := fun _ => True) (ys := (rest.take n).map vi) (Row.of_blk' b8 trivial) rfl hrowt (by simp; omega) (by omega) rfl (by omega) (by omega) (fun rv9 w9 g9 k9 => ?_)
    have k89 := k8.trans k9 (fun _ _ h => h)
    have t := t.keepN k89
    have st := s.trans t
    have hby2 := hby2.keep k89 (fun _ _ _ h => h)
    have bq := bq.keep k89 (fun h => h)
    have hq8 : w5.heap.size < w8.heap.size := by omega
    have hre : RowQ w9 G2 w5.heap.size rv9 (x :: rest.take n) := by
      have g5 := g9.mono (L' := fun y => ¬ G2 y ∧ y ≠ w5.heap.size) (fun y _ hy => by have h2 : w8.heap.size ≤ y := hy; exact ⟨fun hG => by have h1 := hlt2 y hG; omega, by omega⟩)
      obtain ⟨A8, c8, rfl, hr8, hc8⟩ := GC.row2 g5 (by omega)
      exact ⟨A8, c8, by rw [List.length_cons, hltk]; congr 1; omega, hr8, by rw [List.length_cons, hltk]; omega⟩
    have lre : (x :: rest.take n).length = n + 1 := by rw [List.length_cons, hltk]
    have fre : RF D2 (x :: rest.take n) := fun y hy => by
      rcases List.mem_cons.1 hy with rfl | hy
      · exact st.ft fx
      · exact frs y (List.mem_of_mem_take hy)
    have fby2 := t.rf fby
    refine M.call_i (less_ret (n := n + 1) st.ga (by omega) (by omega) (by omega) (RowQ.o hre) (RowQ.o hby2) lre lby fre fby2) ?_; rintro _ w10 ⟨G3, D3, l, rfl, t3, fl, vl⟩
    refine M.call_i (ntr_ret fl.1 (by have := fl.2; have := t3.len; omega) _) ?_; rintro _ w11 ⟨rfl, k11⟩
    have t3 := t3.keepN k11
    obtain ⟨bq, nq⟩ := t3.blk bq nq
    have hst3 := t3.len
    refine M.idx_i (by omega) (by omega) ?_
    refine M.store_i bq (by simp; omega) rfl (fun w12 bq k12 s12 => ?_)
    rw [show 0 + ((n : Int) - 1 - k).toNat * 1 = n - (k + 1) by omega, show n - k = (n - (k + 1)) + 1 by omega, set_mid] at bq
    have t4 : GS w5 G1 g D1 w12 G3 D3 (8 * (n + 1) * k + 2 * (n + 1)) := (t.trans t3).keepO k12 (fun y hy => by
      have hy : y = w5.heap.size := hy
      subst hy
      exact ⟨Nat.le_refl _, nq⟩)
    have hre := (RowQ.step hre t3).keep k12 (fun y _ hy e => hy.2 e)
    have hby2 := (RowQ.step hby2 t3).keep k12 (fun y _ hy e => hy.2 e)
    have kd := Keep.drew w12 No
    have t4 := t4.keepN kd
    have hre := hre.keep kd (fun _ _ _ h => h)
    have hby2 := hby2.keep kd (fun _ _ _ h => h)
    have bq := bq.keep kd (fun h => h)
    have st4 := s.trans t4
    have hst4 := t4.len
    have hs1' := s.len
    have fre3 := t3.rf fre
    have fby3 := t4.rf fby
    (repeat (refine jd ?_))
    refine M.idx_i (by omega) (by omega) ?_
    rw [show 0 + ((n : Int) - 1 - k).toNat * 1 = n - (k + 1) by omega]
    have hcell : ((List.replicate (n - (k + 1)) 0 ++ nt l :: top).map vi)[n - (k + 1)]? = some (vi (nt l)) := by
      rw [List.getElem?_map, List.getElem?_append_right (by simp)]
      simp
    refine M.loadB_i bq hcell ?_
    refine M.call_i (sub_ret (n := n + 1) st4.ga (by omega) (by omega) (by omega) (RowQ.o hre) (RowQ.o hby2) lre lby fre3 fby3) ?_; rintro sv w13 ⟨G5, D5, srow, hsr, t5, lsr, fsr, vsr⟩
    obtain ⟨bq, nq⟩ := t5.blk bq nq
    have hq13 := bq.lt
    refine ⟨M.loadB_i bq hcell rfl, ?_⟩
    have hre := (RowQ.step hre t5)
    have hby2 := (RowQ.step hby2 t5)
    have t6 := t4.trans t5
    have st6 := s.trans t6
    have hst6 := t6.len
    refine M.call_i (aite_ret (n := n + 1) (c := nt l) st6.ga (by omega) (by omega) (by omega) hsr.o (RowQ.o hre) lsr lre (t5.ft fl.nt) fsr (t5.rf fre3)) ?_; rintro iv w14 ⟨G7, D7, nrow, hnr, t7, lnr, fnr, vnr⟩
    obtain ⟨bq, nq⟩ := t7.blk bq nq
    have q13 := bq.lt
    have q14 := t7.keep.size
    have q15 := (t4.trans t5).keep.size
    (repeat (refine jL ?_))
    refine hK (k + 1) _ _ (by omega) ⟨G7, D7, nrow, iv, nt l :: top, ?_, (t6.trans t7).mono (by omega), by omega, hnr.mono (fun y _ hy => ⟨⟨hy.1, by have := hy.2; omega⟩, by have := hy.2; omega⟩), (RowQ.step hby2 t7), lnr, fnr, bq, nq, by simp [ltop], ?_, fun j => ?_⟩
    · have e : (n : Int) - 1 - ((k + 1 : Nat) : Int) = (n : Int) - 1 - k - 1 := by omega
      rw [e]
    · intro y hy
      rcases List.mem_cons.1 hy with rfl | hy
      · exact t7.ft (t5.ft fl.nt)
      · exact t7.ft (t5.ft (t3.ft (ftop y hy)))
    · have hxa : a[n - (k + 1)]'(by omega) = x := by rw [List.getElem?_eq_getElem (by omega)] at hx; exact Option.some.inj hx
      have hh := rv_high (i := j) (D := D) la hlt
      rw [hxa] at hh
      have hR2 : rv j D2 rest < 2 ^ n := by
        have h1 := hdv j
        by_cases hb0 : rv j D b = 0
        · rw [(h1.zero hb0).2]
          exact Nat.lt_of_le_of_lt (Nat.div_le_self _ _) (hAlt j)
        · have h2 := (h1.pos (by omega)).2
          have := hBlt j
          omega
      have hR : rv j D2 (x :: rest.take n) = 2 * rv j D2 rest + (lv j D x).toNat := by
        rw [rv_cons, rv_take_mod j D2 rest (by omega), Nat.mod_eq_of_lt hR2, st.lv fx]
        omega
      have hB : rv j D2 by1 = rv j D b := by rw [t.rv fby, vby]
      have hl : lv j D3 (nt l) = !decide (2 * rv j D2 rest + (lv j D x).toNat < rv j D b) := by rw [lv_nt, vl j, hR, hB]
      have key := div_step (lv j D x) (hdv j)
      have e1 : rv j D7 (nt l :: top) = (!decide (2 * rv j D2 rest + (lv j D x).toNat < rv j D b)).toNat + 2 * rv j D2 top := by
        rw [rv_cons, t7.lv (t5.ft fl.nt), t5.lv fl.nt, hl, t7.rv (t5.rf (t3.rf ftop)), t5.rv (t3.rf ftop), t3.rv ftop]
      have hlt1 : 2 * rv j D2 rest + (lv j D x).toNat < 2 ^ (n + 1) := by
        have : (lv j D x).toNat ≤ 1 := by cases lv j D x <;> decide
        rw [Nat.pow_succ]; omega
      have hbl := hBlt j
      have hp : 2 ^ n ≤ 2 ^ (n + 1) := Nat.pow_le_pow_right (by decide) (by omega)
      have e2 : rv j D7 nrow = if !decide (2 * rv j D2 rest + (lv j D x).toNat < rv j D b) then 2 * rv j D2 rest + (lv j D x).toNat - rv j D b else 2 * rv j D2 rest + (lv j D x).toNat := by
        have vs' : rv j D5 srow = (rv j D3 (x :: rest.take n) + (2 ^ (n + 1) - rv j D3 by1)) % 2 ^ (n + 1) := vsr j
        have vn' : rv j D7 nrow = if lv j D5 (nt l) then rv j D5 srow else rv j D5 (x :: rest.take n) := vnr j
        rw [vn', t5.lv fl.nt, hl, vs', t5.rv (t3.rf fre), t3.rv fre, hR, t3.rv fby2, hB]
        by_cases hq : 2 * rv j D2 rest + (lv j D x).toNat < rv j D b
        · simp [hq]
        · simp only [hq, decide_false, Bool.not_false, if_true]
          rw [show 2 * rv j D2 rest + (lv j D x).toNat + (2 ^ (n + 1) - rv j D b) = (2 * rv j D2 rest + (lv j D x).toNat - rv j D b) + 2 ^ (n + 1) by omega, Nat.add_mod_right, Nat.mod_eq_of_lt (by omega)]
      rw [hh, e1, e2]
      exact key
  · obtain rfl : k = n := by omega
    refine M.geq_i ?_
    rw [decide_eq_false (show ¬ ((0 : Int) ≤ (k : Int) - 1 - k) by omega)]
    have t := t.keepN (Keep.drew _ _)
    have kd := Keep.drew w7 No
    have hrs2 := hrs2.keep kd (fun _ _ _ h => h)
    have bq := bq.keep kd (fun h => h)
    obtain ⟨RA, rc, rfl, hrr, hrc⟩ := id hrs2
    (repeat (first|refine jd ?_|refine jp ?_))
    refine M.slice_i 0 k k (sl3_to (by omega)) ?_
    rw [Nat.sub_self, List.replicate_zero, List.nil_append] at bq
    have st := s.trans t
    have q := hdv
    rw [Nat.sub_self] at q
    refine ⟨G2, D2, top, rest.take k, _, _, rfl, LV.blk bq ⟨nq, q5⟩ (by omega), LV.to (h := k) (hrs2.mono (fun _ _ h => ⟨h.1.1, h.2⟩)) (by omega), st.mono (by omega), ltop, by rw [List.length_take]; omega, ftop, frs.take k, fun j => ?_, fun j => ?_⟩
    · have h1 := (q j).q
      rw [Nat.pow_zero, Nat.div_one] at h1
      exact h1
    · have h1 := (q j).r
      rw [Nat.pow_zero, Nat.div_one] at h1
      have hR2 : rv j D2 rest < 2 ^ k := by
        rw [h1]
        split
        · exact hAlt j
        · exact Nat.lt_of_le_of_lt (Nat.mod_le _ _) (hAlt j)
      rw [rv_take_mod j D2 rest (by omega), Nat.mod_eq_of_lt hR2]
      exact h1
end
end Go.Proofs.Ytnbcglnefoinlaa
namespace Go.Proofs.Ytnbcglnefoinlaa
open Go.Mw Go.Maps Go.MapKept
set_option linter.unusedVariables false
set_option linter.unusedSimpArgs false
set_option maxRecDepth 100000
attribute [local irreducible] M.val M.unit M.next M.pick M.new M.nilCheck M.load1 M.loadA M.store M.fieldAddr M.indexSl M.indexArr M.slice M.makeSlice M.buildSlice M.len M.lenS M.cap M.append M.extract M.conv M.not M.neg M.bin M.shift M.eqB M.eqNil M.scat M.call M.callv M.gd M.share M.cond M.loop M.draw pureW readW Ret
def sh93 (x0 x1 x2 x3 : Value) (R : Kt) (w : World) : Prop :=
  M.len x0 (fun t13 w =>
  M.makeSlice 3 1 8 #[.int .i64 0] t13 t13 (fun t14 w =>
  M.len x0 (fun t16 w =>
  M.loop [(Value.int IntKind.i64 0)] (fun s1 K1 w => ∀ _ : List Value,
  M.bin .lss (s1.getD 0 undef) t16 (fun t18 w =>
  M.cond t18
  (M.share (fun K2 w =>
  M.bin .add (s1.getD 0 undef) x1 (fun t22 w =>
  M.share (fun K3 w =>
  M.cond x2
  (M.bin .sub (s1.getD 0 undef) x1 (fun t26 w =>
  K3 [t26] w) w)
  (K3 [t22] w)) (fun s3 w => ∀ _ : List Value,
  M.indexSl 1 t14 (s1.getD 0 undef) (fun t30 w =>
  M.store 1 t30 x3 (fun _ w =>
  M.bin .geq (s3.getD 0 undef) (Value.int IntKind.i64 0) (fun t32 w =>
  M.gd t32 true (fun k w => k (s3.getD 0 undef) w) (fun t34 w =>
  M.gd t32 true (fun k w => k x0 w) (fun t35 w =>
  M.gd t32 true (fun k w => M.len t35 k w) (fun t36 w =>
  M.gd t32 true (fun k w => M.bin .lss t34 t36 k w) (fun t37 w =>
  M.pick t32 t37 (Value.bool false) (fun t38 w =>
  M.cond t38
  (M.indexSl 1 x0 (s3.getD 0 undef) (fun t43 w =>
  M.load1 t43 (fun t44 w =>
  M.indexSl 1 t14 (s1.getD 0 undef) (fun t45 w =>
  M.store 1 t45 t44 (fun _ w =>
  K2 [] w) w) w) w) w)
  (K2 [] w)) w) w) w) w) w) w) w) w) w) w) (fun s2 w => ∀ _ : List Value,
  M.bin .add (s1.getD 0 undef) (Value.int IntKind.i64 1) (fun t46 w =>
  K1 [t46] w) w) w)
  (R t14 w)) w) w) w) w) w
theorem ok93 (x0 x1 x2 x3 : Value) (R : Kt) (w : World) (h : sh93 x0 x1 x2 x3 R w) : Ret Try.prog 93 #[x0, x1, x2, x3] w R :=
  ret_mk <| calls_of_comp mixed (c := Try.f93.body.getD .skip) (args := [x0, x1, x2, x3]) (rs := [(ResultVar.tmp 8)]) (Ann.seq Ann.text (Ann.seq Ann.text (Ann.seq (Ann.seq Ann.text (Ann.block (Ann.loop [17] [10, 11, 18, 19, 20, 21, 22, 23, 24, 25, 26, 27, 28, 29, 30, 31, 32, 33, 34, 35, 36, 37, 38, 39, 40, 41, 42, 43, 44, 45, 46] (Ann.seq Ann.text (Ann.seq (Ann.cond Ann.leaf Ann.leaf) (Ann.seq (Ann.jblock [] [10, 11, 19, 20, 21, 22, 23, 24, 25, 26, 27, 28, 29, 30, 31, 32, 33, 34, 35, 36, 37, 38, 39, 40, 41, 42, 43, 44, 45] (Ann.seq Ann.text (Ann.seq Ann.text (Ann.join [11] [23, 24, 25, 26] (Ann.seq Ann.text (Ann.cond Ann.text Ann.leaf)) (Ann.seq Ann.text (Ann.seq Ann.text (Ann.cond Ann.text Ann.leaf))))))) Ann.text)))))) (Ann.seq Ann.text Ann.leaf))))
    Try.func93 (by kernel_rfl) (by kernel_rfl)
    (Eq.mp (by kernel_rfl) h)
def sh71 (x0 x1 x2 x3 : Value) (R : Kt) (w : World) : Prop :=
  M.bin .neq x1 (Value.int IntKind.i64 9) (fun t15 w =>
  M.gd t15 true (fun k w => k x1 w) (fun t17 w =>
  M.gd t15 true (fun k w => M.bin .neq t17 (Value.int IntKind.i64 10) k w) (fun t18 w =>
  M.pick t15 t18 (Value.bool false) (fun t19 w =>
  M.gd t19 true (fun k w => k x1 w) (fun t21 w =>
  M.gd t19 true (fun k w => M.bin .neq t21 (Value.int IntKind.i64 11) k w) (fun t22 w =>
  M.pick t19 t22 (Value.bool false) (fun t23 w =>
  M.gd t23 false (fun k w => k x0 w) (fun t25 w =>
  M.gd t23 false (fun k w => k x2 w) (fun t26 w =>
  M.gd t23 false (fun k w => k x3 w) (fun t27 w =>
  M.gd t23 false (fun k w => M.call Try.prog 30 #[t25, (Value.int IntKind.i64 0), t26, t27] k w) (fun t28 w =>
  M.gd t23 false (fun k w => M.len t28 k w) (fun t29 w =>
  M.gd t23 false (fun k w => M.bin .eql t29 (Value.int IntKind.i64 0) k w) (fun t30 w =>
  M.pick t23 (Value.bool true) t30 (fun t31 w =>
  M.cond t31
  (R (Value.slice none 0 0) w)
  (M.len x2 (fun t33 w =>
  M.call Try.prog 27 #[x0] (fun t35 w =>
  M.call Try.prog 26 #[t35] (fun t36 w =>
  M.share (fun K1 w =>
  M.bin .eql x1 (Value.int IntKind.i64 11) (fun t38 w =>
  M.cond t38
  (M.bin .sub t33 (Value.int IntKind.i64 1) (fun t41 w =>
  M.indexSl 1 x2 t41 (fun t42 w =>
  M.load1 t42 (fun t43 w =>
  K1 [t43] w) w) w) w)
  (K1 [t36] w)) w) (fun s1 w => ∀ _ : List Value,
  M.call Try.prog 27 #[x0] (fun t46 w =>
  M.call Try.prog 26 #[t46] (fun t47 w =>
  M.loop [x2, t47, (Value.int IntKind.i64 0)] (fun s2 K2 w => ∀ _ : List Value,
  M.bin .lss (s2.getD 2 undef) t33 (fun t50 w =>
  M.cond t50
  (M.share (fun K3 w =>
  M.bin .lss (s2.getD 2 undef) (Value.int IntKind.i64 30) (fun t53 w =>
  M.gd t53 true (fun k w => k (s2.getD 2 undef) w) (fun t55 w =>
  M.gd t53 true (fun k w => M.shift .shl (Value.int IntKind.i64 1) t55 k w) (fun t56 w =>
  M.gd t53 true (fun k w => k t33 w) (fun t57 w =>
  M.gd t53 true (fun k w => M.bin .lss t56 t57 k w) (fun t58 w =>
  M.pick t53 t58 (Value.bool false) (fun t59 w =>
  M.cond t59
  (M.draw (fun w =>
  M.indexSl 1 x3 (s2.getD 2 undef) (fun t63 w =>
  M.load1 t63 (fun t64 w =>
  M.shift .shl (Value.int IntKind.i64 1) (s2.getD 2 undef) (fun t67 w =>
  M.bin .eql x1 (Value.int IntKind.i64 9) (fun t69 w =>
  M.call Try.prog 93 #[(s2.getD 0 undef), t67, t69, (s1.getD 0 undef)] (fun t71 w =>
  ((M.load1 t63 (fun v' _ => v' = t64) w) ∧ M.call Try.prog 30 #[x0, t64, t71, (s2.getD 0 undef)] (fun t73 w =>
  K3 [t73, (s2.getD 1 undef)] w) w)) w) w) w) w) w) w)
  (M.indexSl 1 x3 (s2.getD 2 undef) (fun t78 w =>
  M.load1 t78 (fun t79 w =>
  M.call Try.prog 66 #[x0, (s2.getD 1 undef), t79] (fun t80 w =>
  K3 [(s2.getD 0 undef), t80] w) w) w) w)) w) w) w) w) w) w) (fun s3 w => ∀ _ : List Value,
  M.bin .add (s2.getD 2 undef) (Value.int IntKind.i64 1) (fun t81 w =>
  K2 [(s3.getD 0 undef), (s3.getD 1 undef), t81] w) w) w)
  (M.call Try.prog 93 #[x2, t33, (Value.bool false), (s1.getD 0 undef)] (fun t87 w =>
  M.call Try.prog 30 #[x0, (s2.getD 1 undef), t87, (s2.getD 0 undef)] (fun t89 w =>
  R t89 w) w) w)) w) w) w) w) w) w) w) w)) w) w) w) w) w) w) w) w) w) w) w) w) w) w
theorem ok71 (x0 x1 x2 x3 : Value) (R : Kt) (w : World) (h : sh71 x0 x1 x2 x3 R w) : Ret Try.prog 71 #[x0, x1, x2, x3] w R :=
  ret_mk <| calls_of_comp mixed (c := Try.f71.body.getD .skip) (args := [x0, x1, x2, x3]) (rs := [(ResultVar.tmp 8)]) (Ann.seq Ann.text (Ann.seq (Ann.seq Ann.text (Ann.cond (Ann.seq Ann.text Ann.leaf) Ann.leaf)) (Ann.seq Ann.text (Ann.seq Ann.text (Ann.join [10] [37, 38, 39, 40, 41, 42, 43] (Ann.seq Ann.text (Ann.cond Ann.text Ann.leaf)) (Ann.seq Ann.text (Ann.seq Ann.text (Ann.seq (Ann.seq Ann.text (Ann.block (Ann.loop [11, 12, 49] [13, 50, 51, 52, 53, 54, 55, 56, 57, 58, 59, 60, 61, 62, 63, 64, 65, 66, 67, 68, 69, 70, 71, 72, 73, 74, 75, 76, 77, 78, 79, 80, 81] (Ann.seq Ann.text (Ann.seq (Ann.cond Ann.leaf Ann.leaf) (Ann.seq (Ann.jblock [11, 12] [13, 51, 52, 53, 54, 55, 56, 57, 58, 59, 60, 61, 62, 63, 64, 65, 66, 67, 68, 69, 70, 71, 72, 73, 74, 75, 76, 77, 78, 79, 80] (Ann.seq Ann.text (Ann.seq Ann.text (Ann.cond (Ann.draw (Sch.take 0 (Sch.take 1 (Sch.take 2 (Sch.take 3 (Sch.take 4 (Sch.take 5 (Sch.take 6 (Sch.take 7 (Sch.take 8 (Sch.take 9 (Sch.take 10 (Sch.take 12 (Sch.one 11 (Sch.one 13 (Sch.take 14 Sch.done)))))))))))))))) Ann.text)))) Ann.text)))))) (Ann.seq Ann.text Ann.leaf)))))))))
    Try.func71 (by kernel_rfl) (by kernel_rfl)
    (Eq.mp (by kernel_rfl) h)
def mvAt {α : Type} (V : List α) (n k : Nat) (up : Bool) (f : α) (i : Nat) : α := if up then (if k ≤ i then V.getD (i - k) f else f) else (if i + k < n then V.getD (i + k) f else f)
def mvL {α : Type} (V : List α) (k : Nat) (up : Bool) (f : α) : List α := (List.range V.length).map (mvAt V V.length k up f)
theorem mvL_len {α : Type} (V : List α) (k : Nat) (up : Bool) (f : α) : (mvL V k up f).length = V.length := by simp [mvL]
theorem mvL_get {α : Type} (V : List α) (k : Nat) (up : Bool) (f : α) {i : Nat} (h : i < V.length) (d : α) : (mvL V k up f).getD i d = mvAt V V.length k up f i := by
  unfold mvL
  rw [List.getD_eq_getElem?_getD, List.getElem?_map, List.getElem?_range h]; rfl
theorem mvL_map {α β : Type} (V : List α) (k : Nat) (up : Bool) (f : α) (z : α → β) : (mvL V k up f).map z = mvL (V.map z) k up (z f) := by
  unfold mvL
  rw [List.map_map, List.length_map]
  refine List.map_congr_left (fun i _ => ?_)
  have gd : ∀ j, (V.map z).getD j (z f) = z (V.getD j f) := fun j => by
    rw [List.getD_eq_getElem?_getD, List.getD_eq_getElem?_getD, List.getElem?_map]
    cases V[j]? <;> rfl
  show z (mvAt V V.length k up f i) = mvAt (V.map z) V.length k up (z f) i
  unfold mvAt
  rw [gd, gd]
  cases up <;> simp <;> split <;> rfl
theorem mvL_zero {α : Type} (V : List α) (up : Bool) (f : α) : mvL V 0 up f = V := by
  apply List.ext_getElem?
  intro i
  unfold mvL
  rw [List.getElem?_map]
  by_cases h : i < V.length
  · rw [List.getElem?_range h, List.getElem?_eq_getElem h]
    simp only [Option.map_some, mvAt]
    cases up <;> simp [h]
  · rw [List.getElem?_eq_none (by simp; omega), List.getElem?_eq_none (by omega)]; rfl
theorem mvL_mvL {α : Type} (V : List α) (j k : Nat) (up : Bool) (f : α) : mvL (mvL V j up f) k up f = mvL V (j + k) up f := by
  unfold mvL
  rw [List.length_map, List.length_range]
  refine List.map_congr_left (fun i hi => ?_)
  have hi := List.mem_range.1 hi
  have g : ∀ m, m < V.length → ((List.range V.length).map (mvAt V V.length j up f)).getD m f = mvAt V V.length j up f m := fun m hm => mvL_get V j up f hm f
  cases up with
  | true =>
    show (if k ≤ i then ((List.range V.length).map (mvAt V V.length j true f)).getD (i - k) f else f) = (if j + k ≤ i then V.getD (i - (j + k)) f else f)
    by_cases h1 : k ≤ i
    · rw [if_pos h1, g _ (by omega)]
      show (if j ≤ i - k then V.getD (i - k - j) f else f) = _
      by_cases h2 : j ≤ i - k
      · rw [if_pos h2, if_pos (by omega)]; congr 1; omega
      · rw [if_neg h2, if_neg (by omega)]
    · rw [if_neg h1, if_neg (by omega)]
  | false =>
    show (if i + k < V.length then ((List.range V.length).map (mvAt V V.length j false f)).getD (i + k) f else f) = (if i + (j + k) < V.length then V.getD (i + (j + k)) f else f)
    by_cases h1 : i + k < V.length
    · rw [if_pos h1, g _ h1]
      show (if i + k + j < V.length then V.getD (i + k + j) f else f) = _
      by_cases h2 : i + k + j < V.length
      · rw [if_pos h2, if_pos (by omega)]; congr 1; omega
      · rw [if_neg h2, if_neg (by omega)]
    · rw [if_neg h1, if_neg (by omega)]
theorem mvL_far {α : Type} (V : List α) {k : Nat} (up : Bool) (f : α) (h : V.length ≤ k) : mvL V k up f = List.replicate V.length f := by
  unfold mvL
  apply List.ext_getElem?
  intro i
  rw [List.getElem?_map, List.getElem?_replicate]
  by_cases hi : i < V.length
  · rw [List.getElem?_range hi, if_pos hi]
    unfold mvAt
    cases up
    · simp; omega
    · simp; omega
  · rw [List.getElem?_eq_none (by simp; omega), if_neg hi]; rfl
section
variable {w : World}
theorem moved_ret {E : Nat → Prop} {v : Value} {a : List Int} {k : Nat} {up : Bool} {f : Int} (ha : LV vi w E v a) (hl : a.length ≤ 1000) (hk : k ≤ 1000000) :
    Ret Try.prog 93 #[v, vi k, .bool up, vi f] w (fun r w' => LV vi w' (w.heap.size ≤ ·) r (mvL a k up f) ∧ Keep w w' No) := by
  obtain ⟨A, ca, rfl, hra, hca⟩ := id ha
  refine ok93 _ _ _ _ _ _ ?_
  unfold sh93
  (repeat (refine ja ?_))
  refine M.makeSlice_i rfl rfl (by omega) (by omega) (fun w1 b1 k1 s1 => ?_)
  (repeat (refine ja ?_))
  rw [← pad_nil] at b1
  refine M.loop_i (σ := Nat) (fun i vals w' => vals = [vi i] ∧ i ≤ a.length ∧ Keep w w' No ∧ Blk w' w.heap.size ((pad a.length ((List.range i).map (mvAt a a.length k up f))).map vi)) (fun i => a.length - i) 0 ⟨rfl, by omega, k1, by simpa using b1⟩ ?_
  rintro i vals w2 K ⟨rfl, hi, k2, bo⟩ hK _
  simp only [List.getD_cons_zero, List.getD_cons_succ]
  have lo : ((List.range i).map (mvAt a a.length k up f)).length = i := by simp
  by_cases hlt : i < a.length
  · (repeat (first|refine jo ?_|refine jy ?_))
    have hpl : ((pad a.length ((List.range i).map (mvAt a a.length k up f))).map vi).length = a.length := by rw [List.length_map, pad_len (by omega)]
    have e5 : ∀ x, ((pad a.length ((List.range i).map (mvAt a a.length k up f))).map vi).set i (vi x) = (pad a.length ((List.range i).map (mvAt a a.length k up f) ++ [x])).map vi := fun x => by
      have := pad_set (n := a.length) (l := (List.range i).map (mvAt a a.length k up f)) (x := x) (by omega)
      rw [lo] at this
      exact this
    have hr2 := hra.keep k2 (fun _ _ _ h => h)
    refine M.share_j (fun vals w' => Keep w w' No ∧ Blk w' w.heap.size ((pad a.length ((List.range (i + 1)).map (mvAt a a.length k up f))).map vi)) ?_ ?_
    · rintro vals w3 ⟨k3, b3⟩ _
      (repeat (refine jK ?_))
      exact hK (i + 1) _ _ (by omega) ⟨by simp, by omega, k3, b3⟩
    · intro K2 hK2
      (repeat (refine jK ?_))
      refine M.share_j (fun vals w' => ∃ fr : Int, vals = [vi fr] ∧ ((0 ≤ fr ∧ fr < a.length) → a.getD fr.toNat f = mvAt a a.length k up f i) ∧ (¬ (0 ≤ fr ∧ fr < a.length) → f = mvAt a a.length k up f i) ∧ -10000000 ≤ fr ∧ fr ≤ 10000000 ∧ w' = w2) ?_ ?_
      rotate_left
      · intro K3 hK3
        cases up with
        | true =>
          (repeat (first|refine jo ?_|refine jL ?_))
          refine hK3 _ _ ⟨(i : Int) - k, rfl, fun hc => ?_, fun hc => ?_, by omega, by omega, rfl⟩
          · show _ = if k ≤ i then a.getD (i - k) f else f
            rw [if_pos (by omega)]; congr 1; omega
          · show _ = if k ≤ i then a.getD (i - k) f else f
            rw [if_neg (by omega)]
        | false =>
          (repeat (refine jp ?_))
          refine hK3 _ _ ⟨(i : Int) + k, rfl, fun hc => ?_, fun hc => ?_, by omega, by omega, rfl⟩
          · show _ = if i + k < a.length then a.getD (i + k) f else f
            rw [if_pos (by omega)]; congr 1
          · show _ = if i + k < a.length then a.getD (i + k) f else f
            rw [if_neg (by omega)]
      rintro vals w3 ⟨fr, rfl, h1, h2, h3, h4, rfl⟩ _
      simp only [List.getD_cons_zero, List.getD_cons_succ]
      refine M.idx_i (by omega) (by omega) ?_
      refine M.store_i bo (by rw [hpl]; simp; omega) rfl (fun w4 b4 k4 s4 => ?_)
      rw [show 0 + (i : Int).toNat * 1 = i by simp] at b4
      have k04 := k2.trans k4 (fun y hy e => by have e : y = w.heap.size := e; omega)
      by_cases hc : 0 ≤ fr ∧ fr < a.length
      · obtain ⟨c1, c2⟩ := id hc
        have hr4 := hra.keep k04 (fun _ _ _ h => h)
        have hxa : a[fr.toNat]? = some (a.getD fr.toNat f) := by rw [List.getD_eq_getElem?_getD, List.getElem?_eq_getElem (by omega)]; rfl
        refine M.geq_i ?_
        rw [decide_eq_true c1]
        (repeat (first|refine ja ?_|refine jf ?_|refine jk ?_|refine jo ?_|refine jy ?_))
        refine M.idxLV_i hr4 rfl (by omega) (by omega) (x := a.getD fr.toNat f) hxa (fun bb oo hA hcc => ?_)
        (repeat (refine jM (by assumption) ?_))
        refine M.idx_i (by omega) (by omega) ?_
        refine M.store_i b4 (by rw [List.length_set, hpl]; simp; omega) rfl (fun w5 b5 k5 s5 => ?_)
        rw [show 0 + (i : Int).toNat * 1 = i by simp, List.set_set, e5, h1 hc] at b5
        refine hK2 _ _ ⟨k04.trans k5 (fun y hy e => by have e : y = w.heap.size := e; omega), ?_⟩
        rw [List.range_succ, List.map_append]
        exact b5
      · refine M.geq_i ?_
        have fin : K2 [] w4 := by
          refine hK2 _ _ ⟨k04, ?_⟩
          rw [e5] at b4
          rw [List.range_succ, List.map_append]
          show Blk w4 w.heap.size ((pad a.length ((List.range i).map (mvAt a a.length k up f) ++ [mvAt a a.length k up f i])).map vi)
          rw [← h2 hc]
          exact b4
        by_cases c1 : 0 ≤ fr
        · rw [decide_eq_true c1]
          have c2 : ¬ fr < a.length := fun h => hc ⟨c1, h⟩
          (repeat (first|refine ja ?_|refine jf ?_|refine jk ?_|refine jp ?_|refine jz ?_))
          exact fin
        · rw [decide_eq_false c1]
          (repeat (first|refine jh ?_|refine jl ?_|refine jp ?_))
          exact fin
  · have e : i = a.length := by omega
    subst e
    (repeat (first|refine jp ?_|refine jz ?_))
    rw [pad_full lo] at bo
    exact ⟨LV.blk bo (Nat.le_refl _) (by rw [mvL_len]), k2⟩
end
theorem lim64 {n : Nat} (hn : n ≤ 64) : ∃ L, L ≤ 6 ∧ (∀ i, 2 ^ i < n ↔ i < L) ∧ n ≤ 2 ^ L := by
  have mono : ∀ i j, i ≤ j → (2 : Nat) ^ i ≤ 2 ^ j := fun i j h => Nat.pow_le_pow_right (by decide) h
  have key : ∀ L, (∀ i, i < L → 2 ^ i < n) → n ≤ 2 ^ L → ∀ i, 2 ^ i < n ↔ i < L := fun L h1 h2 i => by
    constructor
    · intro h
      apply Classical.byContradiction
      intro hc
      have := mono L i (by omega)
      omega
    · exact h1 i
  have build : ∀ L, L ≤ 6 → (L = 0 ∨ 2 ^ (L - 1) < n) → n ≤ 2 ^ L → ∃ L, L ≤ 6 ∧ (∀ i, 2 ^ i < n ↔ i < L) ∧ n ≤ 2 ^ L := fun L h0 h1 h2 => ⟨L, h0, key L (fun i hi => by
    rcases h1 with h1 | h1
    · omega
    · have := mono i (L - 1) (by omega); omega) h2, h2⟩
  by_cases h0 : n ≤ 1
  · exact build 0 (by decide) (.inl rfl) h0
  by_cases h1 : n ≤ 2
  · exact build 1 (by decide) (.inr (by show 1 < n; omega)) h1
  by_cases h2 : n ≤ 4
  · exact build 2 (by decide) (.inr (by show 2 < n; omega)) h2
  by_cases h3 : n ≤ 8
  · exact build 3 (by decide) (.inr (by show 4 < n; omega)) h3
  by_cases h4 : n ≤ 16
  · exact build 4 (by decide) (.inr (by show 8 < n; omega)) h4
  by_cases h5 : n ≤ 32
  · exact build 5 (by decide) (.inr (by show 16 < n; omega)) h5
  · exact build 6 (by decide) (.inr (by show 32 < n; omega)) hn
theorem shl1_i {i : Nat} (hi : i < 30) : ishift .shl .i64 1 (i : Int) = some (vi ((2 ^ i : Nat) : Int)) := by
  simp only [ishift]
  rw [if_neg (by omega)]
  have h1 : min ((i : Int).toNat) IntKind.i64.bits = i := by show min _ 64 = i; omega
  have h2 : 2 ^ i < 2 ^ 30 := Nat.pow_lt_pow_right (by decide) hi
  have h3 : (2 : Nat) ^ 30 = 1073741824 := by decide
  rw [h1, Int.one_mul]
  have h4 : ((2 : Int) ^ i) = ((2 ^ i : Nat) : Int) := by simp
  rw [h4]
  generalize (2 : Nat) ^ i = z at h2 ⊢
  rw [wrap_i64 (by omega) (by omega)]
section
variable {w : World} {G : Nat → Prop} {g : Nat} {D : List GK}
theorem move_op {op : Int} {k : Kt} {w : World} (hop : op = 9 ∨ op = 10 ∨ op = 11) (h : k (.bool false) w) :
    M.bin .neq (vi op) (Value.int IntKind.i64 9) (fun t15 w =>
    M.gd t15 true (fun k w => k (vi op) w) (fun t17 w =>
    M.gd t15 true (fun k w => M.bin .neq t17 (Value.int IntKind.i64 10) k w) (fun t18 w =>
    M.pick t15 t18 (Value.bool false) (fun t19 w =>
    M.gd t19 true (fun k w => k (vi op) w) (fun t21 w =>
    M.gd t19 true (fun k w => M.bin .neq t21 (Value.int IntKind.i64 11) k w) (fun t22 w =>
    M.pick t19 t22 (Value.bool false) k w) w) w) w) w) w) w := by
  rcases hop with rfl | rfl | rfl
  · (repeat (first|refine jh ?_|refine jl ?_|refine jJ ?_))
    exact h
  · (repeat (first|refine jf ?_|refine jh ?_|refine jk ?_|refine jl ?_|refine jI ?_|refine jJ ?_))
    exact h
  · (repeat (first|refine jf ?_|refine jk ?_|refine jI ?_|refine jJ ?_))
    exact h
theorem map_of_rv {i : Nat → Bool} {D D2 : List GK} {r s : List Int} (hl : r.length = s.length) (h : rv i D r = rv i D2 s) : r.map (lv i D) = s.map (lv i D2) := nvB_inj (by simpa using hl) h
def fillF (i : Nat → Bool) (D : List GK) (op : Int) (a : List Int) (n : Nat) : Bool := if op = 11 then lv i D (a.getD (n - 1) 0) else false
set_option maxHeartbeats 8000000 in
theorem move_ret {op : Int} {va vb : Value} {a b : List Int} {n : Nat} (hop : op = 9 ∨ op = 10 ∨ op = 11) (h : GaO w G g D) (hD : D.length ≤ 80000000) (hn0 : 0 < n) (hn : n ≤ 64) (ha : RowO w G va a) (hb : RowO w G vb b) (la : a.length = n) (lb : b.length = n) (fa : RF D a) (fb : RF D b) :
    Ret Try.prog 71 #[ptr g, vi op, va, vb] w (fun r w' => ∃ G' D' row, RowF w w' G' r row ∧ GS w G g D w' G' D' 10000 ∧ row.length = n ∧ RF D' row ∧ ∀ i, row.map (lv i D') = mvL (a.map (lv i D)) (rv i D b) (decide (op = 9)) (fillF i D op a n)) := by
  obtain ⟨A, ca, rfl, hra, hca⟩ := id ha
  obtain ⟨B, cb, rfl, hrb, hcb⟩ := id hb
  have hpos := h.wf.pos
  refine ok71 _ _ _ _ _ _ ?_
  unfold sh71
  refine move_op hop ?_
  (repeat (refine jg ?_))
  refine M.call_i (aite_ret (c := 0) h (by omega) hn0 (by omega) ha hb la lb ⟨by omega, by omega⟩ fa fb) ?_; rintro _ w1 ⟨G1, D1, row, hr1, s, lr, _, _⟩
  obtain ⟨R1, cr1, rfl, _, _⟩ := hr1
  (repeat (first|refine ja ?_|refine jg ?_|refine jl ?_|refine jp ?_|refine jH ?_))
  have hs1 := s.len
  refine M.call_i (gtrue_ret s.ga) ?_; rintro _ _ ⟨rfl, rfl⟩
  refine M.call_i (ntr_ret (l := 0) (by omega) (by omega) _) ?_; rintro _ w2 ⟨rfl, k2⟩
  have s := s.keepN k2
  have hwf1 := s.ga.wf
  have fone : Ft D1 (nt 0) := s.ft ⟨by decide, by show (1 : Int) < _; omega⟩
  rw [la] at ha ⊢
  refine M.share_j (fun vals w' => ∃ f : Int, vals = [vi f] ∧ w' = w2 ∧ Ft D1 f ∧ ∀ i, lv i D1 f = fillF i D op a n) ?_ ?_
  rotate_left
  · intro K1 hK1
    by_cases ho : op = 11
    · obtain ⟨_, _, e2, hra2, _⟩ := s.row ha
      simp only [Value.slice.injEq] at e2
      obtain ⟨rfl, _, rfl⟩ := e2
      have hx : a[n - 1]? = some (a.getD (n - 1) 0) := by rw [List.getD_eq_getElem?_getD, List.getElem?_eq_getElem (by omega)]; rfl
      have fx := fa _ (List.mem_of_getElem? hx)
      refine M.eql_t ho ?_
      (repeat (first|refine jo ?_|refine jL ?_))
      refine M.idxLV_i hra2 la (by omega) (by omega) (x := a.getD (n - 1) 0) (by rw [show ((n : Int) - 1).toNat = n - 1 by omega]; exact hx) (fun bb oo hA hcc => ?_)
      (repeat (refine jM (by assumption) ?_))
      exact hK1 _ _ ⟨_, rfl, rfl, s.ft fx, fun i => by unfold fillF; rw [if_pos ho, s.lv fx]⟩
    · refine M.eql_f ho ?_
      (repeat (refine jp ?_))
      exact hK1 _ _ ⟨_, rfl, rfl, fone, fun i => by unfold fillF; rw [if_neg ho, lv_nt, lv_zero hwf1]; rfl⟩
  rintro vals w3 ⟨f, rfl, rfl, ff, hfv⟩ _
  simp only [List.getD_cons_zero, List.getD_cons_succ]
  refine M.call_i (gtrue_ret s.ga) ?_; rintro _ _ ⟨rfl, rfl⟩
  refine M.call_i (ntr_ret (l := 0) (by omega) (by omega) _) ?_; rintro _ w4 ⟨rfl, k4⟩
  have s := s.keepN k4
  obtain ⟨L, hL6, hL, hnL⟩ := lim64 hn
  have hLn : L ≤ n := by
    apply Classical.byContradiction
    intro hc
    have h1 := (hL (L - 1)).2 (by omega)
    have h2 : L - 1 < 2 ^ (L - 1) := Nat.lt_two_pow_self
    omega
  refine M.loop_i (σ := Nat) (fun i vals w' => ∃ G2 D2 out ov far, vals = [ov, vi far, vi i] ∧ GS w4 G1 g D1 w' G2 D2 (100 * i) ∧ i ≤ n ∧ RowO w' G2 ov out ∧ out.length = n ∧ RF D2 out ∧ Ft D2 far ∧
      (∀ j, out.map (lv j D2) = mvL (a.map (lv j D)) (rv j D (b.take (min i L))) (decide (op = 9)) (fillF j D op a n)) ∧ ∀ j, lv j D2 far = decide (rv j D ((b.take i).drop L) ≠ 0)) (fun i => n - i) 0
    ⟨G1, D1, a, _, nt 0, rfl, GS.refl s.ga, by omega, s.row ha, la, s.rf fa, fone, fun j => ?_, fun j => ?_⟩ ?_
  · rw [Nat.zero_min, List.take_zero, rv_nil, mvL_zero]
    exact List.map_congr_left (fun x hx => s.lv (fa x hx) j)
  · rw [lv_nt, lv_zero hwf1]; simp [rv_nil]
  rintro i vals w5 K ⟨G2, D2, out, ov, far, rfl, t, hi, ho, lo, fo, ffar, hout, hfar⟩ hK _
  simp only [List.getD_cons_zero, List.getD_cons_succ]
  have st := s.trans t
  have hst := st.len
  have hst2 := t.len
  by_cases hlt : i < n
  · obtain ⟨x, hx⟩ : ∃ x, b[i]? = some x := ⟨_, List.getElem?_eq_getElem (by omega)⟩
    have fx := fb x (List.mem_of_getElem? hx)
    have hxb : b[i]'(by omega) = x := by rw [List.getElem?_eq_getElem (by omega)] at hx; exact Option.some.inj hx
    refine M.lss_t (by omega) ?_
    refine M.cond_t ?_
    refine M.share_n ?_
    by_cases hiL : i < L
    · have h2i := (hL i).2 hiL
      have h2i' : ((2 ^ i : Nat) : Int) < n := by omega
      refine M.lss_t (by omega) ?_
      refine M.gd_tt ?_
      refine M.gd_tt ?_
      refine M.shift_i (shl1_i (by omega)) ?_
      refine M.gd_tt ?_
      refine M.gd_tt ?_
      refine M.lss_t h2i' ?_
      have t := t.keepN (Keep.drew _ _)
      have st := s.trans t
      have ho := ho.keep (Keep.drew w5 No) (fun _ _ _ h => h)
      obtain ⟨_, _, e2, hrb2, _⟩ := st.row hb
      simp only [Value.slice.injEq] at e2
      obtain ⟨rfl, _, rfl⟩ := e2
      (repeat (first|refine jd ?_|refine jk ?_|refine jo ?_))
      refine M.idxLV_i hrb2 rfl (by omega) (by omega) (x := x) (by simpa using hx) (fun bb oo hA hcc => ?_)
      (repeat (refine jM (by assumption) ?_))
      refine M.shift_i (shl1_i (by omega)) ?_
      refine M.eql_i ?_
      refine M.call_i (moved_ret (k := 2 ^ i) (up := decide (op = 9)) (f := f) ho (by omega) (by omega)) ?_; rintro mv w6 ⟨hmv, k6⟩
      have hlt2 := t.ga.lt
      have hmv : RowO w6 G2 mv (mvL out (2 ^ i) (decide (op = 9)) f) := hmv.mono (fun y _ hy hG => by have h1 := hlt2 y hG; have h2 : w5.drew.heap.size ≤ y := hy; omega)
      have t := t.keepN k6
      have st := s.trans t
      have ho := ho.keep k6 (fun _ _ _ h => h)
      refine ⟨M.load_i (k6.cell (fun h => h) hcc) rfl, ?_⟩
      have fmv : RF D2 (mvL out (2 ^ i) (decide (op = 9)) f) := fun y hy => by
        unfold mvL at hy
        obtain ⟨z, hz, rfl⟩ := List.mem_map.1 hy
        have gg : ∀ m, Ft D2 (out.getD m f) := fun m => by
          rw [List.getD_eq_getElem?_getD]
          cases hm : out[m]? with
          | none => exact t.ft ff
          | some q => exact fo q (List.mem_of_getElem? hm)
        unfold mvAt
        split
        · split
          · exact gg _
          · exact t.ft ff
        · split
          · exact gg _
          · exact t.ft ff
      refine M.call_i (aite_ret (c := x) st.ga (by omega) hn0 (by omega) hmv ho (by rw [mvL_len]; exact lo) lo (st.ft fx) fmv fo) ?_; rintro iv w7 ⟨G7, D7, nrow, hnr, t7, lnr, fnr, vnr⟩
      intro _
      simp only [List.getD_cons_zero, List.getD_cons_succ]
      (repeat (refine jK ?_))
      have t8 := t.trans t7
      refine hK (i + 1) _ _ (by omega) ⟨G7, D7, nrow, iv, far, by simp, t8.mono (by omega), by omega, hnr.o, lnr, fnr, t7.ft ffar, fun j => ?_, fun j => ?_⟩
      · have vn' : rv j D7 nrow = if lv j D2 x then rv j D2 (mvL out (2 ^ i) (decide (op = 9)) f) else rv j D2 out := vnr j
        rw [st.lv fx] at vn'
        rw [Nat.min_eq_left (by omega)]
        have ho' := hout j
        rw [Nat.min_eq_left (by omega)] at ho'
        have tb := rv_take (i := j) (D := D) (r := b) (k := i) (by omega)
        rw [hxb] at tb
        rw [tb]
        cases hxv : lv j D x with
        | true =>
          rw [hxv, if_pos rfl] at vn'
          rw [map_of_rv (by rw [lnr, mvL_len, lo]) vn', mvL_map, ho', t.lv ff, hfv j, mvL_mvL]
          simp
        | false =>
          rw [hxv, if_neg (by decide)] at vn'
          rw [map_of_rv (by rw [lnr, lo]) vn', ho']
          simp
      · rw [t7.lv ffar, hfar j, List.drop_eq_nil_of_le (by rw [List.length_take]; omega), List.drop_eq_nil_of_le (by rw [List.length_take]; omega)]
    · have h2i : ¬ ((2 ^ i : Nat) : Int) < n := fun hc => hiL ((hL i).1 (by omega))
      obtain ⟨_, _, e2, hrb2, _⟩ := st.row hb
      simp only [Value.slice.injEq] at e2
      obtain ⟨rfl, _, rfl⟩ := e2
      have fin : M.indexSl 1 (.slice B b.length cb) (vi i) (fun t78 w => M.load1 t78 (fun t79 w => M.call Try.prog 66 #[ptr g, vi far, t79] (fun t80 w => ∀ _ : List Value, M.bin .add (vi i) (Value.int IntKind.i64 1) (fun t81 w => K [([ov, t80] : List Value).getD 0 undef, ([ov, t80] : List Value).getD 1 undef, t81] w) w) w) w) w5 := by
        refine M.idxLV_i hrb2 rfl (by omega) (by omega) (x := x) (by simpa using hx) (fun bb oo hA hcc => ?_)
        (repeat (refine jM (by assumption) ?_))
        refine M.call_i (or_ret st.ga (by omega) ffar (st.ft fx)) ?_; rintro _ w6 hg
        obtain ⟨G6, D6, z, rfl, t6, fz, vz⟩ := hg.gs
        intro _
        simp only [List.getD_cons_zero, List.getD_cons_succ]
        (repeat (refine jK ?_))
        refine hK (i + 1) _ _ (by omega) ⟨G6, D6, out, ov, z, by simp, (t.trans t6).mono (by omega), by omega, t6.row ho, lo, t6.rf fo, fz, fun j => ?_, fun j => ?_⟩
        · have e : out.map (lv j D6) = out.map (lv j D2) := List.map_congr_left (fun y hy => t6.lv (fo y hy) j)
          rw [e, hout j, Nat.min_eq_right (by omega), Nat.min_eq_right (by omega)]
        · have e : (b.take (i + 1)).drop L = (b.take i).drop L ++ [x] := by
            rw [List.take_add_one, hx, Option.toList_some, List.drop_append_of_le_length (by rw [List.length_take]; omega)]
          rw [vz, e, rv_app, rv_one]
          simp only [hfar j, st.lv fx]
          generalize rv j D ((b.take i).drop L) = p
          have hp : 0 < 2 ^ ((b.take i).drop L).length := Nat.two_pow_pos _
          generalize 2 ^ ((b.take i).drop L).length = q at hp
          cases lv j D x
          · simp
          · simp; omega
      by_cases hi30 : i < 30
      · refine M.lss_t (by omega) ?_
        refine M.gd_tt ?_
        refine M.gd_tt ?_
        refine M.shift_i (shl1_i (by omega)) ?_
        refine M.gd_tt ?_
        refine M.gd_tt ?_
        refine M.lss_f h2i ?_
        (repeat (first|refine jk ?_|refine jp ?_))
        exact fin
      · (repeat (first|refine jh ?_|refine jl ?_|refine jp ?_|refine jz ?_))
        exact fin
  · obtain rfl : i = n := by omega
    refine M.lss_f (by omega) ?_
    refine M.cond_f ?_
    refine M.call_i (moved_ret (k := i) (up := false) (f := f) (st.row ha) (by omega) (by omega)) ?_; rintro mv w6 ⟨hmv, k6⟩
    have hlt2 := t.ga.lt
    have hmv : RowO w6 G2 mv (mvL a i false f) := hmv.mono (fun y _ hy hG => by have h1 := hlt2 y hG; have h2 : w5.heap.size ≤ y := hy; omega)
    have t := t.keepN k6
    have st := s.trans t
    have ho := ho.keep k6 (fun _ _ _ h => h)
    have fmv : RF D2 (mvL a i false f) := fun y hy => by
      unfold mvL at hy
      obtain ⟨z, hz, rfl⟩ := List.mem_map.1 hy
      unfold mvAt
      simp only [Bool.false_eq_true, if_false]
      split
      · rw [List.getD_eq_getElem?_getD]
        cases hm : a[z + i]? with
        | none => exact t.ft ff
        | some q => exact st.ft (fa q (List.mem_of_getElem? hm))
      · exact t.ft ff
    refine M.call_i (aite_ret (c := far) st.ga (by omega) hn0 (by omega) hmv ho (by rw [mvL_len]; exact la) lo ffar fmv fo) ?_; rintro iv w7 ⟨G7, D7, nrow, hnr, t7, lnr, fnr, vnr⟩
    have st7 := st.trans t7
    refine ⟨G7, D7, nrow, RowF.up hnr st.keep.size, st7.mono (by omega), lnr, fnr, fun j => ?_⟩
    have vn' : rv j D7 nrow = if lv j D2 far then rv j D2 (mvL a i false f) else rv j D2 out := vnr j
    have ho' := hout j
    have hf' := hfar j
    rw [List.take_of_length_le (by omega)] at hf'
    rw [Nat.min_eq_right hLn] at ho'
    have sp := rv_split j D b (k := L) (by omega)
    have hV : (a.map (lv j D)).length = i := by rw [List.length_map]; exact la
    by_cases hz : rv j D (b.drop L) = 0
    · rw [hf', decide_eq_false (fun hc => hc hz), if_neg (by decide)] at vn'
      rw [map_of_rv (by rw [lnr, lo]) vn', ho', sp, hz]
      simp
    · rw [hf', decide_eq_true hz, if_pos rfl] at vn'
      have hbig : i ≤ rv j D b := by
        rw [sp]
        have : 2 ^ L * 1 ≤ 2 ^ L * rv j D (b.drop L) := Nat.mul_le_mul_left _ (by omega)
        omega
      have ea : a.map (lv j D2) = a.map (lv j D) := List.map_congr_left (fun y hy => st.lv (fa y hy) j)
      rw [map_of_rv (by rw [lnr, mvL_len, la]) vn', mvL_map, ea, mvL_far _ _ _ (by omega), mvL_far _ _ _ (by omega), t.lv ff, hfv j]
end
end Go.Proofs.Ytnbcglnefoinlaa
namespace Go.Proofs.Ytnbcglnefoinlaa
open Go.Mw
set_option linter.unusedVariables false
set_option linter.unusedSimpArgs false
theorem cut_nat {n : Nat} (h1 : 1 ≤ n) (h2 : n ≤ 64) (z : W64) : (cutW n z).toNat = z.toNat % 2 ^ n := by
  apply Nat.eq_of_testBit_eq
  intro i
  rw [BitVec.testBit_toNat, cutW_bit h1 h2, Nat.testBit_mod_two_pow, BitVec.testBit_toNat, Bool.and_comm]
theorem cut_sm {n : Nat} (h1 : 1 ≤ n) (h2 : n ≤ 64) {z : W64} (h : z.toNat < 2 ^ n) : cutW n z = z := by
  apply BitVec.eq_of_toNat_eq
  rw [cut_nat h1 h2, Nat.mod_eq_of_lt h]
theorem p64 {n : Nat} (h2 : n ≤ 64) : (2 : Nat) ^ 64 = 2 ^ n * 2 ^ (64 - n) := by rw [← Nat.pow_add]; congr 1; omega
theorem mod64 {n : Nat} (h2 : n ≤ 64) (z : Nat) : z % 2 ^ 64 % 2 ^ n = z % 2 ^ n := Nat.mod_mod_of_dvd _ ⟨2 ^ (64 - n), p64 h2⟩
theorem bin_red {op : Int} {n : Nat} (ho : 1 ≤ op ∧ op ≤ 14) (h1 : 1 ≤ n) (h2 : n ≤ 64) {x y : W64} (hx : x.toNat < 2 ^ n) (hy : y.toNat < 2 ^ n) : (binW op n x y).toNat = (binC op n x y).toNat % 2 ^ n := by
  unfold binW
  rw [if_neg (by omega), if_pos (fits_of h1 h2), cut_sm h1 h2 hx, cut_sm h1 h2 hy, cut_nat h1 h2, Int.toNat_natCast]
section
variable {n : Nat} {x y : W64}
theorem w_add (h1 : 1 ≤ n) (h2 : n ≤ 64) (hx : x.toNat < 2 ^ n) (hy : y.toNat < 2 ^ n) : (binW 1 n x y).toNat = (x.toNat + y.toNat) % 2 ^ n := by
  rw [bin_red (by decide) h1 h2 hx hy]
  show (x + y).toNat % 2 ^ n = _
  rw [BitVec.toNat_add, mod64 h2]
theorem w_sub (h1 : 1 ≤ n) (h2 : n ≤ 64) (hx : x.toNat < 2 ^ n) (hy : y.toNat < 2 ^ n) : (binW 2 n x y).toNat = (x.toNat + (2 ^ n - y.toNat)) % 2 ^ n := by
  rw [bin_red (by decide) h1 h2 hx hy]
  show (x - y).toNat % 2 ^ n = _
  rw [BitVec.toNat_sub, mod64 h2]
  have hp := p64 h2
  have hq : 0 < 2 ^ (64 - n) := Nat.two_pow_pos _
  generalize 2 ^ (64 - n) = q at hp hq
  obtain ⟨k, rfl⟩ : ∃ k, q = k + 1 := ⟨q - 1, by omega⟩
  rw [hp, show 2 ^ n * (k + 1) - y.toNat + x.toNat = x.toNat + (2 ^ n - y.toNat) + 2 ^ n * k by rw [Nat.mul_succ]; omega, Nat.add_mul_mod_self_left]
theorem w_mul (h1 : 1 ≤ n) (h2 : n ≤ 64) (hx : x.toNat < 2 ^ n) (hy : y.toNat < 2 ^ n) : (binW 3 n x y).toNat = (x.toNat * y.toNat) % 2 ^ n := by
  rw [bin_red (by decide) h1 h2 hx hy]
  show (x * y).toNat % 2 ^ n = _
  rw [BitVec.toNat_mul, mod64 h2]
theorem mask_nat (h1 : 1 ≤ n) (h2 : n ≤ 64) : (maskW n).toNat = 2 ^ n - 1 := by
  apply Nat.eq_of_testBit_eq
  intro i
  rw [BitVec.testBit_toNat, maskW_bit h1 h2, Nat.testBit_two_pow_sub_one]
theorem eq0 : (y = 0) ↔ y.toNat = 0 := ⟨fun h => by rw [h]; rfl, fun h => BitVec.eq_of_toNat_eq h⟩
theorem w_div (h1 : 1 ≤ n) (h2 : n ≤ 64) (hx : x.toNat < 2 ^ n) (hy : y.toNat < 2 ^ n) : (binW 4 n x y).toNat = if y.toNat = 0 then 2 ^ n - 1 else x.toNat / y.toNat := by
  rw [bin_red (by decide) h1 h2 hx hy]
  show (if y = 0 then maskW n else x / y).toNat % 2 ^ n = _
  by_cases h : y = 0
  · rw [if_pos h, if_pos (eq0.1 h), mask_nat h1 h2, Nat.mod_eq_of_lt]
    have := Nat.two_pow_pos n; omega
  · rw [if_neg h, if_neg (fun e => h (eq0.2 e)), BitVec.toNat_udiv, Nat.mod_eq_of_lt]
    exact Nat.lt_of_le_of_lt (Nat.div_le_self _ _) hx
theorem w_rem (h1 : 1 ≤ n) (h2 : n ≤ 64) (hx : x.toNat < 2 ^ n) (hy : y.toNat < 2 ^ n) : (binW 5 n x y).toNat = if y.toNat = 0 then x.toNat else x.toNat % y.toNat := by
  rw [bin_red (by decide) h1 h2 hx hy]
  show (if y = 0 then x else x % y).toNat % 2 ^ n = _
  by_cases h : y = 0
  · rw [if_pos h, if_pos (eq0.1 h), Nat.mod_eq_of_lt hx]
  · rw [if_neg h, if_neg (fun e => h (eq0.2 e)), BitVec.toNat_umod, Nat.mod_eq_of_lt]
    exact Nat.lt_of_le_of_lt (Nat.mod_le _ _) hx
theorem w_and (h1 : 1 ≤ n) (h2 : n ≤ 64) (hx : x.toNat < 2 ^ n) (hy : y.toNat < 2 ^ n) : (binW 6 n x y).toNat = x.toNat &&& y.toNat := by
  rw [bin_red (by decide) h1 h2 hx hy]
  show (x &&& y).toNat % 2 ^ n = _
  rw [BitVec.toNat_and, Nat.mod_eq_of_lt]
  exact Nat.lt_of_le_of_lt Nat.and_le_left hx
theorem w_or (h1 : 1 ≤ n) (h2 : n ≤ 64) (hx : x.toNat < 2 ^ n) (hy : y.toNat < 2 ^ n) : (binW 7 n x y).toNat = x.toNat ||| y.toNat := by
  rw [bin_red (by decide) h1 h2 hx hy]
  show (x ||| y).toNat % 2 ^ n = _
  rw [BitVec.toNat_or, Nat.mod_eq_of_lt (Nat.or_lt_two_pow hx hy)]
theorem w_xor (h1 : 1 ≤ n) (h2 : n ≤ 64) (hx : x.toNat < 2 ^ n) (hy : y.toNat < 2 ^ n) : (binW 8 n x y).toNat = x.toNat ^^^ y.toNat := by
  rw [bin_red (by decide) h1 h2 hx hy]
  show (x ^^^ y).toNat % 2 ^ n = _
  rw [BitVec.toNat_xor, Nat.mod_eq_of_lt (Nat.xor_lt_two_pow hx hy)]
theorem one_mod (h1 : 1 ≤ n) (b : Bool) : (if b then (1 : W64) else 0).toNat % 2 ^ n = b.toNat := by
  have : 2 ^ 1 ≤ 2 ^ n := Nat.pow_le_pow_right (by decide) h1
  rw [Nat.mod_eq_of_lt]
  · cases b <;> rfl
  · cases b
    · show 0 < _; omega
    · show 1 < _; omega
theorem w_eq (h1 : 1 ≤ n) (h2 : n ≤ 64) (hx : x.toNat < 2 ^ n) (hy : y.toNat < 2 ^ n) : (binW 12 n x y).toNat = (decide (x.toNat = y.toNat)).toNat := by
  rw [bin_red (by decide) h1 h2 hx hy]
  show (if decide (x = y) then (1 : W64) else 0).toNat % 2 ^ n = _
  rw [one_mod h1]
  congr 1
  rw [decide_eq_decide]
  exact ⟨fun h => by rw [h], fun h => BitVec.eq_of_toNat_eq h⟩
theorem w_ult (h1 : 1 ≤ n) (h2 : n ≤ 64) (hx : x.toNat < 2 ^ n) (hy : y.toNat < 2 ^ n) : (binW 13 n x y).toNat = (decide (x.toNat < y.toNat)).toNat := by
  rw [bin_red (by decide) h1 h2 hx hy]
  show (if decide (x < y) then (1 : W64) else 0).toNat % 2 ^ n = _
  rw [one_mod h1]
  rfl
theorem w_slt (h1 : 1 ≤ n) (h2 : n ≤ 64) (hx : x.toNat < 2 ^ n) (hy : y.toNat < 2 ^ n) : (binW 14 n x y).toNat = (decide ((x.toNat + 2 ^ (n - 1)) % 2 ^ n < (y.toNat + 2 ^ (n - 1)) % 2 ^ n)).toNat := by
  rw [bin_red (by decide) h1 h2 hx hy]
  show (if decide ((sgnW n x).toInt < (sgnW n y).toInt) then (1 : W64) else 0).toNat % 2 ^ n = _
  rw [one_mod h1, sgn_toInt h1 h2 x hx, sgn_toInt h1 h2 y hy]
  congr 1
  have hm : 2 ^ n = 2 ^ (n - 1) * 2 := by
    have := Nat.pow_succ 2 (n - 1)
    rw [show (n - 1).succ = n by omega] at this
    exact this
  rw [decide_eq_decide]
  generalize 2 ^ (n - 1) = p at hm ⊢
  rw [hm] at hx hy ⊢
  have ev : ∀ z : Nat, z < p * 2 → (z + p) % (p * 2) = if z < p then z + p else z - p := fun z hz => by
    split
    · rw [Nat.mod_eq_of_lt (by omega)]
    · rw [show z + p = (z - p) + p * 2 by omega, Nat.add_mod_right, Nat.mod_eq_of_lt (by omega)]
  rw [ev _ hx, ev _ hy]
  split <;> split <;> omega
theorem w_neg (h1 : 1 ≤ n) (h2 : n ≤ 64) (hx : x.toNat < 2 ^ n) : (unW 16 n x).toNat = (2 ^ n - x.toNat) % 2 ^ n := by
  unfold unW
  rw [if_neg (by decide), if_pos (fits_of h1 h2), if_neg (by decide), cut_nat h1 h2]
  have := w_sub (x := 0) (y := x) h1 h2 (Nat.two_pow_pos n) hx
  rw [bin_red (x := (0 : W64)) (by decide) h1 h2 (Nat.two_pow_pos n) hx] at this
  have e : binC 2 n 0 x = 0 - x := rfl
  have e0 : (0 : W64) - x = -x := by rw [show (0 : W64) = 0#64 from rfl, BitVec.zero_sub]
  rw [e, e0] at this
  rw [this]
  show (0 + _) % _ = _
  rw [Nat.zero_add]
theorem w_not (h1 : 1 ≤ n) (h2 : n ≤ 64) (hx : x.toNat < 2 ^ n) : (unW 15 n x).toNat + x.toNat + 1 = 2 ^ n := by
  unfold unW
  rw [if_neg (by decide), if_pos (fits_of h1 h2), if_pos rfl, cut_nat h1 h2, BitVec.toNat_not]
  have hp := p64 h2
  have hq : 0 < 2 ^ (64 - n) := Nat.two_pow_pos _
  rw [hp]
  generalize 2 ^ (64 - n) = q at hq
  obtain ⟨k, rfl⟩ : ∃ k, q = k + 1 := ⟨q - 1, by omega⟩
  rw [show 2 ^ n * (k + 1) - 1 - x.toNat = (2 ^ n - 1 - x.toNat) + 2 ^ n * k by rw [Nat.mul_succ]; omega, Nat.add_mul_mod_self_left, Nat.mod_eq_of_lt (by omega)]
  omega
theorem w_shift {op : Int} {V : List Bool} (hop : op = 9 ∨ op = 10 ∨ op = 11) (h1 : 1 ≤ n) (h2 : n ≤ 64) (hV : V.length = n) (hx : nvB V = x.toNat) (hy : y.toNat < 2 ^ n) :
    nvB (mvL V y.toNat (decide (op = 9)) (if op = 11 then V.getD (n - 1) false else false)) = (binW op n x y).toNat := by
  have hxl : x.toNat < 2 ^ n := by rw [← hx, ← hV]; exact nvB_lt V
  have hb : ∀ j, V.getD j false = x.getLsbD j := fun j => by rw [← nvB_bit, hx, BitVec.testBit_toNat]
  have hhi : ∀ j, n ≤ j → x.getLsbD j = false := fun j hj => by
    rw [← BitVec.testBit_toNat]
    exact Nat.testBit_lt_two_pow (Nat.lt_of_lt_of_le hxl (Nat.pow_le_pow_right (by decide) hj))
  rw [bin_red (by omega) h1 h2 hxl hy]
  apply Nat.eq_of_testBit_eq
  intro i
  rw [nvB_bit, Nat.testBit_mod_two_pow, BitVec.testBit_toNat]
  by_cases hi : i < n
  · rw [decide_eq_true hi, Bool.true_and, mvL_get _ _ _ _ (by omega), hV]
    unfold mvAt
    rcases hop with rfl | rfl | rfl
    · show (if true then (if y.toNat ≤ i then V.getD (i - y.toNat) false else false) else _) = (x <<< byN n y).getLsbD i
      rw [if_pos rfl, BitVec.getLsbD_shiftLeft, hb]
      unfold byN
      have h64 : decide (i < 64) = true := by rw [decide_eq_true_iff]; omega
      by_cases hk : y.toNat ≤ i
      · rw [if_pos hk, if_neg (by omega), h64]
        have : decide (i < y.toNat) = false := by rw [decide_eq_false_iff_not]; omega
        rw [this]; rfl
      · rw [if_neg hk, h64]
        have : decide (i < if n < y.toNat then n else y.toNat) = true := by rw [decide_eq_true_iff]; split <;> omega
        rw [this]; rfl
    · show (if i + y.toNat < n then V.getD (i + y.toNat) false else false) = (x >>> byN n y).getLsbD i
      rw [BitVec.getLsbD_ushiftRight, hb]
      unfold byN
      by_cases hk : i + y.toNat < n
      · rw [if_pos hk, if_neg (by omega), Nat.add_comm]
      · rw [if_neg hk, hhi]
        split <;> omega
    · show (if i + y.toNat < n then V.getD (i + y.toNat) (V.getD (n - 1) false) else V.getD (n - 1) false) = ((sgnW n x).sshiftRight (byN n y)).getLsbD i
      have h64 : decide (64 ≤ i) = false := by rw [decide_eq_false_iff_not]; omega
      have hm : (sgnW n x).msb = x.getLsbD (n - 1) := by
        rw [BitVec.msb_eq_getLsbD_last, sgnW_bit h1 h2 _ _ (by omega)]
        congr 1
        split <;> omega
      rw [BitVec.getLsbD_sshiftRight, h64, hm, hb]
      unfold byN
      by_cases hk : i + y.toNat < n
      · have e : V.getD (i + y.toNat) (x.getLsbD (n - 1)) = V.getD (i + y.toNat) false := by
          rw [List.getD_eq_getElem?_getD, List.getD_eq_getElem?_getD, List.getElem?_eq_getElem (by omega)]; rfl
        have hk2 : (if n < y.toNat then n else y.toNat) = y.toNat := if_neg (by omega)
        rw [if_pos hk, e, hb, hk2, if_pos (by omega), sgnW_bit h1 h2 _ _ (by omega), if_pos (by omega), Nat.add_comm]; rfl
      · rw [if_neg hk]
        by_cases h6 : (if n < y.toNat then n else y.toNat) + i < 64
        · rw [if_pos h6, sgnW_bit h1 h2 _ _ h6, if_neg (by split <;> omega)]; rfl
        · rw [if_neg h6]; rfl
  · rw [decide_eq_false hi, Bool.false_and, List.getD_eq_getElem?_getD, List.getElem?_eq_none (by rw [mvL_len]; omega)]; rfl
theorem w_ext {lo wd m : Nat} (h1 : 1 ≤ wd) (h2 : wd ≤ 64) : (cutW wd (x >>> lo)).toNat = x.toNat / 2 ^ lo % 2 ^ wd := by
  rw [cut_nat h1 h2, BitVec.toNat_ushiftRight, Nat.shiftRight_eq_div_pow]
theorem w_cat {a b : Nat} (hab : a + b ≤ 64) (hx : x.toNat < 2 ^ a) (hy : y.toNat < 2 ^ b) : ((x <<< b) ||| y).toNat = y.toNat + 2 ^ b * x.toNat := by
  rw [BitVec.toNat_or, BitVec.toNat_shiftLeft, Nat.shiftLeft_eq]
  have hlt : x.toNat * 2 ^ b < 2 ^ 64 := by
    have h3 : x.toNat * 2 ^ b < 2 ^ a * 2 ^ b := Nat.mul_lt_mul_of_pos_right hx (Nat.two_pow_pos b)
    rw [← Nat.pow_add] at h3
    exact Nat.lt_of_lt_of_le h3 (Nat.pow_le_pow_right (by decide) hab)
  rw [Nat.mod_eq_of_lt hlt, Nat.mul_comm, ← Nat.two_pow_add_eq_or_of_lt hy, Nat.add_comm]
theorem w_sext {m : Nat} (h1 : 1 ≤ m) (hmn : m ≤ n) (h2 : n ≤ 64) {V : List Bool} (hV : V.length = m) (hx : nvB V = x.toNat) : (cutW n (sgnW m x)).toNat = nvB (V ++ List.replicate (n - m) (V.getD (m - 1) false)) := by
  have hb : ∀ j, V.getD j false = x.getLsbD j := fun j => by rw [← nvB_bit, hx, BitVec.testBit_toNat]
  apply Nat.eq_of_testBit_eq
  intro i
  rw [BitVec.testBit_toNat, cutW_bit (by omega) h2, nvB_bit]
  by_cases hi : i < n
  · rw [decide_eq_true hi, Bool.and_true, sgnW_bit h1 (by omega) _ _ (by omega)]
    by_cases him : i < m
    · rw [if_pos him, List.getD_eq_getElem?_getD, List.getElem?_append_left (by omega), ← List.getD_eq_getElem?_getD, hb]
    · rw [if_neg him, List.getD_eq_getElem?_getD, List.getElem?_append_right (by omega), List.getElem?_replicate, if_pos (by omega), hb]; rfl
  · rw [decide_eq_false hi, Bool.and_false, List.getD_eq_getElem?_getD, List.getElem?_eq_none (by simp; omega)]; rfl
end
end Go.Proofs.Ytnbcglnefoinlaa
namespace Go.Proofs.Ytnbcglnefoinlaa
open Go.Mw Go.Maps Go.MapKept
set_option linter.unusedVariables false
set_option linter.unusedSimpArgs false
set_option maxRecDepth 100000
attribute [local irreducible] M.val M.unit M.next M.pick M.new M.nilCheck M.load1 M.loadA M.store M.fieldAddr M.indexSl M.indexArr M.slice M.makeSlice M.buildSlice M.len M.lenS M.cap M.append M.extract M.conv M.not M.neg M.bin M.shift M.eqB M.eqNil M.scat M.call M.callv M.gd M.share M.cond M.loop M.draw pureW readW Ret
def sh13 (x0 : Value) (R : Kt) (w : World) : Prop :=
  M.eqNil 1 false x0 (fun t4 w =>
  M.cond t4
  (R (Value.slice none 0 0) w)
  (M.buildSlice 3 1 #[.int .i64 0] 0 [] (fun t5 w =>
  M.append 3 1 8 #[.int .i64 0] t5 x0 (fun t7 w =>
  R t7 w) w) w)) w
theorem ok13 (x0 : Value) (R : Kt) (w : World) (h : sh13 x0 R w) : Ret Try.prog 13 #[x0] w R :=
  ret_mk <| calls_of_comp mixed (c := Try.f13.body.getD .skip) (args := [x0]) (rs := [(ResultVar.tmp 2)]) (Ann.seq Ann.text (Ann.seq (Ann.seq Ann.text (Ann.cond (Ann.seq Ann.text Ann.leaf) Ann.leaf)) (Ann.seq Ann.text Ann.leaf)))
    Try.func13 (by kernel_rfl) (by kernel_rfl)
    (Eq.mp (by kernel_rfl) h)
def sh32 (x0 x1 x2 : Value) (R : Kt) (w : World) : Prop :=
  M.call Try.prog 13 #[x0] (fun t9 w =>
  M.loop [t9] (fun s1 K1 w => ∀ _ : List Value,
  M.len (s1.getD 0 undef) (fun t11 w =>
  M.bin .lss t11 x1 (fun t13 w =>
  M.cond t13
  (M.buildSlice 3 1 #[.int .i64 0] 1 [(0, x2)] (fun t16 w =>
  M.append 3 1 8 #[.int .i64 0] (s1.getD 0 undef) t16 (fun t17 w =>
  K1 [t17] w) w) w)
  (R (s1.getD 0 undef) w)) w) w) w) w
theorem ok32 (x0 x1 x2 : Value) (R : Kt) (w : World) (h : sh32 x0 x1 x2 R w) : Ret Try.prog 32 #[x0, x1, x2] w R :=
  ret_mk <| calls_of_comp mixed (c := Try.f32.body.getD .skip) (args := [x0, x1, x2]) (rs := [(ResultVar.tmp 6)]) (Ann.seq Ann.text (Ann.seq Ann.text (Ann.seq (Ann.block (Ann.loop [7] [10, 11, 12, 13, 14, 15, 16, 17] (Ann.seq (Ann.seq Ann.text (Ann.cond Ann.leaf Ann.leaf)) (Ann.block Ann.text)))) (Ann.seq Ann.text Ann.leaf))))
    Try.func32 (by kernel_rfl) (by kernel_rfl)
    (Eq.mp (by kernel_rfl) h)
def sh33 (x0 : Value) (R : Kt) (w : World) : Prop :=
  M.len x0 (fun t7 w =>
  M.makeSlice 3 1 8 #[.int .i64 0] t7 t7 (fun t8 w =>
  M.len x0 (fun t10 w =>
  M.loop [(Value.int IntKind.i64 0)] (fun s1 K1 w => ∀ _ : List Value,
  M.bin .lss (s1.getD 0 undef) t10 (fun t12 w =>
  M.cond t12
  (M.indexSl 1 x0 (s1.getD 0 undef) (fun t14 w =>
  M.load1 t14 (fun t15 w =>
  M.call Try.prog 26 #[t15] (fun t19 w =>
  M.indexSl 1 t8 (s1.getD 0 undef) (fun t20 w =>
  M.store 1 t20 t19 (fun _ w =>
  M.bin .add (s1.getD 0 undef) (Value.int IntKind.i64 1) (fun t21 w =>
  K1 [t21] w) w) w) w) w) w) w)
  (R t8 w)) w) w) w) w) w
theorem ok33 (x0 : Value) (R : Kt) (w : World) (h : sh33 x0 R w) : Ret Try.prog 33 #[x0] w R :=
  ret_mk <| calls_of_comp mixed (c := Try.f33.body.getD .skip) (args := [x0]) (rs := [(ResultVar.tmp 2)]) (Ann.seq Ann.text (Ann.seq Ann.text (Ann.seq (Ann.seq Ann.text (Ann.block (Ann.loop [11] [4, 5, 12, 13, 14, 15, 16, 17, 18, 19, 20, 21] (Ann.seq Ann.text (Ann.seq (Ann.cond Ann.leaf Ann.leaf) (Ann.seq (Ann.block (Ann.seq Ann.text Ann.text)) Ann.text)))))) (Ann.seq Ann.text Ann.leaf))))
    Try.func33 (by kernel_rfl) (by kernel_rfl)
    (Eq.mp (by kernel_rfl) h)
def sh64 (x0 x1 x2 : Value) (R : Kt) (w : World) : Prop :=
  M.len x0 (fun t10 w =>
  M.makeSlice 3 1 8 #[.int .i64 0] t10 t10 (fun t11 w =>
  M.len x0 (fun t13 w =>
  M.loop [(Value.int IntKind.i64 0)] (fun s1 K1 w => ∀ _ : List Value,
  M.bin .lss (s1.getD 0 undef) t13 (fun t15 w =>
  M.cond t15
  (M.draw (fun w =>
  M.indexSl 1 x0 (s1.getD 0 undef) (fun t22 w =>
  M.load1 t22 (fun t23 w =>
  M.indexSl 1 x1 (s1.getD 0 undef) (fun t26 w =>
  M.load1 t26 (fun t27 w =>
  M.callv Try.prog x2 #[t23, t27] (fun t28 w =>
  M.indexSl 1 t11 (s1.getD 0 undef) (fun t29 w =>
  M.store 1 t29 t28 (fun _ w =>
  M.bin .add (s1.getD 0 undef) (Value.int IntKind.i64 1) (fun t30 w =>
  K1 [t30] w) w) w) w) w) w) w) w) w) w)
  (R t11 w)) w) w) w) w) w
theorem ok64 (x0 x1 x2 : Value) (R : Kt) (w : World) (h : sh64 x0 x1 x2 R w) : Ret Try.prog 64 #[x0, x1, x2] w R :=
  ret_mk <| calls_of_comp mixed (c := Try.f64.body.getD .skip) (args := [x0, x1, x2]) (rs := [(ResultVar.tmp 6)]) (Ann.seq Ann.text (Ann.seq Ann.text (Ann.seq (Ann.seq Ann.text (Ann.block (Ann.loop [14] [8, 15, 16, 17, 18, 19, 20, 21, 22, 23, 24, 25, 26, 27, 28, 29, 30] (Ann.seq Ann.text (Ann.seq (Ann.cond Ann.leaf Ann.leaf) (Ann.seq (Ann.block (Ann.seq Ann.text (Ann.draw (Sch.take 0 (Sch.take 1 (Sch.take 2 (Sch.take 3 (Sch.take 4 (Sch.take 5 (Sch.take 6 (Sch.take 7 (Sch.take 8 (Sch.take 9 (Sch.take 10 (Sch.one 11 (Sch.take 12 (Sch.one 13 Sch.done))))))))))))))))) Ann.text)))))) (Ann.seq Ann.text Ann.leaf))))
    Try.func64 (by kernel_rfl) (by kernel_rfl)
    (Eq.mp (by kernel_rfl) h)
section
variable {w : World} {D : Nat → Prop}
theorem clone23_ret {v : Value} {xs : List Int} (h : LV vi w D v xs) (hf : xs.length ≤ 1000000) : Ret Try.prog 13 #[v] w (fun r w' => GI w' (w.heap.size ≤ ·) r xs ∧ Keep w w' No) := by
  obtain ⟨A, c, rfl, hr, hc⟩ := h
  refine ok13 _ _ _ ?_
  unfold sh13
  cases A with
  | none =>
    have hx : xs = [] := by
      rcases hr with h | ⟨_, _, _, _, _, h, _⟩
      · simpa using h
      · cases h
    subst hx
    (repeat (first|refine jo ?_|refine jw ?_))
    exact ⟨GI.nil _ _, Keep.refl _ _⟩
  | some ad =>
    (repeat (first|refine jp ?_|refine jx ?_))
    refine M.buildSlice_i [] (by kernel_rfl) (fun w1 b1 k1 s1 => ?_)
    have g1 : GI w1 (w.heap.size ≤ ·) (.slice (some ⟨w.heap.size, 0, none⟩) 0 0) [] := GC.of_blk b1 (Nat.le_refl _) rfl
    refine M.appendI_i rfl g1 (hr.keep k1 (fun _ _ _ h => h)) rfl (by simp; omega) (fun v2 w2 g2 k2 => ?_)
    have q1 := k1.size
    exact ⟨g2.mono (fun b hb h => by
      rcases h with h | h
      · exact h
      · show w.heap.size ≤ b; omega), k1.trans k2 (fun b hb h => by have h : w.heap.size ≤ b := h; omega)⟩
end
section
variable {w : World}
theorem bnots_ret {E : Nat → Prop} {v : Value} {r : List Int} (hv : LV vi w E v r) (hl : r.length ≤ 1000) (h0 : ∀ x ∈ r, 0 ≤ x ∧ x ≤ 1000000000) :
    Ret Try.prog 33 #[v] w (fun u w' => LV vi w' (w.heap.size ≤ ·) u (r.map nt) ∧ Keep w w' No) := by
  obtain ⟨A, c, rfl, hr, hc⟩ := id hv
  refine ok33 _ _ _ ?_
  unfold sh33
  (repeat (refine ja ?_))
  refine M.makeSlice_i rfl rfl (by omega) (by omega) (fun w1 b1 k1 s1 => ?_)
  (repeat (refine ja ?_))
  rw [← pad_nil] at b1
  refine M.loop_i (σ := Nat) (fun i vals w' => vals = [vi i] ∧ i ≤ r.length ∧ Blk w' w.heap.size ((pad r.length ((r.take i).map nt)).map vi) ∧ Keep w w' No) (fun i => r.length - i) 0 ⟨rfl, by omega, by simpa using b1, k1⟩ ?_
  rintro i vals w2 K ⟨rfl, hi, b2, k2⟩ hK _
  simp only [List.getD_cons_zero, List.getD_cons_succ]
  by_cases hlt : i < r.length
  · obtain ⟨x, hx⟩ : ∃ x, r[i]? = some x := ⟨_, List.getElem?_eq_getElem hlt⟩
    obtain ⟨x0, x1⟩ := h0 x (List.mem_of_getElem? hx)
    have hr2 := hr.keep k2 (fun _ _ _ h => h)
    (repeat (first|refine jo ?_|refine jy ?_))
    refine M.idxLV_i hr2 rfl (by omega) (by omega) (x := x) (by simpa using hx) (fun bb oo hA hcc => ?_)
    (repeat (refine jM (by assumption) ?_))
    refine M.call_i (ntr_ret x0 (by omega) _) ?_; rintro _ w3 ⟨rfl, k3⟩
    have b3 := b2.keep k3 (fun h => h)
    have hl3 : ((r.take i).map nt).length = i := by simp; omega
    refine M.idx_i (by omega) (by omega) ?_
    refine M.store_i b3 (by rw [List.length_map, pad_len (by omega)]; simp; omega) rfl (fun w4 b4 k4 s4 => ?_)
    (repeat (refine jK ?_))
    refine hK (i + 1) _ _ (by omega) ⟨by simp, by omega, ?_, (k2.trans k3 (fun _ _ h => h)).trans k4 (fun x hx e => by have e : x = w.heap.size := e; omega)⟩
    have := pad_set (n := r.length) (l := (r.take i).map nt) (x := nt x) (by omega)
    rw [hl3] at this
    rw [show 0 + (i : Int).toNat * 1 = i by simp, this] at b4
    rw [List.take_add_one, hx]
    simpa using b4
  · have e : i = r.length := by omega
    (repeat (first|refine jp ?_|refine jz ?_))
    rw [e, List.take_length, pad_full (by simp)] at b2
    exact ⟨LV.blk b2 (Nat.le_refl _) (by simp), k2⟩
theorem extended_ret {E : Nat → Prop} {v : Value} {r : List Int} {n : Nat} {f : Int} (hv : LV vi w E v r) (hl : r.length ≤ n) (hn : n ≤ 1000) :
    Ret Try.prog 32 #[v, vi n, vi f] w (fun u w' => LV vi w' (w.heap.size ≤ ·) u (r ++ List.replicate (n - r.length) f) ∧ Keep w w' No) := by
  refine ok32 _ _ _ _ _ ?_
  unfold sh32
  refine M.call_i (clone23_ret hv (by omega)) ?_; rintro v1 w1 ⟨g1, k1⟩
  refine M.loop_i (σ := Nat) (fun i vals w' => ∃ sv, vals = [sv] ∧ i ≤ n - r.length ∧ GI w' (w.heap.size ≤ ·) sv (r ++ List.replicate i f) ∧ Keep w w' No) (fun i => n - i) 0 ⟨v1, rfl, by omega, by simpa using g1, k1⟩ ?_
  rintro i vals w2 K ⟨sv, rfl, hi, g2, k2⟩ hK _
  simp only [List.getD_cons_zero, List.getD_cons_succ]
  have hle : (r ++ List.replicate i f).length = r.length + i := by simp
  obtain ⟨A, c, rfl, hr, hc⟩ := GI.lv g2
  refine M.len_i ?_
  by_cases hlt : i < n - r.length
  · refine M.lss_t (by omega) ?_
    refine M.cond_t ?_
    refine M.buildSlice_i [vi f] (by kernel_rfl) (fun w3 b3 k3 s3 => ?_)
    have g3 := g2.keep k3 (fun _ _ _ h => h)
    refine M.append1_i g3 (Row.of_blk' (D := fun _ => True) b3 trivial) rfl (by omega) (fun v4 w4 g4 k4 => ?_)
    have q2 := k2.size
    have q3 := k3.size
    refine hK (i + 1) _ _ (by omega) ⟨v4, rfl, by omega, ?_, (k2.trans k3 (fun _ _ h => h)).trans k4 (fun x hx h => by have h : w.heap.size ≤ x := h; omega)⟩
    rw [List.replicate_succ', ← List.append_assoc]
    exact g4.mono (fun x _ h => by
      rcases h with h | h
      · exact h
      · show w.heap.size ≤ x; omega)
  · refine M.lss_f (by omega) ?_
    refine M.cond_f ?_
    have e : i = n - r.length := by omega
    subst e
    exact ⟨⟨A, c, rfl, hr.mono (fun _ _ h => h), hc⟩, k2⟩
def OfF (fn : Value) (g : Nat) (o : Bool → Bool → Bool) : Prop :=
  ∀ (w : World) (G : Nat → Prop) (D : List GK) (x y : Int) (kt : Kt), GaO w G g D → D.length ≤ 100000000 → Ft D x → Ft D y → (∀ r w', GOut w G g D 1 (fun i => o (lv i D x) (lv i D y)) r w' → kt r w') → M.callv Try.prog fn #[vi x, vi y] kt w
theorem ofAnd (g : Nat) : OfF (.func (.func 65) #[ptr g] #[]) g (· && ·) := fun w G D x y kt h hn fx fy hk => by
  refine M.callv_i (fun a w => rfl) (Q := GOut w G g D 1 (fun i => lv i D x && lv i D y)) ?_ hk
  exact and_ret h hn fx fy
theorem ofOr (g : Nat) : OfF (.func (.func 66) #[ptr g] #[]) g (· || ·) := fun w G D x y kt h hn fx fy hk => by
  refine M.callv_i (fun a w => rfl) (Q := GOut w G g D 1 (fun i => lv i D x || lv i D y)) ?_ hk
  exact or_ret h hn fx fy
theorem ofXor (g : Nat) : OfF (.func (.func 67) #[ptr g] #[]) g (· != ·) := fun w G D x y kt h hn fx fy hk => by
  refine M.callv_i (fun a w => rfl) (Q := GOut w G g D 1 (fun i => lv i D x != lv i D y)) ?_ hk
  exact xor_ret h hn fx fy
end
section
variable {w : World} {G : Nat → Prop} {g : Nat} {D : List GK}
theorem each_ret {fn va vb : Value} {o : Bool → Bool → Bool} {a b : List Int} {n : Nat} (h : GaO w G g D) (hD : D.length ≤ 90000000) (hof : OfF fn g o) (hn : n ≤ 1000) (ha : RowO w G va a) (hb : RowO w G vb b) (la : a.length = n) (lb : b.length = n) (fa : RF D a) (fb : RF D b) :
    Ret Try.prog 64 #[va, vb, fn] w (fun r w' => ∃ G' D' row, RowF w w' G' r row ∧ GS w G g D w' G' D' n ∧ row.length = n ∧ RF D' row ∧ ∀ i, row.map (lv i D') = List.zipWith o (a.map (lv i D)) (b.map (lv i D))) := by
  obtain ⟨A, ca, rfl, hra, hca⟩ := id ha
  obtain ⟨B, cb, rfl, hrb, hcb⟩ := id hb
  refine ok64 _ _ _ _ _ ?_
  unfold sh64
  (repeat (refine ja ?_))
  refine M.makeSlice_i rfl rfl (by omega) (by omega) (fun w3 b3 k3 s3 => ?_)
  have s := (GS.refl h).keepN k3
  (repeat (refine ja ?_))
  rw [← pad_nil] at b3
  have hnew : ¬ G w.heap.size := fun hx => by have := h.lt _ hx; omega
  refine M.loop_i (σ := Nat) (fun i vals w' => ∃ G1 D1 out, vals = [vi i] ∧ GS w G g D w' G1 D1 i ∧ i ≤ n ∧ Blk w' w.heap.size ((pad n out).map vi) ∧ ¬ G1 w.heap.size ∧ out.length = i ∧ RF D1 out ∧ ∀ j, out.map (lv j D1) = List.zipWith o ((a.take i).map (lv j D)) ((b.take i).map (lv j D))) (fun i => n - i) 0
    ⟨G, D, [], rfl, s, by omega, by rw [la] at b3; exact b3, hnew, rfl, RF.nil _, fun j => by simp⟩ ?_
  clear s
  rintro i vals w4 K ⟨G1, D1, out, rfl, s, hi, bo, no, lo, fo, hv⟩ hK _
  simp only [List.getD_cons_zero, List.getD_cons_succ]
  have hls := s.len
  by_cases hlt : i < n
  · obtain ⟨x, hx⟩ : ∃ x, a[i]? = some x := ⟨_, List.getElem?_eq_getElem (by omega)⟩
    obtain ⟨y, hy⟩ : ∃ y, b[i]? = some y := ⟨_, List.getElem?_eq_getElem (by omega)⟩
    have fx := fa x (List.mem_of_getElem? hx)
    have fy := fb y (List.mem_of_getElem? hy)
    have s := s.keepN (Keep.drew _ _)
    have bo := bo.keep (Keep.drew w4 No) (fun h => h)
    obtain ⟨_, _, e1, hra2, _⟩ := s.row ha
    obtain ⟨_, _, e2, hrb2, _⟩ := s.row hb
    simp only [Value.slice.injEq] at e1 e2
    obtain ⟨rfl, _, rfl⟩ := e1
    obtain ⟨rfl, _, rfl⟩ := e2
    (repeat (first|refine jd ?_|refine jo ?_|refine jy ?_))
    refine M.idxLV_i hra2 rfl (by omega) (by omega) (x := x) (by simpa using hx) (fun bb oo hA hcc => ?_)
    (repeat (refine jM (by assumption) ?_))
    refine M.idxLV_i hrb2 rfl (by omega) (by omega) (x := y) (by simpa using hy) (fun bb2 oo2 hA2 hcc2 => ?_)
    (repeat (refine jM (by assumption) ?_))
    refine hof _ _ _ _ _ _ s.ga (by omega) (s.ft fx) (s.ft fy) (fun r w5 hg => ?_)
    obtain ⟨G3, D3, z, rfl, t3, fz, vz⟩ := hg.gs
    have s3 := s.trans t3
    obtain ⟨bo, no⟩ := t3.blk bo no
    refine M.idx_i (by omega) (by omega) ?_
    refine M.store_i bo (by rw [List.length_map, pad_len (by omega)]; simp; omega) rfl (fun w6 bo k6 z6 => ?_)
    have e5 := pad_set (n := n) (l := out) (x := z) (by omega)
    rw [lo] at e5
    rw [show 0 + (i : Int).toNat * 1 = i by simp, e5] at bo
    have s3 := s3.keepO k6 (fun x hx => by have hx : x = w.heap.size := hx; subst hx; exact ⟨Nat.le_refl _, no⟩)
    (repeat (refine jK ?_))
    refine hK (i + 1) _ _ (by omega) ⟨G3, D3, out ++ [z], by simp, s3, by omega, bo, no, by simp [lo], (t3.rf fo).snoc fz, fun j => ?_⟩
    have eo : out.map (lv j D3) = out.map (lv j D1) := List.map_congr_left (fun q hq => t3.lv (fo q hq) j)
    rw [List.map_append, eo, hv j, List.take_add_one, List.take_add_one, hx, hy, List.map_append, List.map_append, List.zipWith_append (by simp; omega)]
    simp only [Option.toList_some, List.map_cons, List.map_nil, List.zipWith_cons_cons, List.zipWith_nil_left, vz, s.lv fx, s.lv fy]
  · have e : i = n := by omega
    subst e
    (repeat (first|refine jp ?_|refine jz ?_))
    rw [pad_full lo] at bo
    refine ⟨G1, D1, out, LV.blk bo ⟨no, Nat.le_refl _⟩ (by omega), s, lo, fo, fun j => ?_⟩
    have q := hv j
    rw [List.take_of_length_le (by omega), List.take_of_length_le (by omega)] at q
    exact q
end
theorem nvB_zip {o : Bool → Bool → Bool} {f : Nat → Nat → Nat} (ho : o false false = false) (hf : ∀ x y i, (f x y).testBit i = o (x.testBit i) (y.testBit i)) {V W : List Bool} (hl : V.length = W.length) : nvB (List.zipWith o V W) = f (nvB V) (nvB W) := by
  apply Nat.eq_of_testBit_eq
  intro i
  rw [nvB_bit, hf, nvB_bit, nvB_bit, List.getD_eq_getElem?_getD, List.getElem?_zipWith, List.getD_eq_getElem?_getD, List.getD_eq_getElem?_getD]
  by_cases h : i < V.length
  · rw [List.getElem?_eq_getElem h, List.getElem?_eq_getElem (by omega)]; rfl
  · rw [List.getElem?_eq_none (by omega), List.getElem?_eq_none (by omega)]; simp [ho]
end Go.Proofs.Ytnbcglnefoinlaa
