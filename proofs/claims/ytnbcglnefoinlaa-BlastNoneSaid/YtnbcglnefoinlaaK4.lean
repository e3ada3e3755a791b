import Derived.Test.YtnbcglnefoinlaaK3
namespace Go.Proofs.Ytnbcglnefoinlaa
open Go.Mw Go.Maps Go.MapKept
set_option linter.unusedVariables false
set_option linter.unusedSimpArgs false
set_option maxRecDepth 100000
attribute [local irreducible] M.val M.unit M.next M.pick M.new M.nilCheck M.load1 M.loadA M.store M.fieldAddr M.indexSl M.indexArr M.slice M.makeSlice M.buildSlice M.len M.lenS M.cap M.append M.extract M.conv M.not M.neg M.bin M.shift M.eqB M.eqNil M.scat M.call M.callv M.gd M.share M.cond M.loop M.draw pureW readW Ret
def sh67 (x0 x1 x2 : Value) (R : Kt) (w : World) : Prop :=
  M.new 3 (Value.cells x1) (fun t4 w =>
  M.new 3 (Value.cells x2) (fun t5 w =>
  M.load1 t4 (fun t10 w =>
  M.load1 t5 (fun t11 w =>
  M.buildSlice 3 1 #[.int .i64 0] 2 [(0, t10), (1, t11)] (fun t12 w =>
  M.call Try.prog 84 #[x0, t12] (fun t13 w =>
  M.cond t13
  (R (Value.int IntKind.i64 (-1)) w)
  (M.load1 t4 (fun t14 w =>
  M.load1 t5 (fun t15 w =>
  M.bin .xor t14 t15 (fun t16 w =>
  M.bin .and t16 (Value.int IntKind.i64 1) (fun t17 w =>
  M.draw (fun w =>
  M.load1 t4 (fun t18 w =>
  M.bin .andNot t18 (Value.int IntKind.i64 1) (fun t19 w =>
  M.load1 t5 (fun t20 w =>
  M.bin .andNot t20 (Value.int IntKind.i64 1) (fun t21 w =>
  M.store 1 t4 t19 (fun _ w =>
  ((M.load1 t5 (fun v' _ => v' = t20) w) ∧ M.store 1 t5 t21 (fun _ w =>
  M.share (fun K1 w =>
  M.draw (fun w =>
  M.load1 t4 (fun t22 w =>
  M.load1 t5 (fun t23 w =>
  M.load1 t4 (fun t25 w =>
  M.load1 t5 (fun t26 w =>
  ((M.next Try.prog (builtin .min #[3, 3] 3 #[false, false] #[t22, t23]) (fun t24 w =>
  ((M.load1 t5 (fun v' _ => v' = t26) w) ∧ ((M.load1 t4 (fun v' _ => v' = t25) w) ∧ ((M.next Try.prog (builtin .max #[3, 3] 3 #[false, false] #[t25, t26]) (fun t27 w =>
  M.store 1 t4 t24 (fun _ w =>
  M.store 1 t5 t27 (fun _ w =>
  K1 [] w) w) w) w) ∧
   (M.store 1 t4 t24 (fun _ w =>
  ((M.load1 t5 (fun v' _ => v' = t26) w) ∧ M.next Try.prog (builtin .max #[3, 3] 3 #[false, false] #[t25, t26]) (fun t27_2 w =>
  M.store 1 t5 t27_2 (fun _ w =>
  K1 [] w) w) w)) w))))) w) ∧
   (M.next Try.prog (builtin .max #[3, 3] 3 #[false, false] #[t25, t26]) (fun t27_3 w =>
  ((M.load1 t5 (fun v' _ => v' = t23) w) ∧ ((M.load1 t4 (fun v' _ => v' = t22) w) ∧ M.next Try.prog (builtin .min #[3, 3] 3 #[false, false] #[t22, t23]) (fun t24_2 w =>
  M.store 1 t4 t24_2 (fun _ w =>
  M.store 1 t5 t27_3 (fun _ w =>
  K1 [] w) w) w) w))) w))) w) w) w) w) w) (fun s1 w => ∀ _ : List Value,
  M.load1 t4 (fun t29 w =>
  M.load1 t5 (fun t30 w =>
  M.bin .eql t29 t30 (fun t31 w =>
  M.cond t31
  (M.bin .xor (Value.int IntKind.i64 1) t17 (fun t33 w =>
  R t33 w) w)
  (M.load1 t4 (fun t35 w =>
  M.bin .eql t35 (Value.int IntKind.i64 0) (fun t36 w =>
  M.cond t36
  (M.load1 t5 (fun t37 w =>
  M.bin .xor t37 (Value.int IntKind.i64 1) (fun t38 w =>
  M.bin .xor t38 t17 (fun t40 w =>
  R t40 w) w) w) w)
  (M.load1 t4 (fun t42 w =>
  M.load1 t5 (fun t43 w =>
  M.call Try.prog 86 #[x0, (Value.int IntKind.i64 1), t42, t43, (Value.int IntKind.i64 0), (.func (Fn.func 92) #[] #[t4, t5])] (fun t45 w =>
  M.bin .xor t45 t17 (fun t48 w =>
  R t48 w) w) w) w) w)) w) w)) w) w) w) w) w)) w) w) w) w) w) w) w) w) w) w)) w) w) w) w) w) w
theorem ok67 (x0 x1 x2 : Value) (R : Kt) (w : World) (h : sh67 x0 x1 x2 R w) : Ret Try.prog 67 #[x0, x1, x2] w R :=
  ret_mk <| calls_of_comp mixed (c := Try.f67.body.getD .skip) (args := [x0, x1, x2]) (rs := [(ResultVar.tmp 6)]) (Ann.seq Ann.text (Ann.seq (Ann.seq Ann.text (Ann.cond (Ann.seq Ann.text Ann.leaf) Ann.leaf)) (Ann.seq Ann.text (Ann.seq (Ann.draw (Sch.take 0 (Sch.take 1 (Sch.take 2 (Sch.take 3 (Sch.one 4 (Sch.one 5 Sch.done))))))) (Ann.join [] [22, 23, 24, 25, 26, 27] (Ann.draw (Sch.take 0 (Sch.take 1 (Sch.take 3 (Sch.take 4 (Sch.two 2 5 (Sch.two 5 6 (Sch.one 6 (Sch.one 7 Sch.done)) (Sch.one 5 (Sch.one 7 Sch.done))) (Sch.one 2 (Sch.one 6 (Sch.one 7 Sch.done))))))))) (Ann.seq (Ann.block (Ann.seq Ann.text (Ann.cond (Ann.seq Ann.text Ann.leaf) (Ann.seq Ann.text (Ann.cond (Ann.seq Ann.text Ann.leaf) Ann.leaf))))) (Ann.seq Ann.text (Ann.seq Ann.text Ann.leaf))))))))
    Try.func67 (by kernel_rfl) (by kernel_rfl)
    (Eq.mp (by kernel_rfl) h)
theorem wrap_par (n : Int) : (IntKind.i64.wrap n) % 2 = n % 2 := by
  have e : IntKind.i64.wrap n = if n % 18446744073709551616 ≥ 9223372036854775808 then n % 18446744073709551616 - 18446744073709551616 else n % 18446744073709551616 := by
    unfold IntKind.wrap
    simp [IntKind.bits, IntKind.signed]
  rw [e]
  omega
theorem xor_par {a b : Int} (ha : 0 ≤ a ∧ a ≤ 10000000000) (hb : 0 ≤ b ∧ b ≤ 10000000000) : ∃ z : Int, ibin .xor .i64 a b = some (vi z) ∧ z % 2 = (a + b) % 2 := by
  refine ⟨_, rfl, ?_⟩
  rw [wrap_par]
  obtain ⟨n, rfl⟩ : ∃ n : Nat, a = n := ⟨a.toNat, by omega⟩
  obtain ⟨m, rfl⟩ : ∃ m : Nat, b = m := ⟨b.toNat, by omega⟩
  have e : (BitVec.ofInt IntKind.i64.bits (n : Int) ^^^ BitVec.ofInt IntKind.i64.bits (m : Int)).toNat = n ^^^ m := by
    show (BitVec.ofInt 64 (n : Int) ^^^ BitVec.ofInt 64 (m : Int)).toNat = _
    rw [BitVec.toNat_xor, BitVec.toNat_ofInt, BitVec.toNat_ofInt]
    congr 1 <;> omega
  rw [e]
  have := Nat.xor_mod_two_eq_one (a := n) (b := m)
  omega
def xt (x t : Int) : Int := if t = 1 then nt x else x
theorem xor_t {x t : Int} (hx : 0 ≤ x ∧ x ≤ 10000000000) (ht : t = 0 ∨ t = 1) : ibin .xor .i64 x t = some (vi (xt x t)) := by
  rcases ht with rfl | rfl
  · unfold xt
    rw [if_neg (by decide)]
    simp only [ibin]
    have e : (BitVec.ofInt IntKind.i64.bits x ^^^ BitVec.ofInt IntKind.i64.bits 0).toNat = x.toNat := by
      show (BitVec.ofInt 64 x ^^^ BitVec.ofInt 64 0).toNat = _
      rw [BitVec.toNat_xor, BitVec.toNat_ofInt, BitVec.toNat_ofInt]
      have h0 : ((0 : Int) % ((2 ^ 64 : Nat) : Int)).toNat = 0 := by decide
      rw [h0, Nat.xor_zero]
      omega
    rw [e, wrap_i64 (by omega) (by omega)]
    have : (x.toNat : Int) = x := by omega
    rw [this]
  · unfold xt
    rw [if_pos rfl]
    exact xor_one (by omega) (by omega)
theorem lv_xt (i : Nat → Bool) (D : List GK) (x t : Int) : lv i D (xt x t) = (lv i D x != decide (t = 1)) := by
  unfold xt
  by_cases h : t = 1
  · rw [if_pos h, lv_nt]; simp [h]
  · rw [if_neg h]; simp [h]
theorem Ft.xt {D : List GK} {x : Int} (h : Ft D x) (t : Int) : Ft D (xt x t) := by
  unfold Go.Proofs.Ytnbcglnefoinlaa.xt
  split
  · exact h.nt
  · exact h
theorem andNot_nat (n : Nat) (h : n < 18446744073709551616) : n &&& 18446744073709551614 = n - n % 2 := by
  have e1 : (n &&& 18446744073709551614) / 2 = n / 2 := by
    rw [Nat.and_div_two]
    have := Nat.and_two_pow_sub_one_eq_mod (n / 2) 63
    show n / 2 &&& 9223372036854775807 = n / 2
    have e : (2 : Nat) ^ 63 - 1 = 9223372036854775807 := by decide
    rw [e] at this
    rw [this]
    omega
  have e2 := Nat.and_mod_two_eq_one (a := n) (b := 18446744073709551614)
  omega
theorem andNot_one {a : Int} (h : 0 ≤ a ∧ a ≤ 10000000000) : ibin .andNot .i64 a 1 = some (vi (a - a % 2)) := by
  simp only [ibin]
  have e : (BitVec.ofInt IntKind.i64.bits a &&& ~~~ BitVec.ofInt IntKind.i64.bits 1).toNat = (a - a % 2).toNat := by
    show (BitVec.ofInt 64 a &&& ~~~ BitVec.ofInt 64 1).toNat = _
    rw [BitVec.toNat_and, BitVec.toNat_ofInt]
    have h1 : (~~~ BitVec.ofInt 64 1).toNat = 18446744073709551614 := by decide
    rw [h1, andNot_nat _ (by omega)]
    omega
  rw [e, wrap_i64 (by omega) (by omega)]
  have : ((a - a % 2).toNat : Int) = a - a % 2 := by omega
  rw [this]
theorem lv_even (i : Nat → Bool) (D : List GK) {a : Int} (h : 0 ≤ a) : lv i D a = (lv i D (a - a % 2) != decide (a % 2 = 1)) := by
  have := lv_xt i D (a - a % 2) (a % 2)
  rw [← this]
  congr 1
  unfold xt nt
  split
  · rw [if_pos (by omega)]; omega
  · omega
section
variable {w : World} {G : Nat → Prop} {g : Nat} {D : List GK}
set_option maxHeartbeats 4000000 in
theorem xor_ret {a b : Int} (h : GaO w G g D) (hn : D.length ≤ 100000000) (ha : Ft D a) (hb : Ft D b) :
    Ret Try.prog 67 #[ptr g, vi a, vi b] w (GOut w G g D 1 (fun i => lv i D a != lv i D b)) := by
  obtain ⟨ha0, ha1⟩ := id ha
  obtain ⟨hb0, hb1⟩ := id hb
  have hwf := h.wf
  have hpos := hwf.pos
  have hlt := h.lt
  refine ok67 _ _ _ _ _ ?_
  unfold sh67
  refine M.new_i (l := [vi a]) (fun w1 b1 k1 s1 => ?_)
  refine M.new_i (l := [vi b]) (fun w2 b2 k2 s2 => ?_)
  have b1 := b1.keep k2 (fun h => h)
  (repeat (refine jN (by assumption) rfl ?_))
  refine M.buildSlice_i [vi a, vi b] (by kernel_rfl) (fun w3 b3 k3 s3 => ?_)
  have k03 := (k1.trans k2 (fun _ _ h => h)).trans k3 (fun _ _ h => h)
  have h3 := h.keepN k03
  have b1 := b1.keep k3 (fun h => h)
  have b2 := b2.keep k3 (fun h => h)
  refine M.call_i (gbad_ret h3 hn (E := fun _ => True) (ls := [a, b]) ⟨_, _, rfl, Row.of_blk' b3 trivial, Nat.le_refl _⟩ (by show 2 ≤ 1000000; omega) (by simp; exact ⟨ha, hb⟩)) ?_; rintro _ w4 ⟨rfl, k4⟩
  have kd4 := Keep.drew w4 No
  have b1 := (b1.keep k4 (fun h => h))
  have b2 := (b2.keep k4 (fun h => h))
  have k04 := (k03.trans k4 (fun _ _ h => h)).trans kd4 (fun _ _ h => h)
  (repeat (first|refine jp ?_|refine jN (by assumption) rfl ?_))
  obtain ⟨z, hz, hzp⟩ := xor_par (a := a) (b := b) ⟨ha0, by omega⟩ ⟨hb0, by omega⟩
  refine M.bin_i hz ?_
  refine M.bin_i (and_one z) ?_
  rw [hzp]
  have b1 := b1.keep kd4 (fun h => h)
  have b2 := b2.keep kd4 (fun h => h)
  have q1 := k1.size
  (repeat (first|refine jd ?_|refine jN (by assumption) rfl ?_))
  refine M.bin_i (andNot_one ⟨ha0, by omega⟩) ?_
  (repeat (refine jN (by assumption) rfl ?_))
  refine M.bin_i (andNot_one ⟨hb0, by omega⟩) ?_
  refine M.store_i b1 (by simp) rfl (fun w5 b5 k5 s5 => ?_)
  have b6 := b2.keep k5 (fun e => by omega)
  refine ⟨?_, ?_⟩
  · (repeat (refine jN (by assumption) rfl ?_))
    rfl
  refine M.store_i b6 (by simp) rfl (fun w6 b7 k6 s6 => ?_)
  have b8 := b5.keep k6 (fun e => by omega)
  have k06 : Keep w w6 No := (k04.trans k5 (fun x hx e => by have e : x = w.heap.size := e; omega)).trans k6 (fun x hx e => by have e : x = w1.heap.size := e; omega)
  have b1 : Blk w6 w.heap.size [vi (a - a % 2)] := b8
  have b2 : Blk w6 w1.heap.size [vi (b - b % 2)] := b7
  have hA : Ft D (a - a % 2) := ⟨by omega, by omega⟩
  have hB : Ft D (b - b % 2) := ⟨by omega, by omega⟩
  have ht : (a + b) % 2 = 0 ∨ (a + b) % 2 = 1 := by omega
  have hval0 : ∀ i, (lv i D a != lv i D b) = ((lv i D (a - a % 2) != lv i D (b - b % 2)) != decide ((a + b) % 2 = 1)) := fun i => by
    rw [lv_even i D ha0, lv_even i D hb0]
    rcases Int.emod_two_eq a with h1 | h1 <;> rcases Int.emod_two_eq b with h2 | h2
    · have : (a + b) % 2 = 0 := by omega
      rw [h1, h2, this]; simp
    · have : (a + b) % 2 = 1 := by omega
      rw [h1, h2, this]; simp
    · have : (a + b) % 2 = 1 := by omega
      rw [h1, h2, this]; simp
    · have : (a + b) % 2 = 0 := by omega
      rw [h1, h2, this]; simp
  have hev : (a - a % 2) % 2 = 0 ∧ (b - b % 2) % 2 = 0 := by omega
  generalize (a + b) % 2 = t at ht hval0 ⊢
  generalize a - a % 2 = a1 at b1 hA hval0 hev ⊢
  generalize b - b % 2 = c1 at b2 hB hval0 hev ⊢
  have e := funext hval0
  rw [e]
  obtain ⟨p, r, hp, hr, hpr, hpd, hrd, hpe, hval⟩ : ∃ p r, p = (if c1 < a1 then c1 else a1) ∧ r = (if c1 > a1 then c1 else a1) ∧ p ≤ r ∧ Ft D p ∧ Ft D r ∧ (p % 2 = 0 ∧ r % 2 = 0) ∧ ∀ i, ((lv i D a1 != lv i D c1) != decide (t = 1)) = ((lv i D p != lv i D r) != decide (t = 1)) := by
    by_cases hab : c1 < a1
    · exact ⟨c1, a1, by rw [if_pos hab], by rw [if_neg (by omega)], by omega, hB, hA, by omega, fun i => by cases lv i D a1 <;> cases lv i D c1 <;> rfl⟩
    · by_cases hba : a1 < c1
      · exact ⟨a1, c1, by rw [if_neg hab], by rw [if_pos hba], by omega, hA, hB, by omega, fun i => rfl⟩
      · have : a1 = c1 := by omega
        subst this
        exact ⟨a1, a1, by rw [if_neg hab], by rw [if_neg (by omega)], by omega, hA, hA, by omega, fun i => rfl⟩
  have e := funext hval
  rw [e]
  refine M.share_j (fun vals w' => Blk w' w.heap.size [vi p] ∧ Blk w' w1.heap.size [vi r] ∧ Keep w w' No) ?_ ?_
  rotate_left
  · intro K1 hK1
    have kd := Keep.drew w6 No
    have b1 := b1.keep kd (fun h => h)
    have b2 := b2.keep kd (fun h => h)
    have k0d := k06.trans kd (fun _ _ h => h)
    have fin : ∀ w', Blk w' w.heap.size [vi a1] → Blk w' w1.heap.size [vi c1] → Keep w w' No → M.store 1 (ptr w.heap.size) (vi p) (fun _ w => M.store 1 (ptr w1.heap.size) (vi r) (fun _ w => K1 [] w) w) w' := fun w' c1 c2 kk => by
      refine M.store_i c1 (by simp) rfl (fun w6 c3 k6 s6 => ?_)
      have c4 := c2.keep k6 (fun e => by omega)
      refine M.store_i c4 (by simp) rfl (fun w7 c5 k7 s7 => ?_)
      exact hK1 _ _ ⟨c3.keep k7 (fun e => by omega), c5, (kk.trans k6 (fun x hx e => by have e : x = w.heap.size := e; omega)).trans k7 (fun x hx e => by have e : x = w1.heap.size := e; omega)⟩
    (repeat (first|refine jd ?_|refine jN (by assumption) rfl ?_))
    subst hp hr
    refine ⟨?_, ?_⟩
    · refine M.min_i ?_
      refine ⟨?_, ?_, ?_, ?_⟩
      · (repeat (refine jN (by assumption) rfl ?_))
        rfl
      · (repeat (refine jN (by assumption) rfl ?_))
        rfl
      · refine M.max_i ?_
        exact fin _ b1 b2 k0d
      · refine M.store_i b1 (by simp) rfl (fun w6 c3 k6 s6 => ?_)
        have c4 := b2.keep k6 (fun e => by omega)
        refine ⟨?_, ?_⟩
        · (repeat (refine jN (by assumption) rfl ?_))
          rfl
        refine M.max_i ?_
        refine M.store_i c4 (by simp) rfl (fun w7 c5 k7 s7 => ?_)
        exact hK1 _ _ ⟨c3.keep k7 (fun e => by omega), c5, (k0d.trans k6 (fun x hx e => by have e : x = w.heap.size := e; omega)).trans k7 (fun x hx e => by have e : x = w1.heap.size := e; omega)⟩
    · refine M.max_i ?_
      refine ⟨?_, ?_, ?_⟩
      · (repeat (refine jN (by assumption) rfl ?_))
        rfl
      · (repeat (refine jN (by assumption) rfl ?_))
        rfl
      refine M.min_i ?_
      exact fin _ b1 b2 k0d
  rintro vals w7 ⟨d1, d2, k07⟩ _
  clear hp hr
  obtain ⟨hp0, hp1⟩ := id hpd
  obtain ⟨hr0, hr1⟩ := id hrd
  by_cases he : p = r
  · (repeat (first|refine jo ?_|refine jG ?_|refine jN (by assumption) rfl ?_))
    refine M.bin_i (xor_t ⟨by omega, by omega⟩ ht) ?_
    exact GOut.same h k07 (Ft.xt ⟨by omega, by omega⟩ t) (fun i => by rw [lv_xt, lv_one hwf, he]; simp)
  by_cases h0 : p = 0
  · (repeat (first|refine jo ?_|refine jp ?_|refine jG ?_|refine jH ?_|refine jN (by assumption) rfl ?_))
    refine M.bin_i (xor_one hr0 (by omega)) ?_
    rw [show flip1 r = nt r from rfl]
    have hnr := hrd.nt
    obtain ⟨hn0, hn1⟩ := id hnr
    refine M.bin_i (xor_t ⟨hn0, by omega⟩ ht) ?_
    exact GOut.same h k07 (hnr.xt t) (fun i => by rw [lv_xt, lv_nt, h0, lv_zero hwf]; simp)
  (repeat (first|refine jp ?_|refine jH ?_|refine jN (by assumption) rfl ?_))
  have q7 := k07.size
  have l1 := d1.lt
  refine M.call_i (gate_ret (k := .xor p r) (q := (1, p, r, 0)) (h.keepN k07) hn rfl (k4ok ⟨by omega, by omega⟩ ⟨by omega, by omega⟩ ⟨by omega, by omega⟩ ⟨by omega, by omega⟩) ⟨hpos, hpd, hrd⟩ (xor_cls d1 d2 (fun hx => by have := hlt _ hx; omega) (fun hx => by have := hlt _ hx; omega) ⟨hp0, by omega⟩ ⟨hr0, by omega⟩)) ?_
  rintro _ w8 ⟨E, G', l, rfl, g1, g2, g3, g4, g5, g6, g7⟩
  have hle : (D ++ E).length ≤ D.length + 1 := by rw [List.length_append]; omega
  obtain ⟨l0, l1'⟩ := id g4
  refine M.bin_i (xor_t ⟨l0, by omega⟩ ht) ?_
  refine GOut.pre k07 ⟨E, G', _, rfl, g1, g2, g3, g4.xt t, fun i => ?_, g6, g7⟩
  rw [lv_xt, g5]
  rfl
end
end Go.Proofs.Ytnbcglnefoinlaa
namespace Go.Proofs.Ytnbcglnefoinlaa
open Go.Mw Go.Maps Go.MapKept
set_option linter.unusedVariables false
set_option linter.unusedSimpArgs false
set_option maxRecDepth 100000
attribute [local irreducible] M.val M.unit M.next M.pick M.new M.nilCheck M.load1 M.loadA M.store M.fieldAddr M.indexSl M.indexArr M.slice M.makeSlice M.buildSlice M.len M.lenS M.cap M.append M.extract M.conv M.not M.neg M.bin M.shift M.eqB M.eqNil M.scat M.call M.callv M.gd M.share M.cond M.loop M.draw pureW readW Ret
def sh58 (x0 x1 x2 x3 : Value) (R : Kt) (w : World) : Prop :=
  M.new 3 (Value.cells x1) (fun t5 w =>
  M.new 3 (Value.cells x2) (fun t6 w =>
  M.new 3 (Value.cells x3) (fun t7 w =>
  M.load1 t5 (fun t10 w =>
  M.load1 t6 (fun t11 w =>
  M.load1 t7 (fun t12 w =>
  M.buildSlice 3 1 #[.int .i64 0] 3 [(0, t10), (1, t11), (2, t12)] (fun t13 w =>
  M.call Try.prog 84 #[x0, t13] (fun t14 w =>
  M.cond t14
  (R (Value.int IntKind.i64 (-1)) w)
  (M.share (fun K1 w =>
  M.load1 t5 (fun t15 w =>
  M.call Try.prog 85 #[t15] (fun t16 w =>
  M.cond t16
  (M.draw (fun w =>
  M.load1 t5 (fun t17 w =>
  M.load1 t7 (fun t19 w =>
  M.load1 t6 (fun t20 w =>
  M.call Try.prog 26 #[t17] (fun t18 w =>
  ((M.load1 t6 (fun v' _ => v' = t20) w) ∧ ((M.load1 t7 (fun v' _ => v' = t19) w) ∧ M.store 1 t5 t18 (fun _ w =>
  ((M.load1 t7 (fun v' _ => v' = t19) w) ∧ M.store 1 t6 t19 (fun _ w =>
  M.store 1 t7 t20 (fun _ w =>
  K1 [] w) w) w)) w))) w) w) w) w) w)
  (K1 [] w)) w) w) (fun s1 w => ∀ _ : List Value,
  M.share (fun K2 w =>
  M.load1 t5 (fun t22 w =>
  M.bin .eql t22 (Value.int IntKind.i64 0) (fun t23 w =>
  M.cond t23
  (K2 [t23] w)
  (M.load1 t6 (fun t24 w =>
  M.load1 t7 (fun t25 w =>
  M.bin .eql t24 t25 (fun t26 w =>
  K2 [t26] w) w) w) w)) w) w) (fun s2 w => ∀ _ : List Value,
  M.cond (s2.getD 0 undef)
  (M.load1 t6 (fun t27 w =>
  R t27 w) w)
  (M.load1 t6 (fun t29 w =>
  M.bin .eql t29 (Value.int IntKind.i64 0) (fun t30 w =>
  M.gd t30 false (fun k w => M.load1 t6 k w) (fun t32 w =>
  M.gd t30 false (fun k w => M.load1 t5 k w) (fun t33 w =>
  M.gd t30 false (fun k w => M.bin .eql t32 t33 k w) (fun t34 w =>
  M.pick t30 (Value.bool true) t34 (fun t35 w =>
  M.cond t35
  (M.load1 t5 (fun t37 w =>
  M.load1 t7 (fun t38 w =>
  M.call Try.prog 66 #[x0, t37, t38] (fun t39 w =>
  R t39 w) w) w) w)
  (M.draw (fun w =>
  M.load1 t6 (fun t41 w =>
  M.bin .eql t41 (Value.int IntKind.i64 1) (fun t42 w =>
  M.gd t42 false (fun k w => M.load1 t6 k w) (fun t44 w =>
  M.gd t42 false (fun k w => M.load1 t5 k w) (fun t45 w =>
  M.gd t42 false (fun k w => M.call Try.prog 26 #[t45] k w) (fun t46 w =>
  ((M.gd t42 false (fun k w => M.load1 t6 k w) (fun v' _ => v' = t44) w) ∧ ((M.load1 t6 (fun v' _ => v' = t41) w) ∧ M.gd t42 false (fun k w => M.bin .eql t44 t46 k w) (fun t47 w =>
  M.pick t42 (Value.bool true) t47 (fun t48 w =>
  M.cond t48
  (M.draw (fun w =>
  M.load1 t5 (fun t50 w =>
  M.load1 t7 (fun t52 w =>
  M.call Try.prog 26 #[t50] (fun t51 w =>
  ((M.load1 t7 (fun v' _ => v' = t52) w) ∧ M.call Try.prog 65 #[x0, t51, t52] (fun t53 w =>
  R t53 w) w)) w) w) w) w)
  (M.draw (fun w =>
  M.load1 t7 (fun t55 w =>
  M.bin .eql t55 (Value.int IntKind.i64 0) (fun t56 w =>
  M.gd t56 false (fun k w => M.load1 t7 k w) (fun t58 w =>
  M.gd t56 false (fun k w => M.load1 t5 k w) (fun t59 w =>
  M.gd t56 false (fun k w => M.call Try.prog 26 #[t59] k w) (fun t60 w =>
  ((M.gd t56 false (fun k w => M.load1 t7 k w) (fun v' _ => v' = t58) w) ∧ ((M.load1 t7 (fun v' _ => v' = t55) w) ∧ M.gd t56 false (fun k w => M.bin .eql t58 t60 k w) (fun t61 w =>
  M.pick t56 (Value.bool true) t61 (fun t62 w =>
  M.cond t62
  (M.draw (fun w =>
  M.load1 t5 (fun t64 w =>
  M.load1 t6 (fun t66 w =>
  M.call Try.prog 26 #[t64] (fun t65 w =>
  ((M.load1 t6 (fun v' _ => v' = t66) w) ∧ M.call Try.prog 66 #[x0, t65, t66] (fun t67 w =>
  R t67 w) w)) w) w) w) w)
  (M.load1 t7 (fun t69 w =>
  M.bin .eql t69 (Value.int IntKind.i64 1) (fun t70 w =>
  M.gd t70 false (fun k w => M.load1 t7 k w) (fun t72 w =>
  M.gd t70 false (fun k w => M.load1 t5 k w) (fun t73 w =>
  M.gd t70 false (fun k w => M.bin .eql t72 t73 k w) (fun t74 w =>
  M.pick t70 (Value.bool true) t74 (fun t75 w =>
  M.cond t75
  (M.load1 t5 (fun t77 w =>
  M.load1 t6 (fun t78 w =>
  M.call Try.prog 65 #[x0, t77, t78] (fun t79 w =>
  R t79 w) w) w) w)
  (M.draw (fun w =>
  M.load1 t7 (fun t81 w =>
  M.load1 t6 (fun t82 w =>
  M.call Try.prog 26 #[t82] (fun t83 w =>
  ((M.load1 t7 (fun v' _ => v' = t81) w) ∧ M.bin .eql t81 t83 (fun t84 w =>
  M.cond t84
  (M.load1 t5 (fun t86 w =>
  M.load1 t6 (fun t87 w =>
  M.call Try.prog 67 #[x0, t86, t87] (fun t88 w =>
  M.call Try.prog 26 #[t88] (fun t89 w =>
  R t89 w) w) w) w) w)
  (M.load1 t5 (fun t91 w =>
  M.load1 t6 (fun t92 w =>
  M.load1 t7 (fun t93 w =>
  M.call Try.prog 86 #[x0, (Value.int IntKind.i64 2), t91, t92, t93, (.func (Fn.func 87) #[] #[t5, t6, t7])] (fun t95 w =>
  R t95 w) w) w) w) w)) w)) w) w) w) w)) w) w) w) w) w) w)) w) w))) w) w) w) w) w) w)) w) w))) w) w) w) w) w) w)) w) w) w) w) w) w)) w) w)) w) w) w) w) w) w) w) w
theorem ok58 (x0 x1 x2 x3 : Value) (R : Kt) (w : World) (h : sh58 x0 x1 x2 x3 R w) : Ret Try.prog 58 #[x0, x1, x2, x3] w R :=
  ret_mk <| calls_of_comp mixed (c := Try.f58.body.getD .skip) (args := [x0, x1, x2, x3]) (rs := [(ResultVar.tmp 8)]) (Ann.seq Ann.text (Ann.seq (Ann.seq Ann.text (Ann.cond (Ann.seq Ann.text Ann.leaf) Ann.leaf)) (Ann.join [] [15, 16, 17, 18, 19, 20] (Ann.seq Ann.text (Ann.cond (Ann.draw (Sch.take 0 (Sch.take 2 (Sch.take 3 (Sch.one 1 (Sch.one 4 (Sch.one 5 (Sch.one 6 Sch.done)))))))) Ann.leaf)) (Ann.seq (Ann.block (Ann.join [21] [22, 23, 24, 25, 26] (Ann.seq Ann.text (Ann.cond Ann.leaf Ann.text)) (Ann.cond (Ann.seq Ann.text Ann.leaf) (Ann.seq Ann.text (Ann.cond (Ann.seq Ann.text Ann.leaf) (Ann.seq (Ann.draw (Sch.take 0 (Sch.take 1 (Sch.take 2 (Sch.take 3 (Sch.take 4 (Sch.one 5 (Sch.take 6 (Sch.take 7 (Sch.take 8 Sch.done)))))))))) (Ann.cond (Ann.seq (Ann.draw (Sch.take 0 (Sch.take 1 (Sch.take 3 (Sch.one 2 (Sch.one 4 (Sch.take 5 Sch.done))))))) Ann.leaf) (Ann.seq (Ann.draw (Sch.take 0 (Sch.take 1 (Sch.take 2 (Sch.take 3 (Sch.take 4 (Sch.one 5 (Sch.take 6 (Sch.take 7 (Sch.take 8 Sch.done)))))))))) (Ann.cond (Ann.seq (Ann.draw (Sch.take 0 (Sch.take 1 (Sch.take 3 (Sch.one 2 (Sch.one 4 (Sch.take 5 Sch.done))))))) Ann.leaf) (Ann.seq Ann.text (Ann.cond (Ann.seq Ann.text Ann.leaf) (Ann.seq (Ann.draw (Sch.take 0 (Sch.take 1 (Sch.one 2 (Sch.take 3 (Sch.take 4 Sch.done)))))) (Ann.cond (Ann.seq Ann.text Ann.leaf) Ann.leaf))))))))))))) (Ann.seq Ann.text Ann.leaf)))))
    Try.func58 (by kernel_rfl) (by kernel_rfl)
    (Eq.mp (by kernel_rfl) h)
section
variable {w : World} {G : Nat → Prop} {g : Nat} {D : List GK}
set_option maxHeartbeats 8000000 in
theorem gite_ret {c a b : Int} (h : GaO w G g D) (hn : D.length ≤ 100000000) (hc : Ft D c) (ha : Ft D a) (hb : Ft D b) :
    Ret Try.prog 58 #[ptr g, vi c, vi a, vi b] w (GOut w G g D 1 (fun i => if lv i D c then lv i D a else lv i D b)) := by
  obtain ⟨hc0, hc1⟩ := id hc
  obtain ⟨ha0, ha1⟩ := id ha
  obtain ⟨hb0, hb1⟩ := id hb
  have hwf := h.wf
  have hpos := hwf.pos
  have hlt := h.lt
  refine ok58 _ _ _ _ _ _ ?_
  unfold sh58
  refine M.new_i (l := [vi c]) (fun w0 b0 k0 s0 => ?_)
  refine M.new_i (l := [vi a]) (fun w1 b1 k1 s1 => ?_)
  refine M.new_i (l := [vi b]) (fun w2 b2 k2 s2 => ?_)
  have b0 := (b0.keep k1 (fun h => h)).keep k2 (fun h => h)
  have b1 := b1.keep k2 (fun h => h)
  (repeat (refine jN (by assumption) rfl ?_))
  refine M.buildSlice_i [vi c, vi a, vi b] (by kernel_rfl) (fun w3 b3 k3 s3 => ?_)
  have k03 := ((k0.trans k1 (fun _ _ h => h)).trans k2 (fun _ _ h => h)).trans k3 (fun _ _ h => h)
  have h3 := h.keepN k03
  refine M.call_i (gbad_ret h3 hn (E := fun _ => True) (ls := [c, a, b]) ⟨_, _, rfl, Row.of_blk' b3 trivial, Nat.le_refl _⟩ (by show 3 ≤ 1000000; omega) (by simp; exact ⟨hc, ha, hb⟩)) ?_; rintro _ w4 ⟨rfl, k4⟩
  have k34 := k3.trans k4 (fun _ _ h => h)
  have b0 := b0.keep k34 (fun h => h)
  have b1 := b1.keep k34 (fun h => h)
  have b2 := b2.keep k34 (fun h => h)
  have k04 := k03.trans k4 (fun _ _ h => h)
  have q0 := k0.size
  have q1 := k1.size
  have q4 := k04.size
  (repeat (refine jp ?_))
  obtain ⟨c', p, r, hcp, hc', hp, hr, hce, hval⟩ : ∃ c' p r, ((c % 2 = 0 ∧ c' = c ∧ p = a ∧ r = b) ∨ (c % 2 = 1 ∧ c' = nt c ∧ p = b ∧ r = a)) ∧ Ft D c' ∧ Ft D p ∧ Ft D r ∧ c' % 2 = 0 ∧ ∀ i, (if lv i D c then lv i D a else lv i D b) = (if lv i D c' then lv i D p else lv i D r) := by
    by_cases hcc : c % 2 = 0
    · exact ⟨c, a, b, .inl ⟨hcc, rfl, rfl, rfl⟩, hc, ha, hb, hcc, fun i => rfl⟩
    · exact ⟨nt c, b, a, .inr ⟨by omega, rfl, rfl, rfl⟩, hc.nt, hb, ha, by unfold nt; split <;> omega, fun i => by rw [lv_nt]; cases lv i D c <;> rfl⟩
  rw [funext hval]
  refine M.share_j (fun vals w' => Blk w' w.heap.size [vi c'] ∧ Blk w' w0.heap.size [vi p] ∧ Blk w' w1.heap.size [vi r] ∧ Keep w w' No) ?_ ?_
  rotate_left
  · intro K1 hK1
    (repeat (refine jN (by assumption) rfl ?_))
    refine M.call_i (neg_ret c w4) ?_; rintro _ w5 ⟨rfl, k5⟩
    have b0 := b0.keep k5 (fun h => h)
    have b1 := b1.keep k5 (fun h => h)
    have b2 := b2.keep k5 (fun h => h)
    have k05 := k04.trans k5 (fun _ _ h => h)
    rcases hcp with ⟨hcc, rfl, rfl, rfl⟩ | ⟨hcc, rfl, rfl, rfl⟩
    · have e : negOf c' = false := by unfold negOf; simp; omega
      rw [e]
      (repeat (refine jp ?_))
      exact hK1 _ _ ⟨b0, b1, b2, k05⟩
    · have e : negOf c = true := by unfold negOf; simp; omega
      rw [e]
      have kd := Keep.drew w5 No
      have b0 := b0.keep kd (fun h => h)
      have b1 := b1.keep kd (fun h => h)
      have b2 := b2.keep kd (fun h => h)
      (repeat (first|refine jd ?_|refine jo ?_|refine jN (by assumption) rfl ?_))
      refine M.call_i (ntr_ret hc0 (by omega) _) ?_; rintro _ w6 ⟨rfl, k6⟩
      have b0 := b0.keep k6 (fun h => h)
      have b1 := b1.keep k6 (fun h => h)
      have b2 := b2.keep k6 (fun h => h)
      have k06 := (k05.trans kd (fun _ _ h => h)).trans k6 (fun _ _ h => h)
      refine ⟨?_, ?_, ?_⟩
      · (repeat (refine jN (by assumption) rfl ?_))
        rfl
      · (repeat (refine jN (by assumption) rfl ?_))
        rfl
      refine M.store_i b0 (by simp) rfl (fun w7 d0 k7 s7 => ?_)
      have d1 := b1.keep k7 (fun e => by omega)
      have d2 := b2.keep k7 (fun e => by omega)
      refine ⟨?_, ?_⟩
      · (repeat (refine jN (by assumption) rfl ?_))
        rfl
      refine M.store_i d1 (by simp) rfl (fun w8 e1 k8 s8 => ?_)
      have e0 := d0.keep k8 (fun e => by omega)
      have e2 := d2.keep k8 (fun e => by omega)
      refine M.store_i e2 (by simp) rfl (fun w9 f2 k9 s9 => ?_)
      have f0 := e0.keep k9 (fun e => by omega)
      have f1 := e1.keep k9 (fun e => by omega)
      exact hK1 _ _ ⟨f0, f1, f2, ((k06.trans k7 (fun x hx e => by have e : x = w.heap.size := e; omega)).trans k8 (fun x hx e => by have e : x = w0.heap.size := e; omega)).trans k9 (fun x hx e => by have e : x = w1.heap.size := e; omega)⟩
  clear hcp hval b0 b1 b2 b3
  rintro vals w5 ⟨b0, b1, b2, k05⟩ _
  obtain ⟨c0, c1⟩ := id hc'
  obtain ⟨p0, p1⟩ := id hp
  obtain ⟨r0, r1⟩ := id hr
  refine M.share_n ?_
  by_cases h0 : c' = 0
  · (repeat (first|refine jo ?_|refine jG ?_|refine jN (by assumption) rfl ?_))
    intro _
    simp only [List.getD_cons_zero, List.getD_cons_succ]
    (repeat (first|refine jo ?_|refine jN (by assumption) rfl ?_))
    exact GOut.same h k05 hp (fun i => by rw [h0, lv_zero hwf]; rfl)
  by_cases he : p = r
  · (repeat (first|refine jp ?_|refine jG ?_|refine jH ?_|refine jN (by assumption) rfl ?_))
    intro _
    simp only [List.getD_cons_zero, List.getD_cons_succ]
    (repeat (first|refine jo ?_|refine jN (by assumption) rfl ?_))
    exact GOut.same h k05 hp (fun i => by rw [he]; simp)
  (repeat (first|refine jp ?_|refine jH ?_|refine jN (by assumption) rfl ?_))
  intro _
  simp only [List.getD_cons_zero, List.getD_cons_succ]
  (repeat (first|refine jp ?_|refine jN (by assumption) rfl ?_))
  have done : ∀ {f : (Nat → Bool) → Bool} {wa wb : World} {R : Value}, Keep w wa No → GOut wa G g D 1 f R wb → (∀ i, f i = (if lv i D c' then lv i D p else lv i D r)) → GOut w G g D 1 (fun i => if lv i D c' then lv i D p else lv i D r) R wb := fun kk hg he => GOut.pre kk (hg.map he)
  by_cases hp0 : p = 0
  · (repeat (first|refine ji ?_|refine jk ?_|refine jo ?_|refine jG ?_|refine jN (by assumption) rfl ?_))
    refine M.call_i (or_ret (h.keepN k05) hn hc' hr) ?_; rintro _ w6 hg
    exact done k05 hg (fun i => by rw [hp0, lv_zero hwf]; cases lv i D c' <;> rfl)
  by_cases hpc : p = c'
  · (repeat (first|refine jg ?_|refine jl ?_|refine jo ?_|refine jG ?_|refine jH ?_|refine jN (by assumption) rfl ?_))
    refine M.call_i (or_ret (h.keepN k05) hn hc' hr) ?_; rintro _ w6 hg
    exact done k05 hg (fun i => by rw [hpc]; cases lv i D c' <;> rfl)
  (repeat (first|refine jd ?_|refine jg ?_|refine jl ?_|refine jp ?_|refine jH ?_|refine jN (by assumption) rfl ?_))
  have drw : ∀ {wa : World}, Keep w wa No → Blk wa w.heap.size [vi c'] → Blk wa w0.heap.size [vi p] → Blk wa w1.heap.size [vi r] → Keep w wa.drew No ∧ Blk wa.drew w.heap.size [vi c'] ∧ Blk wa.drew w0.heap.size [vi p] ∧ Blk wa.drew w1.heap.size [vi r] := fun {wa} kk h1 h2 h3 => by
    have kd := Keep.drew wa No
    exact ⟨kk.trans kd (fun _ _ h => h), h1.keep kd (fun h => h), h2.keep kd (fun h => h), h3.keep kd (fun h => h)⟩
  obtain ⟨k05, b0, b1, b2⟩ := drw k05 b0 b1 b2
  have rest : ∀ wa, Keep w wa No → Blk wa w.heap.size [vi c'] → Blk wa w0.heap.size [vi p] → Blk wa w1.heap.size [vi r] → True := fun _ _ _ _ _ => trivial
  by_cases hp1 : p = 1
  · obtain ⟨k06, b0, b1, b2⟩ := drw k05 b0 b1 b2
    (repeat (first|refine jd ?_|refine ji ?_|refine jk ?_|refine jo ?_|refine jG ?_|refine jN (by assumption) rfl ?_|refine jP (by assumption) rfl ?_|refine jT ?_))
    refine M.call_i (ntr_ret c0 (by omega) _) ?_; rintro _ w6 ⟨rfl, k6⟩
    have b2 := b2.keep k6 (fun h => h)
    have k06 := k06.trans k6 (fun _ _ h => h)
    refine ⟨?_, ?_⟩
    · (repeat (refine jN (by assumption) rfl ?_))
      rfl
    refine M.call_i (and_ret (h.keepN k06) hn hc'.nt hr) ?_; rintro _ w7 hg
    exact done k06 hg (fun i => by rw [lv_nt, hp1, lv_one hwf]; cases lv i D c' <;> rfl)
  (repeat (first|refine jg ?_|refine jH ?_|refine jN (by assumption) rfl ?_))
  refine M.call_i (ntr_ret c0 (by omega) _) ?_; rintro _ w6 ⟨rfl, k6⟩
  have b0 := b0.keep k6 (fun h => h)
  have b1 := b1.keep k6 (fun h => h)
  have b2 := b2.keep k6 (fun h => h)
  have k06 := k05.trans k6 (fun _ _ h => h)
  refine ⟨?_, ?_, ?_⟩
  · (repeat (first|refine jg ?_|refine jN (by assumption) rfl ?_))
    rfl
  · (repeat (refine jN (by assumption) rfl ?_))
    rfl
  by_cases hpn : p = nt c'
  · obtain ⟨k07, b0, b1, b2⟩ := drw k06 b0 b1 b2
    (repeat (first|refine jd ?_|refine jg ?_|refine jl ?_|refine jo ?_|refine jG ?_|refine jN (by assumption) rfl ?_))
    refine M.call_i (ntr_ret c0 (by omega) _) ?_; rintro _ w7 ⟨rfl, k7⟩
    have b2 := b2.keep k7 (fun h => h)
    have k07 := k07.trans k7 (fun _ _ h => h)
    refine ⟨?_, ?_⟩
    · (repeat (refine jN (by assumption) rfl ?_))
      rfl
    refine M.call_i (and_ret (h.keepN k07) hn hc'.nt hr) ?_; rintro _ w8 hg
    exact done k07 hg (fun i => by rw [hpn, lv_nt]; cases lv i D c' <;> rfl)
  obtain ⟨k06, b0, b1, b2⟩ := drw k06 b0 b1 b2
  (repeat (first|refine jd ?_|refine jg ?_|refine jl ?_|refine jp ?_|refine jH ?_|refine jN (by assumption) rfl ?_))
  by_cases hr0 : r = 0
  · obtain ⟨k07, b0, b1, b2⟩ := drw k06 b0 b1 b2
    (repeat (first|refine jd ?_|refine ji ?_|refine jk ?_|refine jo ?_|refine jG ?_|refine jN (by assumption) rfl ?_|refine jP (by assumption) rfl ?_|refine jT ?_))
    refine M.call_i (ntr_ret c0 (by omega) _) ?_; rintro _ w7 ⟨rfl, k7⟩
    have b1 := b1.keep k7 (fun h => h)
    have k07 := k07.trans k7 (fun _ _ h => h)
    refine ⟨?_, ?_⟩
    · (repeat (refine jN (by assumption) rfl ?_))
      rfl
    refine M.call_i (or_ret (h.keepN k07) hn hc'.nt hp) ?_; rintro _ w8 hg
    exact done k07 hg (fun i => by rw [lv_nt, hr0, lv_zero hwf]; cases lv i D c' <;> cases lv i D p <;> rfl)
  (repeat (first|refine jg ?_|refine jH ?_|refine jN (by assumption) rfl ?_))
  refine M.call_i (ntr_ret c0 (by omega) _) ?_; rintro _ w7 ⟨rfl, k7⟩
  have b0 := b0.keep k7 (fun h => h)
  have b1 := b1.keep k7 (fun h => h)
  have b2 := b2.keep k7 (fun h => h)
  have k07 := k06.trans k7 (fun _ _ h => h)
  refine ⟨?_, ?_, ?_⟩
  · (repeat (first|refine jg ?_|refine jN (by assumption) rfl ?_))
    rfl
  · (repeat (refine jN (by assumption) rfl ?_))
    rfl
  by_cases hrn : r = nt c'
  · obtain ⟨k08, b0, b1, b2⟩ := drw k07 b0 b1 b2
    (repeat (first|refine jd ?_|refine jg ?_|refine jl ?_|refine jo ?_|refine jG ?_|refine jN (by assumption) rfl ?_))
    refine M.call_i (ntr_ret c0 (by omega) _) ?_; rintro _ w8 ⟨rfl, k8⟩
    have b1 := b1.keep k8 (fun h => h)
    have k08 := k08.trans k8 (fun _ _ h => h)
    refine ⟨?_, ?_⟩
    · (repeat (refine jN (by assumption) rfl ?_))
      rfl
    refine M.call_i (or_ret (h.keepN k08) hn hc'.nt hp) ?_; rintro _ w9 hg
    exact done k08 hg (fun i => by rw [hrn, lv_nt]; cases lv i D c' <;> cases lv i D p <;> rfl)
  by_cases hr1 : r = 1
  · (repeat (first|refine jg ?_|refine ji ?_|refine jk ?_|refine jl ?_|refine jo ?_|refine jp ?_|refine jG ?_|refine jH ?_|refine jN (by assumption) rfl ?_))
    refine M.call_i (and_ret (h.keepN k07) hn hc' hp) ?_; rintro _ w8 hg
    exact done k07 hg (fun i => by rw [hr1, lv_one hwf]; cases lv i D c' <;> rfl)
  by_cases hrc : r = c'
  · (repeat (first|refine jg ?_|refine jl ?_|refine jo ?_|refine jp ?_|refine jG ?_|refine jH ?_|refine jN (by assumption) rfl ?_))
    refine M.call_i (and_ret (h.keepN k07) hn hc' hp) ?_; rintro _ w8 hg
    exact done k07 hg (fun i => by rw [hrc]; cases lv i D c' <;> rfl)
  obtain ⟨k08, e0, e1, e2⟩ := drw k07 b0 b1 b2
  (repeat (first|refine jd ?_|refine jg ?_|refine jl ?_|refine jp ?_|refine jH ?_|refine jN (by assumption) rfl ?_))
  refine M.call_i (ntr_ret p0 (by omega) _) ?_; rintro _ w8 ⟨rfl, k8⟩
  have b0 := e0.keep k8 (fun h => h)
  have b1 := e1.keep k8 (fun h => h)
  have b2 := e2.keep k8 (fun h => h)
  have k08 := k08.trans k8 (fun _ _ h => h)
  refine ⟨?_, ?_⟩
  · (repeat (refine jN (by assumption) rfl ?_))
    rfl
  by_cases hrp : r = nt p
  · (repeat (first|refine jo ?_|refine jG ?_|refine jN (by assumption) rfl ?_))
    refine M.call_i (xor_ret (h.keepN k08) hn hc' hp) ?_; rintro _ w9 ⟨E, G', l, rfl, g1, g2, g3, g4, g5, g6, g7⟩
    obtain ⟨l0, l1⟩ := id g4
    have hle : (D ++ E).length ≤ D.length + 1 := by rw [List.length_append]; omega
    refine M.call_i (ntr_ret l0 (by omega) _) ?_; rintro _ w10 ⟨rfl, k10⟩
    refine GOut.pre k08 ⟨E, G', _, rfl, g1.keepN k10, g2, g3, g4.nt, fun i => ?_, g6, g7.trans k10 (fun _ _ h => h.elim)⟩
    rw [lv_nt, g5]
    show (!(lv i D c' != lv i D p)) = (if lv i D c' then lv i D p else lv i D r)
    rw [hrp, lv_nt]
    cases lv i D c' <;> cases lv i D p <;> rfl
  (repeat (first|refine jp ?_|refine jH ?_|refine jN (by assumption) rfl ?_))
  have q8 := k08.size
  have l1 := b0.lt
  refine M.call_i (gate_ret (k := .ite c' p r) (q := (2, c', p, r)) (h.keepN k08) hn rfl (k4ok ⟨by omega, by omega⟩ ⟨by omega, by omega⟩ ⟨by omega, by omega⟩ ⟨by omega, by omega⟩) ⟨hpos, hc', hp, hr⟩ (ite_cls b0 b1 b2 (fun hx => by have := hlt _ hx; omega) (fun hx => by have := hlt _ hx; omega) (fun hx => by have := hlt _ hx; omega) ⟨c0, by omega⟩ ⟨p0, by omega⟩ ⟨r0, by omega⟩)) ?_
  rintro _ w9 hg
  exact GOut.pre k08 hg
end
end Go.Proofs.Ytnbcglnefoinlaa
namespace Go.Proofs.Ytnbcglnefoinlaa
open Go.Mw Go.Maps Go.MapKept
set_option linter.unusedVariables false
set_option linter.unusedSimpArgs false
set_option maxRecDepth 100000
attribute [local irreducible] M.val M.unit M.next M.pick M.new M.nilCheck M.load1 M.loadA M.store M.fieldAddr M.indexSl M.indexArr M.slice M.makeSlice M.buildSlice M.len M.lenS M.cap M.append M.extract M.conv M.not M.neg M.bin M.shift M.eqB M.eqNil M.scat M.call M.callv M.gd M.share M.cond M.loop M.draw pureW readW Ret
def sh57 (x0 x1 : Value) (R : Kt) (w : World) : Prop :=
  M.eqNil 0 false x0 (fun t10 w =>
  M.cond t10
  (R (Value.bool false) w)
  (M.len x1 (fun t12 w =>
  M.loop [(Value.int IntKind.i64 0)] (fun s1 K1 w => ∀ _ : List Value,
  M.bin .lss (s1.getD 0 undef) t12 (fun t14 w =>
  M.cond t14
  (M.indexSl 1 x1 (s1.getD 0 undef) (fun t15 w =>
  M.load1 t15 (fun t16 w =>
  M.len t16 (fun t18 w =>
  M.bin .eql t18 (Value.int IntKind.i64 0) (fun t19 w =>
  M.gd t19 false (fun k w => k t16 w) (fun t21 w =>
  M.gd t19 false (fun k w => M.len t21 k w) (fun t22 w =>
  M.gd t19 false (fun k w => k x1 w) (fun t23 w =>
  M.gd t19 false (fun k w => M.indexSl 1 t23 (Value.int IntKind.i64 0) k w) (fun t24 w =>
  M.gd t19 false (fun k w => M.load1 t24 k w) (fun t25 w =>
  M.gd t19 false (fun k w => M.len t25 k w) (fun t26 w =>
  M.gd t19 false (fun k w => M.bin .neq t22 t26 k w) (fun t27 w =>
  M.pick t19 (Value.bool true) t27 (fun t28 w =>
  M.cond t28
  (R (Value.bool false) w)
  (M.len t16 (fun t30 w =>
  M.loop [(Value.int IntKind.i64 0)] (fun s2 K2 w => ∀ _ : List Value,
  M.bin .lss (s2.getD 0 undef) t30 (fun t32 w =>
  M.cond t32
  (M.indexSl 1 t16 (s2.getD 0 undef) (fun t33 w =>
  M.load1 t33 (fun t34 w =>
  M.bin .lss t34 (Value.int IntKind.i64 0) (fun t36 w =>
  M.cond t36
  (R (Value.bool false) w)
  (M.bin .add (s2.getD 0 undef) (Value.int IntKind.i64 1) (fun t37 w =>
  K2 [t37] w) w)) w) w) w)
  (M.bin .add (s1.getD 0 undef) (Value.int IntKind.i64 1) (fun t38 w =>
  K1 [t38] w) w)) w) w) w)) w) w) w) w) w) w) w) w) w) w) w) w)
  (R (Value.bool true) w)) w) w) w)) w
theorem ok57 (x0 x1 : Value) (R : Kt) (w : World) (h : sh57 x0 x1 R w) : Ret Try.prog 57 #[x0, x1] w R :=
  ret_mk <| calls_of_comp mixed (c := Try.f57.body.getD .skip) (args := [x0, x1]) (rs := [(ResultVar.tmp 4)]) (Ann.seq Ann.text (Ann.seq (Ann.seq Ann.text (Ann.cond (Ann.seq Ann.text Ann.leaf) Ann.leaf)) (Ann.seq (Ann.seq Ann.text (Ann.block (Ann.loop [13] [4, 6, 8, 14, 15, 16, 17, 18, 19, 20, 21, 22, 23, 24, 25, 26, 27, 28, 29, 30, 31, 32, 33, 34, 35, 36, 37, 38] (Ann.seq Ann.text (Ann.seq (Ann.cond Ann.leaf Ann.leaf) (Ann.seq (Ann.block (Ann.seq Ann.text (Ann.seq (Ann.seq Ann.text (Ann.cond (Ann.seq Ann.text Ann.leaf) Ann.leaf)) (Ann.seq Ann.text (Ann.block (Ann.loop [31] [4, 8, 32, 33, 34, 35, 36, 37] (Ann.seq Ann.text (Ann.seq (Ann.cond Ann.leaf Ann.leaf) (Ann.seq (Ann.block (Ann.seq Ann.text (Ann.seq Ann.text (Ann.cond (Ann.seq Ann.text Ann.leaf) Ann.leaf)))) Ann.text))))))))) Ann.text)))))) (Ann.seq Ann.text Ann.leaf))))
    Try.func57 (by kernel_rfl) (by kernel_rfl)
    (Eq.mp (by kernel_rfl) h)
def sh89 (x0 : Value) (R : Kt) (w : World) : Prop :=
  M.len x0 (fun t7 w =>
  M.makeSlice 3 1 8 #[.int .i64 0] t7 t7 (fun t8 w =>
  M.len x0 (fun t10 w =>
  M.loop [(Value.int IntKind.i64 0)] (fun s1 K1 w => ∀ _ : List Value,
  M.bin .lss (s1.getD 0 undef) t10 (fun t12 w =>
  M.cond t12
  (M.indexSl 1 x0 (s1.getD 0 undef) (fun t14 w =>
  M.load1 t14 (fun t15 w =>
  M.call Try.prog 26 #[t15] (fun t19 w =>
  M.indexSl 1 t8 (s1.getD 0 undef) (fun t20 w =>
  M.store 1 t20 t19 (fun _ w =>
  M.bin .add (s1.getD 0 undef) (Value.int IntKind.i64 1) (fun t21 w =>
  K1 [t21] w) w) w) w) w) w) w)
  (R t8 w)) w) w) w) w) w
theorem ok89 (x0 : Value) (R : Kt) (w : World) (h : sh89 x0 R w) : Ret Try.prog 89 #[x0] w R :=
  ret_mk <| calls_of_comp mixed (c := Try.f89.body.getD .skip) (args := [x0]) (rs := [(ResultVar.tmp 2)]) (Ann.seq Ann.text (Ann.seq Ann.text (Ann.seq (Ann.seq Ann.text (Ann.block (Ann.loop [11] [4, 5, 12, 13, 14, 15, 16, 17, 18, 19, 20, 21] (Ann.seq Ann.text (Ann.seq (Ann.cond Ann.leaf Ann.leaf) (Ann.seq (Ann.block (Ann.seq Ann.text Ann.text)) Ann.text)))))) (Ann.seq Ann.text Ann.leaf))))
    Try.func89 (by kernel_rfl) (by kernel_rfl)
    (Eq.mp (by kernel_rfl) h)
structure GS (w0 : World) (G0 : Nat → Prop) (g : Nat) (D0 : List GK) (w : World) (G : Nat → Prop) (D : List GK) (m : Nat) : Prop where
  ga : GaO w G g D
  ext : ∃ E, D = D0 ++ E ∧ NI E ∧ E.length ≤ m
  sub : ∀ x, x < w0.heap.size → G x → G0 x
  keep : Keep w0 w G0
def pad (n : Nat) (l : List Int) : List Int := l ++ List.replicate (n - l.length) 0
theorem pad_nil (n : Nat) : (pad n []).map vi = List.replicate n (vi 0) := by simp [pad]
theorem pad_len {n : Nat} {l : List Int} (h : l.length ≤ n) : (pad n l).length = n := by simp [pad]; omega
theorem pad_full {n : Nat} {l : List Int} (h : l.length = n) : pad n l = l := by simp [pad, h]
theorem pad_set {n : Nat} {l : List Int} {x : Int} (h : l.length < n) : ((pad n l).map vi).set l.length (vi x) = (pad n (l ++ [x])).map vi := by
  unfold pad
  rw [← List.map_set]
  congr 1
  rw [List.set_append_right _ _ (Nat.le_refl _), Nat.sub_self, List.length_append, List.append_assoc]
  congr 1
  obtain ⟨k, hk⟩ : ∃ k, n - l.length = k + 1 := ⟨n - l.length - 1, by omega⟩
  rw [hk, List.replicate_succ, List.set_cons_zero]
  simp
  omega
abbrev RowO (w : World) (G : Nat → Prop) (v : Value) (r : List Int) : Prop := LV vi w (fun x => ¬ G x) v r
section
variable {w0 w : World} {G0 G : Nat → Prop} {g : Nat} {D0 D : List GK} {m : Nat}
theorem GS.refl (h : GaO w G g D) : GS w G g D w G D 0 := ⟨h, ⟨[], by simp, NI.nil, Nat.le_refl _⟩, fun _ _ h => h, Keep.refl _ _⟩
theorem GS.keepN {w' : World} (s : GS w0 G0 g D0 w G D m) (k : Keep w w' No) : GS w0 G0 g D0 w' G D m := ⟨s.ga.keepN k, s.ext, s.sub, s.keep.trans k (fun _ _ h => h.elim)⟩
theorem GS.keepO {w' : World} {S : Nat → Prop} (s : GS w0 G0 g D0 w G D m) (k : Keep w w' S) (h : ∀ x, S x → w0.heap.size ≤ x ∧ ¬ G x) : GS w0 G0 g D0 w' G D m := ⟨s.ga.keep k (fun x hx hs => (h x hs).2 hx), s.ext, s.sub, s.keep.trans k (fun x hx hs => by have := (h x hs).1; omega)⟩
theorem GS.trans {w1 : World} {G1 : Nat → Prop} {D1 : List GK} {m1 : Nat} (s : GS w0 G0 g D0 w G D m) (t : GS w G g D w1 G1 D1 m1) : GS w0 G0 g D0 w1 G1 D1 (m + m1) := by
  obtain ⟨E, h1, h2, h3⟩ := s.ext
  obtain ⟨F, g1, g2, g3⟩ := t.ext
  have := s.keep.size
  refine ⟨t.ga, ⟨E ++ F, by rw [g1, h1, List.append_assoc], h2.app g2, by rw [List.length_append]; omega⟩, fun x hx hG => s.sub x hx (t.sub x (by omega) hG), s.keep.trans t.keep (fun x hx hG => s.sub x hx hG)⟩
theorem GS.mono {m' : Nat} (s : GS w0 G0 g D0 w G D m) (h : m ≤ m') : GS w0 G0 g D0 w G D m' := by
  obtain ⟨E, h1, h2, h3⟩ := s.ext
  exact ⟨s.ga, ⟨E, h1, h2, by omega⟩, s.sub, s.keep⟩
theorem GS.ft (s : GS w0 G0 g D0 w G D m) {l : Int} (h : Ft D0 l) : Ft D l := by
  obtain ⟨E, rfl, _⟩ := s.ext
  exact h.ext E
theorem GS.rf (s : GS w0 G0 g D0 w G D m) {r : List Int} (h : RF D0 r) : RF D r := fun l hl => s.ft (h l hl)
theorem GS.lv (s : GS w0 G0 g D0 w G D m) {l : Int} (h : Ft D0 l) (i : Nat → Bool) : lv i D l = lv i D0 l := by
  obtain ⟨E, rfl, _⟩ := s.ext
  exact lv_ext E h
theorem GS.rv (s : GS w0 G0 g D0 w G D m) {r : List Int} (h : RF D0 r) (i : Nat → Bool) : rv i D r = rv i D0 r := by
  obtain ⟨E, rfl, _⟩ := s.ext
  exact rv_ext E h
theorem GS.len (s : GS w0 G0 g D0 w G D m) : D.length ≤ D0.length + m := by
  obtain ⟨E, rfl, _, h⟩ := s.ext
  rw [List.length_append]; omega
theorem GS.row (s : GS w0 G0 g D0 w G D m) {v : Value} {r : List Int} (h : RowO w0 G0 v r) : RowO w G v r :=
  ((h.mono (D' := fun x => ¬ G0 x ∧ x < w0.heap.size) (fun x hx hf => ⟨hf, hx⟩)).keep s.keep (fun x _ hx => hx.1)).mono (fun x _ hx hG => hx.1 (s.sub x hx.2 hG))
theorem GS.blk (s : GS w0 G0 g D0 w G D m) {b : Nat} {l : List Value} (h : Blk w0 b l) (hb : ¬ G0 b) : Blk w b l ∧ ¬ G b := ⟨h.keep s.keep hb, fun hx => hb (s.sub b h.lt hx)⟩
theorem GOut.gs {m' : Nat} {f : (Nat → Bool) → Bool} {r : Value} {w' : World} (h : GOut w G g D m' f r w') : ∃ G' D' l, r = vi l ∧ GS w G g D w' G' D' m' ∧ Ft D' l ∧ ∀ i, lv i D' l = f i := by
  obtain ⟨E, G', l, h1, h2, h3, h4, h5, h6, h7, h8⟩ := h
  exact ⟨G', D ++ E, l, h1, ⟨h2, ⟨E, rfl, h3, h4⟩, h7, h8⟩, h5, h6⟩
theorem gtrue_ret (h : GaO w G g D) : Ret Try.prog 27 #[ptr g] w (fun r w' => r = vi 0 ∧ w' = w) := by
  refine ok27 _ _ _ ?_
  unfold sh27
  (repeat (first|refine jp ?_|refine jt ?_))
  exact ⟨rfl, rfl⟩
theorem fine_ret {Dm : Nat → Prop} {v : Value} {rows : List (List Int)} {n : Nat} (hn : 0 < n) (hn2 : n ≤ 1000) (hv : LL w Dm v rows) (hr : rows.length ≤ 100) (hl : ∀ r ∈ rows, r.length = n ∧ ∀ x ∈ r, (0 : Int) ≤ x) :
    Ret Try.prog 57 #[ptr g, v] w (fun r w' => r = .bool true ∧ Keep w w' No) := by
  obtain ⟨A, c, us, rfl, hLL, hc⟩ := hv
  refine ok57 _ _ _ _ ?_
  unfold sh57
  (repeat (first|refine ja ?_|refine jp ?_|refine jt ?_))
  refine M.loop_i (σ := Nat) (fun i vals w' => vals = [vi i] ∧ i ≤ rows.length ∧ Keep w w' No) (fun i => rows.length - i) 0 ⟨rfl, by omega, Keep.refl _ _⟩ ?_
  rintro i vals w1 K ⟨rfl, hi, k1⟩ hK _
  simp only [List.getD_cons_zero, List.getD_cons_succ]
  by_cases hlt : i < rows.length
  · obtain ⟨r, hx⟩ : ∃ r, rows[i]? = some r := ⟨_, List.getElem?_eq_getElem hlt⟩
    obtain ⟨r0, hx0⟩ : ∃ r, rows[0]? = some r := ⟨_, List.getElem?_eq_getElem (by omega)⟩
    have hrn := hl r (List.mem_of_getElem? hx)
    have hrn0 := hl r0 (List.mem_of_getElem? hx0)
    have hLL1 := hLL.keep k1 (fun _ _ _ h => h)
    (repeat (first|refine jo ?_|refine jy ?_))
    refine M.idxLL_i hLL1 rfl (by omega) (c := r) (by simpa using hx) (fun b o u hcu hu => ?_)
    obtain ⟨A1, c1, rfl, hr1, hc1⟩ := id hu
    (repeat (first|refine ja ?_|refine jg ?_|refine jH ?_|refine jM (by assumption) ?_))
    refine M.idxLL_i hLL1 rfl (by omega) (c := r0) (by simpa using hx0) (fun b0 o0 u0 hcu0 hu0 => ?_)
    obtain ⟨A0, c0, rfl, hr0, hc0⟩ := id hu0
    (repeat (first|refine ja ?_|refine jg ?_|refine jl ?_|refine jp ?_|refine jJ ?_|refine jM (by assumption) ?_))
    refine M.loop_i (σ := Nat) (fun j vals w' => vals = [vi j] ∧ j ≤ r.length ∧ Keep w w' No ∧ Row w' Dm A1 (r.map vi)) (fun j => r.length - j) 0 ⟨rfl, by omega, k1, hr1⟩ ?_
    rintro j vals w2 K2 ⟨rfl, hj, k2, hr2⟩ hK2 _
    simp only [List.getD_cons_zero, List.getD_cons_succ]
    by_cases hjl : j < r.length
    · obtain ⟨x, hxj⟩ : ∃ x, r[j]? = some x := ⟨_, List.getElem?_eq_getElem hjl⟩
      have hx0 := hrn.2 x (List.mem_of_getElem? hxj)
      (repeat (first|refine jo ?_|refine jy ?_))
      refine M.idxLV_i hr2 rfl (by omega) (by omega) (x := x) (by simpa using hxj) (fun bb oo hA hcc => ?_)
      (repeat (first|refine jp ?_|refine jz ?_|refine jK ?_|refine jM (by assumption) ?_))
      exact hK2 (j + 1) _ _ (by omega) ⟨by simp, by omega, k2, hr2⟩
    · (repeat (first|refine jp ?_|refine jz ?_|refine jK ?_))
      exact hK (i + 1) _ _ (by omega) ⟨by simp, by omega, k2⟩
  · (repeat (first|refine jp ?_|refine jz ?_))
    exact ⟨trivial, k1⟩
theorem LV.blk {E : Nat → Prop} {b n : Nat} {r : List Int} (h : Blk w b (r.map vi)) (hE : E b) (hn : n = r.length) : LV vi w E (.slice (some ⟨b, 0, none⟩) n n) r := ⟨_, n, by rw [hn], Row.of_blk' h hE, by omega⟩
theorem LL.two {b : Nat} {u v : Value} {x y : List Int} {Du Dv : Nat → Prop} (hb : Blk w b [u, v]) (hu : LV vi w Du u x) (hv : LV vi w Dv v y) : LL w (fun _ => True) (.slice (some ⟨b, 0, none⟩) 2 2) [x, y] := by
  refine ⟨_, _, [u, v], rfl, ⟨Row.of_blk' hb trivial, rfl, fun i c hc => ?_⟩, Nat.le_refl _⟩
  match i, hc with
  | 0, hc => simp at hc; subst hc; exact ⟨u, rfl, hu.mono (fun _ _ _ => trivial)⟩
  | 1, hc => simp at hc; subst hc; exact ⟨v, rfl, hv.mono (fun _ _ _ => trivial)⟩
  | i + 2, hc => simp at hc
theorem LL.one {b : Nat} {u : Value} {x : List Int} {Du : Nat → Prop} (hb : Blk w b [u]) (hu : LV vi w Du u x) : LL w (fun _ => True) (.slice (some ⟨b, 0, none⟩) 1 1) [x] := by
  refine ⟨_, _, [u], rfl, ⟨Row.of_blk' hb trivial, rfl, fun i c hc => ?_⟩, Nat.le_refl _⟩
  match i, hc with
  | 0, hc => simp at hc; subst hc; exact ⟨u, rfl, hu.mono (fun _ _ _ => trivial)⟩
  | i + 1, hc => simp at hc
theorem anots_ret {E : Nat → Prop} {v : Value} {r : List Int} (hv : LV vi w E v r) (hl : r.length ≤ 1000) (h0 : ∀ x ∈ r, 0 ≤ x ∧ x ≤ 1000000000) :
    Ret Try.prog 89 #[v] w (fun u w' => LV vi w' (w.heap.size ≤ ·) u (r.map nt) ∧ Keep w w' No) := by
  obtain ⟨A, c, rfl, hr, hc⟩ := id hv
  refine ok89 _ _ _ ?_
  unfold sh89
  (repeat (refine ja ?_))
  refine M.makeSlice_i rfl rfl (by omega) (by omega) (fun w1 b1 k1 s1 => ?_)
  (repeat (refine ja ?_))
  rw [← pad_nil] at b1
  refine M.loop_i (σ := Nat) (fun i vals w' => vals = [vi i] ∧ i ≤ r.length ∧ Blk w' w.heap.size ((pad r.length ((r.take i).map nt)).map vi) ∧ Keep w w' No) (fun i => r.length - i) 0 ⟨rfl, by omega, by simpa using b1, k1⟩ ?_
  rintro i vals w2 K ⟨rfl, hi, b2, k2⟩ hK _
  simp only [List.getD_cons_zero, List.getD_cons_succ]
  by_cases hlt : i < r.length
  · obtain ⟨x, hx⟩ : ∃ x, r[i]? = some x := ⟨_, List.getElem?_eq_getElem hlt⟩
    obtain ⟨x0, x1⟩ := h0 x (List.mem_of_getElem? hx)
    have hr2 := hr.keep k2 (fun _ _ _ h => h)
    (repeat (first|refine jo ?_|refine jy ?_))
    refine M.idxLV_i hr2 rfl (by omega) (by omega) (x := x) (by simpa using hx) (fun bb oo hA hcc => ?_)
    (repeat (refine jM (by assumption) ?_))
    refine M.call_i (ntr_ret x0 (by omega) _) ?_; rintro _ w3 ⟨rfl, k3⟩
    have b3 := b2.keep k3 (fun h => h)
    have hl3 : ((r.take i).map nt).length = i := by simp; omega
    refine M.idx_i (by omega) (by omega) ?_
    refine M.store_i b3 (by rw [List.length_map, pad_len (by omega)]; simp; omega) rfl (fun w4 b4 k4 s4 => ?_)
    (repeat (refine jK ?_))
    refine hK (i + 1) _ _ (by omega) ⟨by simp, by omega, ?_, (k2.trans k3 (fun _ _ h => h)).trans k4 (fun x hx e => by have e : x = w.heap.size := e; omega)⟩
    have := pad_set (n := r.length) (l := (r.take i).map nt) (x := nt x) (by omega)
    rw [hl3] at this
    rw [show 0 + (i : Int).toNat * 1 = i by simp, this] at b4
    rw [List.take_add_one, hx]
    simpa using b4
  · have e : i = r.length := by omega
    (repeat (first|refine jp ?_|refine jz ?_))
    rw [e, List.take_length, pad_full (by simp)] at b2
    exact ⟨LV.blk b2 (Nat.le_refl _) (by simp), k2⟩
end
end Go.Proofs.Ytnbcglnefoinlaa
namespace Go.Proofs.Ytnbcglnefoinlaa
open Go.Mw Go.Maps Go.MapKept
set_option linter.unusedVariables false
set_option linter.unusedSimpArgs false
set_option maxRecDepth 100000
attribute [local irreducible] M.val M.unit M.next M.pick M.new M.nilCheck M.load1 M.loadA M.store M.fieldAddr M.indexSl M.indexArr M.slice M.makeSlice M.buildSlice M.len M.lenS M.cap M.append M.extract M.conv M.not M.neg M.bin M.shift M.eqB M.eqNil M.scat M.call M.callv M.gd M.share M.cond M.loop M.draw pureW readW Ret
def sh88 (x0 x1 x2 x3 : Value) (R : Kt) (w : World) : Prop :=
  M.len x1 (fun t14 w =>
  M.makeSlice 3 1 8 #[.int .i64 0] t14 t14 (fun t15 w =>
  M.len x1 (fun t17 w =>
  M.loop [x3, (Value.int IntKind.i64 0)] (fun s1 K1 w => ∀ _ : List Value,
  M.bin .lss (s1.getD 1 undef) t17 (fun t19 w =>
  M.cond t19
  (M.draw (fun w =>
  M.indexSl 1 x1 (s1.getD 1 undef) (fun t24 w =>
  M.load1 t24 (fun t25 w =>
  M.indexSl 1 x2 (s1.getD 1 undef) (fun t28 w =>
  M.load1 t28 (fun t29 w =>
  M.call Try.prog 67 #[x0, t25, t29] (fun t30 w =>
  M.call Try.prog 67 #[x0, t30, (s1.getD 0 undef)] (fun t36 w =>
  M.indexSl 1 t15 (s1.getD 1 undef) (fun t37 w =>
  M.store 1 t37 t36 (fun _ w =>
  M.draw (fun w =>
  M.indexSl 1 x1 (s1.getD 1 undef) (fun t42 w =>
  M.load1 t42 (fun t43 w =>
  M.indexSl 1 x2 (s1.getD 1 undef) (fun t46 w =>
  M.load1 t46 (fun t47 w =>
  M.call Try.prog 65 #[x0, t43, t47] (fun t48 w =>
  M.call Try.prog 65 #[x0, t30, (s1.getD 0 undef)] (fun t52 w =>
  M.call Try.prog 66 #[x0, t48, t52] (fun t53 w =>
  M.bin .add (s1.getD 1 undef) (Value.int IntKind.i64 1) (fun t54 w =>
  K1 [t53, t54] w) w) w) w) w) w) w) w) w) w) w) w) w) w) w) w) w) w) w)
  (R (.tuple #[t15, (s1.getD 0 undef)]) w)) w) w) w) w) w
theorem ok88 (x0 x1 x2 x3 : Value) (R : Kt) (w : World) (h : sh88 x0 x1 x2 x3 R w) : Ret Try.prog 88 #[x0, x1, x2, x3] w R :=
  ret_mk <| calls_of_comp mixed (c := Try.f88.body.getD .skip) (args := [x0, x1, x2, x3]) (rs := [(ResultVar.tmp 8), (ResultVar.tmp 9)]) (Ann.seq Ann.text (Ann.seq Ann.text (Ann.seq (Ann.seq Ann.text (Ann.block (Ann.loop [3, 18] [11, 12, 19, 20, 21, 22, 23, 24, 25, 26, 27, 28, 29, 30, 31, 32, 33, 34, 35, 36, 37, 38, 39, 40, 41, 42, 43, 44, 45, 46, 47, 48, 49, 50, 51, 52, 53, 54] (Ann.seq Ann.text (Ann.seq (Ann.cond Ann.leaf Ann.leaf) (Ann.seq (Ann.block (Ann.seq Ann.text (Ann.seq (Ann.draw (Sch.take 0 (Sch.take 1 (Sch.take 2 (Sch.take 3 (Sch.take 4 (Sch.take 5 (Sch.take 6 (Sch.take 7 (Sch.take 8 (Sch.one 9 (Sch.take 10 Sch.done)))))))))))) (Ann.seq Ann.text (Ann.draw (Sch.take 0 (Sch.take 1 (Sch.take 2 (Sch.take 3 (Sch.take 4 (Sch.take 5 (Sch.take 6 (Sch.take 7 (Sch.take 8 (Sch.take 9 (Sch.take 11 (Sch.take 12 (Sch.take 13 (Sch.one 10 (Sch.one 14 (Sch.one 15 (Sch.take 16 Sch.done)))))))))))))))))))))) Ann.text)))))) (Ann.seq Ann.text Ann.leaf))))
    Try.func88 (by kernel_rfl) (by kernel_rfl)
    (Eq.mp (by kernel_rfl) h)
def sh61 (x0 x1 x2 : Value) (R : Kt) (w : World) : Prop :=
  M.buildSlice 23 1 #[.slice none 0 0] 2 [(0, x1), (1, x2)] (fun t12 w =>
  M.call Try.prog 57 #[x0, t12] (fun t13 w =>
  M.not t13 (fun t14 w =>
  M.cond t14
  (R (Value.slice none 0 0) w)
  (M.call Try.prog 27 #[x0] (fun t20 w =>
  M.call Try.prog 26 #[t20] (fun t21 w =>
  M.call Try.prog 88 #[x0, x1, x2, t21] (fun t22 w =>
  M.extract 0 t22 (fun t23 w =>
  M.extract 1 t22 (fun t24 w =>
  R t23 w) w) w) w) w) w)) w) w) w
theorem ok61 (x0 x1 x2 : Value) (R : Kt) (w : World) (h : sh61 x0 x1 x2 R w) : Ret Try.prog 61 #[x0, x1, x2] w R :=
  ret_mk <| calls_of_comp mixed (c := Try.f61.body.getD .skip) (args := [x0, x1, x2]) (rs := [(ResultVar.tmp 6)]) (Ann.seq Ann.text (Ann.seq (Ann.seq Ann.text (Ann.cond (Ann.seq Ann.text Ann.leaf) Ann.leaf)) (Ann.seq Ann.text (Ann.seq Ann.text Ann.leaf))))
    Try.func61 (by kernel_rfl) (by kernel_rfl)
    (Eq.mp (by kernel_rfl) h)
def sh60 (x0 x1 x2 : Value) (R : Kt) (w : World) : Prop :=
  M.buildSlice 23 1 #[.slice none 0 0] 2 [(0, x1), (1, x2)] (fun t12 w =>
  M.call Try.prog 57 #[x0, t12] (fun t13 w =>
  M.not t13 (fun t14 w =>
  M.cond t14
  (R (Value.slice none 0 0) w)
  (M.call Try.prog 89 #[x2] (fun t19 w =>
  M.call Try.prog 27 #[x0] (fun t21 w =>
  M.call Try.prog 88 #[x0, x1, t19, t21] (fun t22 w =>
  M.extract 0 t22 (fun t23 w =>
  M.extract 1 t22 (fun t24 w =>
  R t23 w) w) w) w) w) w)) w) w) w
theorem ok60 (x0 x1 x2 : Value) (R : Kt) (w : World) (h : sh60 x0 x1 x2 R w) : Ret Try.prog 60 #[x0, x1, x2] w R :=
  ret_mk <| calls_of_comp mixed (c := Try.f60.body.getD .skip) (args := [x0, x1, x2]) (rs := [(ResultVar.tmp 6)]) (Ann.seq Ann.text (Ann.seq (Ann.seq Ann.text (Ann.cond (Ann.seq Ann.text Ann.leaf) Ann.leaf)) (Ann.seq Ann.text (Ann.seq Ann.text Ann.leaf))))
    Try.func60 (by kernel_rfl) (by kernel_rfl)
    (Eq.mp (by kernel_rfl) h)
def sh34 (x0 x1 : Value) (R : Kt) (w : World) : Prop :=
  M.buildSlice 23 1 #[.slice none 0 0] 1 [(0, x1)] (fun t9 w =>
  M.call Try.prog 57 #[x0, t9] (fun t10 w =>
  M.not t10 (fun t11 w =>
  M.cond t11
  (R (Value.slice none 0 0) w)
  (M.len x1 (fun t13 w =>
  M.makeSlice 3 1 8 #[.int .i64 0] t13 t13 (fun t14 w =>
  M.len t14 (fun t16 w =>
  M.loop [(Value.int IntKind.i64 0)] (fun s1 K1 w => ∀ _ : List Value,
  M.bin .lss (s1.getD 0 undef) t16 (fun t18 w =>
  M.cond t18
  (M.call Try.prog 27 #[x0] (fun t23 w =>
  M.call Try.prog 26 #[t23] (fun t24 w =>
  M.indexSl 1 t14 (s1.getD 0 undef) (fun t25 w =>
  M.store 1 t25 t24 (fun _ w =>
  M.bin .add (s1.getD 0 undef) (Value.int IntKind.i64 1) (fun t26 w =>
  K1 [t26] w) w) w) w) w) w)
  (M.call Try.prog 60 #[x0, t14, x1] (fun t30 w =>
  R t30 w) w)) w) w) w) w) w)) w) w) w
theorem ok34 (x0 x1 : Value) (R : Kt) (w : World) (h : sh34 x0 x1 R w) : Ret Try.prog 34 #[x0, x1] w R :=
  ret_mk <| calls_of_comp mixed (c := Try.f34.body.getD .skip) (args := [x0, x1]) (rs := [(ResultVar.tmp 4)]) (Ann.seq Ann.text (Ann.seq (Ann.seq Ann.text (Ann.cond (Ann.seq Ann.text Ann.leaf) Ann.leaf)) (Ann.seq Ann.text (Ann.seq (Ann.seq Ann.text (Ann.block (Ann.loop [17] [6, 18, 19, 20, 21, 22, 23, 24, 25, 26] (Ann.seq Ann.text (Ann.seq (Ann.cond Ann.leaf Ann.leaf) (Ann.seq (Ann.block (Ann.seq Ann.text Ann.text)) Ann.text)))))) (Ann.seq Ann.text Ann.leaf)))))
    Try.func34 (by kernel_rfl) (by kernel_rfl)
    (Eq.mp (by kernel_rfl) h)
abbrev RowF (w0 w : World) (G : Nat → Prop) (v : Value) (r : List Int) : Prop := LV vi w (fun x => ¬ G x ∧ w0.heap.size ≤ x) v r
theorem RowF.o {w0 w : World} {G : Nat → Prop} {v : Value} {r : List Int} (h : RowF w0 w G v r) : RowO w G v r := h.mono (fun _ _ h => h.1)
theorem RowF.up {w0 w1 w : World} {G : Nat → Prop} {v : Value} {r : List Int} (h : RowF w1 w G v r) (hs : w0.heap.size ≤ w1.heap.size) : RowF w0 w G v r := h.mono (fun x _ h => ⟨h.1, Nat.le_trans hs h.2⟩)
def ROut (w : World) (G : Nat → Prop) (g : Nat) (D : List GK) (m n : Nat) (f : (Nat → Bool) → Nat) (r : Value) (w' : World) : Prop :=
  ∃ G' D' row, RowF w w' G' r row ∧ GS w G g D w' G' D' m ∧ row.length = n ∧ RF D' row ∧ ∀ i, rv i D' row = f i
theorem rv_one (i : Nat → Bool) (D : List GK) (x : Int) : rv i D [x] = (lv i D x).toNat := by simp [rv, nvB]
theorem rv_nil (i : Nat → Bool) (D : List GK) : rv i D [] = 0 := rfl
theorem RF.snoc {D : List GK} {r : List Int} {x : Int} (h : RF D r) (hx : Ft D x) : RF D (r ++ [x]) := fun l hl => by
  rcases List.mem_append.1 hl with hl | hl
  · exact h l hl
  · rw [List.mem_singleton.1 hl]; exact hx
theorem RF.nil (D : List GK) : RF D [] := fun l hl => by cases hl
section
variable {w : World} {G : Nat → Prop} {g : Nat} {D : List GK}
set_option maxHeartbeats 4000000 in
theorem sum_ret {va vb : Value} {a b : List Int} {c0 : Int} {n : Nat} (h : GaO w G g D) (hD : D.length ≤ 90000000) (hn : n ≤ 1000) (ha : RowO w G va a) (hb : RowO w G vb b) (la : a.length = n) (lb : b.length = n) (fa : RF D a) (fb : RF D b) (fc : Ft D c0) :
    Ret Try.prog 88 #[ptr g, va, vb, vi c0] w (fun r w' => ∃ G' D' row c v, r = .tuple #[v, vi c] ∧ RowF w w' G' v row ∧ GS w G g D w' G' D' (5 * n) ∧ row.length = n ∧ RF D' row ∧ Ft D' c ∧
      ∀ i, rv i D' row + 2 ^ n * (lv i D' c).toNat = rv i D a + rv i D b + (lv i D c0).toNat) := by
  obtain ⟨A, ca, rfl, hra, hca⟩ := id ha
  obtain ⟨B, cb, rfl, hrb, hcb⟩ := id hb
  refine ok88 _ _ _ _ _ _ ?_
  unfold sh88
  (repeat (refine ja ?_))
  refine M.makeSlice_i rfl rfl (by omega) (by omega) (fun w1 b1 k1 s1 => ?_)
  (repeat (refine ja ?_))
  rw [← pad_nil] at b1
  have hlt := h.lt
  have hnew : ¬ G w.heap.size := fun hx => by have := hlt _ hx; omega
  refine M.loop_i (σ := Nat) (fun i vals w' => ∃ G1 D1 out c, vals = [vi c, vi i] ∧ GS w G g D w' G1 D1 (5 * i) ∧ Blk w' w.heap.size ((pad n out).map vi) ∧ ¬ G1 w.heap.size ∧ out.length = i ∧ i ≤ n ∧ Ft D1 c ∧ RF D1 out ∧ ∀ j, rv j D1 out + 2 ^ i * (lv j D1 c).toNat = rv j D (a.take i) + rv j D (b.take i) + (lv j D c0).toNat) (fun i => n - i) 0
    ⟨G, D, [], c0, rfl, (GS.refl h).keepN k1, by rw [la] at b1; exact b1, hnew, rfl, by omega, fc, RF.nil _, fun j => by simp [rv_nil]⟩ ?_
  rintro i vals w2 K ⟨G1, D1, out, c, rfl, s, bo, no, lo, hi, fc1, fo, hv⟩ hK _
  simp only [List.getD_cons_zero, List.getD_cons_succ]
  have hls := s.len
  by_cases hlt2 : i < n
  · obtain ⟨x, hx⟩ : ∃ x, a[i]? = some x := ⟨_, List.getElem?_eq_getElem (by omega)⟩
    obtain ⟨y, hy⟩ : ∃ y, b[i]? = some y := ⟨_, List.getElem?_eq_getElem (by omega)⟩
    have fx := fa x (List.mem_of_getElem? hx)
    have fy := fb y (List.mem_of_getElem? hy)
    have s := s.keepN (Keep.drew _ _)
    have bo := bo.keep (Keep.drew w2 No) (fun h => h)
    obtain ⟨_, _, e1, hra2, _⟩ := s.row ha
    obtain ⟨_, _, e2, hrb2, _⟩ := s.row hb
    simp only [Value.slice.injEq] at e1 e2
    obtain ⟨rfl, _, rfl⟩ := e1
    obtain ⟨rfl, _, rfl⟩ := e2
    (repeat (first|refine jd ?_|refine jo ?_|refine jy ?_))
    refine M.idxLV_i hra2 rfl (by omega) (by omega) (x := x) (by simpa using hx) (fun bb oo hA hcc => ?_)
    (repeat (refine jM (by assumption) ?_))
    refine M.idxLV_i hrb2 rfl (by omega) (by omega) (x := y) (by simpa using hy) (fun bb2 oo2 hA2 hcc2 => ?_)
    (repeat (refine jM (by assumption) ?_))
    refine M.call_i (xor_ret s.ga (by omega) (s.ft fx) (s.ft fy)) ?_; rintro _ w3 hg
    obtain ⟨G3, D3, hf, rfl, t3, fh, vh⟩ := hg.gs
    have s3 := s.trans t3
    obtain ⟨bo, no⟩ := t3.blk bo no
    have hls3 := s3.len
    refine M.call_i (xor_ret s3.ga (by omega) fh (t3.ft fc1)) ?_; rintro _ w4 hg
    obtain ⟨G4, D4, sm, rfl, t4, fs, vs⟩ := hg.gs
    have s4 := s3.trans t4
    obtain ⟨bo, no⟩ := t4.blk bo no
    have hls4 := s4.len
    refine M.idx_i (by omega) (by omega) ?_
    refine M.store_i bo (by rw [List.length_map, pad_len (by omega)]; simp; omega) rfl (fun w5 bo k5 z5 => ?_)
    have e5 := pad_set (n := n) (l := out) (x := sm) (by omega)
    rw [lo] at e5
    rw [show 0 + (i : Int).toNat * 1 = i by simp, e5] at bo
    have s5 := s4.keepO k5 (fun x hx => by have hx : x = w.heap.size := hx; subst hx; exact ⟨Nat.le_refl _, no⟩)
    have s5 := s5.keepN (Keep.drew _ _)
    have bo := bo.keep (Keep.drew w5 No) (fun h => h)
    obtain ⟨_, _, e1, hra5, _⟩ := s5.row ha
    obtain ⟨_, _, e2, hrb5, _⟩ := s5.row hb
    simp only [Value.slice.injEq] at e1 e2
    obtain ⟨rfl, _, rfl⟩ := e1
    obtain ⟨rfl, _, rfl⟩ := e2
    (repeat (refine jd ?_))
    refine M.idxLV_i hra5 rfl (by omega) (by omega) (x := x) (by simpa using hx) (fun bb oo hA hcc => ?_)
    (repeat (refine jM (by assumption) ?_))
    refine M.idxLV_i hrb5 rfl (by omega) (by omega) (x := y) (by simpa using hy) (fun bb2 oo2 hA2 hcc2 => ?_)
    (repeat (refine jM (by assumption) ?_))
    refine M.call_i (and_ret s5.ga (by omega) (s5.ft fx) (s5.ft fy)) ?_; rintro _ w6 hg
    obtain ⟨G6, D6, an, rfl, t6, fan, van⟩ := hg.gs
    have s6 := s5.trans t6
    obtain ⟨bo, no⟩ := t6.blk bo no
    have hls6 := s6.len
    refine M.call_i (and_ret s6.ga (by omega) (t6.ft (t4.ft fh)) (t6.ft (t4.ft (t3.ft fc1)))) ?_; rintro _ w7 hg
    obtain ⟨G7, D7, bn, rfl, t7, fbn, vbn⟩ := hg.gs
    have s7 := s6.trans t7
    obtain ⟨bo, no⟩ := t7.blk bo no
    have hls7 := s7.len
    refine M.call_i (or_ret s7.ga (by omega) (t7.ft fan) fbn) ?_; rintro _ w8 hg
    obtain ⟨G8, D8, c', rfl, t8, fc', vc'⟩ := hg.gs
    have s8 := s7.trans t8
    obtain ⟨bo, no⟩ := t8.blk bo no
    (repeat (refine jK ?_))
    refine hK (i + 1) _ _ (by omega) ⟨G8, D8, out ++ [sm], c', by simp, s8.mono (by omega), bo, no, by simp [lo], by omega, fc', ?_, fun j => ?_⟩
    · exact t8.rf (t7.rf (t6.rf ((t4.rf (t3.rf fo)).snoc fs)))
    · have q1 := hv j
      rw [rv_app, rv_one]
      have o1 : rv j D8 out = rv j D1 out := by rw [t8.rv (t7.rf (t6.rf (t4.rf (t3.rf fo)))), t7.rv (t6.rf (t4.rf (t3.rf fo))), t6.rv (t4.rf (t3.rf fo)), t4.rv (t3.rf fo), t3.rv fo]
      have o2 : lv j D8 sm = lv j D4 sm := by rw [t8.lv (t7.ft (t6.ft fs)), t7.lv (t6.ft fs), t6.lv fs]
      have xx : lv j D1 x = lv j D x := s.lv fx j
      have yy : lv j D1 y = lv j D y := s.lv fy j
      have h3 : lv j D3 hf = (lv j D x != lv j D y) := by rw [vh, xx, yy]
      have h4 : lv j D4 sm = ((lv j D x != lv j D y) != lv j D1 c) := by rw [vs, h3, t3.lv fc1]
      have h6 : lv j D6 an = (lv j D x && lv j D y) := by rw [van, s5.lv fx, s5.lv fy]
      have h7 : lv j D7 bn = ((lv j D x != lv j D y) && lv j D1 c) := by rw [vbn, t6.lv (t4.ft fh), t4.lv fh, h3, t6.lv (t4.ft (t3.ft fc1)), t4.lv (t3.ft fc1), t3.lv fc1]
      have h8 : lv j D8 c' = ((lv j D x && lv j D y) || ((lv j D x != lv j D y) && lv j D1 c)) := by rw [vc', t7.lv fan, h6, h7]
      have bt := bit_add (lv j D x) (lv j D y) (lv j D1 c)
      rw [o1, o2, h4, h8, lo]
      have hxa : a[i]'(by omega) = x := by rw [List.getElem?_eq_getElem (by omega)] at hx; exact Option.some.inj hx
      have hyb : b[i]'(by omega) = y := by rw [List.getElem?_eq_getElem (by omega)] at hy; exact Option.some.inj hy
      have ta := rv_take (i := j) (D := D) (r := a) (k := i) (by omega)
      have tb := rv_take (i := j) (D := D) (r := b) (k := i) (by omega)
      rw [hxa] at ta
      rw [hyb] at tb
      rw [ta, tb]
      have bt2 := congrArg (fun z => 2 ^ i * z) bt
      simp only [Nat.mul_add] at bt2
      have e2 : ∀ z : Nat, 2 ^ (i + 1) * z = 2 ^ i * (2 * z) := fun z => by rw [Nat.pow_succ, Nat.mul_assoc]
      rw [e2]
      omega
  · have e : i = n := by omega
    subst e
    (repeat (first|refine jp ?_|refine jz ?_))
    rw [pad_full lo] at bo
    refine ⟨G1, D1, out, c, _, rfl, LV.blk bo ⟨no, Nat.le_refl _⟩ (by omega), s, lo, fo, fc1, fun j => ?_⟩
    have q := hv j
    rw [List.take_of_length_le (by omega), List.take_of_length_le (by omega)] at q
    exact q
theorem ROut.pre {m n : Nat} {f : (Nat → Bool) → Nat} {r : Value} {w1 w' : World} (k : Keep w w1 No) (h : ROut w1 G g D m n f r w') : ROut w G g D m n f r w' := by
  obtain ⟨G', D', row, h1, h2, h3⟩ := h
  exact ⟨G', D', row, RowF.up h1 k.size, ⟨h2.ga, h2.ext, fun x hx => h2.sub x (Nat.lt_of_lt_of_le hx k.size), (k.mono (fun _ _ h => h.elim)).trans h2.keep (fun _ _ h => h)⟩, h3⟩
theorem GS.pre {w0 w1 : World} {G1 : Nat → Prop} {D1 : List GK} {m : Nat} (k : Keep w0 w No) (s : GS w G g D w1 G1 D1 m) : GS w0 G g D w1 G1 D1 m :=
  ⟨s.ga, s.ext, fun x hx => s.sub x (Nat.lt_of_lt_of_le hx k.size), (k.mono (fun _ _ h => h.elim)).trans s.keep (fun _ _ h => h)⟩
theorem RowO.fresh {w1 : World} {v : Value} {r : List Int} (h : GaO w G g D) (hr : LV vi w1 (w.heap.size ≤ ·) v r) : RowO w1 G v r := hr.mono (fun x _ hx hG => by have := h.lt x hG; have hx : w.heap.size ≤ x := hx; omega)
theorem mod_of_add {x c p t : Nat} (h : x + p * c = t) (hx : x < p) : x = t % p := by
  rw [← h, Nat.add_mul_mod_self_left, Nat.mod_eq_of_lt hx]
theorem RF.nn {r : List Int} (h : RF D r) : ∀ x ∈ r, (0 : Int) ≤ x := fun x hx => (h x hx).1
theorem add_ret {va vb : Value} {a b : List Int} {n : Nat} (h : GaO w G g D) (hD : D.length ≤ 90000000) (hn0 : 0 < n) (hn : n ≤ 1000) (ha : RowO w G va a) (hb : RowO w G vb b) (la : a.length = n) (lb : b.length = n) (fa : RF D a) (fb : RF D b) :
    Ret Try.prog 61 #[ptr g, va, vb] w (ROut w G g D (5 * n) n (fun i => (rv i D a + rv i D b) % 2 ^ n)) := by
  obtain ⟨A, ca, rfl, hra, hca⟩ := id ha
  obtain ⟨B, cb, rfl, hrb, hcb⟩ := id hb
  refine ok61 _ _ _ _ _ ?_
  unfold sh61
  refine M.buildSlice_i [.slice A a.length ca, .slice B b.length cb] (by kernel_rfl) (fun w1 b1 k1 s1 => ?_)
  have s := (GS.refl h).keepN k1
  refine M.call_i (fine_ret (g := g) hn0 hn (LL.two b1 (s.row ha) (s.row hb)) (by simp) (by simp; exact ⟨⟨la, fa.nn⟩, lb, fb.nn⟩)) ?_; rintro _ w2 ⟨rfl, k2⟩
  have s := s.keepN k2
  (repeat (first|refine jm ?_|refine jp ?_))
  refine M.call_i (gtrue_ret s.ga) ?_; rintro _ _ ⟨rfl, rfl⟩
  refine M.call_i (ntr_ret (l := 0) (by omega) (by omega) _) ?_; rintro _ w3 ⟨rfl, k3⟩
  have s := s.keepN k3
  have hpos := h.wf.pos
  refine M.call_i (sum_ret s.ga hD hn (s.row ha) (s.row hb) la lb fa fb (show Ft D (nt 0) from ⟨by decide, by show (1 : Int) < _; omega⟩)) ?_; rintro _ w4 ⟨G', D', row, c, v, rfl, r1, r2, r3, r4, r5, r6⟩
  refine M.extract_i (v := v) rfl ?_
  refine M.extract_i (v := vi c) rfl ?_
  refine ⟨G', D', row, RowF.up r1 s.keep.size, (s.trans r2).mono (by omega), r3, r4, fun i => ?_⟩
  have q := r6 i
  rw [lv_nt, lv_zero h.wf] at q
  have hlt := rv_lt i D' row
  rw [r3] at hlt
  exact mod_of_add (by simpa using q) hlt
theorem sub_ret {va vb : Value} {a b : List Int} {n : Nat} (h : GaO w G g D) (hD : D.length ≤ 90000000) (hn0 : 0 < n) (hn : n ≤ 1000) (ha : RowO w G va a) (hb : RowO w G vb b) (la : a.length = n) (lb : b.length = n) (fa : RF D a) (fb : RF D b) :
    Ret Try.prog 60 #[ptr g, va, vb] w (ROut w G g D (5 * n) n (fun i => (rv i D a + (2 ^ n - rv i D b)) % 2 ^ n)) := by
  obtain ⟨A, ca, rfl, hra, hca⟩ := id ha
  obtain ⟨B, cb, rfl, hrb, hcb⟩ := id hb
  refine ok60 _ _ _ _ _ ?_
  unfold sh60
  refine M.buildSlice_i [.slice A a.length ca, .slice B b.length cb] (by kernel_rfl) (fun w1 b1 k1 s1 => ?_)
  have s := (GS.refl h).keepN k1
  refine M.call_i (fine_ret (g := g) hn0 hn (LL.two b1 (s.row ha) (s.row hb)) (by simp) (by simp; exact ⟨⟨la, fa.nn⟩, lb, fb.nn⟩)) ?_; rintro _ w2 ⟨rfl, k2⟩
  have s := s.keepN k2
  (repeat (first|refine jm ?_|refine jp ?_))
  refine M.call_i (anots_ret (s.row hb) (by omega) (fun x hx => ⟨(fb x hx).1, by have := (fb x hx).2; omega⟩)) ?_; rintro nv w3 ⟨hnv, k3⟩
  have hnv := RowO.fresh s.ga hnv
  have s := s.keepN k3
  refine M.call_i (gtrue_ret s.ga) ?_; rintro _ _ ⟨rfl, rfl⟩
  have hpos := h.wf.pos
  refine M.call_i (sum_ret s.ga hD hn (s.row ha) hnv la (by rw [List.length_map]; exact lb) fa fb.nots (show Ft D 0 from ⟨by decide, by omega⟩)) ?_; rintro _ w4 ⟨G', D', row, c, v, rfl, r1, r2, r3, r4, r5, r6⟩
  refine M.extract_i (v := v) rfl ?_
  refine M.extract_i (v := vi c) rfl ?_
  refine ⟨G', D', row, RowF.up r1 s.keep.size, (s.trans r2).mono (by omega), r3, r4, fun i => ?_⟩
  have q := r6 i
  rw [lv_zero h.wf] at q
  have hlt := rv_lt i D' row
  rw [r3] at hlt
  have hnot := rv_not i D b
  rw [lb] at hnot
  refine mod_of_add (c := (lv i D' c).toNat) ?_ hlt
  rw [q]
  show rv i D a + rv i D (b.map nt) + 1 = _
  omega
set_option maxHeartbeats 1000000 in
theorem neg_ret' {va : Value} {a : List Int} {n : Nat} (h : GaO w G g D) (hD : D.length ≤ 90000000) (hn0 : 0 < n) (hn : n ≤ 1000) (ha : RowO w G va a) (la : a.length = n) (fa : RF D a) :
    Ret Try.prog 34 #[ptr g, va] w (ROut w G g D (5 * n) n (fun i => (2 ^ n - rv i D a) % 2 ^ n)) := by
  obtain ⟨A, ca, rfl, hra, hca⟩ := id ha
  have hpos := h.wf.pos
  refine ok34 _ _ _ _ ?_
  unfold sh34
  refine M.buildSlice_i [.slice A a.length ca] (by kernel_rfl) (fun w1 b1 k1 s1 => ?_)
  have s := (GS.refl h).keepN k1
  refine M.call_i (fine_ret (g := g) hn0 hn (LL.one b1 (s.row ha)) (by simp) (by simp; exact ⟨la, fa.nn⟩)) ?_; rintro _ w2 ⟨rfl, k2⟩
  have s := s.keepN k2
  (repeat (first|refine ja ?_|refine jm ?_|refine jp ?_))
  refine M.makeSlice_i rfl rfl (by omega) (by omega) (fun w3 b3 k3 s3 => ?_)
  have s := s.keepN k3
  (repeat (refine ja ?_))
  rw [← pad_nil] at b3
  have hnew : ¬ G w2.heap.size := fun hx => by have := h.lt _ hx; have := k1.size; have := k2.size; omega
  refine M.loop_i (σ := Nat) (fun i vals w' => vals = [vi i] ∧ i ≤ n ∧ GS w G g D w' G D 0 ∧ Blk w' w2.heap.size ((pad n (List.replicate i (nt 0))).map vi)) (fun i => n - i) 0 ⟨rfl, by omega, s, by rw [la] at b3; exact b3⟩ ?_
  rintro i vals w4 K ⟨rfl, hi, s, bo⟩ hK _
  simp only [List.getD_cons_zero, List.getD_cons_succ]
  by_cases hlt : i < n
  · (repeat (first|refine jo ?_|refine jy ?_))
    refine M.call_i (gtrue_ret s.ga) ?_; rintro _ _ ⟨rfl, rfl⟩
    refine M.call_i (ntr_ret (l := 0) (by omega) (by omega) _) ?_; rintro _ w5 ⟨rfl, k5⟩
    have s := s.keepN k5
    have bo := bo.keep k5 (fun h => h)
    refine M.idx_i (by omega) (by omega) ?_
    refine M.store_i bo (by rw [List.length_map, pad_len (by simp; omega)]; simp; omega) rfl (fun w6 bo k6 z6 => ?_)
    have e5 := pad_set (n := n) (l := List.replicate i (nt 0)) (x := nt 0) (by simp; omega)
    rw [List.length_replicate] at e5
    rw [show 0 + (i : Int).toNat * 1 = i by simp, e5] at bo
    have s := s.keepO k6 (fun x hx => by have hx : x = w2.heap.size := hx; subst hx; exact ⟨by have := k1.size; have := k2.size; omega, hnew⟩)
    (repeat (refine jK ?_))
    exact hK (i + 1) _ _ (by omega) ⟨by simp, by omega, s, by rw [List.replicate_succ']; exact bo⟩
  · have e : i = n := by omega
    subst e
    (repeat (first|refine jp ?_|refine jz ?_))
    rw [pad_full (by simp)] at bo
    have fz : RF D (List.replicate i (nt 0)) := fun x hx => by rw [(List.mem_replicate.1 hx).2]; exact ⟨by decide, by show (1 : Int) < _; omega⟩
    have ez : ∀ j, rv j D (List.replicate i (nt 0)) = 0 := fun j => by
      unfold rv
      rw [List.map_replicate, lv_nt, lv_zero h.wf]
      exact nvB_zeros i
    refine M.call_i (sub_ret s.ga hD hn0 hn (LV.blk bo hnew (by simp [la])) (s.row ha) (by simp) la fz fa) ?_; rintro _ w7 ⟨G', D', row, r1, r2, r3, r4, r5⟩
    refine ⟨G', D', row, RowF.up r1 s.keep.size, (s.trans r2).mono (by omega), r3, r4, fun j => ?_⟩
    rw [r5 j]
    show (rv j D (List.replicate i (nt 0)) + (2 ^ i - rv j D a)) % 2 ^ i = _
    rw [ez j, Nat.zero_add]
end
end Go.Proofs.Ytnbcglnefoinlaa
namespace Go.Proofs.Ytnbcglnefoinlaa
open Go.Mw Go.Maps Go.MapKept
set_option linter.unusedVariables false
set_option linter.unusedSimpArgs false
set_option maxRecDepth 100000
attribute [local irreducible] M.val M.unit M.next M.pick M.new M.nilCheck M.load1 M.loadA M.store M.fieldAddr M.indexSl M.indexArr M.slice M.makeSlice M.buildSlice M.len M.lenS M.cap M.append M.extract M.conv M.not M.neg M.bin M.shift M.eqB M.eqNil M.scat M.call M.callv M.gd M.share M.cond M.loop M.draw pureW readW Ret
def sh68 (x0 x1 x2 : Value) (R : Kt) (w : World) : Prop :=
  M.buildSlice 23 1 #[.slice none 0 0] 2 [(0, x1), (1, x2)] (fun t12 w =>
  M.call Try.prog 57 #[x0, t12] (fun t13 w =>
  M.not t13 (fun t14 w =>
  M.cond t14
  (R (Value.int IntKind.i64 (-1)) w)
  (M.call Try.prog 27 #[x0] (fun t16 w =>
  M.len x1 (fun t18 w =>
  M.loop [t16, (Value.int IntKind.i64 0)] (fun s1 K1 w => ∀ _ : List Value,
  M.bin .lss (s1.getD 1 undef) t18 (fun t20 w =>
  M.cond t20
  (M.draw (fun w =>
  M.indexSl 1 x1 (s1.getD 1 undef) (fun t27 w =>
  M.load1 t27 (fun t28 w =>
  M.indexSl 1 x2 (s1.getD 1 undef) (fun t31 w =>
  M.load1 t31 (fun t32 w =>
  M.call Try.prog 67 #[x0, t28, t32] (fun t33 w =>
  M.call Try.prog 26 #[t33] (fun t34 w =>
  M.call Try.prog 65 #[x0, (s1.getD 0 undef), t34] (fun t35 w =>
  M.bin .add (s1.getD 1 undef) (Value.int IntKind.i64 1) (fun t36 w =>
  K1 [t35, t36] w) w) w) w) w) w) w) w) w) w)
  (R (s1.getD 0 undef) w)) w) w) w) w)) w) w) w
theorem ok68 (x0 x1 x2 : Value) (R : Kt) (w : World) (h : sh68 x0 x1 x2 R w) : Ret Try.prog 68 #[x0, x1, x2] w R :=
  ret_mk <| calls_of_comp mixed (c := Try.f68.body.getD .skip) (args := [x0, x1, x2]) (rs := [(ResultVar.tmp 6)]) (Ann.seq Ann.text (Ann.seq (Ann.seq Ann.text (Ann.cond (Ann.seq Ann.text Ann.leaf) Ann.leaf)) (Ann.seq Ann.text (Ann.seq (Ann.seq Ann.text (Ann.block (Ann.loop [7, 19] [8, 20, 21, 22, 23, 24, 25, 26, 27, 28, 29, 30, 31, 32, 33, 34, 35, 36] (Ann.seq Ann.text (Ann.seq (Ann.cond Ann.leaf Ann.leaf) (Ann.seq (Ann.block (Ann.seq Ann.text (Ann.draw (Sch.take 0 (Sch.take 1 (Sch.take 2 (Sch.take 3 (Sch.take 4 (Sch.take 5 (Sch.take 6 (Sch.take 7 (Sch.take 8 (Sch.take 9 (Sch.take 10 (Sch.one 11 (Sch.one 12 (Sch.one 13 (Sch.take 14 Sch.done)))))))))))))))))) Ann.text)))))) (Ann.seq Ann.text Ann.leaf)))))
    Try.func68 (by kernel_rfl) (by kernel_rfl)
    (Eq.mp (by kernel_rfl) h)
def sh69 (x0 x1 x2 : Value) (R : Kt) (w : World) : Prop :=
  M.buildSlice 23 1 #[.slice none 0 0] 2 [(0, x1), (1, x2)] (fun t12 w =>
  M.call Try.prog 57 #[x0, t12] (fun t13 w =>
  M.not t13 (fun t14 w =>
  M.cond t14
  (R (Value.int IntKind.i64 (-1)) w)
  (M.call Try.prog 27 #[x0] (fun t16 w =>
  M.call Try.prog 26 #[t16] (fun t17 w =>
  M.len x1 (fun t19 w =>
  M.loop [t17, (Value.int IntKind.i64 0)] (fun s1 K1 w => ∀ _ : List Value,
  M.bin .lss (s1.getD 1 undef) t19 (fun t21 w =>
  M.cond t21
  (M.draw (fun w =>
  M.indexSl 1 x1 (s1.getD 1 undef) (fun t27 w =>
  M.load1 t27 (fun t28 w =>
  M.indexSl 1 x2 (s1.getD 1 undef) (fun t31 w =>
  M.load1 t31 (fun t32 w =>
  M.indexSl 1 x2 (s1.getD 1 undef) (fun t36 w =>
  M.load1 t36 (fun t37 w =>
  M.call Try.prog 67 #[x0, t28, t32] (fun t33 w =>
  ((M.load1 t36 (fun v' _ => v' = t37) w) ∧ M.call Try.prog 58 #[x0, t33, t37, (s1.getD 0 undef)] (fun t39 w =>
  M.bin .add (s1.getD 1 undef) (Value.int IntKind.i64 1) (fun t40 w =>
  K1 [t39, t40] w) w) w)) w) w) w) w) w) w) w) w)
  (R (s1.getD 0 undef) w)) w) w) w) w) w)) w) w) w
theorem ok69 (x0 x1 x2 : Value) (R : Kt) (w : World) (h : sh69 x0 x1 x2 R w) : Ret Try.prog 69 #[x0, x1, x2] w R :=
  ret_mk <| calls_of_comp mixed (c := Try.f69.body.getD .skip) (args := [x0, x1, x2]) (rs := [(ResultVar.tmp 6)]) (Ann.seq Ann.text (Ann.seq (Ann.seq Ann.text (Ann.cond (Ann.seq Ann.text Ann.leaf) Ann.leaf)) (Ann.seq Ann.text (Ann.seq (Ann.seq Ann.text (Ann.block (Ann.loop [7, 20] [8, 21, 22, 23, 24, 25, 26, 27, 28, 29, 30, 31, 32, 33, 34, 35, 36, 37, 38, 39, 40] (Ann.seq Ann.text (Ann.seq (Ann.cond Ann.leaf Ann.leaf) (Ann.seq (Ann.block (Ann.seq Ann.text (Ann.draw (Sch.take 0 (Sch.take 1 (Sch.take 2 (Sch.take 3 (Sch.take 4 (Sch.take 5 (Sch.take 6 (Sch.take 7 (Sch.take 8 (Sch.take 9 (Sch.take 11 (Sch.take 12 (Sch.take 13 (Sch.take 14 (Sch.take 15 (Sch.one 10 (Sch.one 16 (Sch.take 17 Sch.done))))))))))))))))))))) Ann.text)))))) (Ann.seq Ann.text Ann.leaf)))))
    Try.func69 (by kernel_rfl) (by kernel_rfl)
    (Eq.mp (by kernel_rfl) h)
def sh30 (x0 x1 x2 x3 : Value) (R : Kt) (w : World) : Prop :=
  M.bin .lss x1 (Value.int IntKind.i64 0) (fun t12 w =>
  M.gd t12 false (fun k w => k x0 w) (fun t14 w =>
  M.gd t12 false (fun k w => k x2 w) (fun t15 w =>
  M.gd t12 false (fun k w => k x3 w) (fun t16 w =>
  M.gd t12 false (fun k w => M.buildSlice 23 1 #[.slice none 0 0] 2 [(0, t15), (1, t16)] k w) (fun t17 w =>
  M.gd t12 false (fun k w => M.call Try.prog 57 #[t14, t17] k w) (fun t18 w =>
  M.gd t12 false (fun k w => M.not t18 k w) (fun t19 w =>
  M.pick t12 (Value.bool true) t19 (fun t20 w =>
  M.cond t20
  (R (Value.slice none 0 0) w)
  (M.len x2 (fun t22 w =>
  M.makeSlice 3 1 8 #[.int .i64 0] t22 t22 (fun t23 w =>
  M.len t23 (fun t25 w =>
  M.loop [(Value.int IntKind.i64 0)] (fun s1 K1 w => ∀ _ : List Value,
  M.bin .lss (s1.getD 0 undef) t25 (fun t27 w =>
  M.cond t27
  (M.draw (fun w =>
  M.indexSl 1 x2 (s1.getD 0 undef) (fun t35 w =>
  M.load1 t35 (fun t36 w =>
  M.indexSl 1 x3 (s1.getD 0 undef) (fun t39 w =>
  M.load1 t39 (fun t40 w =>
  M.call Try.prog 58 #[x0, x1, t36, t40] (fun t41 w =>
  M.indexSl 1 t23 (s1.getD 0 undef) (fun t42 w =>
  M.store 1 t42 t41 (fun _ w =>
  M.bin .add (s1.getD 0 undef) (Value.int IntKind.i64 1) (fun t43 w =>
  K1 [t43] w) w) w) w) w) w) w) w) w) w)
  (R t23 w)) w) w) w) w) w)) w) w) w) w) w) w) w) w
theorem ok30 (x0 x1 x2 x3 : Value) (R : Kt) (w : World) (h : sh30 x0 x1 x2 x3 R w) : Ret Try.prog 30 #[x0, x1, x2, x3] w R :=
  ret_mk <| calls_of_comp mixed (c := Try.f30.body.getD .skip) (args := [x0, x1, x2, x3]) (rs := [(ResultVar.tmp 8)]) (Ann.seq Ann.text (Ann.seq (Ann.seq Ann.text (Ann.cond (Ann.seq Ann.text Ann.leaf) Ann.leaf)) (Ann.seq Ann.text (Ann.seq (Ann.seq Ann.text (Ann.block (Ann.loop [26] [10, 27, 28, 29, 30, 31, 32, 33, 34, 35, 36, 37, 38, 39, 40, 41, 42, 43] (Ann.seq Ann.text (Ann.seq (Ann.cond Ann.leaf Ann.leaf) (Ann.seq (Ann.block (Ann.seq Ann.text (Ann.draw (Sch.take 0 (Sch.take 1 (Sch.take 2 (Sch.take 3 (Sch.take 4 (Sch.take 5 (Sch.take 6 (Sch.take 7 (Sch.take 8 (Sch.take 9 (Sch.take 10 (Sch.take 11 (Sch.one 12 (Sch.take 13 (Sch.one 14 Sch.done)))))))))))))))))) Ann.text)))))) (Ann.seq Ann.text Ann.leaf)))))
    Try.func30 (by kernel_rfl) (by kernel_rfl)
    (Eq.mp (by kernel_rfl) h)
theorem Row.dom {w : World} {E : Nat → Prop} {A : Option Addr} {l : List Value} {b o : Nat} (h : Row w E A l) (hA : A = some ⟨b, o, none⟩) (hl : 0 < l.length) : E b := by
  rcases h with h | ⟨b', o', c, T, fz, h1, h2, _⟩
  · rw [h] at hl; simp at hl
  · rw [hA] at h1
    simp only [Option.some.injEq, Addr.mk.injEq] at h1
    rw [h1.1]; exact h2
theorem bit_eq {x y n : Nat} (a b : Bool) (hx : x < 2 ^ n) (hy : y < 2 ^ n) : decide (x + 2 ^ n * a.toNat = y + 2 ^ n * b.toNat) = (decide (x = y) && !(a != b)) := by
  cases a <;> cases b <;> simp <;> omega
section
variable {w : World} {G : Nat → Prop} {g : Nat} {D : List GK}
set_option maxHeartbeats 2000000 in
theorem equal_ret {va vb : Value} {a b : List Int} {n : Nat} (h : GaO w G g D) (hD : D.length ≤ 90000000) (hn0 : 0 < n) (hn : n ≤ 1000) (ha : RowO w G va a) (hb : RowO w G vb b) (la : a.length = n) (lb : b.length = n) (fa : RF D a) (fb : RF D b) :
    Ret Try.prog 68 #[ptr g, va, vb] w (fun r w' => ∃ G' D' l, r = vi l ∧ GS w G g D w' G' D' (2 * n) ∧ Ft D' l ∧ ∀ i, lv i D' l = decide (rv i D a = rv i D b)) := by
  obtain ⟨A, ca, rfl, hra, hca⟩ := id ha
  obtain ⟨B, cb, rfl, hrb, hcb⟩ := id hb
  have hpos := h.wf.pos
  refine ok68 _ _ _ _ _ ?_
  unfold sh68
  refine M.buildSlice_i [.slice A a.length ca, .slice B b.length cb] (by kernel_rfl) (fun w1 b1 k1 s1 => ?_)
  have s := (GS.refl h).keepN k1
  refine M.call_i (fine_ret (g := g) hn0 hn (LL.two b1 (s.row ha) (s.row hb)) (by simp) (by simp; exact ⟨⟨la, fa.nn⟩, lb, fb.nn⟩)) ?_; rintro _ w2 ⟨rfl, k2⟩
  have s := s.keepN k2
  (repeat (first|refine jm ?_|refine jp ?_))
  refine M.call_i (gtrue_ret s.ga) ?_; rintro _ _ ⟨rfl, rfl⟩
  (repeat (refine ja ?_))
  refine M.loop_i (σ := Nat) (fun i vals w' => ∃ G1 D1 c, vals = [vi c, vi i] ∧ GS w G g D w' G1 D1 (2 * i) ∧ i ≤ n ∧ Ft D1 c ∧ ∀ j, lv j D1 c = decide (rv j D (a.take i) = rv j D (b.take i))) (fun i => n - i) 0
    ⟨G, D, 0, rfl, s, by omega, ⟨by omega, by omega⟩, fun j => by rw [lv_zero h.wf]; simp [rv_nil]⟩ ?_
  clear s
  rintro i vals w3 K ⟨G1, D1, c, rfl, s, hi, fc, hv⟩ hK _
  simp only [List.getD_cons_zero, List.getD_cons_succ]
  have hls := s.len
  by_cases hlt : i < n
  · obtain ⟨x, hx⟩ : ∃ x, a[i]? = some x := ⟨_, List.getElem?_eq_getElem (by omega)⟩
    obtain ⟨y, hy⟩ : ∃ y, b[i]? = some y := ⟨_, List.getElem?_eq_getElem (by omega)⟩
    have fx := fa x (List.mem_of_getElem? hx)
    have fy := fb y (List.mem_of_getElem? hy)
    have s := s.keepN (Keep.drew _ _)
    obtain ⟨_, _, e1, hra2, _⟩ := s.row ha
    obtain ⟨_, _, e2, hrb2, _⟩ := s.row hb
    simp only [Value.slice.injEq] at e1 e2
    obtain ⟨rfl, _, rfl⟩ := e1
    obtain ⟨rfl, _, rfl⟩ := e2
    (repeat (first|refine jd ?_|refine jo ?_|refine jy ?_))
    refine M.idxLV_i hra2 rfl (by omega) (by omega) (x := x) (by simpa using hx) (fun bb oo hA hcc => ?_)
    (repeat (refine jM (by assumption) ?_))
    refine M.idxLV_i hrb2 rfl (by omega) (by omega) (x := y) (by simpa using hy) (fun bb2 oo2 hA2 hcc2 => ?_)
    (repeat (refine jM (by assumption) ?_))
    refine M.call_i (xor_ret s.ga (by omega) (s.ft fx) (s.ft fy)) ?_; rintro _ w4 hg
    obtain ⟨G3, D3, hf, rfl, t3, fh, vh⟩ := hg.gs
    have s3 := s.trans t3
    have hls3 := s3.len
    refine M.call_i (ntr_ret fh.1 (by have := fh.2; omega) _) ?_; rintro _ w5 ⟨rfl, k5⟩
    have s3 := s3.keepN k5
    refine M.call_i (and_ret s3.ga (by omega) (t3.ft fc) fh.nt) ?_; rintro _ w6 hg
    obtain ⟨G4, D4, c', rfl, t4, fc', vc'⟩ := hg.gs
    have s4 := s3.trans t4
    (repeat (refine jK ?_))
    refine hK (i + 1) _ _ (by omega) ⟨G4, D4, c', by simp, s4.mono (by omega), by omega, fc', fun j => ?_⟩
    have hxa : a[i]'(by omega) = x := by rw [List.getElem?_eq_getElem (by omega)] at hx; exact Option.some.inj hx
    have hyb : b[i]'(by omega) = y := by rw [List.getElem?_eq_getElem (by omega)] at hy; exact Option.some.inj hy
    have ta := rv_take (i := j) (D := D) (r := a) (k := i) (by omega)
    have tb := rv_take (i := j) (D := D) (r := b) (k := i) (by omega)
    rw [hxa] at ta
    rw [hyb] at tb
    have la2 := rv_lt j D (a.take i)
    have lb2 := rv_lt j D (b.take i)
    rw [List.length_take, Nat.min_eq_left (by omega)] at la2 lb2
    rw [ta, tb, bit_eq _ _ la2 lb2, vc', lv_nt, t3.lv fc, hv j, vh, s.lv fx, s.lv fy]
  · have e : i = n := by omega
    subst e
    (repeat (first|refine jp ?_|refine jz ?_))
    refine ⟨G1, D1, c, rfl, s, fc, fun j => ?_⟩
    have q := hv j
    rw [List.take_of_length_le (by omega), List.take_of_length_le (by omega)] at q
    exact q
set_option maxHeartbeats 2000000 in
theorem less_ret {va vb : Value} {a b : List Int} {n : Nat} (h : GaO w G g D) (hD : D.length ≤ 90000000) (hn0 : 0 < n) (hn : n ≤ 1000) (ha : RowO w G va a) (hb : RowO w G vb b) (la : a.length = n) (lb : b.length = n) (fa : RF D a) (fb : RF D b) :
    Ret Try.prog 69 #[ptr g, va, vb] w (fun r w' => ∃ G' D' l, r = vi l ∧ GS w G g D w' G' D' (2 * n) ∧ Ft D' l ∧ ∀ i, lv i D' l = decide (rv i D a < rv i D b)) := by
  obtain ⟨A, ca, rfl, hra, hca⟩ := id ha
  obtain ⟨B, cb, rfl, hrb, hcb⟩ := id hb
  have hpos := h.wf.pos
  refine ok69 _ _ _ _ _ ?_
  unfold sh69
  refine M.buildSlice_i [.slice A a.length ca, .slice B b.length cb] (by kernel_rfl) (fun w1 b1 k1 s1 => ?_)
  have s := (GS.refl h).keepN k1
  refine M.call_i (fine_ret (g := g) hn0 hn (LL.two b1 (s.row ha) (s.row hb)) (by simp) (by simp; exact ⟨⟨la, fa.nn⟩, lb, fb.nn⟩)) ?_; rintro _ w2 ⟨rfl, k2⟩
  have s := s.keepN k2
  (repeat (first|refine jm ?_|refine jp ?_))
  refine M.call_i (gtrue_ret s.ga) ?_; rintro _ _ ⟨rfl, rfl⟩
  refine M.call_i (ntr_ret (l := 0) (by omega) (by omega) _) ?_; rintro _ w3 ⟨rfl, k3⟩
  have s := s.keepN k3
  (repeat (refine ja ?_))
  refine M.loop_i (σ := Nat) (fun i vals w' => ∃ G1 D1 c, vals = [vi c, vi i] ∧ GS w G g D w' G1 D1 (2 * i) ∧ i ≤ n ∧ Ft D1 c ∧ ∀ j, lv j D1 c = decide (rv j D (a.take i) < rv j D (b.take i))) (fun i => n - i) 0
    ⟨G, D, nt 0, rfl, s, by omega, ⟨by decide, by show (1 : Int) < _; omega⟩, fun j => by rw [lv_nt, lv_zero h.wf]; simp [rv_nil]⟩ ?_
  clear s
  rintro i vals w3 K ⟨G1, D1, c, rfl, s, hi, fc, hv⟩ hK _
  simp only [List.getD_cons_zero, List.getD_cons_succ]
  have hls := s.len
  by_cases hlt : i < n
  · obtain ⟨x, hx⟩ : ∃ x, a[i]? = some x := ⟨_, List.getElem?_eq_getElem (by omega)⟩
    obtain ⟨y, hy⟩ : ∃ y, b[i]? = some y := ⟨_, List.getElem?_eq_getElem (by omega)⟩
    have fx := fa x (List.mem_of_getElem? hx)
    have fy := fb y (List.mem_of_getElem? hy)
    have s := s.keepN (Keep.drew _ _)
    obtain ⟨_, _, e1, hra2, _⟩ := s.row ha
    obtain ⟨_, _, e2, hrb2, _⟩ := s.row hb
    simp only [Value.slice.injEq] at e1 e2
    obtain ⟨rfl, _, rfl⟩ := e1
    obtain ⟨rfl, _, rfl⟩ := e2
    (repeat (first|refine jd ?_|refine jo ?_|refine jy ?_))
    refine M.idxLV_i hra2 rfl (by omega) (by omega) (x := x) (by simpa using hx) (fun bb oo hA hcc => ?_)
    (repeat (refine jM (by assumption) ?_))
    refine M.idxLV_i hrb2 rfl (by omega) (by omega) (x := y) (by simpa using hy) (fun bb2 oo2 hA2 hcc2 => ?_)
    (repeat (refine jM (by assumption) ?_))
    refine M.idxLV_i hrb2 rfl (by omega) (by omega) (x := y) (by simpa using hy) (fun bb3 oo3 hA3 hcc3 => ?_)
    (repeat (refine jM (by assumption) ?_))
    have hcc3' := hcc3
    refine M.call_i (xor_ret s.ga (by omega) (s.ft fx) (s.ft fy)) ?_; rintro _ w4 hg
    obtain ⟨G3, D3, hf, rfl, t3, fh, vh⟩ := hg.gs
    have s3 := s.trans t3
    have hls3 := s3.len
    have hcc4 : w4.cell? ⟨bb3, oo3 + (i : Int).toNat, none⟩ = some (vi y) := t3.keep.cell (Row.dom hrb2 hA3 (by simp; omega)) hcc3
    refine ⟨?_, ?_⟩
    · refine M.load_i hcc4 rfl
    refine M.call_i (gite_ret s3.ga (by omega) fh (s3.ft fy) (t3.ft fc)) ?_; rintro _ w6 hg
    obtain ⟨G4, D4, c', rfl, t4, fc', vc'⟩ := hg.gs
    have s4 := s3.trans t4
    (repeat (refine jK ?_))
    refine hK (i + 1) _ _ (by omega) ⟨G4, D4, c', by simp, s4.mono (by omega), by omega, fc', fun j => ?_⟩
    have hxa : a[i]'(by omega) = x := by rw [List.getElem?_eq_getElem (by omega)] at hx; exact Option.some.inj hx
    have hyb : b[i]'(by omega) = y := by rw [List.getElem?_eq_getElem (by omega)] at hy; exact Option.some.inj hy
    have ta := rv_take (i := j) (D := D) (r := a) (k := i) (by omega)
    have tb := rv_take (i := j) (D := D) (r := b) (k := i) (by omega)
    rw [hxa] at ta
    rw [hyb] at tb
    have la2 := rv_lt j D (a.take i)
    have lb2 := rv_lt j D (b.take i)
    rw [List.length_take, Nat.min_eq_left (by omega)] at la2 lb2
    rw [ta, tb, bit_less _ _ _ _ _ la2 lb2, vc']
    simp only [t3.lv fc, hv j, vh, s.lv fx, s.lv fy, s3.lv fy]
  · have e : i = n := by omega
    subst e
    (repeat (first|refine jp ?_|refine jz ?_))
    refine ⟨G1, D1, c, rfl, s, fc, fun j => ?_⟩
    have q := hv j
    rw [List.take_of_length_le (by omega), List.take_of_length_le (by omega)] at q
    exact q
set_option maxHeartbeats 2000000 in
theorem aite_ret {va vb : Value} {a b : List Int} {c : Int} {n : Nat} (h : GaO w G g D) (hD : D.length ≤ 90000000) (hn0 : 0 < n) (hn : n ≤ 1000) (ha : RowO w G va a) (hb : RowO w G vb b) (la : a.length = n) (lb : b.length = n) (fc : Ft D c) (fa : RF D a) (fb : RF D b) :
    Ret Try.prog 30 #[ptr g, vi c, va, vb] w (ROut w G g D n n (fun i => if lv i D c then rv i D a else rv i D b)) := by
  obtain ⟨A, ca, rfl, hra, hca⟩ := id ha
  obtain ⟨B, cb, rfl, hrb, hcb⟩ := id hb
  have hpos := h.wf.pos
  obtain ⟨c0, c1⟩ := id fc
  refine ok30 _ _ _ _ _ _ ?_
  unfold sh30
  (repeat (first|refine jg ?_|refine jz ?_))
  refine M.buildSlice_i [.slice A a.length ca, .slice B b.length cb] (by kernel_rfl) (fun w1 b1 k1 s1 => ?_)
  have s := (GS.refl h).keepN k1
  (repeat (refine jg ?_))
  refine M.call_i (fine_ret (g := g) hn0 hn (LL.two b1 (s.row ha) (s.row hb)) (by simp) (by simp; exact ⟨⟨la, fa.nn⟩, lb, fb.nn⟩)) ?_; rintro _ w2 ⟨rfl, k2⟩
  have s := s.keepN k2
  (repeat (first|refine ja ?_|refine jg ?_|refine jl ?_|refine jm ?_|refine jp ?_))
  refine M.makeSlice_i rfl rfl (by omega) (by omega) (fun w3 b3 k3 s3 => ?_)
  have s := s.keepN k3
  (repeat (refine ja ?_))
  rw [← pad_nil] at b3
  have hnew : ¬ G w2.heap.size := fun hx => by have := h.lt _ hx; have := k1.size; have := k2.size; omega
  refine M.loop_i (σ := Nat) (fun i vals w' => ∃ G1 D1 out, vals = [vi i] ∧ GS w G g D w' G1 D1 i ∧ i ≤ n ∧ Blk w' w2.heap.size ((pad n out).map vi) ∧ ¬ G1 w2.heap.size ∧ out.length = i ∧ RF D1 out ∧ ∀ j, rv j D1 out = if lv j D c then rv j D (a.take i) else rv j D (b.take i)) (fun i => n - i) 0
    ⟨G, D, [], rfl, s, by omega, by rw [la] at b3; exact b3, hnew, rfl, RF.nil _, fun j => by simp [rv_nil]⟩ ?_
  clear s
  rintro i vals w4 K ⟨G1, D1, out, rfl, s, hi, bo, no, lo, fo, hv⟩ hK _
  simp only [List.getD_cons_zero, List.getD_cons_succ]
  have hls := s.len
  by_cases hlt : i < n
  · obtain ⟨x, hx⟩ : ∃ x, a[i]? = some x := ⟨_, List.getElem?_eq_getElem (by omega)⟩
    obtain ⟨y, hy⟩ : ∃ y, b[i]? = some y := ⟨_, List.getElem?_eq_getElem (by omega)⟩
    have fx := fa x (List.mem_of_getElem? hx)
    have fy := fb y (List.mem_of_getElem? hy)
    have s := s.keepN (Keep.drew _ _)
    have bo := bo.keep (Keep.drew w4 No) (fun h => h)
    obtain ⟨_, _, e1, hra2, _⟩ := s.row ha
    obtain ⟨_, _, e2, hrb2, _⟩ := s.row hb
    simp only [Value.slice.injEq] at e1 e2
    obtain ⟨rfl, _, rfl⟩ := e1
    obtain ⟨rfl, _, rfl⟩ := e2
    (repeat (first|refine jd ?_|refine jo ?_|refine jy ?_))
    refine M.idxLV_i hra2 rfl (by omega) (by omega) (x := x) (by simpa using hx) (fun bb oo hA hcc => ?_)
    (repeat (refine jM (by assumption) ?_))
    refine M.idxLV_i hrb2 rfl (by omega) (by omega) (x := y) (by simpa using hy) (fun bb2 oo2 hA2 hcc2 => ?_)
    (repeat (refine jM (by assumption) ?_))
    refine M.call_i (gite_ret s.ga (by omega) (s.ft fc) (s.ft fx) (s.ft fy)) ?_; rintro _ w5 hg
    obtain ⟨G3, D3, z, rfl, t3, fz, vz⟩ := hg.gs
    have s3 := s.trans t3
    obtain ⟨bo, no⟩ := t3.blk bo no
    refine M.idx_i (by omega) (by omega) ?_
    refine M.store_i bo (by rw [List.length_map, pad_len (by omega)]; simp; omega) rfl (fun w6 bo k6 z6 => ?_)
    have e5 := pad_set (n := n) (l := out) (x := z) (by omega)
    rw [lo] at e5
    rw [show 0 + (i : Int).toNat * 1 = i by simp, e5] at bo
    have s3 := s3.keepO k6 (fun x hx => by have hx : x = w2.heap.size := hx; subst hx; exact ⟨by have := k1.size; have := k2.size; omega, no⟩)
    (repeat (refine jK ?_))
    refine hK (i + 1) _ _ (by omega) ⟨G3, D3, out ++ [z], by simp, s3, by omega, bo, no, by simp [lo], (t3.rf fo).snoc fz, fun j => ?_⟩
    have hxa : a[i]'(by omega) = x := by rw [List.getElem?_eq_getElem (by omega)] at hx; exact Option.some.inj hx
    have hyb : b[i]'(by omega) = y := by rw [List.getElem?_eq_getElem (by omega)] at hy; exact Option.some.inj hy
    have ta := rv_take (i := j) (D := D) (r := a) (k := i) (by omega)
    have tb := rv_take (i := j) (D := D) (r := b) (k := i) (by omega)
    rw [hxa] at ta
    rw [hyb] at tb
    rw [ta, tb, rv_app, rv_one, t3.rv fo, hv j, vz, lo]
    simp only [s.lv fc, s.lv fx, s.lv fy]
    cases lv j D c <;> simp
  · have e : i = n := by omega
    subst e
    (repeat (first|refine jp ?_|refine jz ?_))
    rw [pad_full lo] at bo
    refine ⟨G1, D1, out, LV.blk bo ⟨no, by have := k1.size; have := k2.size; omega⟩ (by omega), s, lo, fo, fun j => ?_⟩
    have q := hv j
    rw [List.take_of_length_le (by omega), List.take_of_length_le (by omega)] at q
    exact q
end
end Go.Proofs.Ytnbcglnefoinlaa
namespace Go.Proofs.Ytnbcglnefoinlaa
open Go.Mw Go.Maps Go.MapKept
set_option linter.unusedVariables false
set_option linter.unusedSimpArgs false
set_option maxRecDepth 100000
attribute [local irreducible] M.val M.unit M.next M.pick M.new M.nilCheck M.load1 M.loadA M.store M.fieldAddr M.indexSl M.indexArr M.slice M.makeSlice M.buildSlice M.len M.lenS M.cap M.append M.extract M.conv M.not M.neg M.bin M.shift M.eqB M.eqNil M.scat M.call M.callv M.gd M.share M.cond M.loop M.draw pureW readW Ret
def sh28 (x0 x1 x2 : Value) (R : Kt) (w : World) : Prop :=
  M.eqNil 0 false x0 (fun t10 w =>
  M.gd t10 false (fun k w => k x1 w) (fun t12 w =>
  M.gd t10 false (fun k w => M.bin .lss t12 (Value.int IntKind.i64 1) k w) (fun t13 w =>
  M.pick t10 (Value.bool true) t13 (fun t14 w =>
  M.gd t14 false (fun k w => k x1 w) (fun t16 w =>
  M.gd t14 false (fun k w => M.bin .gtr t16 (Value.int IntKind.i64 64) k w) (fun t17 w =>
  M.pick t14 (Value.bool true) t17 (fun t18 w =>
  M.cond t18
  (R (Value.slice none 0 0) w)
  (M.makeSlice 3 1 8 #[.int .i64 0] x1 x1 (fun t20 w =>
  M.len t20 (fun t22 w =>
  M.loop [(Value.int IntKind.i64 0)] (fun s1 K1 w => ∀ _ : List Value,
  M.bin .lss (s1.getD 0 undef) t22 (fun t24 w =>
  M.cond t24
  (M.share (fun K2 w =>
  M.call Try.prog 27 #[x0] (fun t29 w =>
  M.indexSl 1 t20 (s1.getD 0 undef) (fun t30 w =>
  M.store 1 t30 t29 (fun _ w =>
  M.shift .shr x2 (s1.getD 0 undef) (fun t33 w =>
  M.bin .and t33 (Value.int IntKind.u64 1) (fun t34 w =>
  M.bin .eql t34 (Value.int IntKind.u64 0) (fun t35 w =>
  M.cond t35
  (M.indexSl 1 t20 (s1.getD 0 undef) (fun t40 w =>
  M.load1 t40 (fun t41 w =>
  M.call Try.prog 26 #[t41] (fun t42 w =>
  M.indexSl 1 t20 (s1.getD 0 undef) (fun t43 w =>
  M.store 1 t43 t42 (fun _ w =>
  K2 [] w) w) w) w) w) w)
  (K2 [] w)) w) w) w) w) w) w) (fun s2 w => ∀ _ : List Value,
  M.bin .add (s1.getD 0 undef) (Value.int IntKind.i64 1) (fun t44 w =>
  K1 [t44] w) w) w)
  (R t20 w)) w) w) w) w)) w) w) w) w) w) w) w
theorem ok28 (x0 x1 x2 : Value) (R : Kt) (w : World) (h : sh28 x0 x1 x2 R w) : Ret Try.prog 28 #[x0, x1, x2] w R :=
  ret_mk <| calls_of_comp mixed (c := Try.f28.body.getD .skip) (args := [x0, x1, x2]) (rs := [(ResultVar.tmp 6)]) (Ann.seq Ann.text (Ann.seq (Ann.seq Ann.text (Ann.cond (Ann.seq Ann.text Ann.leaf) Ann.leaf)) (Ann.seq Ann.text (Ann.seq (Ann.seq Ann.text (Ann.block (Ann.loop [23] [8, 24, 25, 26, 27, 28, 29, 30, 31, 32, 33, 34, 35, 36, 37, 38, 39, 40, 41, 42, 43, 44] (Ann.seq Ann.text (Ann.seq (Ann.cond Ann.leaf Ann.leaf) (Ann.seq (Ann.jblock [] [8, 25, 26, 27, 28, 29, 30, 31, 32, 33, 34, 35, 36, 37, 38, 39, 40, 41, 42, 43] (Ann.seq Ann.text (Ann.seq Ann.text (Ann.seq Ann.text (Ann.cond Ann.text Ann.leaf))))) Ann.text)))))) (Ann.seq Ann.text Ann.leaf)))))
    Try.func28 (by kernel_rfl) (by kernel_rfl)
    (Eq.mp (by kernel_rfl) h)
def sh70 (x0 x1 x2 : Value) (R : Kt) (w : World) : Prop :=
  M.buildSlice 23 1 #[.slice none 0 0] 2 [(0, x1), (1, x2)] (fun t13 w =>
  M.call Try.prog 57 #[x0, t13] (fun t14 w =>
  M.not t14 (fun t15 w =>
  M.cond t15
  (R (Value.int IntKind.i64 (-1)) w)
  (M.len x1 (fun t17 w =>
  M.bin .sub t17 (Value.int IntKind.i64 1) (fun t18 w =>
  M.append 3 1 8 #[.int .i64 0] (Value.slice none 0 0) x1 (fun t20 w =>
  M.append 3 1 8 #[.int .i64 0] (Value.slice none 0 0) x2 (fun t22 w =>
  M.draw (fun w =>
  M.indexSl 1 t20 t18 (fun t29 w =>
  M.load1 t29 (fun t30 w =>
  M.indexSl 1 t22 t18 (fun t34 w =>
  M.load1 t34 (fun t35 w =>
  M.call Try.prog 26 #[t30] (fun t31 w =>
  ((M.load1 t34 (fun v' _ => v' = t35) w) ∧ M.call Try.prog 26 #[t35] (fun t36 w =>
  M.indexSl 1 t20 t18 (fun t37 w =>
  M.store 1 t37 t31 (fun _ w =>
  M.indexSl 1 t22 t18 (fun t38 w =>
  M.store 1 t38 t36 (fun _ w =>
  M.call Try.prog 69 #[x0, t20, t22] (fun t42 w =>
  R t42 w) w) w) w) w) w) w)) w) w) w) w) w) w) w) w) w) w)) w) w) w
theorem ok70 (x0 x1 x2 : Value) (R : Kt) (w : World) (h : sh70 x0 x1 x2 R w) : Ret Try.prog 70 #[x0, x1, x2] w R :=
  ret_mk <| calls_of_comp mixed (c := Try.f70.body.getD .skip) (args := [x0, x1, x2]) (rs := [(ResultVar.tmp 6)]) (Ann.seq Ann.text (Ann.seq (Ann.seq Ann.text (Ann.cond (Ann.seq Ann.text Ann.leaf) Ann.leaf)) (Ann.seq Ann.text (Ann.seq Ann.text (Ann.seq (Ann.draw (Sch.take 0 (Sch.take 1 (Sch.take 2 (Sch.take 3 (Sch.take 4 (Sch.take 5 (Sch.take 6 (Sch.take 7 (Sch.take 9 (Sch.take 10 (Sch.take 11 (Sch.take 12 (Sch.one 8 (Sch.one 13 (Sch.take 14 (Sch.one 15 (Sch.take 16 (Sch.one 17 Sch.done))))))))))))))))))) (Ann.seq Ann.text Ann.leaf))))))
    Try.func70 (by kernel_rfl) (by kernel_rfl)
    (Eq.mp (by kernel_rfl) h)
def crow (x n : Nat) : List Int := (List.range n).map (fun j => if x.testBit j then 0 else nt 0)
theorem crow_len (x n : Nat) : (crow x n).length = n := by simp [crow]
theorem crow_succ (x n : Nat) : crow x (n + 1) = crow x n ++ [if x.testBit n then 0 else nt 0] := by simp [crow, List.range_succ]
theorem crow_ft {D : List GK} (h : WfD D) (x n : Nat) : RF D (crow x n) := fun l hl => by
  obtain ⟨j, _, rfl⟩ := List.mem_map.1 hl
  have := h.pos
  show Ft D (if x.testBit j then 0 else nt 0)
  split
  · exact ⟨by decide, by show (0 : Int) < _; omega⟩
  · exact ⟨by decide, by show (1 : Int) < _; omega⟩
theorem crow_val {D : List GK} (h : WfD D) (x n : Nat) (i : Nat → Bool) : rv i D (crow x n) = x % 2 ^ n := by
  unfold rv crow
  rw [List.map_map, ← nvB_of n (x % 2 ^ n) (Nat.mod_lt _ (Nat.two_pow_pos n))]
  congr 1
  refine List.map_congr_left (fun j hj => ?_)
  have hj := List.mem_range.1 hj
  rw [Nat.testBit_mod_two_pow]
  show lv i D (if x.testBit j then 0 else nt 0) = _
  cases x.testBit j with
  | true => simp [lv_zero h, hj]
  | false => simp [lv_nt, lv_zero h]
theorem bit_and (x : W64) (i : Nat) : (x >>> i &&& 1 = 0) ↔ x.toNat.testBit i = false := by
  have e : (x >>> i &&& 1).toNat = (x.toNat >>> i) % 2 := by
    rw [BitVec.toNat_and, BitVec.toNat_ushiftRight]
    exact Nat.and_one_is_mod _
  constructor
  · intro h
    have t2 : x.toNat >>> i % 2 = 0 := e.symm.trans (congrArg BitVec.toNat h)
    rw [Nat.testBit_eq_decide_div_mod_eq, ← Nat.shiftRight_eq_div_pow, t2]
    rfl
  · intro h
    apply BitVec.eq_of_toNat_eq
    rw [e]
    rw [Nat.testBit_eq_decide_div_mod_eq, ← Nat.shiftRight_eq_div_pow] at h
    have h1 := of_decide_eq_false h
    have h2 := Nat.mod_two_eq_zero_or_one (x.toNat >>> i)
    show x.toNat >>> i % 2 = 0
    omega
section
variable {w : World} {G : Nat → Prop} {g : Nat} {D : List GK}
set_option maxHeartbeats 2000000 in
theorem aconst_ret (h : GaO w G g D) {n : Nat} (hn0 : 0 < n) (hn : n ≤ 64) (x : W64) :
    Ret Try.prog 28 #[ptr g, vi n, vw x] w (ROut w G g D 0 n (fun _ => x.toNat % 2 ^ n)) := by
  refine ok28 _ _ _ _ _ ?_
  unfold sh28
  (repeat (first|refine jg ?_|refine jl ?_|refine jp ?_|refine jt ?_|refine jz ?_|refine jD ?_))
  refine M.makeSlice_i rfl rfl (by omega) (by omega) (fun w1 b1 k1 s1 => ?_)
  (repeat (refine ja ?_))
  rw [← pad_nil] at b1
  refine M.loop_i (σ := Nat) (fun i vals w' => vals = [vi i] ∧ i ≤ n ∧ Keep w w' No ∧ Blk w' w.heap.size ((pad n (crow x.toNat i)).map vi)) (fun i => n - i) 0 ⟨rfl, by omega, k1, by simpa [crow] using b1⟩ ?_
  rintro i vals w2 K ⟨rfl, hi, k2, bo⟩ hK _
  simp only [List.getD_cons_zero, List.getD_cons_succ]
  have lo := crow_len x.toNat i
  by_cases hlt : i < n
  · (repeat (first|refine jo ?_|refine jy ?_))
    refine M.share_j (fun vals w' => Keep w w' No ∧ Blk w' w.heap.size ((pad n (crow x.toNat (i + 1))).map vi)) ?_ ?_
    · rintro vals w3 ⟨k3, b3⟩ _
      (repeat (refine jK ?_))
      exact hK (i + 1) _ _ (by omega) ⟨by simp, by omega, k3, b3⟩
    · intro K2 hK2
      have hpl : ((pad n (crow x.toNat i)).map vi).length = n := by rw [List.length_map, pad_len (by omega)]
      refine M.call_i (gtrue_ret (h.keepN k2)) ?_; rintro _ _ ⟨rfl, rfl⟩
      refine M.idx_i (by omega) (by omega) ?_
      refine M.store_i bo (by rw [hpl]; simp; omega) rfl (fun w3 b3 k3 z3 => ?_)
      rw [show 0 + (i : Int).toNat * 1 = i by simp] at b3
      have k03 := k2.trans k3 (fun y hy e => by have e : y = w.heap.size := e; omega)
      refine M.shrWi_i (by omega) ?_
      refine M.andW_i (y := 1) ?_
      refine M.eqlW_i (y := 0) ?_
      rw [Int.toNat_natCast]
      cases hb : x.toNat.testBit i with
      | true =>
        have e : ¬ (x >>> i &&& 1 = 0) := fun hh => by rw [bit_and, hb] at hh; cases hh
        rw [decide_eq_false e]
        (repeat (refine jp ?_))
        refine hK2 _ _ ⟨k03, ?_⟩
        rw [crow_succ, hb]
        have e5 := pad_set (n := n) (l := crow x.toNat i) (x := 0) (by omega)
        rw [lo] at e5
        rw [e5] at b3
        exact b3
      | false =>
        rw [decide_eq_true ((bit_and x i).2 hb)]
        (repeat (refine jo ?_))
        refine M.idx_i (by omega) (by omega) ?_
        rw [show 0 + (i : Int).toNat * 1 = i by simp]
        refine M.loadB_i b3 (v := vi 0) (by rw [List.getElem?_set_self (by rw [hpl]; omega)]) ?_
        refine M.call_i (ntr_ret (l := 0) (by omega) (by omega) _) ?_; rintro _ w4 ⟨rfl, k4⟩
        have b4 := b3.keep k4 (fun h => h)
        refine M.idx_i (by omega) (by omega) ?_
        refine M.store_i b4 (by rw [List.length_set, hpl]; simp; omega) rfl (fun w5 b5 k5 z5 => ?_)
        rw [show 0 + (i : Int).toNat * 1 = i by simp, List.set_set] at b5
        refine hK2 _ _ ⟨(k03.trans k4 (fun _ _ h => h)).trans k5 (fun y hy e => by have e : y = w.heap.size := e; omega), ?_⟩
        rw [crow_succ, hb]
        have e5 := pad_set (n := n) (l := crow x.toNat i) (x := nt 0) (by omega)
        rw [lo] at e5
        rw [e5] at b5
        exact b5
  · have e : i = n := by omega
    subst e
    (repeat (first|refine jp ?_|refine jz ?_))
    rw [pad_full lo] at bo
    have hnew : ¬ G w.heap.size := fun hx => by have := h.lt _ hx; omega
    exact ⟨G, D, _, LV.blk bo ⟨hnew, Nat.le_refl _⟩ lo.symm, (GS.refl h).keepN k2, lo, crow_ft h.wf _ _, fun j => crow_val h.wf _ _ j⟩
def flipT (r : List Int) (n : Nat) : List Int := r.set (n - 1) (nt (r.getD (n - 1) 0))
theorem flipT_val (i : Nat → Bool) (D : List GK) {r : List Int} {n : Nat} (hn : 0 < n) (hr : r.length = n) : rv i D (flipT r n) = (rv i D r + 2 ^ (n - 1)) % 2 ^ n := by
  obtain ⟨k, rfl⟩ : ∃ k, n = k + 1 := ⟨n - 1, by omega⟩
  obtain ⟨lo, t, rfl, hl⟩ : ∃ lo t, r = lo ++ [t] ∧ lo.length = k := by
    have hne : r ≠ [] := fun e => by rw [e] at hr; simp at hr
    exact ⟨r.dropLast, r.getLast hne, (List.dropLast_concat_getLast hne).symm, by rw [List.length_dropLast]; omega⟩
  unfold flipT
  have e1 : (lo ++ [t]).getD k 0 = t := by rw [← hl, List.getD_eq_getElem?_getD]; simp
  have e2 : (lo ++ [t]).set k (nt t) = lo ++ [nt t] := by rw [← hl]; simp
  rw [show k + 1 - 1 = k by omega, e1, e2, rv_app, rv_app, rv_one, rv_one, lv_nt, hl]
  have hlt := rv_lt i D lo
  rw [hl] at hlt
  have hp : 2 ^ (k + 1) = 2 * 2 ^ k := by rw [Nat.pow_succ]; omega
  rw [hp]
  generalize 2 ^ k = p at hlt ⊢
  cases lv i D t
  · simp
    rw [Nat.mod_eq_of_lt (by omega)]
  · simp
    rw [show rv i D lo + p + p = rv i D lo + 2 * p by omega, Nat.add_mod_right, Nat.mod_eq_of_lt (by omega)]
theorem flipT_len (r : List Int) (n : Nat) : (flipT r n).length = r.length := by simp [flipT]
theorem flipT_ft {r : List Int} {n : Nat} (h : RF D r) (hn : 0 < n) (hr : r.length = n) : RF D (flipT r n) := fun l hl => by
  unfold flipT at hl
  rcases List.mem_or_eq_of_mem_set hl with hl | rfl
  · exact h l hl
  · rw [List.getD_eq_getElem?_getD, List.getElem?_eq_getElem (by omega)]
    exact (h _ (List.getElem_mem _)).nt
set_option maxHeartbeats 2000000 in
theorem sless_ret {va vb : Value} {a b : List Int} {n : Nat} (h : GaO w G g D) (hD : D.length ≤ 90000000) (hn0 : 0 < n) (hn : n ≤ 1000) (ha : RowO w G va a) (hb : RowO w G vb b) (la : a.length = n) (lb : b.length = n) (fa : RF D a) (fb : RF D b) :
    Ret Try.prog 70 #[ptr g, va, vb] w (fun r w' => ∃ G' D' l, r = vi l ∧ GS w G g D w' G' D' (2 * n) ∧ Ft D' l ∧ ∀ i, lv i D' l = decide ((rv i D a + 2 ^ (n - 1)) % 2 ^ n < (rv i D b + 2 ^ (n - 1)) % 2 ^ n)) := by
  obtain ⟨A, ca, rfl, hra, hca⟩ := id ha
  obtain ⟨B, cb, rfl, hrb, hcb⟩ := id hb
  have hpos := h.wf.pos
  refine ok70 _ _ _ _ _ ?_
  unfold sh70
  refine M.buildSlice_i [.slice A a.length ca, .slice B b.length cb] (by kernel_rfl) (fun w1 b1 k1 s1 => ?_)
  have s := (GS.refl h).keepN k1
  refine M.call_i (fine_ret (g := g) hn0 hn (LL.two b1 (s.row ha) (s.row hb)) (by simp) (by simp; exact ⟨⟨la, fa.nn⟩, lb, fb.nn⟩)) ?_; rintro _ w2 ⟨rfl, k2⟩
  have s := s.keepN k2
  have k02 := k1.trans k2 (fun _ _ h => h)
  (repeat (first|refine ja ?_|refine jm ?_|refine jp ?_|refine jL ?_))
  have hra2 := hra.keep k02 (fun _ _ _ h => h)
  refine M.appendI_i (L := fun _ => False) rfl (GI.nil _ _) hra2 rfl (by simp; omega) (fun v3 w3 g3 k3 => ?_)
  have k3 := k3.mono (T := No) (fun _ _ h => h)
  have k03 := k02.trans k3 (fun _ _ h => h)
  have hrb3 := hrb.keep k03 (fun _ _ _ h => h)
  refine M.appendI_i (L := fun _ => False) rfl (GI.nil _ _) hrb3 rfl (by simp; omega) (fun v4 w4 g4 k4 => ?_)
  have k4 := k4.mono (T := No) (fun _ _ h => h)
  have kd := Keep.drew w4 No
  have k4d := k4.trans kd (fun _ _ h => h)
  have k0d := k03.trans k4d (fun _ _ h => h)
  have q2 := k02.size
  have q3 := k3.size
  rw [List.nil_append] at g3 g4
  have g3 := (g3.mono (L' := fun x => w2.heap.size ≤ x ∧ x < w3.heap.size) (fun x hx hh => ⟨hh.resolve_left (fun h => h), hx⟩)).keep k4d (fun _ _ _ h => h)
  have g4 := (g4.mono (L' := fun x => w3.heap.size ≤ x) (fun x hx hh => hh.resolve_left (fun h => h))).keep kd (fun _ _ _ h => h)
  obtain ⟨x, hx⟩ : ∃ x, a[n - 1]? = some x := ⟨_, List.getElem?_eq_getElem (by omega)⟩
  obtain ⟨y, hy⟩ : ∃ y, b[n - 1]? = some y := ⟨_, List.getElem?_eq_getElem (by omega)⟩
  have fx := fa x (List.mem_of_getElem? hx)
  have fy := fb y (List.mem_of_getElem? hy)
  have e1 : ((a.length : Int) - 1).toNat = n - 1 := by omega
  obtain ⟨A3, c3, rfl, hr3, hc3⟩ := GI.lv g3
  obtain ⟨A4, c4, rfl, hr4, hc4⟩ := GI.lv g4
  (repeat (refine jd ?_))
  refine M.idxLV_i hr3 rfl (by omega) (by omega) (x := x) (by rw [e1]; exact hx) (fun bb oo hA hcc => ?_)
  (repeat (refine jM (by assumption) ?_))
  refine M.idxLV_i hr4 rfl (by omega) (by omega) (x := y) (by rw [e1]; exact hy) (fun bb2 oo2 hA2 hcc2 => ?_)
  (repeat (refine jM (by assumption) ?_))
  refine M.call_i (ntr_ret fx.1 (by have := fx.2; omega) _) ?_; rintro _ w5 ⟨rfl, k5⟩
  refine ⟨M.load_i (k5.cell (fun h => h) hcc2) rfl, ?_⟩
  refine M.call_i (ntr_ret fy.1 (by have := fy.2; omega) _) ?_; rintro _ w6 ⟨rfl, k6⟩
  have k56 := k5.trans k6 (fun _ _ h => h)
  have g3 := g3.keep k56 (fun _ _ _ h => h)
  have g4 := g4.keep k56 (fun _ _ _ h => h)
  refine M.idxStore_i g3 (by omega) (by omega) (fun w7 g3 k7 s7 => ?_)
  have g4 := g4.keep k7 (fun z _ hz hh => by have := hh.2; omega)
  refine M.idxStore_i g4 (by omega) (by omega) (fun w8 g4 k8 s8 => ?_)
  have g3 := g3.keep k8 (fun z _ hz hh => by have hh : w3.heap.size ≤ z := hh; have := hz.2; omega)
  have sz := h.lt
  have s := GS.refl h
  have kk : Keep w w8 (fun z => w2.heap.size ≤ z) := (((k0d.trans k56 (fun _ _ h => h)).mono (fun _ _ h => h.elim)).trans k7 (fun z _ hz => hz.1)).trans k8 (fun z _ hz => by have hz : w3.heap.size ≤ z := hz; show w2.heap.size ≤ z; omega)
  have s := s.keepO kk (fun z hz => ⟨by have hz : w2.heap.size ≤ z := hz; omega, fun hG => by have := sz z hG; have hz : w2.heap.size ≤ z := hz; omega⟩)
  have ea : a.set ((a.length : Int) - 1).toNat (nt x) = flipT a n := by
    unfold flipT
    rw [e1, List.getD_eq_getElem?_getD, hx]; rfl
  have eb : b.set ((a.length : Int) - 1).toNat (nt y) = flipT b n := by
    unfold flipT
    rw [e1, List.getD_eq_getElem?_getD, hy]; rfl
  rw [ea] at g3
  rw [eb] at g4
  have r3 : RowO w8 G (.slice A3 a.length c3) (flipT a n) := (GI.lv g3).mono (fun z _ hz hG => by have := sz z hG; have := hz.1; omega)
  have r4 : RowO w8 G (.slice A4 b.length c4) (flipT b n) := (GI.lv g4).mono (fun z _ hz hG => by have := sz z hG; have hz : w3.heap.size ≤ z := hz; omega)
  refine M.call_i (less_ret s.ga hD hn0 hn r3 r4 (by rw [flipT_len]; exact la) (by rw [flipT_len]; exact lb) (flipT_ft fa hn0 la) (flipT_ft fb hn0 lb)) ?_; rintro _ w9 ⟨G', D', l, rfl, z1, z2, z3⟩
  refine ⟨G', D', l, rfl, (s.trans z1).mono (by omega), z2, fun i => ?_⟩
  rw [z3 i, flipT_val i D hn0 la, flipT_val i D hn0 lb]
end
end Go.Proofs.Ytnbcglnefoinlaa
