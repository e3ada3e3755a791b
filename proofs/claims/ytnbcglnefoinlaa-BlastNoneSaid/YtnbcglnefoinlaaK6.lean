import Derived.Test.YtnbcglnefoinlaaK5
namespace Go.Proofs.Ytnbcglnefoinlaa
open Go.Mw Go.Maps Go.MapKept
set_option linter.unusedVariables false
set_option linter.unusedSimpArgs false
set_option maxRecDepth 100000
attribute [local irreducible] M.val M.unit M.next M.pick M.new M.nilCheck M.load1 M.loadA M.store M.fieldAddr M.indexSl M.indexArr M.slice M.makeSlice M.buildSlice M.len M.lenS M.cap M.append M.extract M.conv M.not M.neg M.bin M.shift M.eqB M.eqNil M.scat M.call M.callv M.gd M.share M.cond M.loop M.draw pureW readW Ret
def sh35 (x0 x1 x2 x3 : Value) (R : Kt) (w : World) : Prop :=
  M.bin .eql x1 (Value.int IntKind.i64 1) (fun t15 w =>
  M.cond t15
  (M.nilCheck x0 (fun t17 w =>
  M.fieldAddr 1 t17 (fun t18 w =>
  M.load1 t18 (fun t19 w =>
  M.call Try.prog 61 #[t19, x2, x3] (fun t22 w =>
  R t22 w) w) w) w) w)
  (M.bin .eql x1 (Value.int IntKind.i64 2) (fun t24 w =>
  M.cond t24
  (M.nilCheck x0 (fun t26 w =>
  M.fieldAddr 1 t26 (fun t27 w =>
  M.load1 t27 (fun t28 w =>
  M.call Try.prog 60 #[t28, x2, x3] (fun t31 w =>
  R t31 w) w) w) w) w)
  (M.bin .eql x1 (Value.int IntKind.i64 3) (fun t33 w =>
  M.cond t33
  (M.nilCheck x0 (fun t35 w =>
  M.fieldAddr 1 t35 (fun t36 w =>
  M.load1 t36 (fun t37 w =>
  M.call Try.prog 62 #[t37, x2, x3] (fun t40 w =>
  R t40 w) w) w) w) w)
  (M.bin .eql x1 (Value.int IntKind.i64 4) (fun t42 w =>
  M.cond t42
  (M.nilCheck x0 (fun t45 w =>
  M.fieldAddr 1 t45 (fun t46 w =>
  M.load1 t46 (fun t47 w =>
  M.call Try.prog 63 #[t47, x2, x3] (fun t50 w =>
  M.extract 0 t50 (fun t51 w =>
  M.extract 1 t50 (fun t52 w =>
  R t51 w) w) w) w) w) w) w)
  (M.bin .eql x1 (Value.int IntKind.i64 5) (fun t55 w =>
  M.cond t55
  (M.nilCheck x0 (fun t58 w =>
  M.fieldAddr 1 t58 (fun t59 w =>
  M.load1 t59 (fun t60 w =>
  M.call Try.prog 63 #[t60, x2, x3] (fun t63 w =>
  M.extract 0 t63 (fun t64 w =>
  M.extract 1 t63 (fun t65 w =>
  R t65 w) w) w) w) w) w) w)
  (M.bin .eql x1 (Value.int IntKind.i64 6) (fun t68 w =>
  M.cond t68
  (M.nilCheck x0 (fun t72 w =>
  M.fieldAddr 1 t72 (fun t73 w =>
  M.load1 t73 (fun t74 w =>
  M.call Try.prog 64 #[x2, x3, (.func (Fn.func 65) #[t74] #[])] (fun t76 w =>
  R t76 w) w) w) w) w)
  (M.bin .eql x1 (Value.int IntKind.i64 7) (fun t78 w =>
  M.cond t78
  (M.nilCheck x0 (fun t82 w =>
  M.fieldAddr 1 t82 (fun t83 w =>
  M.load1 t83 (fun t84 w =>
  M.call Try.prog 64 #[x2, x3, (.func (Fn.func 66) #[t84] #[])] (fun t86 w =>
  R t86 w) w) w) w) w)
  (M.bin .eql x1 (Value.int IntKind.i64 8) (fun t88 w =>
  M.cond t88
  (M.nilCheck x0 (fun t92 w =>
  M.fieldAddr 1 t92 (fun t93 w =>
  M.load1 t93 (fun t94 w =>
  M.call Try.prog 64 #[x2, x3, (.func (Fn.func 67) #[t94] #[])] (fun t96 w =>
  R t96 w) w) w) w) w)
  (M.bin .eql x1 (Value.int IntKind.i64 12) (fun t98 w =>
  M.cond t98
  (M.nilCheck x0 (fun t100 w =>
  M.fieldAddr 1 t100 (fun t101 w =>
  M.load1 t101 (fun t102 w =>
  M.call Try.prog 68 #[t102, x2, x3] (fun t105 w =>
  M.buildSlice 3 1 #[.int .i64 0] 1 [(0, t105)] (fun t106 w =>
  R t106 w) w) w) w) w) w)
  (M.bin .eql x1 (Value.int IntKind.i64 13) (fun t108 w =>
  M.cond t108
  (M.nilCheck x0 (fun t110 w =>
  M.fieldAddr 1 t110 (fun t111 w =>
  M.load1 t111 (fun t112 w =>
  M.call Try.prog 69 #[t112, x2, x3] (fun t115 w =>
  M.buildSlice 3 1 #[.int .i64 0] 1 [(0, t115)] (fun t116 w =>
  R t116 w) w) w) w) w) w)
  (M.bin .eql x1 (Value.int IntKind.i64 14) (fun t118 w =>
  M.cond t118
  (M.nilCheck x0 (fun t120 w =>
  M.fieldAddr 1 t120 (fun t121 w =>
  M.load1 t121 (fun t122 w =>
  M.call Try.prog 70 #[t122, x2, x3] (fun t125 w =>
  M.buildSlice 3 1 #[.int .i64 0] 1 [(0, t125)] (fun t126 w =>
  R t126 w) w) w) w) w) w)
  (M.nilCheck x0 (fun t128 w =>
  M.fieldAddr 1 t128 (fun t129 w =>
  M.load1 t129 (fun t130 w =>
  M.call Try.prog 71 #[t130, x1, x2, x3] (fun t134 w =>
  R t134 w) w) w) w) w)) w)) w)) w)) w)) w)) w)) w)) w)) w)) w)) w
theorem ok35 (x0 x1 x2 x3 : Value) (R : Kt) (w : World) (h : sh35 x0 x1 x2 x3 R w) : Ret Try.prog 35 #[x0, x1, x2, x3] w R :=
  ret_mk <| calls_of_comp mixed (c := Try.f35.body.getD .skip) (args := [x0, x1, x2, x3]) (rs := [(ResultVar.tmp 8)]) (Ann.seq Ann.text (Ann.seq (Ann.seq Ann.text (Ann.block (Ann.seq Ann.text (Ann.cond (Ann.seq Ann.text Ann.leaf) (Ann.seq Ann.text (Ann.cond (Ann.seq Ann.text Ann.leaf) (Ann.seq Ann.text (Ann.cond (Ann.seq Ann.text Ann.leaf) (Ann.seq Ann.text (Ann.cond (Ann.seq Ann.text (Ann.seq Ann.text Ann.leaf)) (Ann.seq Ann.text (Ann.cond (Ann.seq Ann.text (Ann.seq Ann.text Ann.leaf)) (Ann.seq Ann.text (Ann.cond (Ann.seq Ann.text Ann.leaf) (Ann.seq Ann.text (Ann.cond (Ann.seq Ann.text Ann.leaf) (Ann.seq Ann.text (Ann.cond (Ann.seq Ann.text Ann.leaf) (Ann.seq Ann.text (Ann.cond (Ann.seq Ann.text Ann.leaf) (Ann.seq Ann.text (Ann.cond (Ann.seq Ann.text Ann.leaf) (Ann.seq Ann.text (Ann.cond (Ann.seq Ann.text Ann.leaf) Ann.leaf)))))))))))))))))))))))) (Ann.seq Ann.text Ann.leaf)))
    Try.func35 (by kernel_rfl) (by kernel_rfl)
    (Eq.mp (by kernel_rfl) h)
abbrev blL (p g r1 r2 bl : Nat) : List Value := [ptr p, ptr g, .map (some r1), .map (some r2), .func (.func 15) #[ptr bl] #[]]
def BOut (w : World) (G : Nat → Prop) (g : Nat) (D : List GK) (n : Nat) (P : (Nat → Bool) → Nat → Prop) (r : Value) (w' : World) : Prop :=
  ∃ G' D' row, RowF w w' G' r row ∧ GS w G g D w' G' D' 40000 ∧ row.length = n ∧ RF D' row ∧ ∀ i, P i (rv i D' row)
section
variable {w : World} {G : Nat → Prop} {g : Nat} {D : List GK}
theorem bit_row {w1 : World} {G1 : Nat → Prop} {D1 : List GK} {l : Int} {m : Nat} {kt : Kt} {f : (Nat → Bool) → Bool} {P : (Nat → Bool) → Nat → Prop} (s : GS w G g D w1 G1 D1 m) (hm : m ≤ 40000) (fl : Ft D1 l) (hv : ∀ i, lv i D1 l = f i) (hP : ∀ i, P i (f i).toNat) (hk : ∀ r w', BOut w G g D 1 P r w' → kt r w') :
    M.buildSlice 3 1 #[.int .i64 0] 1 [(0, vi l)] (fun t w => kt t w) w1 := by
  refine M.buildSlice_i [vi l] (by kernel_rfl) (fun w2 b2 k2 s2 => ?_)
  have hlt := s.ga.lt
  refine hk _ _ ⟨G1, D1, [l], LV.blk b2 ⟨fun hx => by have := hlt _ hx; omega, s.keep.size⟩ rfl, (s.keepN k2).mono hm, rfl, fun y hy => by rw [List.mem_singleton.1 hy]; exact fl, fun i => ?_⟩
  rw [rv_one, hv]
  exact hP i
set_option maxHeartbeats 4000000 in
theorem bbinary_ret {p r1 r2 bl : Nat} {op : Int} {va vb : Value} {a b : List Int} {n : Nat} (hop : 1 ≤ op ∧ op ≤ 14) (hb0 : Blk w bl (blL p g r1 r2 bl)) (h : GaO w G g D) (hD : D.length ≤ 80000000) (hn0 : 0 < n) (hn : n ≤ 64) (ha : RowO w G va a) (hb : RowO w G vb b) (la : a.length = n) (lb : b.length = n) (fa : RF D a) (fb : RF D b) :
    Ret Try.prog 35 #[ptr bl, vi op, va, vb] w (BOut w G g D (if 12 ≤ op then 1 else n) (fun i z => ∀ x y : W64, x.toNat = rv i D a → y.toNat = rv i D b → z = (binW op n x y).toNat)) := by
  have hxa : ∀ i (x : W64), x.toNat = rv i D a → x.toNat < 2 ^ n := fun i x hx => by rw [hx, ← la]; exact rv_lt i D a
  have hyb : ∀ i (y : W64), y.toNat = rv i D b → y.toNat < 2 ^ n := fun i y hy => by rw [hy, ← lb]; exact rv_lt i D b
  obtain ⟨A, ca, rfl, _, _⟩ := id ha
  obtain ⟨B, cb, rfl, _, _⟩ := id hb
  refine ok35 _ _ _ _ _ _ ?_
  unfold sh35
  by_cases o1 : op = 1
  · rw [if_neg (by omega)]
    subst o1
    (repeat (first|refine jb ?_|refine jc ?_|refine jo ?_|refine jG ?_|refine jN (by assumption) rfl ?_))
    refine M.call_i (add_ret h (by omega) hn0 (by omega) ha hb la lb fa fb) ?_; rintro _ w1 ⟨G', D', row, q1, q2, q3, q4, q5⟩
    exact ⟨G', D', row, q1, q2.mono (by omega), q3, q4, fun i x y hx hy => by rw [q5 i, w_add hn0 hn (hxa i x hx) (hyb i y hy), hx, hy]⟩
  by_cases o2 : op = 2
  · rw [if_neg (by omega)]
    subst o2
    (repeat (first|refine jb ?_|refine jc ?_|refine jo ?_|refine jp ?_|refine jG ?_|refine jH ?_|refine jN (by assumption) rfl ?_))
    refine M.call_i (sub_ret h (by omega) hn0 (by omega) ha hb la lb fa fb) ?_; rintro _ w1 ⟨G', D', row, q1, q2, q3, q4, q5⟩
    exact ⟨G', D', row, q1, q2.mono (by omega), q3, q4, fun i x y hx hy => by rw [q5 i, w_sub hn0 hn (hxa i x hx) (hyb i y hy), hx, hy]⟩
  by_cases o3 : op = 3
  · rw [if_neg (by omega)]
    subst o3
    (repeat (first|refine jb ?_|refine jc ?_|refine jo ?_|refine jp ?_|refine jG ?_|refine jH ?_|refine jN (by assumption) rfl ?_))
    refine M.call_i (mul_ret h (by omega) hn0 (by omega) ha hb la lb fa fb) ?_; rintro _ w1 ⟨G', D', row, q1, q2, q3, q4, q5⟩
    exact ⟨G', D', row, q1, q2.mono (by omega), q3, q4, fun i x y hx hy => by rw [q5 i, w_mul hn0 hn (hxa i x hx) (hyb i y hy), hx, hy]⟩
  by_cases o4 : op = 4
  · rw [if_neg (by omega)]
    subst o4
    (repeat (first|refine jb ?_|refine jc ?_|refine jo ?_|refine jp ?_|refine jG ?_|refine jH ?_|refine jN (by assumption) rfl ?_))
    refine M.call_i (divide_ret h (by omega) hn0 (by omega) ha hb la lb fa fb) ?_; rintro _ w1 ⟨G', D', q, e, vq, ve, rfl, q1, q2, q3, q4, q5, q6, q7, q8, q9⟩
    refine M.extract_i (v := vq) rfl ?_
    refine M.extract_i (v := ve) rfl ?_
    exact ⟨G', D', q, q1, q3, q4, q6, fun i x y hx hy => by rw [q8 i, w_div hn0 hn (hxa i x hx) (hyb i y hy), hx, hy]⟩
  by_cases o5 : op = 5
  · rw [if_neg (by omega)]
    subst o5
    (repeat (first|refine jb ?_|refine jc ?_|refine jo ?_|refine jp ?_|refine jG ?_|refine jH ?_|refine jN (by assumption) rfl ?_))
    refine M.call_i (divide_ret h (by omega) hn0 (by omega) ha hb la lb fa fb) ?_; rintro _ w1 ⟨G', D', q, e, vq, ve, rfl, q1, q2, q3, q4, q5, q6, q7, q8, q9⟩
    refine M.extract_i (v := vq) rfl ?_
    refine M.extract_i (v := ve) rfl ?_
    exact ⟨G', D', e, q2, q3, q5, q7, fun i x y hx hy => by rw [q9 i, w_rem hn0 hn (hxa i x hx) (hyb i y hy), hx, hy]⟩
  by_cases o6 : op = 6
  · rw [if_neg (by omega)]
    subst o6
    (repeat (first|refine jb ?_|refine jc ?_|refine jo ?_|refine jp ?_|refine jG ?_|refine jH ?_|refine jN (by assumption) rfl ?_))
    refine M.call_i (each_ret h (by omega) (ofAnd g) (by omega) ha hb la lb fa fb) ?_; rintro _ w1 ⟨G', D', row, q1, q2, q3, q4, q5⟩
    refine ⟨G', D', row, q1, q2.mono (by omega), q3, q4, fun i x y hx hy => ?_⟩
    rw [w_and hn0 hn (hxa i x hx) (hyb i y hy), hx, hy]
    show nvB (row.map (lv i D')) = _
    rw [q5 i]
    exact nvB_zip rfl (fun x y i => Nat.testBit_and x y i) (by simp [la, lb])
  by_cases o7 : op = 7
  · rw [if_neg (by omega)]
    subst o7
    (repeat (first|refine jb ?_|refine jc ?_|refine jo ?_|refine jp ?_|refine jG ?_|refine jH ?_|refine jN (by assumption) rfl ?_))
    refine M.call_i (each_ret h (by omega) (ofOr g) (by omega) ha hb la lb fa fb) ?_; rintro _ w1 ⟨G', D', row, q1, q2, q3, q4, q5⟩
    refine ⟨G', D', row, q1, q2.mono (by omega), q3, q4, fun i x y hx hy => ?_⟩
    rw [w_or hn0 hn (hxa i x hx) (hyb i y hy), hx, hy]
    show nvB (row.map (lv i D')) = _
    rw [q5 i]
    exact nvB_zip rfl (fun x y i => Nat.testBit_or x y i) (by simp [la, lb])
  by_cases o8 : op = 8
  · rw [if_neg (by omega)]
    subst o8
    (repeat (first|refine jb ?_|refine jc ?_|refine jo ?_|refine jp ?_|refine jG ?_|refine jH ?_|refine jN (by assumption) rfl ?_))
    refine M.call_i (each_ret h (by omega) (ofXor g) (by omega) ha hb la lb fa fb) ?_; rintro _ w1 ⟨G', D', row, q1, q2, q3, q4, q5⟩
    refine ⟨G', D', row, q1, q2.mono (by omega), q3, q4, fun i x y hx hy => ?_⟩
    rw [w_xor hn0 hn (hxa i x hx) (hyb i y hy), hx, hy]
    show nvB (row.map (lv i D')) = _
    rw [q5 i]
    exact nvB_zip rfl (fun x y i => (Nat.testBit_xor x y i).trans (by cases x.testBit i <;> cases y.testBit i <;> rfl)) (by simp [la, lb])
  by_cases o12 : op = 12
  · rw [if_pos (by omega)]
    subst o12
    (repeat (first|refine jb ?_|refine jc ?_|refine jo ?_|refine jp ?_|refine jG ?_|refine jH ?_|refine jN (by assumption) rfl ?_))
    refine M.call_i (equal_ret h (by omega) hn0 (by omega) ha hb la lb fa fb) ?_; rintro _ w1 ⟨G', D', l, rfl, q1, q2, q3⟩
    exact bit_row q1 (by omega) q2 q3 (fun i x y hx hy => by rw [w_eq hn0 hn (hxa i x hx) (hyb i y hy), hx, hy]) (fun r w' hr => hr)
  by_cases o13 : op = 13
  · rw [if_pos (by omega)]
    subst o13
    (repeat (first|refine jb ?_|refine jc ?_|refine jo ?_|refine jp ?_|refine jG ?_|refine jH ?_|refine jN (by assumption) rfl ?_))
    refine M.call_i (less_ret h (by omega) hn0 (by omega) ha hb la lb fa fb) ?_; rintro _ w1 ⟨G', D', l, rfl, q1, q2, q3⟩
    exact bit_row q1 (by omega) q2 q3 (fun i x y hx hy => by rw [w_ult hn0 hn (hxa i x hx) (hyb i y hy), hx, hy]) (fun r w' hr => hr)
  by_cases o14 : op = 14
  · rw [if_pos (by omega)]
    subst o14
    (repeat (first|refine jb ?_|refine jc ?_|refine jo ?_|refine jp ?_|refine jG ?_|refine jH ?_|refine jN (by assumption) rfl ?_))
    refine M.call_i (sless_ret h (by omega) hn0 (by omega) ha hb la lb fa fb) ?_; rintro _ w1 ⟨G', D', l, rfl, q1, q2, q3⟩
    exact bit_row q1 (by omega) q2 q3 (fun i x y hx hy => by rw [w_slt hn0 hn (hxa i x hx) (hyb i y hy), hx, hy]) (fun r w' hr => hr)
  rw [if_neg (by omega)]
  have hop3 : op = 9 ∨ op = 10 ∨ op = 11 := by omega
  (repeat (first|refine jb ?_|refine jc ?_|refine jp ?_|refine jH ?_|refine jN (by assumption) rfl ?_))
  refine M.call_i (move_ret hop3 h (by omega) hn0 hn ha hb la lb fa fb) ?_; rintro _ w1 ⟨G', D', row, q1, q2, q3, q4, q5⟩
  refine ⟨G', D', row, q1, q2.mono (by omega), q3, q4, fun i x y hx hy => ?_⟩
  have e := w_shift (V := a.map (lv i D)) hop3 hn0 hn (by simp [la]) hx.symm (hyb i y hy)
  show nvB (row.map (lv i D')) = _
  rw [q5 i, ← hy, ← e]
  congr 2
  unfold fillF
  by_cases h11 : op = 11
  · rw [if_pos h11, if_pos h11, List.getD_eq_getElem?_getD, List.getD_eq_getElem?_getD, List.getElem?_map, List.getElem?_eq_getElem (by omega)]; rfl
  · rw [if_neg h11, if_neg h11]
end
end Go.Proofs.Ytnbcglnefoinlaa
namespace Go.Proofs.Ytnbcglnefoinlaa
open Go.Mw Go.Maps Go.MapKept
set_option linter.unusedVariables false
set_option linter.unusedSimpArgs false
set_option maxRecDepth 100000
attribute [local irreducible] M.val M.unit M.next M.pick M.new M.nilCheck M.load1 M.loadA M.store M.fieldAddr M.indexSl M.indexArr M.slice M.makeSlice M.buildSlice M.len M.lenS M.cap M.append M.extract M.conv M.not M.neg M.bin M.shift M.eqB M.eqNil M.scat M.call M.callv M.gd M.share M.cond M.loop M.draw pureW readW Ret
abbrev RowZ (w : World) (G Z : Nat → Prop) (v : Value) (r : List Int) : Prop := LV vi w (fun x => ¬ G x ∧ Z x) v r
theorem RowZ.o {w : World} {G Z : Nat → Prop} {v : Value} {r : List Int} (h : RowZ w G Z v r) : RowO w G v r := h.mono (fun _ _ h => h.1)
def MRel (w : World) (G Z : Nat → Prop) (kv : List (Int × Value)) (R : Int → Option (List Int)) : Prop :=
  ∀ x, (R x = none → lkp kv x = none) ∧ ∀ row, R x = some row → row ≠ [] ∧ ∃ v, lkp kv x = some v ∧ RowZ w G Z v row
structure BS (Z : Nat → Prop) (w : World) (F : Nat → Prop) (p : Nat) (N : List Nd) (most : Int) (G : Nat → Prop) (g : Nat) (D : List GK) (bl r1 r2 : Nat) (R I : Int → Option (List Int)) : Prop where
  dag : DagO w F p N most
  ga : GaO w G g D
  blk : Blk w bl (blL p g r1 r2 bl)
  m1 : ∃ kv, MapO w r1 kv ∧ MRel w G Z kv R
  m2 : ∃ kv, MapO w r2 kv ∧ MRel w G Z kv I
  sF : ∀ x, F x → ¬ G x ∧ x ≠ r1 ∧ x ≠ r2
  sG : ¬ G bl ∧ ¬ G r1 ∧ ¬ G r2
  ne : r1 ≠ r2 ∧ bl ≠ r1 ∧ bl ≠ r2
  zn : ∀ x, w.heap.size ≤ x → Z x
theorem RowO.some {w : World} {E : Nat → Prop} {v : Value} {row : List Int} (h : LV vi w E v row) (hne : row ≠ []) : ∃ b o c, v = .slice (some ⟨b, o, none⟩) row.length c := by
  obtain ⟨A, c, rfl, hr, _⟩ := h
  rcases hr with hr | ⟨b, o, _, _, _, rfl, _⟩
  · simp at hr; exact absurd hr hne
  · exact ⟨b, o, c, rfl⟩
theorem RowO.off {w : World} {E : Nat → Prop} {v : Value} {row : List Int} {r : Nat} {kv : List (Int × Value)} (h : LV vi w E v row) (hm : MapO w r kv) : LV vi w (fun x => E x ∧ x ≠ r) v row := by
  obtain ⟨A, c, rfl, hr, hc⟩ := h
  refine ⟨A, c, rfl, ?_, hc⟩
  rcases hr with hr | ⟨b, o, cs, T, fz, h1, h2, h3, h4⟩
  · exact .inl hr
  · refine .inr ⟨b, o, cs, T, fz, h1, ⟨h2, fun e => ?_⟩, h3, h4⟩
    obtain ⟨es, cl, h5, _⟩ := hm
    rw [e, h5] at h3
    cases h3
section
variable {Z : Nat → Prop} {w : World} {F : Nat → Prop} {p : Nat} {N : List Nd} {most : Int} {G : Nat → Prop} {g : Nat} {D : List GK} {bl r1 r2 : Nat} {R I : Int → Option (List Int)}
theorem row_step {w' : World} {G' : Nat → Prop} {v : Value} {row : List Int} (k : Keep w w' G) (sub : ∀ x, x < w.heap.size → G' x → G x) (h : RowZ w G Z v row) : RowZ w' G' Z v row :=
  ((h.mono (D' := fun x => (¬ G x ∧ Z x) ∧ x < w.heap.size) (fun x hx hf => ⟨hf, hx⟩)).keep k (fun x _ hx => hx.1.1)).mono (fun x _ hx => ⟨fun hG => hx.1.1 (sub x hx.2 hG), hx.1.2⟩)
theorem MRel.keepN {w' : World} {kv : List (Int × Value)} (h : MRel w G Z kv R) (k : Keep w w' No) : MRel w' G Z kv R := fun x =>
  ⟨(h x).1, fun row hr => by
    obtain ⟨c1, v, c2, c3⟩ := (h x).2 row hr
    exact ⟨c1, v, c2, c3.keep k (fun _ _ _ h => h)⟩⟩
theorem MRel.step {w' : World} {G' : Nat → Prop} {kv : List (Int × Value)} (h : MRel w G Z kv R) (k : Keep w w' G) (sub : ∀ x, x < w.heap.size → G' x → G x) : MRel w' G' Z kv R := fun x =>
  ⟨(h x).1, fun row hr => by
    obtain ⟨c1, v, c2, c3⟩ := (h x).2 row hr
    exact ⟨c1, v, c2, row_step k sub c3⟩⟩
theorem BS.keepN {w' : World} (h : BS Z w F p N most G g D bl r1 r2 R I) (k : Keep w w' No) : BS Z w' F p N most G g D bl r1 r2 R I := by
  obtain ⟨kv1, a1, a2⟩ := h.m1
  obtain ⟨kv2, b1, b2⟩ := h.m2
  exact ⟨h.dag.keepN k, h.ga.keepN k, h.blk.keep k (fun h => h), ⟨kv1, a1.keep k (fun h => h), a2.keepN k⟩, ⟨kv2, b1.keep k (fun h => h), b2.keepN k⟩, h.sF, h.sG, h.ne, fun x hx => h.zn x (Nat.le_trans k.size hx)⟩
theorem BS.step {w' : World} {G' : Nat → Prop} {D' : List GK} (h : BS Z w F p N most G g D bl r1 r2 R I) (ga : GaO w' G' g D') (k : Keep w w' G) (sub : ∀ x, x < w.heap.size → G' x → G x) : BS Z w' F p N most G' g D' bl r1 r2 R I := by
  obtain ⟨kv1, a1, a2⟩ := h.m1
  obtain ⟨kv2, b1, b2⟩ := h.m2
  obtain ⟨s1, s2, s3⟩ := h.sG
  exact ⟨h.dag.keep k (fun x hx => (h.sF x hx).1), ga, h.blk.keep k s1, ⟨kv1, a1.keep k s2, a2.step k sub⟩, ⟨kv2, b1.keep k s3, b2.step k sub⟩, fun x hx => ⟨fun hG => (h.sF x hx).1 (sub x (h.dag.lt hx) hG), (h.sF x hx).2⟩, ⟨fun hG => s1 (sub _ h.blk.lt hG), fun hG => s2 (sub _ a1.lt hG), fun hG => s3 (sub _ b1.lt hG)⟩, h.ne, fun x hx => h.zn x (Nat.le_trans k.size hx)⟩
def updR (R : Int → Option (List Int)) (x : Int) (row : List Int) : Int → Option (List Int) := fun y => if y = x then some row else R y
theorem MRel.upd {w' : World} {kv : List (Int × Value)} {x : Int} {v : Value} {row : List Int} {r : Nat} (h : MRel w G Z kv R) (hm : MapO w r kv) (k : Keep w w' (· = r)) (hne : row ≠ []) (hv : RowZ w G Z v row) : MRel w' G Z (upd kv x v) (updR R x row) := by
  intro y
  unfold updR
  rw [lkp_upd]
  by_cases e : y = x
  · rw [if_pos e, if_pos e]
    refine ⟨fun h => (by cases h), fun r' hr => ?_⟩
    obtain rfl := Option.some.inj hr
    exact ⟨hne, v, rfl, ((RowO.off hv hm).keep k (fun z _ hz e => hz.2 e)).mono (fun z _ hz => hz.1)⟩
  · rw [if_neg e, if_neg e]
    refine ⟨(h y).1, fun r' hr => ?_⟩
    obtain ⟨c1, u, c2, c3⟩ := (h y).2 r' hr
    exact ⟨c1, u, c2, ((RowO.off c3 hm).keep k (fun z _ hz e => hz.2 e)).mono (fun z _ hz => hz.1)⟩
theorem MRel.other {w' : World} {kv kv' : List (Int × Value)} {r : Nat} (h : MRel w G Z kv R) (hm : MapO w r kv') (k : Keep w w' (· = r)) : MRel w' G Z kv R := fun y =>
  ⟨(h y).1, fun r' hr => by
    obtain ⟨c1, u, c2, c3⟩ := (h y).2 r' hr
    exact ⟨c1, u, c2, ((RowO.off c3 hm).keep k (fun z _ hz e => hz.2 e)).mono (fun z _ hz => hz.1)⟩⟩
theorem BS.put1 {w' : World} {kv : List (Int × Value)} {x : Int} {v : Value} {row : List Int} (h : BS Z w F p N most G g D bl r1 r2 R I) (hm : MapO w r1 kv) (hr : MRel w G Z kv R) (hm' : MapO w' r1 (upd kv x v)) (k : Keep w w' (· = r1)) (hne : row ≠ []) (hv : RowZ w G Z v row) : BS Z w' F p N most G g D bl r1 r2 (updR R x row) I := by
  obtain ⟨kv2, b1, b2⟩ := h.m2
  obtain ⟨s1, s2, s3⟩ := h.sG
  exact ⟨h.dag.keep k (fun y hy e => (h.sF y hy).2.1 e), h.ga.keep k (fun y hy e => s2 (e ▸ hy)), h.blk.keep k h.ne.2.1, ⟨_, hm', hr.upd hm k hne hv⟩, ⟨kv2, b1.keep k (fun e => h.ne.1 e.symm), b2.other hm k⟩, h.sF, h.sG, h.ne, fun x hx => h.zn x (Nat.le_trans k.size hx)⟩
theorem BS.put2 {w' : World} {kv : List (Int × Value)} {x : Int} {v : Value} {row : List Int} (h : BS Z w F p N most G g D bl r1 r2 R I) (hm : MapO w r2 kv) (hr : MRel w G Z kv I) (hm' : MapO w' r2 (upd kv x v)) (k : Keep w w' (· = r2)) (hne : row ≠ []) (hv : RowZ w G Z v row) : BS Z w' F p N most G g D bl r1 r2 R (updR I x row) := by
  obtain ⟨kv1, b1, b2⟩ := h.m1
  obtain ⟨s1, s2, s3⟩ := h.sG
  exact ⟨h.dag.keep k (fun y hy e => (h.sF y hy).2.2 e), h.ga.keep k (fun y hy e => s3 (e ▸ hy)), h.blk.keep k h.ne.2.2, ⟨kv1, b1.keep k (fun e => h.ne.1 e), b2.other hm k⟩, ⟨_, hm', hr.upd hm k hne hv⟩, h.sF, h.sG, h.ne, fun x hx => h.zn x (Nat.le_trans k.size hx)⟩
end
def inW (env : List W64) (i : Int) (n : Nat) : W64 := if i < (env.length : Int) then cutW n (env.getD i.toNat 0) else 0
def Cmp (ι : Nat → Bool) (D : List GK) (I : Int → Option (List Int)) (env : List W64) : Prop := ∀ i row, I i = some row → rv ι D row = (inW env i row.length).toNat
structure PF (N : List Nd) (D : List GK) (R I : Int → Option (List Int)) : Prop where
  rows : ∀ id row, R id = some row → isN N id = true ∧ (row.length : Int) = wdN N id ∧ RF D row ∧ ∀ ι env, Cmp ι D I env → rv ι D row = (wordAt N env id).toNat
  clo : ∀ (i : Nat) n, R i ≠ none → N[i]? = some n → ∀ k ∈ kidsN n, R k ≠ none
  ins : ∀ i row, I i = some row → RF D row ∧ 0 ≤ i ∧ (∃ n ∈ N, n.op = 21 ∧ n.a = i ∧ n.wd = (row.length : Int)) ∧ ∀ l ∈ row, ∃ m : Nat, l = 2 * (m : Int) ∧ D[m]? = some .inp
  all : ∀ m : Nat, D[m]? = some .inp → ∃ i row, I i = some row ∧ (2 * (m : Int)) ∈ row
  nd : ∀ i row, I i = some row → row.Nodup
  dj : ∀ i j ri rj, I i = some ri → I j = some rj → i ≠ j → ∀ l ∈ ri, l ∉ rj
theorem Cmp.back {ι : Nat → Bool} {D E : List GK} {I : Int → Option (List Int)} {env : List W64} (hI : ∀ i row, I i = some row → RF D row) (h : Cmp ι (D ++ E) I env) : Cmp ι D I env := fun i row hr => by
  rw [← h i row hr, rv_ext E (hI i row hr)]
theorem PF.ext {N : List Nd} {D E : List GK} {R I : Int → Option (List Int)} (h : PF N D R I) (hE : NI E) : PF N (D ++ E) R I := by
  refine ⟨fun id row hr => ?_, h.clo, fun i row hr => ?_, fun m hm => ?_, h.nd, h.dj⟩
  · obtain ⟨h1, h2, h3, h4⟩ := h.rows id row hr
    refine ⟨h1, h2, h3.ext E, fun ι env hc => ?_⟩
    rw [rv_ext E h3]
    exact h4 ι env (hc.back (fun i r hi => (h.ins i r hi).1))
  · obtain ⟨h1, h2, h3, h4⟩ := h.ins i row hr
    refine ⟨h1.ext E, h2, h3, fun l hl => ?_⟩
    obtain ⟨m, e, hm⟩ := h4 l hl
    exact ⟨m, e, by rw [List.getElem?_append_left (List.getElem?_eq_some_iff.1 hm).1]; exact hm⟩
  · by_cases hlt : m < D.length
    · rw [List.getElem?_append_left hlt] at hm
      exact h.all m hm
    · rw [List.getElem?_append_right (by omega)] at hm
      exact absurd rfl (hE _ (List.mem_of_getElem? hm))
def inpRow (n w : Nat) : List Int := (List.range w).map (fun k => 2 * ((n + k : Nat) : Int))
theorem inpRow_len (n w : Nat) : (inpRow n w).length = w := by simp [inpRow]
theorem inpRow_mem {n w : Nat} {l : Int} : l ∈ inpRow n w ↔ ∃ k, k < w ∧ l = 2 * ((n + k : Nat) : Int) := by
  unfold inpRow
  rw [List.mem_map]
  constructor
  · rintro ⟨k, hk, rfl⟩; exact ⟨k, List.mem_range.1 hk, rfl⟩
  · rintro ⟨k, hk, rfl⟩; exact ⟨k, List.mem_range.2 hk, rfl⟩
theorem PF.var {N : List Nd} {D : List GK} {R I : Int → Option (List Int)} (h : PF N D R I) {i : Int} {n : Nd} {w : Nat} (hI : I i = none) (hn : n ∈ N) (h21 : n.op = 21) (ha : n.a = i) (hw : n.wd = (w : Int)) (hi : 0 ≤ i) : PF N (D ++ List.replicate w .inp) R (updR I i (inpRow D.length w)) := by
  have old : ∀ j row, updR I i (inpRow D.length w) j = some row → (j = i ∧ row = inpRow D.length w) ∨ (j ≠ i ∧ I j = some row) := fun j row hj => by
    unfold updR at hj
    by_cases e : j = i
    · rw [if_pos e] at hj; exact .inl ⟨e, (Option.some.inj hj).symm⟩
    · rw [if_neg e] at hj; exact .inr ⟨e, hj⟩
  have new : ∀ k, k < w → (D ++ List.replicate w GK.inp)[D.length + k]? = some .inp := fun k hk => by
    rw [List.getElem?_append_right (by omega), List.getElem?_replicate, if_pos (by omega)]
  refine ⟨fun id row hr => ?_, h.clo, fun j row hj => ?_, fun m hm => ?_, fun j row hj => ?_, fun j k rj rk hj hk hjk l hl => ?_⟩
  · obtain ⟨h1, h2, h3, h4⟩ := h.rows id row hr
    refine ⟨h1, h2, h3.ext _, fun ι env hc => ?_⟩
    rw [rv_ext _ h3]
    refine h4 ι env (fun j r hj => ?_)
    have hji : j ≠ i := fun e => by rw [e, hI] at hj; cases hj
    have := hc j r (by unfold updR; rw [if_neg hji]; exact hj)
    rw [← this, rv_ext _ (h.ins j r hj).1]
  · rcases old j row hj with ⟨rfl, rfl⟩ | ⟨_, hj⟩
    · refine ⟨fun l hl => ?_, hi, ⟨n, hn, h21, ha, by rw [inpRow_len]; exact hw⟩, fun l hl => ?_⟩
      · obtain ⟨k, hk, rfl⟩ := inpRow_mem.1 hl
        exact ⟨by omega, by rw [List.length_append, List.length_replicate]; omega⟩
      · obtain ⟨k, hk, rfl⟩ := inpRow_mem.1 hl
        exact ⟨_, rfl, new k hk⟩
    · obtain ⟨h1, h2, h3, h4⟩ := h.ins j row hj
      refine ⟨h1.ext _, h2, h3, fun l hl => ?_⟩
      obtain ⟨m, e, hm⟩ := h4 l hl
      exact ⟨m, e, by rw [List.getElem?_append_left (List.getElem?_eq_some_iff.1 hm).1]; exact hm⟩
  · by_cases hlt : m < D.length
    · rw [List.getElem?_append_left hlt] at hm
      obtain ⟨j, row, hj, hmr⟩ := h.all m hm
      have hji : j ≠ i := fun e => by rw [e, hI] at hj; cases hj
      exact ⟨j, row, by unfold updR; rw [if_neg hji]; exact hj, hmr⟩
    · have hlt2 := (List.getElem?_eq_some_iff.1 hm).1
      rw [List.length_append, List.length_replicate] at hlt2
      exact ⟨i, _, by unfold updR; rw [if_pos rfl], inpRow_mem.2 ⟨m - D.length, by omega, by omega⟩⟩
  · rcases old j row hj with ⟨rfl, rfl⟩ | ⟨_, hj⟩
    · unfold inpRow
      exact List.Pairwise.map _ (fun a b (hab : a ≠ b) e => hab (by omega)) List.nodup_range
    · exact h.nd j row hj
  · intro hlk
    have lim : ∀ a r, I a = some r → ∀ z ∈ r, z < 2 * (D.length : Int) := fun a r hr z hz => ((h.ins a r hr).1 z hz).2
    rcases old j rj hj with ⟨e1, e2⟩ | ⟨_, hj1⟩
    · rcases old k rk hk with ⟨e, _⟩ | ⟨_, hk1⟩
      · exact hjk (e1.trans e.symm)
      · rw [e2] at hl
        obtain ⟨q, hq, rfl⟩ := inpRow_mem.1 hl
        have := lim k rk hk1 _ hlk; omega
    · rcases old k rk hk with ⟨e1, e2⟩ | ⟨_, hk1⟩
      · rw [e2] at hlk
        obtain ⟨q, hq, rfl⟩ := inpRow_mem.1 hlk
        have := lim j rj hj1 _ hl; omega
      · exact h.dj j k rj rk hj1 hk1 hjk l hl hlk
end Go.Proofs.Ytnbcglnefoinlaa
namespace Go.Proofs.Ytnbcglnefoinlaa
open Go.Mw Go.Maps Go.MapKept
set_option linter.unusedVariables false
set_option linter.unusedSimpArgs false
set_option maxRecDepth 100000
attribute [local irreducible] M.val M.unit M.next M.pick M.new M.nilCheck M.load1 M.loadA M.store M.fieldAddr M.indexSl M.indexArr M.slice M.makeSlice M.buildSlice M.len M.lenS M.cap M.append M.extract M.conv M.not M.neg M.bin M.shift M.eqB M.eqNil M.scat M.call M.callv M.gd M.share M.cond M.loop M.draw pureW readW Ret
def sh29 (x0 x1 x2 : Value) (R : Kt) (w : World) : Prop :=
  M.share (fun K1 w =>
  M.nilCheck x0 (fun t10 w =>
  M.fieldAddr 3 t10 (fun t11 w =>
  M.load1 t11 (fun t12 w =>
  readW Try.prog (Instr.lookup 40 t12 x1 false) (fun t14 w =>
  M.eqNil 1 false t14 (fun t15 w =>
  M.cond t15
  (M.makeSlice 3 1 8 #[.int .i64 0] x2 x2 (fun t17 w =>
  M.len t17 (fun t19 w =>
  M.loop [(Value.int IntKind.i64 0)] (fun s2 K2 w => ∀ _ : List Value,
  M.bin .lss (s2.getD 0 undef) t19 (fun t21 w =>
  M.cond t21
  (M.nilCheck x0 (fun t26 w =>
  M.fieldAddr 1 t26 (fun t27 w =>
  M.load1 t27 (fun t28 w =>
  M.call Try.prog 56 #[t28] (fun t29 w =>
  M.indexSl 1 t17 (s2.getD 0 undef) (fun t30 w =>
  M.store 1 t30 t29 (fun _ w =>
  M.bin .add (s2.getD 0 undef) (Value.int IntKind.i64 1) (fun t31 w =>
  K2 [t31] w) w) w) w) w) w) w) w)
  (M.nilCheck x0 (fun t33 w =>
  M.fieldAddr 3 t33 (fun t34 w =>
  M.load1 t34 (fun t35 w =>
  M.unit Try.prog (Instr.mapUpdate 40 t35 x1 t17) (fun _ w =>
  K1 [] w) w) w) w) w)) w) w) w) w)
  (K1 [] w)) w) w) w) w) w) (fun s1 w => ∀ _ : List Value,
  M.nilCheck x0 (fun t39 w =>
  M.fieldAddr 3 t39 (fun t40 w =>
  M.load1 t40 (fun t41 w =>
  readW Try.prog (Instr.lookup 40 t41 x1 false) (fun t43 w =>
  R t43 w) w) w) w) w) w
theorem ok29 (x0 x1 x2 : Value) (R : Kt) (w : World) (h : sh29 x0 x1 x2 R w) : Ret Try.prog 29 #[x0, x1, x2] w R :=
  ret_mk <| calls_of_comp mixed (c := Try.f29.body.getD .skip) (args := [x0, x1, x2]) (rs := [(ResultVar.tmp 6)]) (Ann.seq Ann.text (Ann.join [] [7, 8, 9, 10, 11, 12, 13, 14, 15, 16, 17, 18, 19, 20, 21, 22, 23, 24, 25, 26, 27, 28, 29, 30, 31, 32, 33, 34, 35, 36, 37] (Ann.seq Ann.text (Ann.cond (Ann.seq Ann.text (Ann.seq (Ann.seq Ann.text (Ann.block (Ann.loop [20] [8, 21, 22, 23, 24, 25, 26, 27, 28, 29, 30, 31] (Ann.seq Ann.text (Ann.seq (Ann.cond Ann.leaf Ann.leaf) (Ann.seq (Ann.block (Ann.seq Ann.text Ann.text)) Ann.text)))))) Ann.text)) Ann.leaf)) (Ann.seq Ann.text Ann.leaf)))
    Try.func29 (by kernel_rfl) (by kernel_rfl)
    (Eq.mp (by kernel_rfl) h)
theorem DagO.varw {w : World} {F : Nat → Prop} {p : Nat} {N : List Nd} {most : Int} (h : DagO w F p N most) {n m : Nd} (hn : n ∈ N) (hm : m ∈ N) (h1 : n.op = 21) (h2 : m.op = 21) (ha : n.a = m.a) : n.wd = m.wd := by
  obtain ⟨kw, _, ⟨h3, _⟩, _⟩ := h
  have e1 := h3 n hn h1
  have e2 := h3 m hm h2
  rw [ha, e2] at e1
  simp only [Option.some.injEq, Value.int.injEq, true_and] at e1
  exact e1.symm
section
variable {Z : Nat → Prop} {w : World} {F : Nat → Prop} {p : Nat} {N : List Nd} {most : Int} {G : Nat → Prop} {g : Nat} {D : List GK} {bl r1 r2 : Nat} {R I : Int → Option (List Int)}
theorem ginput_ret (h : GaO w G g D) (hn : D.length ≤ 1000000000) : Ret Try.prog 56 #[ptr g] w (fun r w' => r = vi (2 * (D.length : Int)) ∧ GaO w' G g (D ++ [.inp]) ∧ Keep w w' G) := by
  obtain ⟨kv, hga, hat, hwf⟩ := h
  refine ok56 _ _ _ ?_
  unfold sh56
  (repeat (first|refine jp ?_|refine jt ?_))
  refine M.call_i (fresh_ret hga hn) ?_; rintro _ w1 ⟨rfl, hg1, k1⟩
  refine ⟨rfl, ⟨kv, ?_, fun q v hv => ?_, hwf.snoc hwf.pos⟩, k1⟩
  · rw [List.length_append, clsD_snoc]
    simpa [GK.cls] using hg1
  · obtain ⟨n, k, h1, h2, h3⟩ := hat q v hv
    exact ⟨n, k, by rw [List.getElem?_append_left (List.getElem?_eq_some_iff.1 h1).1]; exact h1, h2, h3⟩
theorem MRel.get {kv : List (Int × Value)} (h : MRel w G Z kv R) {x : Int} {row : List Int} (hr : R x = some row) : ∃ b o c, (lkp kv x).getD (.slice none 0 0) = .slice (some ⟨b, o, none⟩) row.length c ∧ RowZ w G Z (.slice (some ⟨b, o, none⟩) row.length c) row := by
  obtain ⟨c1, v, c2, c3⟩ := (h x).2 row hr
  obtain ⟨b, o, c, rfl⟩ := RowO.some c3 c1
  exact ⟨b, o, c, by rw [c2]; rfl, c3⟩
theorem MRel.no {kv : List (Int × Value)} (h : MRel w G Z kv R) {x : Int} (hr : R x = none) : (lkp kv x).getD (.slice none 0 0) = .slice none 0 0 := by
  rw [(h x).1 hr]; rfl
theorem hmap : Try.prog.underlying 40 = some (.map 3 23) := by kernel_rfl
theorem hint : Try.prog.underlying 3 = some (.int .i64) := by kernel_rfl
theorem inpRow_succ (n k : Nat) : inpRow n (k + 1) = inpRow n k ++ [2 * ((n + k : Nat) : Int)] := by simp [inpRow, List.range_succ]
set_option maxHeartbeats 4000000 in
theorem variable_ret {i : Int} {n : Nd} {wd : Nat} (h : BS Z w F p N most G g D bl r1 r2 R I) (hp : PF N D R I) (hD : D.length ≤ 90000000) (hn : n ∈ N) (h21 : n.op = 21) (ha : n.a = i) (hw : n.wd = (wd : Int)) (hi : 0 ≤ i) (hwd : 1 ≤ wd ∧ wd ≤ 64) :
    Ret Try.prog 29 #[ptr bl, vi i, vi wd] w (fun r w' => ∃ D' I' row, RowZ w' G Z r row ∧ BS Z w' F p N most G g D' bl r1 r2 R I' ∧ PF N D' R I' ∧ Keep w w' (fun x => G x ∨ x = r2) ∧ D'.length ≤ D.length + 64 ∧ I' i = some row ∧ row.length = wd ∧ (∀ j r, I j = some r → I' j = some r) ∧ ∀ j, I' j ≠ none → I j ≠ none ∨ j = i) := by
  obtain ⟨kv, hm, hr⟩ := h.m2
  have hblk := h.blk
  refine ok29 _ _ _ _ _ ?_
  unfold sh29
  refine M.share_n ?_
  refine M.nilCheck_i ?_
  refine M.field_i ?_
  refine M.loadB_i hblk rfl ?_
  refine M.lookup_i hmap hint (fun w => Try.zeroValue23 w) hm ?_
  cases hI : I i with
  | some row =>
    obtain ⟨b, o, c, e1, hrow⟩ := hr.get hI
    rw [e1]
    refine M.eqNilS_fs ?_
    refine M.cond_f ?_
    intro _
    refine M.nilCheck_i ?_
    refine M.field_i ?_
    refine M.loadB_i hblk rfl ?_
    refine M.lookup_i hmap hint (fun w => Try.zeroValue23 w) hm ?_
    rw [e1]
    obtain ⟨_, _, ⟨m, hmN, m21, ma, mw⟩, _⟩ := hp.ins i row hI
    have hwd2 := h.dag.varw hn hmN h21 m21 (ha.trans ma.symm)
    exact ⟨D, I, row, hrow, h, hp, Keep.refl _ _, by omega, hI, by omega, fun _ _ h => h, fun _ h => .inl h⟩
  | none =>
    rw [hr.no hI]
    refine M.eqNilS_fn ?_
    refine M.cond_t ?_
    refine M.makeSlice_i rfl rfl (by omega) (by omega) (fun w1 b1 k1 s1 => ?_)
    have h1 := h.keepN k1
    have hlt := h.ga.lt
    have hnG : ¬ G w.heap.size := fun hx => by have := hlt _ hx; omega
    (repeat (refine ja ?_))
    rw [← pad_nil] at b1
    refine M.loop_i (σ := Nat) (fun k vals w' => vals = [vi k] ∧ k ≤ wd ∧ GaO w' G g (D ++ List.replicate k .inp) ∧ Keep w w' G ∧ Blk w' w.heap.size ((pad wd (inpRow D.length k)).map vi)) (fun k => wd - k) 0 ⟨rfl, by omega, by simpa using h1.ga, k1.mono (fun _ _ h => h.elim), by simpa [inpRow] using b1⟩ ?_
    rintro k vals w2 K ⟨rfl, hk, ga2, k2, bo⟩ hK _
    simp only [List.getD_cons_zero, List.getD_cons_succ]
    have lo := inpRow_len D.length k
    have hb2 := hblk.keep k2 h.sG.1
    by_cases hlt2 : k < wd
    · refine M.lss_t (by omega) ?_
      refine M.cond_t ?_
      refine M.nilCheck_i ?_
      refine M.field_i ?_
      refine M.loadB_i hb2 rfl ?_
      refine M.call_i (ginput_ret ga2 (by simp; omega)) ?_; rintro _ w3 ⟨rfl, ga3, k3⟩
      have bo := bo.keep k3 hnG
      refine M.idx_i (by omega) (by omega) ?_
      refine M.store_i bo (by rw [List.length_map, pad_len (by omega)]; simp; omega) rfl (fun w4 bo k4 z4 => ?_)
      have e5 := pad_set (n := wd) (l := inpRow D.length k) (x := 2 * ((D ++ List.replicate k GK.inp).length : Int)) (by omega)
      rw [lo] at e5
      rw [show 0 + (k : Int).toNat * 1 = k by simp, e5] at bo
      (repeat (refine jK ?_))
      refine hK (k + 1) _ _ (by omega) ⟨by simp, by omega, ?_, (k2.trans k3 (fun _ _ h => h)).trans k4 (fun x hx e => by have e : x = w.heap.size := e; omega), ?_⟩
      · rw [List.replicate_succ', ← List.append_assoc]
        exact ga3.keep k4 (fun x hx e => hnG (e ▸ hx))
      · rw [inpRow_succ]
        simpa using bo
    · obtain rfl : k = wd := by omega
      refine M.lss_f (by omega) ?_
      refine M.cond_f ?_
      rw [pad_full lo] at bo
      have h2 := h.step ga2 k2 (fun _ _ h => h)
      have hm2 := hm.keep k2 h.sG.2.2
      have hr2 := hr.step (G' := G) k2 (fun _ _ h => h)
      have hrow : RowZ w2 G Z (.slice (some ⟨w.heap.size, 0, none⟩) k k) (inpRow D.length k) := LV.blk bo ⟨hnG, h.zn _ (Nat.le_refl _)⟩ lo.symm
      refine M.nilCheck_i ?_
      refine M.field_i ?_
      refine M.loadB_i hb2 rfl ?_
      refine M.mapUpdate_i hmap hint hm2 (fun w3 m3 k3 s3 => ?_)
      have hne : inpRow D.length k ≠ [] := fun e => by rw [e] at lo; simp at lo; omega
      have h3 := h2.put2 hm2 hr2 m3 k3 hne hrow
      have hp3 := hp.var hI hn h21 ha hw hi
      intro _
      refine M.nilCheck_i ?_
      refine M.field_i ?_
      refine M.loadB_i h3.blk rfl ?_
      refine M.lookup_i hmap hint (fun w => Try.zeroValue23 w) m3 ?_
      rw [lkp_upd, if_pos rfl]
      refine ⟨_, _, inpRow D.length k, ?_, h3, hp3, (k2.mono (fun _ _ h => .inl h)).trans k3 (fun x hx e => .inr e), by simp; omega, by unfold updR; rw [if_pos rfl], lo, fun j r hj => ?_, fun j hj => ?_⟩
      · exact ((RowO.off hrow hm2).keep k3 (fun z _ hz e => hz.2 e)).mono (fun z _ hz => hz.1)
      · unfold updR
        rw [if_neg (fun e => by rw [e, hI] at hj; cases hj)]
        exact hj
      · by_cases e : j = i
        · exact .inr e
        · unfold updR at hj
          rw [if_neg e] at hj
          exact .inl hj
end
end Go.Proofs.Ytnbcglnefoinlaa
namespace Go.Proofs.Ytnbcglnefoinlaa
open Go.Mw Go.Maps Go.MapKept
set_option linter.unusedVariables false
set_option linter.unusedSimpArgs false
set_option maxRecDepth 100000
attribute [local irreducible] M.val M.unit M.next M.pick M.new M.nilCheck M.load1 M.loadA M.store M.fieldAddr M.indexSl M.indexArr M.slice M.makeSlice M.buildSlice M.len M.lenS M.cap M.append M.extract M.conv M.not M.neg M.bin M.shift M.eqB M.eqNil M.scat M.call M.callv M.gd M.share M.cond M.loop M.draw pureW readW Ret
def sh15 (x0 x1 : Value) (R : Kt) (w : World) : Prop :=
  M.new 38 (Value.cells x1) (fun t3 w =>
  M.nilCheck x0 (fun t8 w =>
  M.fieldAddr 1 t8 (fun t9 w =>
  M.load1 t9 (fun t10 w =>
  M.call Try.prog 27 #[t10] (fun t11 w =>
  M.call Try.prog 26 #[t11] (fun t12 w =>
  M.fieldAddr 0 t3 (fun t13 w =>
  M.load1 t13 (fun t14 w =>
  M.bin .eql t14 (Value.int IntKind.i64 20) (fun t16 w =>
  M.cond t16
  (M.draw (fun w =>
  M.nilCheck x0 (fun t18 w =>
  M.fieldAddr 1 t18 (fun t19 w =>
  M.load1 t19 (fun t20 w =>
  M.fieldAddr 1 t3 (fun t21 w =>
  M.load1 t21 (fun t22 w =>
  M.fieldAddr 5 t3 (fun t23 w =>
  M.load1 t23 (fun t24 w =>
  M.call Try.prog 28 #[t20, t22, t24] (fun t25 w =>
  R t25 w) w) w) w) w) w) w) w) w) w)
  (M.bin .eql t14 (Value.int IntKind.i64 21) (fun t27 w =>
  M.cond t27
  (M.fieldAddr 2 t3 (fun t29 w =>
  M.load1 t29 (fun t30 w =>
  M.fieldAddr 1 t3 (fun t31 w =>
  M.load1 t31 (fun t32 w =>
  M.call Try.prog 29 #[x0, t30, t32] (fun t33 w =>
  R t33 w) w) w) w) w) w)
  (M.bin .eql t14 (Value.int IntKind.i64 22) (fun t35 w =>
  M.cond t35
  (M.draw (fun w =>
  M.nilCheck x0 (fun t37 w =>
  M.fieldAddr 1 t37 (fun t38 w =>
  M.load1 t38 (fun t39 w =>
  M.nilCheck x0 (fun t41 w =>
  M.fieldAddr 2 t41 (fun t42 w =>
  M.load1 t42 (fun t43 w =>
  M.fieldAddr 2 t3 (fun t44 w =>
  M.load1 t44 (fun t45 w =>
  readW Try.prog (Instr.lookup 40 t43 t45 false) (fun t46 w =>
  M.indexSl 1 t46 (Value.int IntKind.i64 0) (fun t47 w =>
  M.load1 t47 (fun t48 w =>
  M.nilCheck x0 (fun t50 w =>
  M.fieldAddr 2 t50 (fun t51 w =>
  M.load1 t51 (fun t52 w =>
  M.fieldAddr 3 t3 (fun t53 w =>
  M.load1 t53 (fun t54 w =>
  readW Try.prog (Instr.lookup 40 t52 t54 false) (fun t55 w =>
  M.nilCheck x0 (fun t57 w =>
  M.fieldAddr 2 t57 (fun t58 w =>
  M.load1 t58 (fun t59 w =>
  M.fieldAddr 4 t3 (fun t60 w =>
  M.load1 t60 (fun t61 w =>
  readW Try.prog (Instr.lookup 40 t59 t61 false) (fun t62 w =>
  M.call Try.prog 30 #[t39, t48, t55, t62] (fun t63 w =>
  ((M.load1 t60 (fun v' _ => v' = t61) w) ∧ ((M.load1 t58 (fun v' _ => v' = t59) w) ∧ ((M.load1 t53 (fun v' _ => v' = t54) w) ∧ ((M.load1 t51 (fun v' _ => v' = t52) w) ∧ ((readW Try.prog (Instr.lookup 40 t43 t45 false) (fun v' _ => v' = t46) w) ∧ ((M.load1 t44 (fun v' _ => v' = t45) w) ∧ ((M.load1 t42 (fun v' _ => v' = t43) w) ∧ R t63 w)))))))) w) w) w) w) w) w) w) w) w) w) w) w) w) w) w) w) w) w) w) w) w) w) w) w) w)
  (M.bin .eql t14 (Value.int IntKind.i64 23) (fun t65 w =>
  M.cond t65
  (M.draw (fun w =>
  M.nilCheck x0 (fun t67 w =>
  M.fieldAddr 2 t67 (fun t68 w =>
  M.load1 t68 (fun t69 w =>
  M.fieldAddr 2 t3 (fun t70 w =>
  M.load1 t70 (fun t71 w =>
  readW Try.prog (Instr.lookup 40 t69 t71 false) (fun t72 w =>
  M.fieldAddr 3 t3 (fun t73 w =>
  M.load1 t73 (fun t74 w =>
  M.fieldAddr 3 t3 (fun t75 w =>
  M.load1 t75 (fun t76 w =>
  M.fieldAddr 1 t3 (fun t77 w =>
  M.load1 t77 (fun t78 w =>
  M.bin .add t76 t78 (fun t79 w =>
  M.slice 1 t72 (some t74) (some t79) none (fun t80 w =>
  M.call Try.prog 13 #[t80] (fun t81 w =>
  ((M.load1 t77 (fun v' _ => v' = t78) w) ∧ ((M.load1 t75 (fun v' _ => v' = t76) w) ∧ ((M.load1 t73 (fun v' _ => v' = t74) w) ∧ ((readW Try.prog (Instr.lookup 40 t69 t71 false) (fun v' _ => v' = t72) w) ∧ ((M.load1 t70 (fun v' _ => v' = t71) w) ∧ ((M.load1 t68 (fun v' _ => v' = t69) w) ∧ R t81 w))))))) w) w) w) w) w) w) w) w) w) w) w) w) w) w) w) w)
  (M.bin .eql t14 (Value.int IntKind.i64 24) (fun t83 w =>
  M.cond t83
  (M.draw (fun w =>
  M.nilCheck x0 (fun t85 w =>
  M.fieldAddr 2 t85 (fun t86 w =>
  M.load1 t86 (fun t87 w =>
  M.fieldAddr 3 t3 (fun t88 w =>
  M.load1 t88 (fun t89 w =>
  readW Try.prog (Instr.lookup 40 t87 t89 false) (fun t90 w =>
  M.nilCheck x0 (fun t92 w =>
  M.fieldAddr 2 t92 (fun t93 w =>
  M.load1 t93 (fun t94 w =>
  M.fieldAddr 2 t3 (fun t95 w =>
  M.load1 t95 (fun t96 w =>
  readW Try.prog (Instr.lookup 40 t94 t96 false) (fun t97 w =>
  M.buildSlice 23 1 #[.slice none 0 0] 2 [(0, t90), (1, t97)] (fun t98 w =>
  ((M.load1 t95 (fun v' _ => v' = t96) w) ∧ ((M.load1 t93 (fun v' _ => v' = t94) w) ∧ ((M.load1 t88 (fun v' _ => v' = t89) w) ∧ ((M.load1 t86 (fun v' _ => v' = t87) w) ∧ M.call Try.prog 31 #[t98] (fun t99 w =>
  ((M.load1 t95 (fun v' _ => v' = t96) w) ∧ ((M.load1 t93 (fun v' _ => v' = t94) w) ∧ ((M.load1 t88 (fun v' _ => v' = t89) w) ∧ ((M.load1 t86 (fun v' _ => v' = t87) w) ∧ R t99 w))))) w))))) w) w) w) w) w) w) w) w) w) w) w) w) w) w)
  (M.bin .eql t14 (Value.int IntKind.i64 25) (fun t101 w =>
  M.cond t101
  (M.draw (fun w =>
  M.nilCheck x0 (fun t103 w =>
  M.fieldAddr 2 t103 (fun t104 w =>
  M.load1 t104 (fun t105 w =>
  M.fieldAddr 2 t3 (fun t106 w =>
  M.load1 t106 (fun t107 w =>
  readW Try.prog (Instr.lookup 40 t105 t107 false) (fun t108 w =>
  M.fieldAddr 1 t3 (fun t109 w =>
  M.load1 t109 (fun t110 w =>
  M.call Try.prog 32 #[t108, t110, t12] (fun t112 w =>
  ((M.load1 t106 (fun v' _ => v' = t107) w) ∧ ((M.load1 t104 (fun v' _ => v' = t105) w) ∧ R t112 w))) w) w) w) w) w) w) w) w) w) w)
  (M.bin .eql t14 (Value.int IntKind.i64 26) (fun t114 w =>
  M.cond t114
  (M.draw (fun w =>
  M.nilCheck x0 (fun t116 w =>
  M.fieldAddr 2 t116 (fun t117 w =>
  M.load1 t117 (fun t118 w =>
  M.fieldAddr 2 t3 (fun t119 w =>
  M.load1 t119 (fun t120 w =>
  readW Try.prog (Instr.lookup 40 t118 t120 false) (fun t121 w =>
  M.draw (fun w =>
  M.fieldAddr 1 t3 (fun t123 w =>
  M.load1 t123 (fun t124 w =>
  M.len t121 (fun t127 w =>
  M.bin .sub t127 (Value.int IntKind.i64 1) (fun t128 w =>
  M.indexSl 1 t121 t128 (fun t129 w =>
  M.load1 t129 (fun t130 w =>
  M.call Try.prog 32 #[t121, t124, t130] (fun t131 w =>
  R t131 w) w) w) w) w) w) w) w) w) w) w) w) w) w) w) w)
  (M.bin .eql t14 (Value.int IntKind.i64 15) (fun t133 w =>
  M.cond t133
  (M.draw (fun w =>
  M.nilCheck x0 (fun t135 w =>
  M.fieldAddr 2 t135 (fun t136 w =>
  M.load1 t136 (fun t137 w =>
  M.fieldAddr 2 t3 (fun t138 w =>
  M.load1 t138 (fun t139 w =>
  readW Try.prog (Instr.lookup 40 t137 t139 false) (fun t140 w =>
  M.call Try.prog 33 #[t140] (fun t141 w =>
  ((M.load1 t138 (fun v' _ => v' = t139) w) ∧ ((M.load1 t136 (fun v' _ => v' = t137) w) ∧ R t141 w))) w) w) w) w) w) w) w) w)
  (M.bin .eql t14 (Value.int IntKind.i64 16) (fun t143 w =>
  M.cond t143
  (M.draw (fun w =>
  M.nilCheck x0 (fun t145 w =>
  M.fieldAddr 1 t145 (fun t146 w =>
  M.load1 t146 (fun t147 w =>
  M.nilCheck x0 (fun t149 w =>
  M.fieldAddr 2 t149 (fun t150 w =>
  M.load1 t150 (fun t151 w =>
  M.fieldAddr 2 t3 (fun t152 w =>
  M.load1 t152 (fun t153 w =>
  readW Try.prog (Instr.lookup 40 t151 t153 false) (fun t154 w =>
  M.call Try.prog 34 #[t147, t154] (fun t155 w =>
  ((M.load1 t152 (fun v' _ => v' = t153) w) ∧ ((M.load1 t150 (fun v' _ => v' = t151) w) ∧ R t155 w))) w) w) w) w) w) w) w) w) w) w) w)
  (M.draw (fun w =>
  M.fieldAddr 0 t3 (fun t157 w =>
  M.load1 t157 (fun t158 w =>
  M.nilCheck x0 (fun t160 w =>
  M.fieldAddr 2 t160 (fun t161 w =>
  M.load1 t161 (fun t162 w =>
  M.fieldAddr 2 t3 (fun t163 w =>
  M.load1 t163 (fun t164 w =>
  readW Try.prog (Instr.lookup 40 t162 t164 false) (fun t165 w =>
  M.nilCheck x0 (fun t167 w =>
  M.fieldAddr 2 t167 (fun t168 w =>
  M.load1 t168 (fun t169 w =>
  M.fieldAddr 3 t3 (fun t170 w =>
  M.load1 t170 (fun t171 w =>
  readW Try.prog (Instr.lookup 40 t169 t171 false) (fun t172 w =>
  M.call Try.prog 35 #[x0, t158, t165, t172] (fun t173 w =>
  ((M.load1 t170 (fun v' _ => v' = t171) w) ∧ ((M.load1 t168 (fun v' _ => v' = t169) w) ∧ ((M.load1 t163 (fun v' _ => v' = t164) w) ∧ ((M.load1 t161 (fun v' _ => v' = t162) w) ∧ R t173 w))))) w) w) w) w) w) w) w) w) w) w) w) w) w) w) w) w)) w)) w)) w)) w)) w)) w)) w)) w)) w) w) w) w) w) w) w) w) w
theorem ok15 (x0 x1 : Value) (R : Kt) (w : World) (h : sh15 x0 x1 R w) : Ret Try.prog 15 #[x0, x1] w R :=
  ret_mk <| calls_of_comp mixed (c := Try.f15.body.getD .skip) (args := [x0, x1]) (rs := [(ResultVar.tmp 4)]) (Ann.seq Ann.text (Ann.seq Ann.text (Ann.seq (Ann.seq Ann.text (Ann.block (Ann.seq Ann.text (Ann.cond (Ann.seq (Ann.draw (Sch.take 0 (Sch.take 1 (Sch.take 2 (Sch.take 3 (Sch.take 4 (Sch.take 5 (Sch.take 6 (Sch.take 7 (Sch.one 8 (Sch.take 9 Sch.done))))))))))) Ann.leaf) (Ann.seq Ann.text (Ann.cond (Ann.seq Ann.text Ann.leaf) (Ann.seq Ann.text (Ann.cond (Ann.seq (Ann.draw (Sch.take 0 (Sch.take 1 (Sch.take 2 (Sch.take 3 (Sch.take 4 (Sch.take 5 (Sch.take 6 (Sch.take 7 (Sch.take 8 (Sch.take 9 (Sch.take 10 (Sch.take 11 (Sch.take 12 (Sch.take 13 (Sch.take 14 (Sch.take 15 (Sch.take 16 (Sch.take 17 (Sch.take 18 (Sch.take 19 (Sch.take 20 (Sch.take 21 (Sch.take 22 (Sch.take 23 (Sch.take 24 (Sch.take 25 (Sch.take 26 (Sch.one 27 (Sch.take 28 Sch.done)))))))))))))))))))))))))))))) Ann.leaf) (Ann.seq Ann.text (Ann.cond (Ann.seq (Ann.draw (Sch.take 0 (Sch.take 1 (Sch.take 2 (Sch.take 3 (Sch.take 4 (Sch.take 5 (Sch.take 6 (Sch.take 7 (Sch.take 8 (Sch.take 9 (Sch.take 10 (Sch.take 11 (Sch.take 12 (Sch.take 13 (Sch.take 14 (Sch.one 15 (Sch.take 16 Sch.done)))))))))))))))))) Ann.leaf) (Ann.seq Ann.text (Ann.cond (Ann.seq (Ann.draw (Sch.take 0 (Sch.take 1 (Sch.take 2 (Sch.take 3 (Sch.take 4 (Sch.take 5 (Sch.take 6 (Sch.take 7 (Sch.take 8 (Sch.take 9 (Sch.take 10 (Sch.take 11 (Sch.take 12 (Sch.take 13 (Sch.one 14 (Sch.one 15 (Sch.take 16 Sch.done)))))))))))))))))) Ann.leaf) (Ann.seq Ann.text (Ann.cond (Ann.seq (Ann.draw (Sch.take 0 (Sch.take 1 (Sch.take 2 (Sch.take 3 (Sch.take 4 (Sch.take 5 (Sch.take 6 (Sch.take 7 (Sch.take 8 (Sch.take 9 (Sch.one 10 (Sch.take 11 Sch.done))))))))))))) Ann.leaf) (Ann.seq Ann.text (Ann.cond (Ann.seq (Ann.draw (Sch.take 0 (Sch.take 1 (Sch.take 2 (Sch.take 3 (Sch.take 4 (Sch.take 5 (Sch.take 6 (Sch.take 7 Sch.done))))))))) (Ann.seq (Ann.draw (Sch.take 0 (Sch.take 1 (Sch.take 2 (Sch.take 3 (Sch.take 4 (Sch.take 5 (Sch.take 6 (Sch.take 7 (Sch.take 8 (Sch.one 9 (Sch.take 10 Sch.done)))))))))))) Ann.leaf)) (Ann.seq Ann.text (Ann.cond (Ann.seq (Ann.draw (Sch.take 0 (Sch.take 1 (Sch.take 2 (Sch.take 3 (Sch.take 4 (Sch.take 5 (Sch.take 6 (Sch.one 7 (Sch.take 8 Sch.done)))))))))) Ann.leaf) (Ann.seq Ann.text (Ann.cond (Ann.seq (Ann.draw (Sch.take 0 (Sch.take 1 (Sch.take 2 (Sch.take 3 (Sch.take 4 (Sch.take 5 (Sch.take 6 (Sch.take 7 (Sch.take 8 (Sch.take 9 (Sch.take 10 (Sch.one 11 (Sch.take 12 Sch.done)))))))))))))) Ann.leaf) Ann.leaf)))))))))))))))))))) (Ann.seq (Ann.draw (Sch.take 0 (Sch.take 1 (Sch.take 2 (Sch.take 3 (Sch.take 4 (Sch.take 5 (Sch.take 6 (Sch.take 7 (Sch.take 8 (Sch.take 9 (Sch.take 10 (Sch.take 11 (Sch.take 12 (Sch.take 13 (Sch.take 14 (Sch.take 15 (Sch.take 16 (Sch.one 17 (Sch.take 18 Sch.done)))))))))))))))))))) Ann.leaf))))
    Try.func15 (by kernel_rfl) (by kernel_rfl)
    (Eq.mp (by kernel_rfl) h)
section
variable {Z : Nat → Prop} {w : World} {F : Nat → Prop} {p : Nat} {N : List Nd} {most : Int} {G : Nat → Prop} {g : Nat} {D : List GK} {bl r1 r2 : Nat} {R I : Int → Option (List Int)}
def RowP (Z : Nat → Prop) (w : World) (F : Nat → Prop) (p : Nat) (N : List Nd) (most : Int) (G : Nat → Prop) (g : Nat) (D : List GK) (bl r1 r2 : Nat) (R I : Int → Option (List Int)) (n : Nd) (r : Value) (w' : World) : Prop :=
  ∃ G' D' I' row, RowZ w' G' Z r row ∧ BS Z w' F p N most G' g D' bl r1 r2 R I' ∧ PF N D' R I' ∧ Keep w w' (fun x => G x ∨ x = r2) ∧ (∀ x, x < w.heap.size → G' x → G x) ∧ D'.length ≤ D.length + 41000 ∧ (row.length : Int) = n.wd ∧ RF D' row ∧
    (∀ j r, I j = some r → I' j = some r) ∧ (∀ j, I' j ≠ none → I j ≠ none ∨ (n.op = 21 ∧ j = n.a)) ∧ ∀ ι env, Cmp ι D' I' env → rv ι D' row = (oneV N n (wordAt N env) env).toNat
theorem fin_gs {n : Nd} {w' : World} {G' : Nat → Prop} {D' : List GK} {m : Nat} {r : Value} {row : List Int} (h : BS Z w F p N most G g D bl r1 r2 R I) (hp : PF N D R I) (s : GS w G g D w' G' D' m) (hm : m ≤ 41000) (hr : RowZ w' G' Z r row) (hl : (row.length : Int) = n.wd) (hf : RF D' row)
    (hv : ∀ ι env, Cmp ι D I env → rv ι D' row = (oneV N n (wordAt N env) env).toNat) : RowP Z w F p N most G g D bl r1 r2 R I n r w' := by
  obtain ⟨E, e, hE, hEl⟩ := s.ext
  refine ⟨G', D', I, row, hr, h.step s.ga s.keep s.sub, by rw [e]; exact hp.ext hE, s.keep.mono (fun _ _ h => .inl h), s.sub, by have := s.len; omega, hl, hf, fun _ _ h => h, fun _ h => .inl h, fun ι env hc => hv ι env ?_⟩
  rw [e] at hc
  exact hc.back (fun i r hi => (hp.ins i r hi).1)
theorem RowP.pre {n : Nd} {w0 w' : World} {r : Value} (k : Keep w0 w No) (h : RowP Z w F p N most G g D bl r1 r2 R I n r w') : RowP Z w0 F p N most G g D bl r1 r2 R I n r w' := by
  obtain ⟨G', D', I', row, h1, h2, h3, h4, h5, h6⟩ := h
  exact ⟨G', D', I', row, h1, h2, h3, (k.mono (fun _ _ h => h.elim)).trans h4 (fun _ _ h => h), fun x hx => h5 x (Nat.lt_of_lt_of_le hx k.size), h6⟩
set_option maxHeartbeats 16000000 in
theorem row_ret {id : Nat} {n : Nd} (h : BS Z w F p N most G g D bl r1 r2 R I) (hp : PF N D R I) (hD : D.length ≤ 70000000) (hid : N[id]? = some n) (hk : ∀ k ∈ kidsN n, R k ≠ none) :
    Ret Try.prog 15 #[ptr bl, encN n] w (RowP Z w F p N most G g D bl r1 r2 R I n) := by
  have hG := h.dag.good
  obtain ⟨⟨wd1, wd2⟩, hkid, hcase⟩ := hG id n hid
  have hnN : n ∈ N := List.mem_of_getElem? hid
  have wt : ∀ k ∈ kidsN n, wdN (N.take id) k = wdN N k := fun k hk => wdN_take (hkid k hk)
  obtain ⟨wd, hwd⟩ : ∃ wd : Nat, n.wd = wd := ⟨n.wd.toNat, by omega⟩
  have kid : ∀ k ∈ kidsN n, ∃ row, R k = some row ∧ (row.length : Int) = wdN N k ∧ 1 ≤ row.length ∧ row.length ≤ 64 ∧ RF D row ∧ ∀ ι env, Cmp ι D I env → (wordAt N env k).toNat = rv ι D row := fun k hkk => by
    cases hr : R k with
    | none => exact absurd hr (hk k hkk)
    | some row =>
      obtain ⟨a1, a2, a3, a4⟩ := hp.rows k row hr
      have := hG.wd a1
      exact ⟨row, rfl, a2, by omega, by omega, a3, fun ι env hc => (a4 ι env hc).symm⟩
  have hpos := h.ga.wf.pos
  refine ok15 _ _ _ _ ?_
  unfold sh15
  refine M.new_i (l := n.cells) (fun w1 b1 k1 s1 => ?_)
  have b1 : Blk w1 w.heap.size [vi n.op, vi n.wd, vi n.a, vi n.b, vi n.c, vw n.val] := b1
  have h1 := h.keepN k1
  refine M.nilCheck_i ?_
  refine M.field_i ?_
  refine M.loadB_i h1.blk rfl ?_
  refine M.call_i (gtrue_ret h1.ga) ?_; rintro _ _ ⟨rfl, rfl⟩
  refine M.call_i (ntr_ret (l := 0) (by omega) (by omega) _) ?_; rintro _ w2 ⟨rfl, k2⟩
  have b2 := b1.keep k2 (fun h => h)
  have k02 := k1.trans k2 (fun _ _ h => h)
  have kd := Keep.drew w2 No
  have kdd := Keep.drew w2.drew No
  have k0d := k02.trans kd (fun _ _ h => h)
  have bd := b2.keep kd (fun h => h)
  have hd := h.keepN k0d
  have hd2 := h.keepN k02
  have hnG : ¬ G w.heap.size := fun hx => by have := h.ga.lt _ hx; omega
  obtain ⟨kv, hm, hr⟩ := hd.m1
  have hblk := hd.blk
  refine M.field_i ?_
  refine M.loadB_i b2 rfl ?_
  by_cases o20 : n.op = 20
  · refine M.eql_t o20 ?_
    refine M.cond_t ?_
    refine M.draw_i ?_
    refine M.nilCheck_i ?_
    refine M.field_i ?_
    refine M.loadB_i hblk rfl ?_
    refine M.field_i ?_
    refine M.loadB_i bd rfl ?_
    refine M.field_i ?_
    refine M.loadB_i bd rfl ?_
    rw [hwd]
    refine M.call_i (aconst_ret hd.ga (n := wd) (by omega) (by omega) n.val) ?_; rintro r w3 ⟨G', D', row, q1, q2, q3, q4, q5⟩
    refine RowP.pre k0d (fin_gs hd hp q2 (by omega) (q1.mono (fun x _ h => ⟨h.1, hd.zn x h.2⟩)) (by rw [q3, hwd]) q4 (fun ι env hc => ?_))
    rw [q5 ι]
    have hv : cutW n.wd n.val = n.val := by
      rcases hcase with hh | hh | hh | hh | hh | hh | hh | hh
      · exact hh.2.2.2.2
      all_goals omega
    unfold oneV
    rw [if_pos o20, ← hv, hwd, cut_nat (by omega) (by omega)]
    exact Nat.mod_mod _ _
  refine M.eql_f o20 ?_
  refine M.cond_f ?_
  by_cases o21 : n.op = 21
  · have ha0 : 0 ≤ n.a := by
      rcases hcase with hh | hh | hh | hh | hh | hh | hh | hh
      · omega
      · exact hh.2.1
      all_goals omega
    refine M.eql_t o21 ?_
    refine M.cond_t ?_
    refine M.field_i ?_
    refine M.loadB_i b2 rfl ?_
    refine M.field_i ?_
    refine M.loadB_i b2 rfl ?_
    rw [hwd]
    refine M.call_i (variable_ret (wd := wd) hd2 hp (by omega) hnN o21 rfl hwd ha0 (by omega)) ?_; rintro r w3 ⟨D', I', row, q1, q2, q3, q4, q5, q6, q7, q8, q9⟩
    refine ⟨G, D', I', row, q1, q2, q3, (k02.mono (fun _ _ h => h.elim)).trans q4 (fun _ _ h => h), fun _ _ h => h, by omega, by rw [q7, hwd], (q3.ins _ _ q6).1, q8, fun j hj => (q9 j hj).imp (fun h => h) (fun e => ⟨o21, e⟩), fun ι env hc => ?_⟩
    rw [hc _ _ q6, q7]
    unfold oneV inW
    rw [if_neg o20, if_pos o21, hwd]
  refine M.eql_f o21 ?_
  refine M.cond_f ?_
  by_cases o22 : n.op = 22
  · refine M.eql_t o22 ?_
    refine M.cond_t ?_
    refine M.draw_i ?_
    have hkids : kidsN n = [n.a, n.b, n.c] := by
      unfold kidsN
      rw [if_neg (by omega), if_pos o22]
    obtain ⟨g1, g2, g3⟩ : wdN (N.take id) n.a = 1 ∧ wdN (N.take id) n.b = wdN (N.take id) n.c ∧ n.wd = wdN (N.take id) n.b := by
      rcases hcase with hh | hh | hh | hh | hh | hh | hh | hh
      all_goals first | omega | exact ⟨hh.2.1, hh.2.2.1, hh.2.2.2.1⟩
    have hka : n.a ∈ kidsN n := by rw [hkids]; simp
    obtain ⟨ra, Ra, la, la1, la2, fa, va⟩ := kid n.a hka
    obtain ⟨ba, oa, ca, ea, wa⟩ := hr.get Ra
    have ta := wt n.a hka
    have wa := RowZ.o wa
    have hkb : n.b ∈ kidsN n := by rw [hkids]; simp
    obtain ⟨rb, Rb, lb, lb1, lb2, fb, vb⟩ := kid n.b hkb
    obtain ⟨bb, ob, cb, eb, wb⟩ := hr.get Rb
    have tb := wt n.b hkb
    have wb := RowZ.o wb
    have hkc : n.c ∈ kidsN n := by rw [hkids]; simp
    obtain ⟨rc, Rc, lc, lc1, lc2, fc, vc⟩ := kid n.c hkc
    obtain ⟨bc, oc, cc, ec, wc⟩ := hr.get Rc
    have tc := wt n.c hkc
    have wc := RowZ.o wc
    refine M.nilCheck_i ?_
    refine M.field_i ?_
    refine M.loadB_i hblk rfl ?_
    refine M.nilCheck_i ?_
    refine M.field_i ?_
    refine M.loadB_i hblk rfl ?_
    refine M.field_i ?_
    refine M.loadB_i bd rfl ?_
    refine M.lookup_i hmap hint (fun w => Try.zeroValue23 w) hm ?_
    rw [ea]
    have hra1 : ra.length = 1 := by omega
    obtain ⟨x, hx⟩ : ∃ x, ra = [x] := by
      match ra, hra1 with
      | [x], _ => exact ⟨x, rfl⟩
    subst hx
    have wa' := wa
    obtain ⟨_, _, e1, rowa, _⟩ := wa'
    simp only [Value.slice.injEq] at e1
    obtain ⟨rfl, _, rfl⟩ := e1
    refine M.idxLV_i rowa rfl (by omega) (by simp) (x := x) rfl (fun bb oo hA hcc => ?_)
    refine M.load_i hcc ?_
    refine M.nilCheck_i ?_
    refine M.field_i ?_
    refine M.loadB_i hblk rfl ?_
    refine M.field_i ?_
    refine M.loadB_i bd rfl ?_
    refine M.lookup_i hmap hint (fun w => Try.zeroValue23 w) hm ?_
    rw [eb]
    refine M.nilCheck_i ?_
    refine M.field_i ?_
    refine M.loadB_i hblk rfl ?_
    refine M.field_i ?_
    refine M.loadB_i bd rfl ?_
    refine M.lookup_i hmap hint (fun w => Try.zeroValue23 w) hm ?_
    rw [ec]
    have fx : Ft D x := fa x (by simp)
    refine M.call_i (aite_ret (n := rb.length) (c := x) hd.ga (by omega) (by omega) (by omega) wb wc rfl (by omega) fx fb fc) ?_; rintro r w3 ⟨G', D', row, q1, q2, q3, q4, q5⟩
    have h3 := hd.step q2.ga q2.keep q2.sub
    have bd3 := bd.keep q2.keep hnG
    have hm3 := hm.keep q2.keep h.sG.2.1
    refine ⟨M.loadB_i bd3 rfl rfl, M.loadB_i h3.blk rfl rfl, M.loadB_i bd3 rfl rfl, M.loadB_i h3.blk rfl rfl, M.lookup_i hmap hint (fun w => Try.zeroValue23 w) hm3 (by rw [ea]), M.loadB_i bd3 rfl rfl, M.loadB_i h3.blk rfl rfl, ?_⟩
    refine RowP.pre k0d (fin_gs hd hp q2 (by omega) (q1.mono (fun x _ h => ⟨h.1, hd.zn x h.2⟩)) (by rw [q3]; omega) q4 (fun ι env hc => ?_))
    have qv : rv ι D' row = if lv ι D x then rv ι D rb else rv ι D rc := q5 ι
    have va' := va ι env hc
    rw [rv_one] at va'
    unfold oneV
    rw [if_neg o20, if_neg o21, if_pos o22, qv]
    cases hx : lv ι D x with
    | true =>
      rw [hx] at va'
      have : wordAt N env n.a = 1 := BitVec.eq_of_toNat_eq va'
      rw [if_pos this, if_pos rfl, vb ι env hc]
    | false =>
      rw [hx] at va'
      have : ¬ wordAt N env n.a = 1 := fun e => by rw [e] at va'; cases va'
      rw [if_neg this, if_neg (by decide), vc ι env hc]
  refine M.eql_f o22 ?_
  refine M.cond_f ?_
  by_cases o23 : n.op = 23
  · refine M.eql_t o23 ?_
    refine M.cond_t ?_
    refine M.draw_i ?_
    have hkids : kidsN n = [n.a] := by
      unfold kidsN
      rw [if_neg (by omega), if_neg (by omega), if_neg (by omega)]
    obtain ⟨g1, g2, g3⟩ : 0 ≤ n.b ∧ n.b ≤ 64 ∧ n.b + n.wd ≤ wdN (N.take id) n.a := by
      rcases hcase with hh | hh | hh | hh | hh | hh | hh | hh
      all_goals first | omega | exact ⟨hh.2.1, hh.2.2.1, hh.2.2.2.1⟩
    have hka : n.a ∈ kidsN n := by rw [hkids]; simp
    obtain ⟨ra, Ra, la, la1, la2, fa, va⟩ := kid n.a hka
    obtain ⟨ba, oa, ca, ea, wa⟩ := hr.get Ra
    have ta := wt n.a hka
    have wa := RowZ.o wa
    refine M.nilCheck_i ?_
    refine M.field_i ?_
    refine M.loadB_i hblk rfl ?_
    refine M.field_i ?_
    refine M.loadB_i bd rfl ?_
    refine M.lookup_i hmap hint (fun w => Try.zeroValue23 w) hm ?_
    rw [ea]
    refine M.field_i ?_
    refine M.loadB_i bd rfl ?_
    refine M.field_i ?_
    refine M.loadB_i bd rfl ?_
    refine M.field_i ?_
    refine M.loadB_i bd rfl ?_
    obtain ⟨lo, hlo⟩ : ∃ lo : Nat, n.b = lo := ⟨n.b.toNat, by omega⟩
    rw [hlo, hwd]
    refine M.add_i (by omega) (by omega) ?_
    rw [show (lo : Int) + (wd : Int) = ((lo + wd : Nat) : Int) by omega]
    have wa' := wa
    obtain ⟨_, _, e1, rowa, hca⟩ := wa'
    simp only [Value.slice.injEq] at e1
    obtain ⟨rfl, _, rfl⟩ := e1
    refine M.slice_i lo (lo + wd) ca (sl3_lh (by omega) (by omega)) ?_
    have hsl : RowO w2.drew G (.slice (if ca = lo then some ⟨ba, oa, none⟩ else (some ⟨ba, oa, none⟩ : Option Addr).map (·.add (lo * 1))) (lo + wd - lo) (ca - lo)) ((ra.drop lo).take wd) := by
      have hlen : ((ra.drop lo).take wd).length = wd := by rw [List.length_take, List.length_drop]; omega
      refine ⟨_, ca - lo, by rw [hlen]; congr 1; omega, ?_, by omega⟩
      rw [List.map_take, List.map_drop]
      exact (Row.tail rowa (by simpa using hca)).take wd
    generalize (if ca = lo then some ⟨ba, oa, none⟩ else (some ⟨ba, oa, none⟩ : Option Addr).map (·.add (lo * 1))) = SA at hsl ⊢
    refine M.call_i (clone23_ret hsl (by rw [List.length_take]; omega)) ?_; rintro r w3 ⟨q1, k3⟩
    have bd3 := bd.keep k3 (fun h => h)
    have h3 := hd.keepN k3
    have hm3 := hm.keep k3 (fun h => h)
    have h1b := bd3.cell (o := 3) rfl
    refine ⟨M.loadB_i bd3 (by rw [hwd]; rfl) rfl, M.loadB_i bd3 (by rw [hlo]; rfl) rfl, M.loadB_i bd3 (by rw [hlo]; rfl) rfl, M.lookup_i hmap hint (fun w => Try.zeroValue23 w) hm3 (by rw [ea]), M.loadB_i bd3 rfl rfl, M.loadB_i h3.blk rfl rfl, ?_⟩
    have hlen : ((ra.drop lo).take wd).length = wd := by rw [List.length_take, List.length_drop]; omega
    have hltG := hd.ga.lt
    refine RowP.pre k0d (fin_gs hd hp ((GS.refl hd.ga).keepN k3) (by omega) ((GI.lv q1).mono (fun x _ hx => by have hx : w2.drew.heap.size ≤ x := hx; exact ⟨fun hG => by have := hltG x hG; omega, hd.zn x hx⟩)) (by rw [hlen, hwd]) (fun l hl => fa l (List.mem_of_mem_drop (List.mem_of_mem_take hl))) (fun ι env hc => ?_))
    unfold oneV
    rw [if_neg o20, if_neg o21, if_neg o22, if_pos o23, hwd, hlo, Int.toNat_natCast, w_ext (m := 0) (by omega) (by omega), va ι env hc, rv_take_mod ι D _ (by rw [List.length_drop]; omega)]
    have sp := rv_split ι D ra (k := lo) (by omega)
    have hl2 := rv_lt ι D (ra.take lo)
    rw [List.length_take, Nat.min_eq_left (by omega)] at hl2
    congr 1
    rw [sp, Nat.add_mul_div_left _ _ (Nat.two_pow_pos lo), Nat.div_eq_of_lt hl2, Nat.zero_add]
  refine M.eql_f o23 ?_
  refine M.cond_f ?_
  by_cases o24 : n.op = 24
  · refine M.eql_t o24 ?_
    refine M.cond_t ?_
    refine M.draw_i ?_
    have hkids : kidsN n = [n.a, n.b] := by
      unfold kidsN
      rw [if_neg (by omega), if_neg (by omega), if_pos (by omega)]
    obtain g1 : n.wd = wdN (N.take id) n.a + wdN (N.take id) n.b := by
      rcases hcase with hh | hh | hh | hh | hh | hh | hh | hh
      all_goals first | omega | exact hh.2.1
    have hka : n.a ∈ kidsN n := by rw [hkids]; simp
    obtain ⟨ra, Ra, la, la1, la2, fa, va⟩ := kid n.a hka
    obtain ⟨ba, oa, ca, ea, wa⟩ := hr.get Ra
    have ta := wt n.a hka
    have wa := RowZ.o wa
    have hkb : n.b ∈ kidsN n := by rw [hkids]; simp
    obtain ⟨rb, Rb, lb, lb1, lb2, fb, vb⟩ := kid n.b hkb
    obtain ⟨bb, ob, cb, eb, wb⟩ := hr.get Rb
    have tb := wt n.b hkb
    have wb := RowZ.o wb
    refine M.nilCheck_i ?_
    refine M.field_i ?_
    refine M.loadB_i hblk rfl ?_
    refine M.field_i ?_
    refine M.loadB_i bd rfl ?_
    refine M.lookup_i hmap hint (fun w => Try.zeroValue23 w) hm ?_
    rw [eb]
    refine M.nilCheck_i ?_
    refine M.field_i ?_
    refine M.loadB_i hblk rfl ?_
    refine M.field_i ?_
    refine M.loadB_i bd rfl ?_
    refine M.lookup_i hmap hint (fun w => Try.zeroValue23 w) hm ?_
    rw [ea]
    refine M.buildSlice_i [.slice (some ⟨bb, ob, none⟩) rb.length cb, .slice (some ⟨ba, oa, none⟩) ra.length ca] (by kernel_rfl) (fun w3 b3 k3 s3 => ?_)
    have bd3 := bd.keep k3 (fun h => h)
    have h3 := hd.keepN k3
    refine ⟨M.loadB_i bd3 rfl rfl, M.loadB_i h3.blk rfl rfl, M.loadB_i bd3 rfl rfl, M.loadB_i h3.blk rfl rfl, ?_⟩
    have hcon := scon_ret (D := fun x => ¬ G x) (ls := [rb, ra]) b3 rfl (fun k v l h1 h2 => by
      match k, h1, h2 with
      | 0, h1, h2 => simp at h1 h2; subst h1 h2; exact wb.keep k3 (fun _ _ _ h => h)
      | 1, h1, h2 => simp at h1 h2; subst h1 h2; exact wa.keep k3 (fun _ _ _ h => h)
      | k + 2, h1, _ => simp at h1) (by simp; omega) (by simp) 2 rfl
    refine M.call_i (hcon) ?_; rintro r w4 ⟨q1, k4⟩
    have bd4 := bd3.keep k4 (fun h => h)
    have h4 := h3.keepN k4
    refine ⟨M.loadB_i bd4 rfl rfl, M.loadB_i h4.blk rfl rfl, M.loadB_i bd4 rfl rfl, M.loadB_i h4.blk rfl rfl, ?_⟩
    have hltG := hd.ga.lt
    have q3 := k3.size
    have efl : [rb, ra].flatten = rb ++ ra := by simp
    rw [efl] at q1
    refine RowP.pre k0d (fin_gs hd hp ((GS.refl hd.ga).keepN (k3.trans k4 (fun _ _ h => h))) (by omega) ((GI.lv q1).mono (fun x _ hx => by have hx : w3.heap.size ≤ x := hx; exact ⟨fun hG => by have := hltG x hG; omega, hd.zn x (by omega)⟩)) (by rw [List.length_append]; omega) (fun l hl => by
      rcases List.mem_append.1 hl with hl | hl
      · exact fb l hl
      · exact fa l hl) (fun ι env hc => ?_))
    have va' := va ι env hc
    have vb' := vb ι env hc
    have la' := rv_lt ι D ra
    have lb' := rv_lt ι D rb
    unfold oneV
    rw [if_neg o20, if_neg o21, if_neg o22, if_neg o23, if_pos o24, show (wdN N n.b).toNat = rb.length by omega, w_cat (a := ra.length) (by omega) (by omega) (by omega), va', vb', rv_app]
  refine M.eql_f o24 ?_
  refine M.cond_f ?_
  by_cases o25 : n.op = 25
  · refine M.eql_t o25 ?_
    refine M.cond_t ?_
    refine M.draw_i ?_
    have hkids : kidsN n = [n.a] := by
      unfold kidsN
      rw [if_neg (by omega), if_neg (by omega), if_neg (by omega)]
    obtain g1 : wdN (N.take id) n.a < n.wd := by
      rcases hcase with hh | hh | hh | hh | hh | hh | hh | hh
      all_goals first | omega | exact hh.2.1
    have hka : n.a ∈ kidsN n := by rw [hkids]; simp
    obtain ⟨ra, Ra, la, la1, la2, fa, va⟩ := kid n.a hka
    obtain ⟨ba, oa, ca, ea, wa⟩ := hr.get Ra
    have ta := wt n.a hka
    have wa := RowZ.o wa
    refine M.nilCheck_i ?_
    refine M.field_i ?_
    refine M.loadB_i hblk rfl ?_
    refine M.field_i ?_
    refine M.loadB_i bd rfl ?_
    refine M.lookup_i hmap hint (fun w => Try.zeroValue23 w) hm ?_
    rw [ea]
    refine M.field_i ?_
    refine M.loadB_i bd rfl ?_
    rw [hwd]
    refine M.call_i (extended_ret (n := wd) wa (by omega) (by omega)) ?_; rintro r w3 ⟨q1, k3⟩
    have bd3 := bd.keep k3 (fun h => h)
    have h3 := hd.keepN k3
    refine ⟨M.loadB_i bd3 rfl rfl, M.loadB_i h3.blk rfl rfl, ?_⟩
    have hltG := hd.ga.lt
    have fz : Ft D (nt 0) := ⟨by decide, by show (1 : Int) < _; omega⟩
    refine RowP.pre k0d (fin_gs hd hp ((GS.refl hd.ga).keepN k3) (by omega) (q1.mono (fun x _ hx => by have hx : w2.drew.heap.size ≤ x := hx; exact ⟨fun hG => by have := hltG x hG; omega, hd.zn x hx⟩)) (by rw [List.length_append, List.length_replicate, hwd]; omega) (fun l hl => by
      rcases List.mem_append.1 hl with hl | hl
      · exact fa l hl
      · rw [(List.mem_replicate.1 hl).2]; exact fz) (fun ι env hc => ?_))
    have ez : rv ι D (List.replicate (wd - ra.length) (nt 0)) = 0 := by
      unfold rv
      rw [List.map_replicate, lv_nt, lv_zero h.ga.wf]
      exact nvB_zeros _
    unfold oneV
    rw [if_neg o20, if_neg o21, if_neg o22, if_neg o23, if_neg o24, if_pos o25, va ι env hc, rv_app, ez]
    omega
  refine M.eql_f o25 ?_
  refine M.cond_f ?_
  by_cases o26 : n.op = 26
  · refine M.eql_t o26 ?_
    refine M.cond_t ?_
    refine M.draw_i ?_
    have hkids : kidsN n = [n.a] := by
      unfold kidsN
      rw [if_neg (by omega), if_neg (by omega), if_neg (by omega)]
    obtain g1 : wdN (N.take id) n.a < n.wd := by
      rcases hcase with hh | hh | hh | hh | hh | hh | hh | hh
      all_goals first | omega | exact hh.2.1
    have hka : n.a ∈ kidsN n := by rw [hkids]; simp
    obtain ⟨ra, Ra, la, la1, la2, fa, va⟩ := kid n.a hka
    obtain ⟨ba, oa, ca, ea, wa⟩ := hr.get Ra
    have ta := wt n.a hka
    have wa := RowZ.o wa
    refine M.nilCheck_i ?_
    refine M.field_i ?_
    refine M.loadB_i hblk rfl ?_
    refine M.field_i ?_
    refine M.loadB_i bd rfl ?_
    refine M.lookup_i hmap hint (fun w => Try.zeroValue23 w) hm ?_
    rw [ea]
    refine M.draw_i ?_
    have bd := bd.keep kdd (fun h => h)
    have hd := hd.keepN kdd
    have wa := wa.keep kdd (fun _ _ _ h => h)
    have k0d := k0d.trans kdd (fun _ _ h => h)
    refine M.field_i ?_
    refine M.loadB_i bd rfl ?_
    refine M.len_i ?_
    obtain ⟨x, hx⟩ : ∃ x, ra[ra.length - 1]? = some x := ⟨_, List.getElem?_eq_getElem (by omega)⟩
    refine M.sub_i (by omega) (by omega) ?_
    have wa' := wa
    obtain ⟨_, _, e1, rowa, _⟩ := wa'
    simp only [Value.slice.injEq] at e1
    obtain ⟨rfl, _, rfl⟩ := e1
    refine M.idxLV_i rowa rfl (by omega) (by omega) (x := x) (by rw [show ((ra.length : Int) - 1).toNat = ra.length - 1 by omega]; exact hx) (fun bb oo hA hcc => ?_)
    refine M.load_i hcc ?_
    rw [hwd]
    refine M.call_i (extended_ret (n := wd) wa (by omega) (by omega)) ?_; rintro r w3 ⟨q1, k3⟩
    have hltG := hd.ga.lt
    have fz : Ft D x := fa x (List.mem_of_getElem? hx)
    refine RowP.pre k0d (fin_gs hd hp ((GS.refl hd.ga).keepN k3) (by omega) (q1.mono (fun y _ hy => by have hy : w2.drew.drew.heap.size ≤ y := hy; exact ⟨fun hG => by have := hltG y hG; omega, hd.zn y hy⟩)) (by rw [List.length_append, List.length_replicate, hwd]; omega) (fun l hl => by
      rcases List.mem_append.1 hl with hl | hl
      · exact fa l hl
      · rw [(List.mem_replicate.1 hl).2]; exact fz) (fun ι env hc => ?_))
    unfold oneV
    rw [if_neg o20, if_neg o21, if_neg o22, if_neg o23, if_neg o24, if_neg o25, if_pos o26, hwd, show wdN N n.a = ((ra.length : Nat) : Int) by omega, w_sext (V := ra.map (lv ι D)) la1 (by omega) (by omega) (by simp) (va ι env hc).symm]
    unfold rv
    rw [List.map_append, List.map_replicate]
    congr 3
    rw [List.getD_eq_getElem?_getD, List.getElem?_map, hx]; rfl
  refine M.eql_f o26 ?_
  refine M.cond_f ?_
  by_cases o15 : n.op = 15
  · refine M.eql_t o15 ?_
    refine M.cond_t ?_
    refine M.draw_i ?_
    have hkids : kidsN n = [n.a] := by
      unfold kidsN
      rw [if_neg (by omega), if_neg (by omega), if_neg (by omega)]
    obtain g1 : n.wd = wdN (N.take id) n.a := by
      rcases hcase with hh | hh | hh | hh | hh | hh | hh | hh
      all_goals first | omega | exact hh.2.1
    have hka : n.a ∈ kidsN n := by rw [hkids]; simp
    obtain ⟨ra, Ra, la, la1, la2, fa, va⟩ := kid n.a hka
    obtain ⟨ba, oa, ca, ea, wa⟩ := hr.get Ra
    have ta := wt n.a hka
    have wa := RowZ.o wa
    refine M.nilCheck_i ?_
    refine M.field_i ?_
    refine M.loadB_i hblk rfl ?_
    refine M.field_i ?_
    refine M.loadB_i bd rfl ?_
    refine M.lookup_i hmap hint (fun w => Try.zeroValue23 w) hm ?_
    rw [ea]
    refine M.call_i (bnots_ret wa (by omega) (fun x hx => ⟨(fa x hx).1, by have := (fa x hx).2; omega⟩)) ?_; rintro r w3 ⟨q1, k3⟩
    have bd3 := bd.keep k3 (fun h => h)
    have h3 := hd.keepN k3
    refine ⟨M.loadB_i bd3 rfl rfl, M.loadB_i h3.blk rfl rfl, ?_⟩
    have hltG := hd.ga.lt
    refine RowP.pre k0d (fin_gs hd hp ((GS.refl hd.ga).keepN k3) (by omega) (q1.mono (fun x _ hx => by have hx : w2.drew.heap.size ≤ x := hx; exact ⟨fun hG => by have := hltG x hG; omega, hd.zn x hx⟩)) (by rw [List.length_map]; omega) fa.nots (fun ι env hc => ?_))
    have va' := va ι env hc
    have la' := rv_lt ι D ra
    have e1 := rv_not ι D ra
    have e2 := w_not (n := ra.length) (x := wordAt N env n.a) la1 la2 (by omega)
    unfold oneV
    rw [if_neg o20, if_neg o21, if_neg o22, if_neg o23, if_neg o24, if_neg o25, if_neg o26, if_pos (.inl o15), show n.wd = ((ra.length : Nat) : Int) by omega, o15]
    omega
  refine M.eql_f o15 ?_
  refine M.cond_f ?_
  by_cases o16 : n.op = 16
  · refine M.eql_t o16 ?_
    refine M.cond_t ?_
    refine M.draw_i ?_
    have hkids : kidsN n = [n.a] := by
      unfold kidsN
      rw [if_neg (by omega), if_neg (by omega), if_neg (by omega)]
    obtain g1 : n.wd = wdN (N.take id) n.a := by
      rcases hcase with hh | hh | hh | hh | hh | hh | hh | hh
      all_goals first | omega | exact hh.2.1
    have hka : n.a ∈ kidsN n := by rw [hkids]; simp
    obtain ⟨ra, Ra, la, la1, la2, fa, va⟩ := kid n.a hka
    obtain ⟨ba, oa, ca, ea, wa⟩ := hr.get Ra
    have ta := wt n.a hka
    have wa := RowZ.o wa
    refine M.nilCheck_i ?_
    refine M.field_i ?_
    refine M.loadB_i hblk rfl ?_
    refine M.nilCheck_i ?_
    refine M.field_i ?_
    refine M.loadB_i hblk rfl ?_
    refine M.field_i ?_
    refine M.loadB_i bd rfl ?_
    refine M.lookup_i hmap hint (fun w => Try.zeroValue23 w) hm ?_
    rw [ea]
    refine M.call_i (neg_ret' (n := ra.length) hd.ga (by omega) (by omega) (by omega) wa rfl fa) ?_; rintro r w3 ⟨G', D', row, q1, q2, q3, q4, q5⟩
    have h3 := hd.step q2.ga q2.keep q2.sub
    have bd3 := bd.keep q2.keep hnG
    refine ⟨M.loadB_i bd3 rfl rfl, M.loadB_i h3.blk rfl rfl, ?_⟩
    refine RowP.pre k0d (fin_gs hd hp q2 (by omega) (q1.mono (fun x _ h => ⟨h.1, hd.zn x h.2⟩)) (by rw [q3]; omega) q4 (fun ι env hc => ?_))
    have va' := va ι env hc
    have la' := rv_lt ι D ra
    have e2 := w_neg (n := ra.length) (x := wordAt N env n.a) la1 la2 (by omega)
    unfold oneV
    rw [if_neg o20, if_neg o21, if_neg o22, if_neg o23, if_neg o24, if_neg o25, if_neg o26, if_pos (.inr o16), show n.wd = ((ra.length : Nat) : Int) by omega, o16, e2, va', q5 ι]
  refine M.eql_f o16 ?_
  refine M.cond_f ?_
  · refine M.draw_i ?_
    have hkids : kidsN n = [n.a, n.b] := by
      unfold kidsN
      rw [if_neg (by omega), if_neg (by omega), if_pos (by omega)]
    obtain ⟨g0, g0b, g1, g2⟩ : 1 ≤ n.op ∧ n.op ≤ 14 ∧ wdN (N.take id) n.a = wdN (N.take id) n.b ∧ n.wd = (if 12 ≤ n.op then 1 else wdN (N.take id) n.a) := by
      rcases hcase with hh | hh | hh | hh | hh | hh | hh | hh
      all_goals first | omega | exact ⟨hh.1, hh.2.1, hh.2.2.1, hh.2.2.2.1⟩
    have hka : n.a ∈ kidsN n := by rw [hkids]; simp
    obtain ⟨ra, Ra, la, la1, la2, fa, va⟩ := kid n.a hka
    obtain ⟨ba, oa, ca, ea, wa⟩ := hr.get Ra
    have ta := wt n.a hka
    have wa := RowZ.o wa
    have hkb : n.b ∈ kidsN n := by rw [hkids]; simp
    obtain ⟨rb, Rb, lb, lb1, lb2, fb, vb⟩ := kid n.b hkb
    obtain ⟨bb, ob, cb, eb, wb⟩ := hr.get Rb
    have tb := wt n.b hkb
    have wb := RowZ.o wb
    refine M.field_i ?_
    refine M.loadB_i bd rfl ?_
    refine M.nilCheck_i ?_
    refine M.field_i ?_
    refine M.loadB_i hblk rfl ?_
    refine M.field_i ?_
    refine M.loadB_i bd rfl ?_
    refine M.lookup_i hmap hint (fun w => Try.zeroValue23 w) hm ?_
    rw [ea]
    refine M.nilCheck_i ?_
    refine M.field_i ?_
    refine M.loadB_i hblk rfl ?_
    refine M.field_i ?_
    refine M.loadB_i bd rfl ?_
    refine M.lookup_i hmap hint (fun w => Try.zeroValue23 w) hm ?_
    rw [eb]
    refine M.call_i (bbinary_ret (n := ra.length) ⟨g0, g0b⟩ hblk hd.ga (by omega) (by omega) (by omega) wa wb rfl (by omega) fa fb) ?_; rintro r w3 ⟨G', D', row, q1, q2, q3, q4, q5⟩
    have h3 := hd.step q2.ga q2.keep q2.sub
    have bd3 := bd.keep q2.keep hnG
    refine ⟨M.loadB_i bd3 rfl rfl, M.loadB_i h3.blk rfl rfl, M.loadB_i bd3 rfl rfl, M.loadB_i h3.blk rfl rfl, ?_⟩
    refine RowP.pre k0d (fin_gs hd hp q2 (by omega) (q1.mono (fun x _ h => ⟨h.1, hd.zn x h.2⟩)) (by rw [q3, g2]; split <;> omega) q4 (fun ι env hc => ?_))
    unfold oneV
    rw [if_neg o20, if_neg o21, if_neg o22, if_neg o23, if_neg o24, if_neg o25, if_neg o26, if_neg (by omega), show wdN N n.a = ((ra.length : Nat) : Int) by omega]
    exact q5 ι _ _ (va ι env hc) (vb ι env hc)
end
end Go.Proofs.Ytnbcglnefoinlaa
