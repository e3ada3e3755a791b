import Derived.Test.YtnmbgfonlpjicaaAn12h
import Derived.Test.YtnmbgfonlpjicaaAn12g
import Derived.Test.YtnmbgfonlpjicaaAn12f
import Derived.Test.YtnmbgfonlpjicaaRef06Cw
namespace Go.Proofs.Ytnmbgfonlpjicaa
open Go.Mw
set_option linter.unusedVariables false
set_option linter.unusedSimpArgs false
set_option maxRecDepth 100000
attribute [local irreducible] M.val M.unit M.next M.pick M.new M.nilCheck M.load1 M.loadA M.store M.fieldAddr M.indexSl M.indexArr M.slice M.makeSlice M.buildSlice M.len M.lenS M.cap M.append M.extract M.conv M.not M.neg M.bin M.shift M.eqB M.eqNil M.call M.callv M.gd M.share M.cond M.loop M.draw pureW readW Ret
/-! breakwater/breakwaterref07.Step: function 36 -/
def sh36 (x0 x1 : Value) (R : Kt) (w : World) : Prop :=
  M.loop [(Value.slice none 0 0), (Value.int IntKind.i64 0)] (fun s1 K1 w => ∀ _ : List Value,
  M.len x1 (fun t11 w =>
  M.bin .lss (s1.getD 1 undef) t11 (fun t12 w =>
  M.cond t12
  (M.indexSl 1 x1 (s1.getD 1 undef) (fun t18 w =>
  M.load1 t18 (fun t19 w =>
  M.call Try.prog 54 #[t19] (fun t20 w =>
  M.buildSlice 3 1 #[.int .i64 0] 1 [(0, t20)] (fun t21 w =>
  M.append 3 1 8 #[.int .i64 0] (s1.getD 0 undef) t21 (fun t22 w =>
  M.bin .add (s1.getD 1 undef) (Value.int IntKind.i64 1) (fun t14 w =>
  K1 [t22, t14] w) w) w) w) w) w) w)
  (M.call Try.prog 55 #[x0, (s1.getD 0 undef)] (fun t26 w =>
  M.extract 0 t26 (fun t27 w =>
  M.extract 1 t26 (fun t28 w =>
  M.not t28 (fun t30 w =>
  R t30 w) w) w) w) w)) w) w) w
theorem ok36 (x0 x1 : Value) (R : Kt) (w : World) (h : sh36 x0 x1 R w) : Ret Try.prog 36 #[x0, x1] w R :=
  ret_mk <| calls_of_comp mixed (c := Try.f36.body.getD .skip) (args := [x0, x1]) (rs := [(ResultVar.tmp 4)]) (Ann.seq Ann.text (Ann.seq Ann.text (Ann.seq (Ann.seq Ann.text (Ann.block (Ann.loop [5, 6] [9, 10, 11, 12, 13, 14, 15, 16, 17, 18, 19, 20, 21, 22] (Ann.seq (Ann.seq Ann.text (Ann.cond Ann.leaf Ann.leaf)) (Ann.seq (Ann.block Ann.text) Ann.text))))) (Ann.seq Ann.text (Ann.seq Ann.text Ann.leaf)))))
    Try.func36 (by kernel_rfl) (by kernel_rfl)
    (Eq.mp (by kernel_rfl) h)
/-! breakwater/breakwaterlaw12.learned: function 15 -/
def sh15 (x0 x1 x2 : Value) (R : Kt) (w : World) : Prop :=
  M.call Try.prog 7 #[x0, x1, x2] (fun t18 w =>
  M.extract 0 t18 (fun t19 w =>
  M.extract 1 t18 (fun t20 w =>
  M.extract 2 t18 (fun t21 w =>
  M.extract 3 t18 (fun t22 w =>
  M.not t22 (fun t24 w =>
  M.gd t24 false (fun k w => k t19 w) (fun t26 w =>
  M.gd t24 false (fun k w => M.len t26 k w) (fun t27 w =>
  M.gd t24 false (fun k w => M.bin .eql t27 (Value.int IntKind.i64 0) k w) (fun t28 w =>
  M.pick t24 (Value.bool true) t28 (fun t29 w =>
  M.gd t29 false (fun k w => k t20 w) (fun t31 w =>
  M.gd t29 false (fun k w => M.bin .lss t31 (Value.int IntKind.i64 0) k w) (fun t32 w =>
  M.pick t29 (Value.bool true) t32 (fun t33 w =>
  M.gd t33 false (fun k w => k t20 w) (fun t35 w =>
  M.gd t33 false (fun k w => k x0 w) (fun t36 w =>
  M.gd t33 false (fun k w => M.call Try.prog 14 #[t36] k w) (fun t37 w =>
  M.gd t33 false (fun k w => M.bin .geq t35 t37 k w) (fun t38 w =>
  M.pick t33 (Value.bool true) t38 (fun t39 w =>
  M.gd t39 false (fun k w => k x1 w) (fun t41 w =>
  M.gd t39 false (fun k w => k t19 w) (fun t42 w =>
  M.gd t39 false (fun k w => M.call Try.prog 36 #[t41, t42] k w) (fun t43 w =>
  M.gd t39 false (fun k w => M.not t43 k w) (fun t44 w =>
  M.pick t39 (Value.bool true) t44 (fun t45 w =>
  M.cond t45
  (R (Value.bool false) w)
  (M.loop [(Value.int IntKind.i64 0)] (fun s1 K1 w => ∀ _ : List Value,
  M.len t19 (fun t48 w =>
  M.bin .lss (s1.getD 0 undef) t48 (fun t49 w =>
  M.cond t49
  (M.indexSl 1 t19 (s1.getD 0 undef) (fun t55 w =>
  M.load1 t55 (fun t56 w =>
  M.call Try.prog 37 #[t56] (fun t57 w =>
  M.call Try.prog 21 #[x0, t57] (fun t58 w =>
  M.indexSl 1 t19 (s1.getD 0 undef) (fun t62 w =>
  M.load1 t62 (fun t63 w =>
  M.call Try.prog 38 #[x0, t63] (fun t64 w =>
  M.bin .neq t64 (Value.int IntKind.i64 (-1)) (fun t65 w =>
  M.gd t65 false (fun k w => k t58 w) (fun t67 w =>
  M.gd t65 false (fun k w => k x0 w) (fun t68 w =>
  M.gd t65 false (fun k w => M.call Try.prog 14 #[t68] k w) (fun t69 w =>
  M.gd t65 false (fun k w => M.bin .eql t67 t69 k w) (fun t70 w =>
  M.gd t65 false (fun k w => k (s1.getD 0 undef) w) (fun t71 w =>
  M.gd t65 false (fun k w => M.bin .eql t71 (Value.int IntKind.i64 0) k w) (fun t72 w =>
  M.gd t65 false (fun k w => M.eqB true t70 t72 k w) (fun t73 w =>
  M.pick t65 (Value.bool true) t73 (fun t74 w =>
  M.gd t74 false (fun k w => k (s1.getD 0 undef) w) (fun t76 w =>
  M.gd t74 false (fun k w => M.bin .gtr t76 (Value.int IntKind.i64 0) k w) (fun t77 w =>
  M.gd t74 false (fun k w => k t77 w) (fun t78 w =>
  M.gd t78 true (fun k w => k t58 w) (fun t79 w =>
  M.gd t78 true (fun k w => k t20 w) (fun t80 w =>
  M.gd t78 true (fun k w => M.bin .gtr t79 t80 k w) (fun t81 w =>
  M.gd t74 false (fun k w => M.pick t78 t81 (Value.bool false) k w) (fun t82 w =>
  M.pick t74 (Value.bool true) t82 (fun t83 w =>
  M.gd t83 false (fun k w => k t58 w) (fun t85 w =>
  M.gd t83 false (fun k w => M.bin .lss t85 (Value.int IntKind.i64 1) k w) (fun t86 w =>
  M.pick t83 (Value.bool true) t86 (fun t87 w =>
  M.cond t87
  (R (Value.bool false) w)
  (M.bin .add (s1.getD 0 undef) (Value.int IntKind.i64 1) (fun t51 w =>
  K1 [t51] w) w)) w) w) w) w) w) w) w) w) w) w) w) w) w) w) w) w) w) w) w) w) w) w) w) w) w) w) w)
  (M.call Try.prog 39 #[x0, t20] (fun t90 w =>
  M.loop [(Value.int IntKind.i64 0)] (fun s2 K2 w => ∀ _ : List Value,
  M.len t19 (fun t93 w =>
  M.bin .lss (s2.getD 0 undef) t93 (fun t94 w =>
  M.cond t94
  (M.indexSl 1 t19 (s2.getD 0 undef) (fun t100 w =>
  M.load1 t100 (fun t101 w =>
  M.call Try.prog 38 #[x0, t101] (fun t102 w =>
  M.bin .eql t102 (Value.int IntKind.i64 (-1)) (fun t103 w =>
  M.bin .gtr (s2.getD 0 undef) (Value.int IntKind.i64 0) (fun t105 w =>
  M.eqB true t103 t105 (fun t106 w =>
  M.cond t106
  (R (Value.bool false) w)
  (M.bin .add (s2.getD 0 undef) (Value.int IntKind.i64 1) (fun t96 w =>
  K2 [t96] w) w)) w) w) w) w) w) w)
  (M.indexSl 1 t19 (Value.int IntKind.i64 0) (fun t109 w =>
  M.load1 t109 (fun t110 w =>
  M.call Try.prog 38 #[x0, t110] (fun t111 w =>
  M.bin .eql t111 (Value.int IntKind.i64 0) (fun t112 w =>
  R t112 w) w) w) w) w)) w) w) w) w)) w) w) w)) w) w) w) w) w) w) w) w) w) w) w) w) w) w) w) w) w) w) w) w) w) w) w
theorem ok15 (x0 x1 x2 : Value) (R : Kt) (w : World) (h : sh15 x0 x1 x2 R w) : Ret Try.prog 15 #[x0, x1, x2] w R :=
  ret_mk <| calls_of_comp mixed (c := Try.f15.body.getD .skip) (args := [x0, x1, x2]) (rs := [(ResultVar.tmp 6)]) (Ann.seq Ann.text (Ann.seq Ann.text (Ann.seq (Ann.seq Ann.text (Ann.cond (Ann.seq Ann.text Ann.leaf) Ann.leaf)) (Ann.seq (Ann.seq Ann.text (Ann.block (Ann.loop [11] [6, 12, 46, 47, 48, 49, 50, 51, 52, 53, 54, 55, 56, 57, 58, 59, 60, 61, 62, 63, 64, 65, 66, 67, 68, 69, 70, 71, 72, 73, 74, 75, 76, 77, 78, 79, 80, 81, 82, 83, 84, 85, 86, 87] (Ann.seq (Ann.seq Ann.text (Ann.cond Ann.leaf Ann.leaf)) (Ann.seq (Ann.block (Ann.seq Ann.text (Ann.seq Ann.text (Ann.cond (Ann.seq Ann.text Ann.leaf) Ann.leaf)))) Ann.text))))) (Ann.seq Ann.text (Ann.seq (Ann.seq Ann.text (Ann.block (Ann.loop [13] [6, 91, 92, 93, 94, 95, 96, 97, 98, 99, 100, 101, 102, 103, 104, 105, 106] (Ann.seq (Ann.seq Ann.text (Ann.cond Ann.leaf Ann.leaf)) (Ann.seq (Ann.block (Ann.seq Ann.text (Ann.cond (Ann.seq Ann.text Ann.leaf) Ann.leaf))) Ann.text))))) (Ann.seq Ann.text Ann.leaf)))))))
    Try.func15 (by kernel_rfl) (by kernel_rfl)
    (Eq.mp (by kernel_rfl) h)

theorem step_ret {w : World} {D D' : Nat → Prop} {u v : Value} {l : List (List Int)} {c : List Int} (hl : LL w D u l) (hc : LV vi w D' v c) (hf : FewL l (c.map notOf)) (hfl : Few l.length) (hcl : c.length ≤ 100000) (hI : ∀ d ∈ l, ∀ x ∈ d, I64 x) (hJ : ∀ x ∈ c, I64 x ∧ 0 ≤ x ∧ x < 4000000) :
    Ret Try.prog 36 #[u, v] w (fun r w' => (∃ out k, r = .bool (!k) ∧ CloseR l (c.map notOf) out k) ∧ Keep w w' No) := by
  obtain ⟨A, cc, rfl, hr, _⟩ := id hc
  refine ok36 _ _ _ _ ?_
  unfold sh36
  refine M.loop_i (σ := Nat) (fun i vals w' => ∃ vo, vals = [vo, vi i] ∧ i ≤ c.length ∧ GI w' (w.heap.size ≤ ·) vo ((c.take i).map notOf) ∧ Keep w w' No) (fun i => c.length - i) 0 ⟨_, rfl, by omega, GC.nil _ _ _, Keep.refl _ _⟩ ?_
  rintro i vals w1 K ⟨vo, rfl, hi, g1, k1⟩ hK _
  simp only [List.getD_cons_zero, List.getD_cons_succ]
  by_cases hlt : i < c.length
  · obtain ⟨x, hx⟩ : ∃ x, c[i]? = some x := ⟨_, List.getElem?_eq_getElem hlt⟩
    have et : (c.take (i + 1)).map notOf = (c.take i).map notOf ++ [notOf x] := by rw [List.take_add_one, hx]; simp
    (repeat (first|refine ja ?_|refine jb ?_|refine jc ?_|refine jd ?_|refine je ?_|refine jf ?_|refine jg ?_|refine jh ?_|refine ji ?_|refine jj ?_|refine jk ?_|refine jl ?_|refine jm ?_|refine jn ?_|refine jo ?_|refine jp ?_|refine jq ?_|refine jr ?_|refine js ?_|refine jt ?_|refine ju ?_|refine jv ?_|refine jw ?_|refine jx ?_|refine jy ?_|refine jz ?_|refine jA ?_|refine jB ?_|refine jC ?_|refine jD ?_|refine jE ?_|refine jF ?_|refine jG ?_|refine jH ?_|refine jI ?_|refine jJ ?_|refine jK ?_|refine jL ?_|refine jM (by assumption) ?_|refine jN (by assumption) rfl ?_|refine jO (by assumption) ?_|refine jP (by assumption) rfl ?_|refine jQ ?_|refine jR ?_|refine jS ?_|refine jT ?_|refine jU (by assumption) rfl ?_))
    refine M.idxLV_i (hr.keep k1 (fun _ _ _ h => h)) rfl (by omega) (by omega) (x := x) (by rw [Int.toNat_natCast]; exact hx) (fun bb oo hA hcc => ?_)
    (repeat (first|refine ja ?_|refine jb ?_|refine jc ?_|refine jd ?_|refine je ?_|refine jf ?_|refine jg ?_|refine jh ?_|refine ji ?_|refine jj ?_|refine jk ?_|refine jl ?_|refine jm ?_|refine jn ?_|refine jo ?_|refine jp ?_|refine jq ?_|refine jr ?_|refine js ?_|refine jt ?_|refine ju ?_|refine jv ?_|refine jw ?_|refine jx ?_|refine jy ?_|refine jz ?_|refine jA ?_|refine jB ?_|refine jC ?_|refine jD ?_|refine jE ?_|refine jF ?_|refine jG ?_|refine jH ?_|refine jI ?_|refine jJ ?_|refine jK ?_|refine jL ?_|refine jM (by assumption) ?_|refine jN (by assumption) rfl ?_|refine jO (by assumption) ?_|refine jP (by assumption) rfl ?_|refine jQ ?_|refine jR ?_|refine jS ?_|refine jT ?_|refine jU (by assumption) rfl ?_))
    refine M.call_i (rnot_ret (hJ x (List.mem_of_getElem? hx)).1 w1) ?_; rintro _ w2 ⟨rfl, k2⟩
    refine M.buildSlice_i [vi (notOf x)] (by kernel_rfl) (fun w3 b3 k3 s3 => ?_)
    have k13 := (k1.trans k2 (fun _ _ h => h)).trans k3 (fun _ _ h => h)
    refine M.append1_i ((g1.keep k2 (fun _ _ _ h => h)).keep k3 (fun _ _ _ h => h)) (Row.of_blk' (D := fun _ => True) b3 trivial) rfl (by rw [List.length_map, List.length_take]; omega) (fun v4 w4 g4 k4 => ?_)
    have q1 := k1.size
    have q3 := k13.size
    (repeat (first|refine ja ?_|refine jb ?_|refine jc ?_|refine jd ?_|refine je ?_|refine jf ?_|refine jg ?_|refine jh ?_|refine ji ?_|refine jj ?_|refine jk ?_|refine jl ?_|refine jm ?_|refine jn ?_|refine jo ?_|refine jp ?_|refine jq ?_|refine jr ?_|refine js ?_|refine jt ?_|refine ju ?_|refine jv ?_|refine jw ?_|refine jx ?_|refine jy ?_|refine jz ?_|refine jA ?_|refine jB ?_|refine jC ?_|refine jD ?_|refine jE ?_|refine jF ?_|refine jG ?_|refine jH ?_|refine jI ?_|refine jJ ?_|refine jK ?_|refine jL ?_|refine jM (by assumption) ?_|refine jN (by assumption) rfl ?_|refine jO (by assumption) ?_|refine jP (by assumption) rfl ?_|refine jQ ?_|refine jR ?_|refine jS ?_|refine jT ?_|refine jU (by assumption) rfl ?_))
    refine hK (i + 1) _ _ (by omega) ⟨v4, rfl, by omega, ?_, k13.trans k4 (fun y hy e => by omega)⟩
    rw [et]
    exact g4.mono (fun y hy e => by omega)
  · have e : i = c.length := by omega
    subst e
    rw [List.take_length] at g1
    (repeat (first|refine ja ?_|refine jb ?_|refine jc ?_|refine jd ?_|refine je ?_|refine jf ?_|refine jg ?_|refine jh ?_|refine ji ?_|refine jj ?_|refine jk ?_|refine jl ?_|refine jm ?_|refine jn ?_|refine jo ?_|refine jp ?_|refine jq ?_|refine jr ?_|refine js ?_|refine jt ?_|refine ju ?_|refine jv ?_|refine jw ?_|refine jx ?_|refine jy ?_|refine jz ?_|refine jA ?_|refine jB ?_|refine jC ?_|refine jD ?_|refine jE ?_|refine jF ?_|refine jG ?_|refine jH ?_|refine jI ?_|refine jJ ?_|refine jK ?_|refine jL ?_|refine jM (by assumption) ?_|refine jN (by assumption) rfl ?_|refine jO (by assumption) ?_|refine jP (by assumption) rfl ?_|refine jQ ?_|refine jR ?_|refine jS ?_|refine jT ?_|refine jU (by assumption) rfl ?_))
    refine M.call_i (rclose_ret (hl.keep k1 (fun _ _ _ h => h)) (GI.lv g1) hf hfl hI (fun y hy => by obtain ⟨z, hz, rfl⟩ := List.mem_map.1 hy; have := hJ z hz; have := notOf_lt (n := 2000000) this.2.1 (by omega); have := (notOf_nn (hJ z hz).2.1).1; exact ⟨by omega, by omega⟩)) ?_; rintro _ w2 ⟨o, out, k, rfl, hc, g2, k2⟩
    refine M.extract_i rfl ?_
    refine M.extract_i rfl ?_
    refine M.not_i ?_
    exact ⟨⟨out, k, rfl, hc⟩, k1.trans k2 (fun _ _ h => h)⟩
theorem lastL_mem (t : Tr) (l : List (List Int)) : ∀ (es : List Int) (m m' : LS) (x : Int), lastL t l es m = (m', some x) → x ∈ es
  | [], m, m', x, h => by simp [lastL] at h
  | y :: es, m, m', x, h => by
    rw [lastL_cons] at h
    split at h
    · exact List.mem_cons_of_mem _ (lastL_mem t l es m m' x h)
    · split at h
      · simp at h; rw [h.2]; exact List.mem_cons_self
      · split at h
        · simp at h
        · split at h
          · exact List.mem_cons_of_mem _ (lastL_mem t l es _ m' x h)
          · simp at h
section
variable {t : Tr}
/-- Behind Back: what was at that level, or below, is there. -/
theorem back_has {n : Int} (hf : t.Fine) (lv : t.Lv) (h0 : 0 ≤ n) (h1 : n < (t.begins.length : Int)) {e : Ent} (he : e ∈ t.L) : e ∈ (t.back n).1.L ↔ e.lev ≤ n := by
  have hb : ∃ fr, t.begins[n.toNat]? = some fr := ⟨_, List.getElem?_eq_getElem (by omega)⟩
  obtain ⟨fr, hfr⟩ := hb
  obtain ⟨i, hi⟩ := List.mem_iff_getElem?.1 he
  have hl := (lv i e hi).2.2 _ _ hfr
  have hL : (t.back n).1.L = t.L.take fr.toNat := by
    unfold Tr.back
    rw [if_neg (by omega), hfr]
  rw [hL]
  constructor
  · intro hm
    obtain ⟨j, hj⟩ := List.mem_iff_getElem?.1 hm
    have hlt := (List.getElem?_eq_some_iff.1 hj).1
    rw [List.length_take] at hlt
    rw [List.getElem?_take, if_pos (by omega)] at hj
    have := (hf.uniq hi hj rfl).1
    omega
  · intro hle
    have : ¬ fr ≤ i := by omega
    exact List.mem_of_getElem? (i := i) (by rw [List.getElem?_take, if_pos (by omega)]; exact hi)
theorem back_sub (n : Int) {e : Ent} (he : e ∈ (t.back n).1.L) : e ∈ t.L := by
  unfold Tr.back at he
  split at he
  · exact he
  · split at he
    · exact he
    · exact List.mem_of_mem_take he
theorem eqB_same {k : Kt} {w : World} {b : Bool} (h : k (.bool false) w) : M.eqB true (.bool b) (.bool b) k w := by
  cases b <;> exact M.eqB_i h
set_option maxHeartbeats 4000000 in
theorem learned_ret {w : World} {p : Nat} {lab : Nat → Nat} {D : Nat → Prop} {u : Value} {l : List (List Int)} {c : List Int} {ci : Int} (hT : TRep w p lab t) (hv : t.vars ≤ 20) (lv : t.Lv) (hw : Why t l) (hl : LL w D u l) (hlc : ∀ c ∈ l, c.length ≤ 1000) (hll : l.length ≤ 1000) (hfl : l.flatten.length ≤ 1000000) (hI : ∀ d ∈ l, ∀ x ∈ d, I64 x)
    (h0 : 0 ≤ ci) (hci : l[ci.toNat]? = some c) (hN : t.begins.length ≠ 0) (hc : ∀ y ∈ c, t.val y = -1) (hex : ∃ y ∈ c, t.lev (varOf y) = (t.begins.length : Int)) :
    Ret Try.prog 15 #[ptr p, u, vi ci] w (fun r w' => r = .bool true ∧ Keep w w' (fun b => lab b ≠ 0)) := by
  have hf := trep_fine hT
  obtain ⟨out, back, vs, hlearn, ⟨x, os, hout, hx0, hxh, hxl, hos⟩, ⟨hb0, hb1⟩, hbot, holen⟩ := learn_ok hf (by omega) lv hw h0 hci hN hc hex
  have hxr : x < 2097152 := by
    obtain ⟨e, he, hex⟩ := hxh
    have := hf.mem he
    rw [hex] at this
    omega
  have hnx := notOf_nn hx0
  have hbl : t.begins.length ≤ 100 := by
    obtain ⟨_, _, _, ok⟩ := hf
    have := ok.lbeg
    have := ok.llen
    omega
  have hx1 : t.val (notOf x) = -1 := hf.of_not hnx.1 (by rw [hnx.2.2.2]; exact hxh)
  have hvx : varOf (notOf x) = varOf x := by
    unfold varOf
    rw [if_neg (by omega), if_neg (by omega), hnx.2.1]
  have hall : ∀ y ∈ out, t.val y = -1 ∧ 0 ≤ y ∧ y < 2097152 := fun y hy => by
    have hval : t.val y = -1 := by
      rw [hout] at hy
      rcases List.mem_cons.1 hy with rfl | hy
      · exact hx1
      · exact (hos y hy).1
    obtain ⟨hy0, e, he, hel, _⟩ := hf.neg hval
    have h1 := hf.mem he
    have h2 := notOf_nn hy0
    rw [hel] at h1
    exact ⟨hval, hy0, by omega⟩
  have hI64 : ∀ y ∈ out, I64 y := fun y hy => by have := hall y hy; exact ⟨by omega, by omega⟩
  have hlevi : ∀ (i : Nat) y, out[i]? = some y → (i = 0 → t.lev (varOf y) = (t.begins.length : Int)) ∧ (0 < i → t.lev (varOf y) ≤ back) ∧ 1 ≤ t.lev (varOf y) := fun i y hy => by
    rw [hout] at hy
    cases i with
    | zero =>
      simp only [List.getElem?_cons_zero, Option.some.injEq] at hy
      subst hy
      rw [hvx]
      exact ⟨fun _ => hxl, fun h => by omega, by omega⟩
    | succ i =>
      have := hos y (List.mem_of_getElem? (by simpa using hy))
      exact ⟨fun h => by omega, fun _ => this.2.2, this.2.1⟩
  refine ok15 _ _ _ _ _ ?_
  unfold sh15
  have hO : ∀ m y, lastL t l (t.L.map (·.lit)).reverse (meetL t (-1) (l.getD ci.toNat []) ⟨[], [], 0⟩).1 = (m, some y) → I64 y := fun m y hm => by
    have := lastL_mem t l _ _ _ _ hm
    rw [List.mem_reverse, List.mem_map] at this
    obtain ⟨e, he, rfl⟩ := this
    have h1 := hf.mem he
    exact ⟨by omega, by omega⟩
  refine M.call_i (learn_ret hT hf (by omega) hl hlc (by omega) ci hO) ?_; rintro r1 w1 g1
  rw [hlearn] at g1
  obtain ⟨⟨va, vb, rfl, ga, gb⟩, k1⟩ := g1
  refine M.extract_i (v := va) rfl ?_
  refine M.extract_i (v := vi back) rfl ?_
  refine M.extract_i (v := vb) rfl ?_
  refine M.extract_i (v := .bool true) rfl ?_
  have ga' := GI.lv ga
  obtain ⟨Aa, ca, rfl, hra, _⟩ := id ga'
  have ho1 : 1 ≤ out.length := by rw [hout]; simp
  have h1 := hT.keep k1 (fun _ _ _ h => h)
  (repeat (first|refine ja ?_|refine jb ?_|refine jc ?_|refine jd ?_|refine je ?_|refine jf ?_|refine jg ?_|refine jh ?_|refine ji ?_|refine jj ?_|refine jk ?_|refine jl ?_|refine jm ?_|refine jn ?_|refine jo ?_|refine jp ?_|refine jq ?_|refine jr ?_|refine js ?_|refine jt ?_|refine ju ?_|refine jv ?_|refine jw ?_|refine jx ?_|refine jy ?_|refine jz ?_|refine jA ?_|refine jB ?_|refine jC ?_|refine jD ?_|refine jE ?_|refine jF ?_|refine jG ?_|refine jH ?_|refine jI ?_|refine jJ ?_|refine jK ?_|refine jL ?_|refine jM (by assumption) ?_|refine jN (by assumption) rfl ?_|refine jO (by assumption) ?_|refine jP (by assumption) rfl ?_|refine jQ ?_|refine jR ?_|refine jS ?_|refine jT ?_|refine jU (by assumption) rfl ?_))
  refine M.call_i (levels_ret h1) ?_; rintro _ w2 ⟨rfl, k2⟩
  (repeat (first|refine ja ?_|refine jb ?_|refine jc ?_|refine jd ?_|refine je ?_|refine jf ?_|refine jg ?_|refine jh ?_|refine ji ?_|refine jj ?_|refine jk ?_|refine jl ?_|refine jm ?_|refine jn ?_|refine jo ?_|refine jp ?_|refine jq ?_|refine jr ?_|refine js ?_|refine jt ?_|refine ju ?_|refine jv ?_|refine jw ?_|refine jx ?_|refine jy ?_|refine jz ?_|refine jA ?_|refine jB ?_|refine jC ?_|refine jD ?_|refine jE ?_|refine jF ?_|refine jG ?_|refine jH ?_|refine jI ?_|refine jJ ?_|refine jK ?_|refine jL ?_|refine jM (by assumption) ?_|refine jN (by assumption) rfl ?_|refine jO (by assumption) ?_|refine jP (by assumption) rfl ?_|refine jQ ?_|refine jR ?_|refine jS ?_|refine jT ?_|refine jU (by assumption) rfl ?_))
  have k12 := k1.trans k2 (fun _ _ h => h)
  have hfew : FewL l (out.map notOf) := by unfold FewL; rw [List.length_append, List.length_map]; omega
  refine M.call_i (step_ret (hl.keep k12 (fun _ _ _ h => h)) (ga'.keep k2 (fun _ _ _ h => h)) hfew (by omega) (by omega) hI (fun y hy => ⟨hI64 y hy, (hall y hy).2.1, by have := (hall y hy).2.2; omega⟩)) ?_; rintro _ w3 ⟨⟨o3, k3', rfl, hcr⟩, k3⟩
  obtain ⟨_, rfl⟩ := hcr.uniq (CloseR.no hbot)
  have k03 := k12.trans k3 (fun _ _ h => h)
  have h3 := hT.keep k03 (fun _ _ _ h => h)
  have hr3 := hra.keep (k2.trans k3 (fun _ _ h => h)) (fun _ _ _ h => h)
  (repeat (first|refine ja ?_|refine jb ?_|refine jc ?_|refine jd ?_|refine je ?_|refine jf ?_|refine jg ?_|refine jh ?_|refine ji ?_|refine jj ?_|refine jk ?_|refine jl ?_|refine jm ?_|refine jn ?_|refine jo ?_|refine jp ?_|refine jq ?_|refine jr ?_|refine js ?_|refine jt ?_|refine ju ?_|refine jv ?_|refine jw ?_|refine jx ?_|refine jy ?_|refine jz ?_|refine jA ?_|refine jB ?_|refine jC ?_|refine jD ?_|refine jE ?_|refine jF ?_|refine jG ?_|refine jH ?_|refine jI ?_|refine jJ ?_|refine jK ?_|refine jL ?_|refine jM (by assumption) ?_|refine jN (by assumption) rfl ?_|refine jO (by assumption) ?_|refine jP (by assumption) rfl ?_|refine jQ ?_|refine jR ?_|refine jS ?_|refine jT ?_|refine jU (by assumption) rfl ?_))
  refine M.loop_i (σ := Nat) (fun i vals w' => vals = [vi i] ∧ i ≤ out.length ∧ Keep w3 w' No) (fun i => out.length - i) 0 ⟨rfl, by omega, Keep.refl _ _⟩ ?_
  rintro i vals w4 K ⟨rfl, hi, k4⟩ hK _
  simp only [List.getD_cons_zero, List.getD_cons_succ]
  have h4 := h3.keep k4 (fun _ _ _ h => h)
  have hr4 := hr3.keep k4 (fun _ _ _ h => h)
  by_cases hlt : i < out.length
  · obtain ⟨y, hy⟩ : ∃ y, out[i]? = some y := ⟨_, List.getElem?_eq_getElem hlt⟩
    have hyi : out[((i : Nat) : Int).toNat]? = some y := by rw [Int.toNat_natCast]; exact hy
    have hym := List.mem_of_getElem? hy
    obtain ⟨l1, l2, l3⟩ := hlevi i y hy
    (repeat (first|refine ja ?_|refine jb ?_|refine jc ?_|refine jd ?_|refine je ?_|refine jf ?_|refine jg ?_|refine jh ?_|refine ji ?_|refine jj ?_|refine jk ?_|refine jl ?_|refine jm ?_|refine jn ?_|refine jo ?_|refine jp ?_|refine jq ?_|refine jr ?_|refine js ?_|refine jt ?_|refine ju ?_|refine jv ?_|refine jw ?_|refine jx ?_|refine jy ?_|refine jz ?_|refine jA ?_|refine jB ?_|refine jC ?_|refine jD ?_|refine jE ?_|refine jF ?_|refine jG ?_|refine jH ?_|refine jI ?_|refine jJ ?_|refine jK ?_|refine jL ?_|refine jM (by assumption) ?_|refine jN (by assumption) rfl ?_|refine jO (by assumption) ?_|refine jP (by assumption) rfl ?_|refine jQ ?_|refine jR ?_|refine jS ?_|refine jT ?_|refine jU (by assumption) rfl ?_))
    refine M.idxLV_i hr4 rfl (by omega) (by omega) hyi (fun bb oo hA hcc => ?_)
    (repeat (first|refine ja ?_|refine jb ?_|refine jc ?_|refine jd ?_|refine je ?_|refine jf ?_|refine jg ?_|refine jh ?_|refine ji ?_|refine jj ?_|refine jk ?_|refine jl ?_|refine jm ?_|refine jn ?_|refine jo ?_|refine jp ?_|refine jq ?_|refine jr ?_|refine js ?_|refine jt ?_|refine ju ?_|refine jv ?_|refine jw ?_|refine jx ?_|refine jy ?_|refine jz ?_|refine jA ?_|refine jB ?_|refine jC ?_|refine jD ?_|refine jE ?_|refine jF ?_|refine jG ?_|refine jH ?_|refine jI ?_|refine jJ ?_|refine jK ?_|refine jL ?_|refine jM (by assumption) ?_|refine jN (by assumption) rfl ?_|refine jO (by assumption) ?_|refine jP (by assumption) rfl ?_|refine jQ ?_|refine jR ?_|refine jS ?_|refine jT ?_|refine jU (by assumption) rfl ?_))
    refine M.call_i (rvar_ret (hI64 y hym) w4) ?_; rintro _ w5 ⟨rfl, k5⟩
    have h5 := h4.keep k5 (fun _ _ _ h => h)
    refine M.call_i (level_ret h5 (varOf y)) ?_; rintro _ w6 ⟨rfl, k6⟩
    have h6 := h5.keep k6 (fun _ _ _ h => h)
    have hr6 := (hr4.keep k5 (fun _ _ _ h => h)).keep k6 (fun _ _ _ h => h)
    refine M.idxLV_i hr6 rfl (by omega) (by omega) hyi (fun bb oo hA hcc => ?_)
    (repeat (first|refine ja ?_|refine jb ?_|refine jc ?_|refine jd ?_|refine je ?_|refine jf ?_|refine jg ?_|refine jh ?_|refine ji ?_|refine jj ?_|refine jk ?_|refine jl ?_|refine jm ?_|refine jn ?_|refine jo ?_|refine jp ?_|refine jq ?_|refine jr ?_|refine js ?_|refine jt ?_|refine ju ?_|refine jv ?_|refine jw ?_|refine jx ?_|refine jy ?_|refine jz ?_|refine jA ?_|refine jB ?_|refine jC ?_|refine jD ?_|refine jE ?_|refine jF ?_|refine jG ?_|refine jH ?_|refine jI ?_|refine jJ ?_|refine jK ?_|refine jL ?_|refine jM (by assumption) ?_|refine jN (by assumption) rfl ?_|refine jO (by assumption) ?_|refine jP (by assumption) rfl ?_|refine jQ ?_|refine jR ?_|refine jS ?_|refine jT ?_|refine jU (by assumption) rfl ?_))
    refine M.call_i (value_ret h6 y) ?_; rintro _ w7 ⟨rfl, k7⟩
    rw [(hall y hym).1]
    have h7 := h6.keep k7 (fun _ _ _ h => h)
    (repeat (first|refine ja ?_|refine jb ?_|refine jc ?_|refine jd ?_|refine je ?_|refine jf ?_|refine jg ?_|refine jh ?_|refine ji ?_|refine jj ?_|refine jk ?_|refine jl ?_|refine jm ?_|refine jn ?_|refine jo ?_|refine jp ?_|refine jq ?_|refine jr ?_|refine js ?_|refine jt ?_|refine ju ?_|refine jv ?_|refine jw ?_|refine jx ?_|refine jy ?_|refine jz ?_|refine jA ?_|refine jB ?_|refine jC ?_|refine jD ?_|refine jE ?_|refine jF ?_|refine jG ?_|refine jH ?_|refine jI ?_|refine jJ ?_|refine jK ?_|refine jL ?_|refine jM (by assumption) ?_|refine jN (by assumption) rfl ?_|refine jO (by assumption) ?_|refine jP (by assumption) rfl ?_|refine jQ ?_|refine jR ?_|refine jS ?_|refine jT ?_|refine jU (by assumption) rfl ?_|refine jG ?_ (by decide)|refine jH ?_ (by decide)|refine jI ?_ (by decide)|refine jJ ?_ (by decide)|refine jC ?_ (by decide)|refine jy ?_ (by decide)))
    refine M.call_i (levels_ret h7) ?_; rintro _ w8 ⟨rfl, k8⟩
    have k48 := (((k4.trans k5 (fun _ _ h => h)).trans k6 (fun _ _ h => h)).trans k7 (fun _ _ h => h)).trans k8 (fun _ _ h => h)
    by_cases hi0 : i = 0
    · have l1 := l1 hi0
      subst hi0
      (repeat (first|refine ja ?_|refine jb ?_|refine jc ?_|refine jd ?_|refine je ?_|refine jf ?_|refine jg ?_|refine jh ?_|refine ji ?_|refine jj ?_|refine jk ?_|refine jl ?_|refine jm ?_|refine jn ?_|refine jo ?_|refine jp ?_|refine jq ?_|refine jr ?_|refine js ?_|refine jt ?_|refine ju ?_|refine jv ?_|refine jw ?_|refine jx ?_|refine jy ?_|refine jz ?_|refine jA ?_|refine jB ?_|refine jC ?_|refine jD ?_|refine jE ?_|refine jF ?_|refine jG ?_|refine jH ?_|refine jI ?_|refine jJ ?_|refine jK ?_|refine jL ?_|refine jM (by assumption) ?_|refine jN (by assumption) rfl ?_|refine jO (by assumption) ?_|refine jP (by assumption) rfl ?_|refine jQ ?_|refine jR ?_|refine jS ?_|refine jT ?_|refine jU (by assumption) rfl ?_|refine jG ?_ (by decide)|refine jH ?_ (by decide)|refine jI ?_ (by decide)|refine jJ ?_ (by decide)|refine jC ?_ (by decide)|refine jy ?_ (by decide)))
      refine eqB_same ?_
      (repeat (first|refine ja ?_|refine jb ?_|refine jc ?_|refine jd ?_|refine je ?_|refine jf ?_|refine jg ?_|refine jh ?_|refine ji ?_|refine jj ?_|refine jk ?_|refine jl ?_|refine jm ?_|refine jn ?_|refine jo ?_|refine jp ?_|refine jq ?_|refine jr ?_|refine js ?_|refine jt ?_|refine ju ?_|refine jv ?_|refine jw ?_|refine jx ?_|refine jy ?_|refine jz ?_|refine jA ?_|refine jB ?_|refine jC ?_|refine jD ?_|refine jE ?_|refine jF ?_|refine jG ?_|refine jH ?_|refine jI ?_|refine jJ ?_|refine jK ?_|refine jL ?_|refine jM (by assumption) ?_|refine jN (by assumption) rfl ?_|refine jO (by assumption) ?_|refine jP (by assumption) rfl ?_|refine jQ ?_|refine jR ?_|refine jS ?_|refine jT ?_|refine jU (by assumption) rfl ?_|refine jG ?_ (by decide)|refine jH ?_ (by decide)|refine jI ?_ (by decide)|refine jJ ?_ (by decide)|refine jC ?_ (by decide)|refine jy ?_ (by decide)))
      exact hK 1 _ _ (by omega) ⟨rfl, by omega, k48⟩
    · have l2 := l2 (by omega)
      (repeat (first|refine ja ?_|refine jb ?_|refine jc ?_|refine jd ?_|refine je ?_|refine jf ?_|refine jg ?_|refine jh ?_|refine ji ?_|refine jj ?_|refine jk ?_|refine jl ?_|refine jm ?_|refine jn ?_|refine jo ?_|refine jp ?_|refine jq ?_|refine jr ?_|refine js ?_|refine jt ?_|refine ju ?_|refine jv ?_|refine jw ?_|refine jx ?_|refine jy ?_|refine jz ?_|refine jA ?_|refine jB ?_|refine jC ?_|refine jD ?_|refine jE ?_|refine jF ?_|refine jG ?_|refine jH ?_|refine jI ?_|refine jJ ?_|refine jK ?_|refine jL ?_|refine jM (by assumption) ?_|refine jN (by assumption) rfl ?_|refine jO (by assumption) ?_|refine jP (by assumption) rfl ?_|refine jQ ?_|refine jR ?_|refine jS ?_|refine jT ?_|refine jU (by assumption) rfl ?_))
      refine eqB_same ?_
      (repeat (first|refine ja ?_|refine jb ?_|refine jc ?_|refine jd ?_|refine je ?_|refine jf ?_|refine jg ?_|refine jh ?_|refine ji ?_|refine jj ?_|refine jk ?_|refine jl ?_|refine jm ?_|refine jn ?_|refine jo ?_|refine jp ?_|refine jq ?_|refine jr ?_|refine js ?_|refine jt ?_|refine ju ?_|refine jv ?_|refine jw ?_|refine jx ?_|refine jy ?_|refine jz ?_|refine jA ?_|refine jB ?_|refine jC ?_|refine jD ?_|refine jE ?_|refine jF ?_|refine jG ?_|refine jH ?_|refine jI ?_|refine jJ ?_|refine jK ?_|refine jL ?_|refine jM (by assumption) ?_|refine jN (by assumption) rfl ?_|refine jO (by assumption) ?_|refine jP (by assumption) rfl ?_|refine jQ ?_|refine jR ?_|refine jS ?_|refine jT ?_|refine jU (by assumption) rfl ?_))
      exact hK (i + 1) _ _ (by omega) ⟨by simp, by omega, k48⟩
  · (repeat (first|refine ja ?_|refine jb ?_|refine jc ?_|refine jd ?_|refine je ?_|refine jf ?_|refine jg ?_|refine jh ?_|refine ji ?_|refine jj ?_|refine jk ?_|refine jl ?_|refine jm ?_|refine jn ?_|refine jo ?_|refine jp ?_|refine jq ?_|refine jr ?_|refine js ?_|refine jt ?_|refine ju ?_|refine jv ?_|refine jw ?_|refine jx ?_|refine jy ?_|refine jz ?_|refine jA ?_|refine jB ?_|refine jC ?_|refine jD ?_|refine jE ?_|refine jF ?_|refine jG ?_|refine jH ?_|refine jI ?_|refine jJ ?_|refine jK ?_|refine jL ?_|refine jM (by assumption) ?_|refine jN (by assumption) rfl ?_|refine jO (by assumption) ?_|refine jP (by assumption) rfl ?_|refine jQ ?_|refine jR ?_|refine jS ?_|refine jT ?_|refine jU (by assumption) rfl ?_))
    refine M.call_i (back_ret h4 back) ?_; rintro _ w5 ⟨_, h5, k5⟩
    have hf5 := trep_fine h5
    have hr5 := hr4.keep k5 (fun y _ e e2 => by
      have e : w.heap.size ≤ y := e
      have := tr_lt hT e2
      omega)
    have hval : ∀ (i : Nat) y, out[i]? = some y → (i = 0 → (t.back back).1.val y = 0) ∧ (0 < i → (t.back back).1.val y = -1) := fun i y hy => by
      have hym := List.mem_of_getElem? hy
      obtain ⟨hyv, hy0, _⟩ := hall y hym
      obtain ⟨l1, l2, l3⟩ := hlevi i y hy
      obtain ⟨_, e, he, hel, hve⟩ := hf.neg hyv
      have hle := hf.levE he
      refine ⟨fun hi0 => ?_, fun hi0 => ?_⟩
      · have l1 := l1 hi0
        rcases hf5.val hy0 with ⟨_, f, hf', hfl⟩ | ⟨_, f, hf', hfl⟩ | ⟨h, _⟩
        · exfalso
          exact hf.not (x := y) ⟨f, back_sub _ hf', hfl⟩ ⟨e, he, hel⟩
        · exfalso
          have hfm := back_sub _ hf'
          have h9 := (back_has hf lv hb0 hb1 hfm).1 hf'
          have h8 : f.lev = t.lev (varOf y) := by
            rw [← hf.levE hfm]
            congr 1
            rw [hve]
            unfold vE
            rw [hfl, hel]
          omega
        · exact h
      · have l2 := l2 hi0
        refine hf5.of_not hy0 ⟨e, (back_has hf lv hb0 hb1 he).2 ?_, hel⟩
        rw [← hle, ← hve]; exact l2
    have k05 : Keep w w5 (fun b => lab b ≠ 0) := ((k03.trans k4 (fun _ _ h => h)).mono (fun _ _ e => e.elim)).trans k5 (fun _ _ e => e)
    refine M.loop_i (σ := Nat) (fun i vals w' => vals = [vi i] ∧ i ≤ out.length ∧ Keep w5 w' No) (fun i => out.length - i) 0 ⟨rfl, by omega, Keep.refl _ _⟩ ?_
    rintro j vals w6 K2 ⟨rfl, hj, k6⟩ hK2 _
    simp only [List.getD_cons_zero, List.getD_cons_succ]
    have h6 := h5.keep k6 (fun _ _ _ h => h)
    have hr6 := hr5.keep k6 (fun _ _ _ h => h)
    by_cases hlt2 : j < out.length
    · obtain ⟨y, hy⟩ : ∃ y, out[j]? = some y := ⟨_, List.getElem?_eq_getElem hlt2⟩
      have hyi : out[((j : Nat) : Int).toNat]? = some y := by rw [Int.toNat_natCast]; exact hy
      (repeat (first|refine ja ?_|refine jb ?_|refine jc ?_|refine jd ?_|refine je ?_|refine jf ?_|refine jg ?_|refine jh ?_|refine ji ?_|refine jj ?_|refine jk ?_|refine jl ?_|refine jm ?_|refine jn ?_|refine jo ?_|refine jp ?_|refine jq ?_|refine jr ?_|refine js ?_|refine jt ?_|refine ju ?_|refine jv ?_|refine jw ?_|refine jx ?_|refine jy ?_|refine jz ?_|refine jA ?_|refine jB ?_|refine jC ?_|refine jD ?_|refine jE ?_|refine jF ?_|refine jG ?_|refine jH ?_|refine jI ?_|refine jJ ?_|refine jK ?_|refine jL ?_|refine jM (by assumption) ?_|refine jN (by assumption) rfl ?_|refine jO (by assumption) ?_|refine jP (by assumption) rfl ?_|refine jQ ?_|refine jR ?_|refine jS ?_|refine jT ?_|refine jU (by assumption) rfl ?_))
      refine M.idxLV_i hr6 rfl (by omega) (by omega) hyi (fun bb oo hA hcc => ?_)
      (repeat (first|refine ja ?_|refine jb ?_|refine jc ?_|refine jd ?_|refine je ?_|refine jf ?_|refine jg ?_|refine jh ?_|refine ji ?_|refine jj ?_|refine jk ?_|refine jl ?_|refine jm ?_|refine jn ?_|refine jo ?_|refine jp ?_|refine jq ?_|refine jr ?_|refine js ?_|refine jt ?_|refine ju ?_|refine jv ?_|refine jw ?_|refine jx ?_|refine jy ?_|refine jz ?_|refine jA ?_|refine jB ?_|refine jC ?_|refine jD ?_|refine jE ?_|refine jF ?_|refine jG ?_|refine jH ?_|refine jI ?_|refine jJ ?_|refine jK ?_|refine jL ?_|refine jM (by assumption) ?_|refine jN (by assumption) rfl ?_|refine jO (by assumption) ?_|refine jP (by assumption) rfl ?_|refine jQ ?_|refine jR ?_|refine jS ?_|refine jT ?_|refine jU (by assumption) rfl ?_))
      refine M.call_i (value_ret h6 y) ?_; rintro _ w7 ⟨rfl, k7⟩
      by_cases hj0 : j = 0
      · rw [(hval j y hy).1 hj0]
        subst hj0
        (repeat (first|refine ja ?_|refine jb ?_|refine jc ?_|refine jd ?_|refine je ?_|refine jf ?_|refine jg ?_|refine jh ?_|refine ji ?_|refine jj ?_|refine jk ?_|refine jl ?_|refine jm ?_|refine jn ?_|refine jo ?_|refine jp ?_|refine jq ?_|refine jr ?_|refine js ?_|refine jt ?_|refine ju ?_|refine jv ?_|refine jw ?_|refine jx ?_|refine jy ?_|refine jz ?_|refine jA ?_|refine jB ?_|refine jC ?_|refine jD ?_|refine jE ?_|refine jF ?_|refine jG ?_|refine jH ?_|refine jI ?_|refine jJ ?_|refine jK ?_|refine jL ?_|refine jM (by assumption) ?_|refine jN (by assumption) rfl ?_|refine jO (by assumption) ?_|refine jP (by assumption) rfl ?_|refine jQ ?_|refine jR ?_|refine jS ?_|refine jT ?_|refine jU (by assumption) rfl ?_|refine jG ?_ (by decide)|refine jH ?_ (by decide)|refine jI ?_ (by decide)|refine jJ ?_ (by decide)|refine jC ?_ (by decide)|refine jy ?_ (by decide)))
        refine eqB_same ?_
        (repeat (first|refine ja ?_|refine jb ?_|refine jc ?_|refine jd ?_|refine je ?_|refine jf ?_|refine jg ?_|refine jh ?_|refine ji ?_|refine jj ?_|refine jk ?_|refine jl ?_|refine jm ?_|refine jn ?_|refine jo ?_|refine jp ?_|refine jq ?_|refine jr ?_|refine js ?_|refine jt ?_|refine ju ?_|refine jv ?_|refine jw ?_|refine jx ?_|refine jy ?_|refine jz ?_|refine jA ?_|refine jB ?_|refine jC ?_|refine jD ?_|refine jE ?_|refine jF ?_|refine jG ?_|refine jH ?_|refine jI ?_|refine jJ ?_|refine jK ?_|refine jL ?_|refine jM (by assumption) ?_|refine jN (by assumption) rfl ?_|refine jO (by assumption) ?_|refine jP (by assumption) rfl ?_|refine jQ ?_|refine jR ?_|refine jS ?_|refine jT ?_|refine jU (by assumption) rfl ?_|refine jG ?_ (by decide)|refine jH ?_ (by decide)|refine jI ?_ (by decide)|refine jJ ?_ (by decide)|refine jC ?_ (by decide)|refine jy ?_ (by decide)))
        exact hK2 1 _ _ (by omega) ⟨rfl, by omega, k6.trans k7 (fun _ _ h => h)⟩
      · rw [(hval j y hy).2 (by omega)]
        (repeat (first|refine ja ?_|refine jb ?_|refine jc ?_|refine jd ?_|refine je ?_|refine jf ?_|refine jg ?_|refine jh ?_|refine ji ?_|refine jj ?_|refine jk ?_|refine jl ?_|refine jm ?_|refine jn ?_|refine jo ?_|refine jp ?_|refine jq ?_|refine jr ?_|refine js ?_|refine jt ?_|refine ju ?_|refine jv ?_|refine jw ?_|refine jx ?_|refine jy ?_|refine jz ?_|refine jA ?_|refine jB ?_|refine jC ?_|refine jD ?_|refine jE ?_|refine jF ?_|refine jG ?_|refine jH ?_|refine jI ?_|refine jJ ?_|refine jK ?_|refine jL ?_|refine jM (by assumption) ?_|refine jN (by assumption) rfl ?_|refine jO (by assumption) ?_|refine jP (by assumption) rfl ?_|refine jQ ?_|refine jR ?_|refine jS ?_|refine jT ?_|refine jU (by assumption) rfl ?_|refine jG ?_ (by decide)|refine jH ?_ (by decide)|refine jI ?_ (by decide)|refine jJ ?_ (by decide)|refine jC ?_ (by decide)|refine jy ?_ (by decide)))
        refine eqB_same ?_
        (repeat (first|refine ja ?_|refine jb ?_|refine jc ?_|refine jd ?_|refine je ?_|refine jf ?_|refine jg ?_|refine jh ?_|refine ji ?_|refine jj ?_|refine jk ?_|refine jl ?_|refine jm ?_|refine jn ?_|refine jo ?_|refine jp ?_|refine jq ?_|refine jr ?_|refine js ?_|refine jt ?_|refine ju ?_|refine jv ?_|refine jw ?_|refine jx ?_|refine jy ?_|refine jz ?_|refine jA ?_|refine jB ?_|refine jC ?_|refine jD ?_|refine jE ?_|refine jF ?_|refine jG ?_|refine jH ?_|refine jI ?_|refine jJ ?_|refine jK ?_|refine jL ?_|refine jM (by assumption) ?_|refine jN (by assumption) rfl ?_|refine jO (by assumption) ?_|refine jP (by assumption) rfl ?_|refine jQ ?_|refine jR ?_|refine jS ?_|refine jT ?_|refine jU (by assumption) rfl ?_))
        exact hK2 (j + 1) _ _ (by omega) ⟨by simp, by omega, k6.trans k7 (fun _ _ h => h)⟩
    · obtain ⟨y, hy⟩ : ∃ y, out[0]? = some y := ⟨_, List.getElem?_eq_getElem (by omega)⟩
      (repeat (first|refine ja ?_|refine jb ?_|refine jc ?_|refine jd ?_|refine je ?_|refine jf ?_|refine jg ?_|refine jh ?_|refine ji ?_|refine jj ?_|refine jk ?_|refine jl ?_|refine jm ?_|refine jn ?_|refine jo ?_|refine jp ?_|refine jq ?_|refine jr ?_|refine js ?_|refine jt ?_|refine ju ?_|refine jv ?_|refine jw ?_|refine jx ?_|refine jy ?_|refine jz ?_|refine jA ?_|refine jB ?_|refine jC ?_|refine jD ?_|refine jE ?_|refine jF ?_|refine jG ?_|refine jH ?_|refine jI ?_|refine jJ ?_|refine jK ?_|refine jL ?_|refine jM (by assumption) ?_|refine jN (by assumption) rfl ?_|refine jO (by assumption) ?_|refine jP (by assumption) rfl ?_|refine jQ ?_|refine jR ?_|refine jS ?_|refine jT ?_|refine jU (by assumption) rfl ?_))
      refine M.idxLV_i hr6 rfl (by decide) (by omega) (x := y) hy (fun bb oo hA hcc => ?_)
      (repeat (first|refine ja ?_|refine jb ?_|refine jc ?_|refine jd ?_|refine je ?_|refine jf ?_|refine jg ?_|refine jh ?_|refine ji ?_|refine jj ?_|refine jk ?_|refine jl ?_|refine jm ?_|refine jn ?_|refine jo ?_|refine jp ?_|refine jq ?_|refine jr ?_|refine js ?_|refine jt ?_|refine ju ?_|refine jv ?_|refine jw ?_|refine jx ?_|refine jy ?_|refine jz ?_|refine jA ?_|refine jB ?_|refine jC ?_|refine jD ?_|refine jE ?_|refine jF ?_|refine jG ?_|refine jH ?_|refine jI ?_|refine jJ ?_|refine jK ?_|refine jL ?_|refine jM (by assumption) ?_|refine jN (by assumption) rfl ?_|refine jO (by assumption) ?_|refine jP (by assumption) rfl ?_|refine jQ ?_|refine jR ?_|refine jS ?_|refine jT ?_|refine jU (by assumption) rfl ?_))
      refine M.call_i (value_ret h6 y) ?_; rintro _ w7 ⟨rfl, k7⟩
      rw [(hval 0 y hy).1 rfl]
      (repeat (first|refine ja ?_|refine jb ?_|refine jc ?_|refine jd ?_|refine je ?_|refine jf ?_|refine jg ?_|refine jh ?_|refine ji ?_|refine jj ?_|refine jk ?_|refine jl ?_|refine jm ?_|refine jn ?_|refine jo ?_|refine jp ?_|refine jq ?_|refine jr ?_|refine js ?_|refine jt ?_|refine ju ?_|refine jv ?_|refine jw ?_|refine jx ?_|refine jy ?_|refine jz ?_|refine jA ?_|refine jB ?_|refine jC ?_|refine jD ?_|refine jE ?_|refine jF ?_|refine jG ?_|refine jH ?_|refine jI ?_|refine jJ ?_|refine jK ?_|refine jL ?_|refine jM (by assumption) ?_|refine jN (by assumption) rfl ?_|refine jO (by assumption) ?_|refine jP (by assumption) rfl ?_|refine jQ ?_|refine jR ?_|refine jS ?_|refine jT ?_|refine jU (by assumption) rfl ?_|refine jG ?_ (by decide)|refine jH ?_ (by decide)|refine jI ?_ (by decide)|refine jJ ?_ (by decide)|refine jC ?_ (by decide)|refine jy ?_ (by decide)))
      exact ⟨rfl, k05.trans (k6.trans k7 (fun _ _ h => h)) (fun _ _ e => e.elim)⟩
end
end Go.Proofs.Ytnmbgfonlpjicaa
