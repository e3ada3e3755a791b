import Derived.Test.YtanjlgafjgoaaaaGreatK10
namespace Go.Proofs.YtanjlgafjgoaaaaGreat
open Go.Mw
set_option linter.unusedVariables false
set_option linter.unusedSimpArgs false
set_option maxRecDepth 100000
attribute [local irreducible] M.val M.unit M.next M.pick M.new M.nilCheck M.load1 M.loadA M.store M.fieldAddr M.indexSl M.indexArr M.slice M.makeSlice M.buildSlice M.len M.lenS M.cap M.append M.extract M.conv M.not M.neg M.bin M.shift M.eqB M.eqNil M.scat M.call M.callv M.gd M.share M.cond M.loop M.draw pureW readW Ret
def sh29 (x0 x1 x2 : Value) (R : Kt) (w : World) : Prop :=
  M.new 48 (Value.cells x0) (fun t3 w =>
  M.new 61 (Value.cells x1) (fun t4 w =>
  M.new 48 #[.int .u64 0, .int .u64 0, .int .u64 0, .int .u64 0, .int .u64 0, .int .u64 0, .int .u64 0, .int .u64 0, .slice none 0 0, .int .i64 0, .int .i64 0, .int .i64 0, .int .i64 0, .int .i64 0, .int .u64 0, .slice none 0 0, .slice none 0 0, .int .i64 0] (fun t6 w =>
  M.fieldAddr 0 t4 (fun t11 w =>
  M.load1 t11 (fun t12 w =>
  M.share (fun K1 w =>
  M.bin .eql t12 (Value.int IntKind.i64 10) (fun t18 w =>
  M.cond t18
  (M.draw (fun w =>
  M.fieldAddr 15 t3 (fun t20 w =>
  M.loadA 3 t20 (fun t21 w =>
  M.fieldAddr 2 t4 (fun t22 w =>
  M.load1 t22 (fun t23 w =>
  M.fieldAddr 0 t3 (fun t24 w =>
  M.indexArr 8 1 t24 t23 (fun t25 w =>
  M.load1 t25 (fun t26 w =>
  M.call Tryz.prog 66 #[t21, t26] (fun t27 w =>
  ((M.load1 t22 (fun v' _ => v' = t23) w) ∧ M.extract 0 t27 (fun t28 w =>
  M.extract 1 t27 (fun t29 w =>
  M.not t29 (fun t31 w =>
  M.cond t31
  (M.loadA 18 t3 (fun t32 w =>
  M.call Tryz.prog 25 #[t32, (Value.int IntKind.i64 258)] (fun t33 w =>
  M.store 18 t6 t33 (fun _ w =>
  M.loadA 18 t6 (fun r0 w => R r0 w) w) w) w) w)
  (M.fieldAddr 1 t4 (fun t34 w =>
  M.load1 t34 (fun t35 w =>
  M.fieldAddr 0 t3 (fun t37 w =>
  M.indexArr 8 1 t37 t35 (fun t38 w =>
  M.store 1 t38 t28 (fun _ w =>
  M.fieldAddr 9 t3 (fun t39 w =>
  M.load1 t39 (fun t40 w =>
  M.bin .add t40 (Value.int IntKind.i64 1) (fun t41 w =>
  M.fieldAddr 9 t3 (fun t42 w =>
  M.store 1 t42 t41 (fun _ w =>
  M.loadA 18 t3 (fun t43 w =>
  M.store 18 t6 t43 (fun _ w =>
  M.loadA 18 t6 (fun r0 w => R r0 w) w) w) w) w) w) w) w) w) w) w) w) w) w)) w) w) w)) w) w) w) w) w) w) w) w) w)
  (M.bin .eql t12 (Value.int IntKind.i64 11) (fun t45 w =>
  M.cond t45
  (M.share (fun K2 w =>
  M.draw (fun w =>
  M.fieldAddr 15 t3 (fun t47 w =>
  M.loadA 3 t47 (fun t48 w =>
  M.fieldAddr 1 t4 (fun t49 w =>
  M.load1 t49 (fun t50 w =>
  M.fieldAddr 0 t3 (fun t51 w =>
  M.indexArr 8 1 t51 t50 (fun t52 w =>
  M.load1 t52 (fun t53 w =>
  M.fieldAddr 2 t4 (fun t54 w =>
  M.load1 t54 (fun t55 w =>
  M.fieldAddr 0 t3 (fun t56 w =>
  M.indexArr 8 1 t56 t55 (fun t57 w =>
  M.load1 t57 (fun t58 w =>
  ((M.call Tryz.prog 67 #[t48, t53, t58, x2] (fun t60 w =>
  ((M.load1 t54 (fun v' _ => v' = t55) w) ∧ ((M.load1 t49 (fun v' _ => v' = t50) w) ∧ M.extract 0 t60 (fun t61 w =>
  M.extract 1 t60 (fun t62 w =>
  M.new 46 #[.slice none 0 0, .slice none 0 0, .int .i64 0] (fun t9 w =>
  ((M.load1 t54 (fun v' _ => v' = t55) w) ∧ ((M.load1 t49 (fun v' _ => v' = t50) w) ∧ M.store 3 t9 t61 (fun _ w =>
  K2 [t9, t62] w) w))) w) w) w))) w) ∧
   (M.new 46 #[.slice none 0 0, .slice none 0 0, .int .i64 0] (fun t9_2 w =>
  ((M.load1 t57 (fun v' _ => v' = t58) w) ∧ ((M.load1 t54 (fun v' _ => v' = t55) w) ∧ ((M.load1 t52 (fun v' _ => v' = t53) w) ∧ ((M.load1 t49 (fun v' _ => v' = t50) w) ∧ ((M.loadA 3 t47 (fun v' _ => v' = t48) w) ∧ M.call Tryz.prog 67 #[t48, t53, t58, x2] (fun t60_2 w =>
  ((M.load1 t54 (fun v' _ => v' = t55) w) ∧ ((M.load1 t49 (fun v' _ => v' = t50) w) ∧ M.extract 0 t60_2 (fun t61_2 w =>
  M.extract 1 t60_2 (fun t62_2 w =>
  M.store 3 t9_2 t61_2 (fun _ w =>
  K2 [t9_2, t62_2] w) w) w) w))) w)))))) w))) w) w) w) w) w) w) w) w) w) w) w) w) w) (fun s2 w => ∀ _ : List Value,
  M.bin .neq (s2.getD 1 undef) (Value.int IntKind.i64 0) (fun t64 w =>
  M.cond t64
  (M.loadA 18 t3 (fun t65 w =>
  M.call Tryz.prog 25 #[t65, (s2.getD 1 undef)] (fun t67 w =>
  M.store 18 t6 t67 (fun _ w =>
  M.loadA 18 t6 (fun r0 w => R r0 w) w) w) w) w)
  (M.loadA 3 (s2.getD 0 undef) (fun t68 w =>
  M.fieldAddr 15 t3 (fun t69 w =>
  M.store 3 t69 t68 (fun _ w =>
  K1 [] w) w) w) w)) w) w)
  (M.bin .eql t12 (Value.int IntKind.i64 12) (fun t71 w =>
  M.cond t71
  (M.fieldAddr 15 t3 (fun t72 w =>
  M.loadA 3 t72 (fun t73 w =>
  M.call Tryz.prog 68 #[t73] (fun t74 w =>
  M.fieldAddr 15 t3 (fun t75 w =>
  M.store 3 t75 t74 (fun _ w =>
  K1 [] w) w) w) w) w) w)
  (M.fieldAddr 15 t3 (fun t13 w =>
  M.loadA 3 t13 (fun t14 w =>
  M.call Tryz.prog 69 #[t14] (fun t15 w =>
  M.fieldAddr 15 t3 (fun t16 w =>
  M.store 3 t16 t15 (fun _ w =>
  K1 [] w) w) w) w) w) w)) w)) w)) w) (fun s1 w => ∀ _ : List Value,
  M.fieldAddr 9 t3 (fun t76 w =>
  M.load1 t76 (fun t77 w =>
  M.bin .add t77 (Value.int IntKind.i64 1) (fun t78 w =>
  M.fieldAddr 9 t3 (fun t79 w =>
  M.store 1 t79 t78 (fun _ w =>
  M.fieldAddr 11 t3 (fun t80 w =>
  M.load1 t80 (fun t81 w =>
  M.bin .add t81 (Value.int IntKind.i64 1) (fun t82 w =>
  M.fieldAddr 11 t3 (fun t83 w =>
  M.store 1 t83 t82 (fun _ w =>
  M.loadA 18 t3 (fun t84 w =>
  M.store 18 t6 t84 (fun _ w =>
  M.loadA 18 t6 (fun r0 w => R r0 w) w) w) w) w) w) w) w) w) w) w) w) w) w) w) w) w) w) w) w
theorem ok29 (x0 x1 x2 : Value) (R : Kt) (w : World) (h : sh29 x0 x1 x2 R w) : Ret Tryz.prog 29 #[x0, x1, x2] w R :=
  ret_mk <| calls_of_comp mixed (c := Tryz.f29.body.getD .skip) (args := [x0, x1, x2]) (rs := [(ResultVar.cell 6 48)]) (Ann.seq Ann.text (Ann.seq (Ann.seq Ann.text (Ann.jblock [] [7, 8, 9, 10, 13, 14, 15, 16, 17, 18, 19, 20, 21, 22, 23, 24, 25, 26, 27, 28, 29, 30, 31, 32, 33, 34, 35, 36, 37, 38, 39, 40, 41, 42, 43, 44, 45, 46, 47, 48, 49, 50, 51, 52, 53, 54, 55, 56, 57, 58, 59, 60, 61, 62, 63, 64, 65, 66, 67, 68, 69, 70, 71, 72, 73, 74, 75] (Ann.seq Ann.text (Ann.cond (Ann.seq (Ann.draw (Sch.take 0 (Sch.take 1 (Sch.take 2 (Sch.take 3 (Sch.take 4 (Sch.take 5 (Sch.take 6 (Sch.one 7 (Sch.take 8 (Sch.take 9 (Sch.take 10 (Sch.take 11 (Sch.take 12 Sch.done)))))))))))))) (Ann.seq (Ann.seq Ann.text (Ann.cond (Ann.seq Ann.text Ann.leaf) Ann.leaf)) (Ann.seq Ann.text (Ann.seq Ann.text (Ann.seq Ann.text Ann.leaf))))) (Ann.seq Ann.text (Ann.cond (Ann.join [9, 10] [46, 47, 48, 49, 50, 51, 52, 53, 54, 55, 56, 57, 58, 59, 60, 61, 62] (Ann.draw (Sch.take 0 (Sch.take 1 (Sch.take 2 (Sch.take 3 (Sch.take 4 (Sch.take 5 (Sch.take 6 (Sch.take 7 (Sch.take 8 (Sch.take 9 (Sch.take 10 (Sch.take 11 (Sch.take 12 (Sch.two 13 17 (Sch.take 14 (Sch.take 15 (Sch.take 16 (Sch.one 17 (Sch.one 18 (Sch.take 19 Sch.done)))))) (Sch.one 13 (Sch.take 14 (Sch.take 15 (Sch.take 16 (Sch.one 18 (Sch.take 19 Sch.done))))))))))))))))))))) (Ann.seq (Ann.seq Ann.text (Ann.cond (Ann.seq Ann.text Ann.leaf) Ann.leaf)) Ann.text)) (Ann.seq Ann.text (Ann.cond Ann.text Ann.text)))))))) (Ann.seq Ann.text (Ann.seq Ann.text (Ann.seq Ann.text Ann.leaf)))))
    Tryz.func29 (by kernel_rfl) (by kernel_rfl)
    (Eq.mp (by kernel_rfl) h)
section
variable {w : World} {D : Nat → Prop} {s : St}
theorem dv3_one' {a b : Value} {e : Int} (h1 : a.oneCell' = true) (h2 : b.oneCell' = true) : ∀ y ∈ ([a, b, vi e] : List Value), y.oneCell' = true := by
  simp only [List.mem_cons, List.not_mem_nil, or_false, forall_eq_or_imp, forall_eq]; exact ⟨h1, h2, rfl⟩
def devC (mw : Int) (s : St) (i : Ins) : St :=
  if i.op = 10 then eachC s (s.reg i.b) s.dev.disk.length 258 (s.read i)
  else if i.op = 11 then eachC s (s.reg i.a) s.dev.disk.length 258 (s.write i mw)
  else if i.op = 12 then s.flush
  else s.call (barC s.dev)
def devX (mw : Int) (s : St) (i : Ins) : Dv :=
  if i.op = 11 then wrD s.dev (s.reg i.a) (s.reg i.b) mw
  else if i.op = 12 then ⟨putC s.dev.disk s.dev.pend, [], 0⟩
  else barC s.dev
theorem devC_call {mw : Int} {i : Ins} (o11 : i.op = 11) (hc : wrC s.dev (s.reg i.a) (s.reg i.b) mw = 0) : devC mw s i = s.call (wrD s.dev (s.reg i.a) (s.reg i.b) mw) := by
  unfold wrC at hc
  unfold devC wrD eachC
  rw [if_neg (by omega), if_pos o11]
  by_cases h1 : s.dev.disk.length ≤ (s.reg i.a).toNat
  · rw [if_pos h1] at hc; exact absurd hc (by decide)
  · rw [if_neg h1] at hc ⊢
    by_cases h2 : mw ≤ (s.dev.pend.length : Int)
    · rw [if_pos h2] at hc; exact absurd hc (by decide)
    · rw [if_neg h2]
      have h3 : (s.reg i.a).toNat < s.dev.disk.length := by omega
      rw [if_pos h3]
      unfold St.write
      rw [if_neg h2]
theorem devC_trap {mw : Int} {i : Ins} (o11 : i.op = 11) (hc : wrC s.dev (s.reg i.a) (s.reg i.b) mw ≠ 0) : devC mw s i = s.trap (wrC s.dev (s.reg i.a) (s.reg i.b) mw) := by
  unfold wrC at hc ⊢
  unfold devC eachC
  rw [if_neg (by omega), if_pos o11]
  by_cases h1 : s.dev.disk.length ≤ (s.reg i.a).toNat
  · rw [if_pos h1, if_neg (by omega)]
  · rw [if_neg h1] at hc ⊢
    have h3 : (s.reg i.a).toNat < s.dev.disk.length := by omega
    rw [if_pos h3]
    by_cases h2 : mw ≤ (s.dev.pend.length : Int)
    · rw [if_pos h2]
      unfold St.write
      rw [if_pos h2]
    · rw [if_neg h2] at hc; exact absurd rfl hc
theorem wrD_ep (d : Dv) (x v : W64) (mw : Int) : (wrD d x v mw).ep = d.ep := by
  unfold wrD
  split
  · rfl
  · split <;> rfl
set_option maxHeartbeats 4000000 in
theorem rdev_ret {v : Value} {i : Ins} {mw : Int} (hs : StO w D v s) (hf1 : s.dev.disk.length ≤ 1000000) (hf2 : s.dev.pend.length ≤ 1000000) (he : 0 ≤ s.dev.ep ∧ s.dev.ep ≤ 1000000) (hpc : 0 ≤ s.pc ∧ s.pc ≤ 1000000) (hcl : 0 ≤ s.calls ∧ s.calls ≤ 1000000)
    (ha : i.op ≠ 12 → i.op ≠ 13 → 0 ≤ i.a ∧ i.a ≤ 7) (hb : i.op ≠ 12 → i.op ≠ 13 → 0 ≤ i.b ∧ i.b ≤ 7) (ho : i.op = 10 ∨ i.op = 11 ∨ i.op = 12 ∨ i.op = 13) :
    Ret Tryz.prog 29 #[v, encI i, vi mw] w (fun r w' => StO w' (fun q => D q ∨ w.heap.size ≤ q) r (devC mw s i) ∧ Keep w w' No) := by
  have hs0 := hs.mono (D' := fun q => D q ∧ q < w.heap.size) (fun q hq h => ⟨h, hq⟩)
  obtain ⟨h8, c, a, b, rfl, hc, hd⟩ := id hs0
  refine ok29 _ _ _ _ _ ?_
  unfold sh29
  refine M.new_i (l := s.vals c a b) (fun w1 b1 k1 s1 => ?_)
  refine M.new_i (l := [vi i.op, vi i.a, vi i.b, vi i.c, vw i.imm]) (fun w2 b2 k2 s2 => ?_)
  have b1 := b1.keep k2 (fun h => h)
  refine M.new_i (l := zSt) (fun w3 b3 k3 s3 => ?_)
  have b1 := b1.keep k3 (fun h => h)
  have b2 := b2.keep k3 (fun h => h)
  have k03 := (k1.trans k2 (fun _ _ h => h)).trans k3 (fun _ _ h => h)
  have hs3 := hs0.keep k03 (fun _ _ _ h => h)
  have hd3 := hd.keep k03 (fun _ _ _ h => h)
  refine M.field_i ?_
  refine M.loadB_i b2 rfl ?_
  -- a way out by a trap
  have trapOut : ∀ (w4 : World) (n : Int) (R : Kt), Blk w4 w.heap.size (s.vals c a b) → Blk w4 w2.heap.size zSt → Keep w3 w4 No → (∀ r w', StO w' (fun q => D q ∨ w.heap.size ≤ q) r (s.trap n) → Keep w w' No → R r w') →
      M.loadA 18 (ptr w.heap.size) (fun t32 w => M.call Tryz.prog 25 #[t32, vi n] (fun t33 w => M.store 18 (ptr w2.heap.size) t33 (fun _ w => M.loadA 18 (ptr w2.heap.size) (fun r0 w => R r0 w) w) w) w) w4 := fun w4 n R g1 g3 k34 hR => by
    refine M.loadAll_i g1 (sv_len h8) ?_
    refine M.call_i (rtrap_ret (hs3.keep k34 (fun _ _ _ h => h)) n) ?_
    rintro r w5 ⟨hs5, k5⟩
    obtain ⟨_, c5, a5, b5', rfl, hc5, hd5⟩ := id hs5
    have g3 := g3.keep k5 (fun h => h)
    refine M.storeAll_i g3 (sv_len (s := s.trap n) h8) rfl (sv_one (LV.one hc5) (LV.one hd5.1) (LN.one hd5.2)) (fun w6 b6 k6 s6 => ?_)
    refine M.loadAll_i b6 (sv_len (s := s.trap n) h8) ?_
    have k46 : Keep w w6 No := ((k03.trans k34 (fun _ _ h => h)).trans k5 (fun _ _ h => h)).trans k6 (fun q hq e => by have e : q = w2.heap.size := e; omega)
    have q34 := k34.size
    exact hR _ _ ((hs5.keep k6 (fun q hq h e => by have := h.2; have e : q = w2.heap.size := e; omega)).mono (fun q _ h => .inl h.1)) k46
  by_cases o10 : i.op = 10
  · have hA := ha (by omega) (by omega)
    have hB := hb (by omega) (by omega)
    have eC : devC mw s i = if (s.reg i.b).toNat < s.dev.disk.length then s.read i (s.reg i.b).toNat else s.trap 258 := by
      unfold devC eachC
      rw [if_pos o10]
    rw [eC]
    refine M.share_j (fun _ _ => False) (fun _ _ h => h.elim) (fun K hK => ?_)
    refine M.eql_t o10 ?_
    refine M.cond_t ?_
    refine M.draw_i ?_
    have kd : Keep w3 w3.drew No := Keep.drew w3 No
    have b1 := b1.keep kd (fun h => h)
    have b2 := b2.keep kd (fun h => h)
    have b3 := b3.keep kd (fun h => h)
    have hdd := hd3.keep kd (fun _ _ _ h => h)
    refine M.field_i ?_
    refine M.loadP_i b1 (by have := sv_len (c := c) (a := a) (b := b) h8; omega) (sv_dev h8) ?_
    refine M.field_i ?_
    refine M.loadB_i b2 rfl ?_
    refine M.field_i ?_
    refine M.arr_i hB.1 (by omega) ?_
    refine M.loadB_i b1 (sv_reg h8 hB) ?_
    refine M.call_i (rread_ret hdd hf1 hf2 (s.reg i.b)) ?_; rintro _ w4 ⟨rfl, k4⟩
    have b1 := b1.keep k4 (fun h => h)
    have b2 := b2.keep k4 (fun h => h)
    have b3 := b3.keep k4 (fun h => h)
    have k34 := kd.trans k4 (fun _ _ h => h)
    refine M.stB_i b2 rfl ?_
    refine M.extract_i rfl ?_
    refine M.extract_i rfl ?_
    by_cases hlt : (s.reg i.b).toNat < s.dev.disk.length
    rotate_left
    · rw [if_neg hlt, decide_eq_false hlt, if_neg hlt]
      (repeat (first|refine jn ?_|refine jo ?_))
      exact trapOut w4 258 _ b1 b3 k34 (fun r w' h1 h2 => ⟨h1, h2⟩)
    rw [if_pos hlt, decide_eq_true hlt, if_pos hlt]
    (repeat (first|refine jc ?_|refine jm ?_|refine jp ?_|refine jN (by assumption) rfl ?_))
    refine M.arr_i hA.1 (by omega) ?_
    refine M.store_i b1 (sv_lt h8 (by omega)) rfl (fun w5 b5 k5 s5 => ?_)
    have b5 := Blk.sreg (r := i.a) h8 b5 (by omega) hA
    generalize hy : readC s.dev (s.reg i.b).toNat = y at b5 ⊢
    have h8' : ({ s with regs := s.regs.set i.a.toNat y } : St).regs.length = 8 := by simp [h8]
    have b35 := b3.keep k5 (fun h => by have := k34.size; omega)
    refine M.field_i ?_
    refine M.loadB_i b5 (sv_at h8' 1) ?_
    refine M.add_i (by show (-9223372036854775808 : Int) ≤ s.pc + 1; omega) (by show s.pc + 1 < (9223372036854775808 : Int); omega) ?_
    refine M.field_i ?_
    refine M.store_i b5 (sv_lt h8' (by omega)) rfl (fun w6 b6 k6 s6 => ?_)
    have b6 := Blk.sset (s := { s with regs := s.regs.set i.a.toNat y }) (j := 1) (t := s.set i y) h8' b6 (by omega) rfl
    have b36 := b35.keep k6 (fun h => by have := k34.size; omega)
    refine M.loadAll_i b6 (sv_len (s := s.set i y) h8') ?_
    refine M.storeAll_i b36 (sv_len (s := s.set i y) h8') rfl (sv_one (s := s.set i y) (LV.one hc) (LV.one hd.1) (LN.one hd.2)) (fun w7 b7 k7 s7 => ?_)
    refine M.loadAll_i b7 (sv_len (s := s.set i y) h8') ?_
    have q34 := k34.size
    have k07 : Keep w w7 No := (((k03.trans k34 (fun _ _ h => h)).trans k5 (fun q hq e => by have e : q = w.heap.size := e; omega)).trans k6 (fun q hq e => by have e : q = w.heap.size := e; omega)).trans k7 (fun q hq e => by have e : q = w2.heap.size := e; omega)
    have hc7 := ((hc.keep k07 (fun _ _ _ h => h)).mono (D' := fun q => D q ∨ w.heap.size ≤ q) (fun q _ h => .inl h.1))
    have hd7 := ((hd.keep k07 (fun _ _ _ h => h)).mono (D' := fun q => D q ∨ w.heap.size ≤ q) (fun q _ h => .inl h.1))
    unfold St.read
    rw [hy]
    exact ⟨StO.of_vals (s := s.set i y) h8' hc7 hd7, k07⟩
  -- the others go on behind
  refine M.share_j (fun vals w' => ∃ a' b', Blk w' w.heap.size (St.vals { s with dev := devX mw s i } c a' b') ∧ Blk w' w2.heap.size zSt ∧ DvO w' (fun q => (D q ∧ q < w.heap.size) ∨ (w.heap.size ≤ q ∧ q ≠ w.heap.size ∧ q ≠ w2.heap.size)) a' b' (devX mw s i) ∧ devC mw s i = s.call (devX mw s i) ∧ Keep w w' No) ?_ ?_
  · rintro vals w4 ⟨a', b', g1, g3, hdv, eC, k4⟩ _
    rw [eC]
    simp only [List.getD_cons_zero, List.getD_cons_succ]
    refine M.field_i ?_
    refine M.loadB_i g1 (sv_at (s := { s with dev := devX mw s i }) h8 1) ?_
    refine M.add_i (by show (-9223372036854775808 : Int) ≤ s.pc + 1; omega) (by show s.pc + 1 < (9223372036854775808 : Int); omega) ?_
    refine M.field_i ?_
    refine M.store_i g1 (sv_lt (s := { s with dev := devX mw s i }) h8 (by omega)) rfl (fun w5 b5 k5 s5 => ?_)
    have b5 := Blk.sset (s := { s with dev := devX mw s i }) (j := 1) (t := { s.next with dev := devX mw s i }) h8 b5 (by omega) rfl
    have b35 := g3.keep k5 (fun h => by omega)
    refine M.field_i ?_
    refine M.loadB_i b5 (sv_at (s := { s.next with dev := devX mw s i }) h8 3) ?_
    refine M.add_i (by show (-9223372036854775808 : Int) ≤ s.calls + 1; omega) (by show s.calls + 1 < (9223372036854775808 : Int); omega) ?_
    refine M.field_i ?_
    refine M.store_i b5 (sv_lt (s := { s.next with dev := devX mw s i }) h8 (by omega)) rfl (fun w6 b6 k6 s6 => ?_)
    have b6 := Blk.sset (s := { s.next with dev := devX mw s i }) (j := 3) (t := s.call (devX mw s i)) h8 b6 (by omega) rfl
    have b36 := b35.keep k6 (fun h => by omega)
    refine M.loadAll_i b6 (sv_len (s := s.call (devX mw s i)) h8) ?_
    refine M.storeAll_i b36 (sv_len (s := s.call (devX mw s i)) h8) rfl (sv_one (s := s.call (devX mw s i)) (LV.one hc) (LV.one hdv.1) (LN.one hdv.2)) (fun w7 b7 k7 s7 => ?_)
    refine M.loadAll_i b7 (sv_len (s := s.call (devX mw s i)) h8) ?_
    have k47 : Keep w4 w7 (fun q => q = w.heap.size ∨ q = w2.heap.size) := ((k5.mono (fun q _ e => .inl e)).trans k6 (fun q hq e => .inl e)).trans k7 (fun q hq e => .inr e)
    have k07 : Keep w w7 No := k4.trans k47 (fun q hq e => by rcases e with e | e <;> omega)
    have hc7 := ((hc.keep k07 (fun _ _ _ h => h)).mono (D' := fun q => D q ∨ w.heap.size ≤ q) (fun q _ h => .inl h.1))
    have hd7 := ((hdv.keep k47 (fun q hq h e => by rcases h with h | h <;> rcases e with e | e <;> omega)).mono (D' := fun q => D q ∨ w.heap.size ≤ q) (fun q _ h => by rcases h with h | h; exact .inl h.1; exact .inr h.1))
    exact ⟨StO.of_vals (s := s.call (devX mw s i)) h8 hc7 hd7, k07⟩
  intro K hK
  have hlen : 0 + 15 + 3 ≤ (s.vals c a b).length := by rw [sv_len h8]; omega
  -- a device is laid
  have lay : ∀ (w4 : World) (a' b' : Value) (d : Dv) (ep : Int), d = devX mw s i → ep = d.ep → Blk w4 w.heap.size (s.vals c a b) → Blk w4 w2.heap.size zSt → Keep w3 w4 No → DvO w4 (fun q => (D q ∧ q < w.heap.size) ∨ (w.heap.size ≤ q ∧ q ≠ w.heap.size ∧ q ≠ w2.heap.size)) a' b' d → devC mw s i = s.call (devX mw s i) →
      M.store 3 (.pointer (some ⟨w.heap.size, 0 + 15, none⟩)) (.agg ⟨[a', b', vi ep]⟩) (fun _ w => K [] w) w4 := fun w4 a' b' d ep hX hep g1 g3 k34 hdv eC => by
    subst hep
    refine M.storePart_i g1 rfl hlen (dv3_one' (LV.one hdv.1) (LN.one hdv.2)) (fun w5 b5 k5 s5 => ?_)
    rw [sv_splice h8, hX] at b5
    have q34 := k34.size
    refine hK _ _ ⟨a', b', b5, g3.keep k5 (fun h => by omega), hX ▸ hdv.keep k5 (fun q hq h e => by rcases h with h | h; have := h.2; omega; exact h.2.1 e), eC, (k03.trans k34 (fun _ _ h => h)).trans k5 (fun q hq e => by have e : q = w.heap.size := e; omega)⟩
  refine M.eql_f o10 ?_
  refine M.cond_f ?_
  by_cases o11 : i.op = 11
  · have hA := ha (by omega) (by omega)
    have hB := hb (by omega) (by omega)
    have hX : devX mw s i = wrD s.dev (s.reg i.a) (s.reg i.b) mw := by unfold devX; rw [if_pos o11]
    refine M.eql_t o11 ?_
    refine M.cond_t ?_
    refine M.share_j (fun vals w' => ∃ q a' b', vals = [ptr q, vi (wrC s.dev (s.reg i.a) (s.reg i.b) mw)] ∧ w3.heap.size ≤ q ∧ Blk w' q [a', b', vi s.dev.ep] ∧ Blk w' w.heap.size (s.vals c a b) ∧ Blk w' w2.heap.size zSt ∧ DvO w' (fun x => (D x ∧ x < w.heap.size) ∨ w3.heap.size ≤ x) a' b' (wrD s.dev (s.reg i.a) (s.reg i.b) mw) ∧ Keep w3 w' No) ?_ ?_
    · rintro vals w4 ⟨q, a', b', rfl, hq, bq, g1, g3, hdv, k34⟩ _
      simp only [List.getD_cons_zero, List.getD_cons_succ]
      by_cases hcode : wrC s.dev (s.reg i.a) (s.reg i.b) mw = 0
      · refine M.neq_f hcode ?_
        refine M.cond_f ?_
        refine M.loadAll_i bq rfl ?_
        refine M.field_i ?_
        exact lay w4 a' b' _ _ hX.symm (wrD_ep _ _ _ _).symm g1 g3 k34 (hdv.mono (fun x hx h => by rcases h with h | h; exact .inl h; right; omega)) (by rw [hX]; exact devC_call o11 hcode)
      · refine M.neq_t hcode ?_
        refine M.cond_t ?_
        rw [devC_trap o11 hcode]
        exact trapOut w4 _ _ g1 g3 k34 (fun r w' h1 h2 => ⟨h1, h2⟩)
    · intro K2 hK2
      refine M.draw_i ?_
      have kd : Keep w3 w3.drew No := Keep.drew w3 No
      have b1 := b1.keep kd (fun h => h)
      have b2 := b2.keep kd (fun h => h)
      have b3 := b3.keep kd (fun h => h)
      have hdd := hd3.keep kd (fun _ _ _ h => h)
      refine M.field_i ?_
      refine M.loadP_i b1 hlen (sv_dev h8) ?_
      refine M.field_i ?_
      refine M.loadB_i b2 rfl ?_
      refine M.field_i ?_
      refine M.arr_i hA.1 (by omega) ?_
      refine M.loadB_i b1 (sv_reg h8 hA) ?_
      refine M.field_i ?_
      refine M.loadB_i b2 rfl ?_
      refine M.field_i ?_
      refine M.arr_i hB.1 (by omega) ?_
      refine M.loadB_i b1 (sv_reg h8 hB) ?_
      refine ⟨?_, ?_⟩
      · refine M.call_i (rwrite_ret hdd hf1 hf2 (s.reg i.a) (s.reg i.b) mw) ?_; rintro _ w4 ⟨a', b', rfl, hd4, k4⟩
        have b1 := b1.keep k4 (fun h => h)
        have b2 := b2.keep k4 (fun h => h)
        have b3 := b3.keep k4 (fun h => h)
        refine M.stB_i b2 rfl ?_
        refine M.stB_i b2 rfl ?_
        refine M.extract_i rfl ?_
        refine M.extract_i rfl ?_
        refine M.new_i (l := [.slice none 0 0, .slice none 0 0, vi 0]) (fun w5 b5 k5 s5 => ?_)
        have b1 := b1.keep k5 (fun h => h)
        have b2 := b2.keep k5 (fun h => h)
        have b3 := b3.keep k5 (fun h => h)
        refine M.stB_i b2 rfl ?_
        refine M.stB_i b2 rfl ?_
        refine M.storeAll_i b5 rfl rfl (dv3_one' (LV.one hd4.1) (LN.one hd4.2)) (fun w6 b6 k6 s6 => ?_)
        have q4 := k4.size
        have qd := kd.size
        have hd4' := (hd4.mono (D' := fun x => ((D x ∧ x < w.heap.size) ∨ w3.heap.size ≤ x) ∧ x < w4.heap.size) (fun x hx h => ⟨by rcases h with h | h; exact .inl h; right; exact Nat.le_trans qd h, hx⟩))
        refine hK2 _ _ ⟨w4.heap.size, a', b', rfl, by omega, b6, b1.keep k6 (fun h => by omega), b3.keep k6 (fun h => by omega), ?_, ((kd.trans k4 (fun _ _ h => h)).trans k5 (fun _ _ h => h)).trans k6 (fun x hx e => by have e : x = w4.heap.size := e; omega)⟩
        exact (hd4'.keep (k5.trans k6 (fun x hx e => by have e : x = w4.heap.size := e; omega)) (fun _ _ _ h => h)).mono (fun x _ h => h.1)
      · refine M.new_i (l := [.slice none 0 0, .slice none 0 0, vi 0]) (fun w5 b5 k5 s5 => ?_)
        have b1 := b1.keep k5 (fun h => h)
        have b2 := b2.keep k5 (fun h => h)
        have b3 := b3.keep k5 (fun h => h)
        refine M.stB_i b1 (sv_reg h8 hB) ?_
        refine M.stB_i b2 rfl ?_
        refine M.stB_i b1 (sv_reg h8 hA) ?_
        refine M.stB_i b2 rfl ?_
        refine ⟨M.loadP_i b1 hlen (sv_dev h8) rfl, ?_⟩
        refine M.call_i (rwrite_ret (hdd.keep k5 (fun _ _ _ h => h)) hf1 hf2 (s.reg i.a) (s.reg i.b) mw) ?_; rintro _ w6 ⟨a', b', rfl, hd4, k4⟩
        have b1 := b1.keep k4 (fun h => h)
        have b2 := b2.keep k4 (fun h => h)
        have b3 := b3.keep k4 (fun h => h)
        have b5 := b5.keep k4 (fun h => h)
        refine M.stB_i b2 rfl ?_
        refine M.stB_i b2 rfl ?_
        refine M.extract_i rfl ?_
        refine M.extract_i rfl ?_
        have q4 := k4.size
        have qd := kd.size
        have hd4' := (hd4.mono (D' := fun x => ((D x ∧ x < w.heap.size) ∨ w3.heap.size ≤ x) ∧ x ≠ w3.drew.heap.size) (fun x hx h => by
          rcases h with h | h
          · exact ⟨.inl h, by have := h.2; omega⟩
          · exact ⟨.inr (by omega), by omega⟩))
        refine M.storeAll_i b5 rfl rfl (dv3_one' (LV.one hd4.1) (LN.one hd4.2)) (fun w7 b7 k7 s7 => ?_)
        refine hK2 _ _ ⟨w3.drew.heap.size, a', b', rfl, by omega, b7, b1.keep k7 (fun h => by omega), b3.keep k7 (fun h => by omega), ?_, ((kd.trans k5 (fun _ _ h => h)).trans k4 (fun _ _ h => h)).trans k7 (fun x hx e => by have e : x = w3.drew.heap.size := e; omega)⟩
        exact (hd4'.keep k7 (fun x hx h e => h.2 e)).mono (fun x _ h => h.1)
  refine M.eql_f o11 ?_
  refine M.cond_f ?_
  by_cases o12 : i.op = 12
  · have hX : devX mw s i = ⟨putC s.dev.disk s.dev.pend, [], 0⟩ := by unfold devX; rw [if_neg o11, if_pos o12]
    have eC : devC mw s i = s.call (devX mw s i) := by
      rw [hX]
      unfold devC
      rw [if_neg o10, if_neg o11, if_pos o12]
      rfl
    refine M.eql_t o12 ?_
    refine M.cond_t ?_
    refine M.field_i ?_
    refine M.loadP_i b1 hlen (sv_dev h8) ?_
    refine M.call_i (rflush_ret hd3 hf1 hf2) ?_; rintro _ w4 ⟨a', rfl, hl4, k4⟩
    refine M.field_i ?_
    exact lay w4 a' _ _ _ hX.symm rfl (b1.keep k4 (fun h => h)) (b3.keep k4 (fun h => h)) k4 ⟨hl4.mono (fun x _ h => by right; have h : w3.heap.size ≤ x := h; omega), LN.nil _ _ _⟩ eC
  · have o13 : i.op = 13 := by omega
    have hX : devX mw s i = barC s.dev := by unfold devX; rw [if_neg o11, if_neg o12]
    have eC : devC mw s i = s.call (devX mw s i) := by
      rw [hX]
      unfold devC
      rw [if_neg o10, if_neg o11, if_neg o12]
    have e1 : (barC s.dev).disk = s.dev.disk := by unfold barC; split <;> rfl
    have e2 : (barC s.dev).pend = s.dev.pend := by unfold barC; split <;> rfl
    refine M.eql_f o12 ?_
    refine M.cond_f ?_
    refine M.field_i ?_
    refine M.loadP_i b1 hlen (sv_dev h8) ?_
    refine M.call_i (rbar_ret hd3 hf2 (by omega)) ?_; rintro _ w4 ⟨rfl, k4⟩
    refine M.field_i ?_
    exact lay w4 a b _ _ hX.symm rfl (b1.keep k4 (fun h => h)) (b3.keep k4 (fun h => h)) k4 (by unfold DvO; rw [e1, e2]; exact (hd3.keep k4 (fun _ _ _ h => h)).mono (fun x _ h => .inl h)) eC
end
end Go.Proofs.YtanjlgafjgoaaaaGreat
namespace Go.Proofs.YtanjlgafjgoaaaaGreat
open Go.Mw
set_option linter.unusedVariables false
set_option linter.unusedSimpArgs false
set_option maxRecDepth 100000
attribute [local irreducible] M.val M.unit M.next M.pick M.new M.nilCheck M.load1 M.loadA M.store M.fieldAddr M.indexSl M.indexArr M.slice M.makeSlice M.buildSlice M.len M.lenS M.cap M.append M.extract M.conv M.not M.neg M.bin M.shift M.eqB M.eqNil M.scat M.call M.callv M.gd M.share M.cond M.loop M.draw pureW readW Ret
def sh14 (x0 x1 x2 x3 : Value) (R : Kt) (w : World) : Prop :=
  M.new 48 (Value.cells x1) (fun t5 w =>
  M.new 48 #[.int .u64 0, .int .u64 0, .int .u64 0, .int .u64 0, .int .u64 0, .int .u64 0, .int .u64 0, .int .u64 0, .slice none 0 0, .int .i64 0, .int .i64 0, .int .i64 0, .int .i64 0, .int .i64 0, .int .u64 0, .slice none 0 0, .slice none 0 0, .int .i64 0] (fun t8 w =>
  M.fieldAddr 12 t5 (fun t15 w =>
  M.load1 t15 (fun t16 w =>
  M.bin .neq t16 (Value.int IntKind.i64 0) (fun t17 w =>
  M.cond t17
  (M.loadA 18 t5 (fun t18 w =>
  M.store 18 t8 t18 (fun _ w =>
  M.loadA 18 t8 (fun r0 w => R r0 w) w) w) w)
  (M.fieldAddr 10 t5 (fun t19 w =>
  M.load1 t19 (fun t20 w =>
  M.bin .add t20 (Value.int IntKind.i64 1) (fun t21 w =>
  M.fieldAddr 10 t5 (fun t22 w =>
  M.store 1 t22 t21 (fun _ w =>
  M.fieldAddr 9 t5 (fun t23 w =>
  M.load1 t23 (fun t24 w =>
  M.bin .lss t24 (Value.int IntKind.i64 0) (fun t25 w =>
  M.gd t25 false (fun k w => M.fieldAddr 9 t5 k w) (fun t27 w =>
  M.gd t25 false (fun k w => M.load1 t27 k w) (fun t28 w =>
  M.gd t25 false (fun k w => k x0 w) (fun t29 w =>
  M.gd t25 false (fun k w => M.len t29 k w) (fun t30 w =>
  M.gd t25 false (fun k w => M.bin .geq t28 t30 k w) (fun t31 w =>
  M.pick t25 (Value.bool true) t31 (fun t32 w =>
  M.gd t32 false (fun k w => k x0 w) (fun t34 w =>
  M.gd t32 false (fun k w => M.fieldAddr 9 t5 k w) (fun t35 w =>
  M.gd t32 false (fun k w => M.load1 t35 k w) (fun t36 w =>
  M.gd t32 false (fun k w => M.indexSl 5 t34 t36 k w) (fun t37 w =>
  M.gd t32 false (fun k w => M.loadA 5 t37 k w) (fun t38 w =>
  M.gd t32 false (fun k w => k x0 w) (fun t39 w =>
  M.gd t32 false (fun k w => M.len t39 k w) (fun t40 w =>
  M.gd t32 false (fun k w => M.call Tryz.prog 24 #[t38, (Value.int IntKind.i64 0), t40] k w) (fun t41 w =>
  M.gd t32 false (fun k w => M.bin .neq t41 (Value.int IntKind.i64 0) k w) (fun t42 w =>
  M.pick t32 (Value.bool true) t42 (fun t43 w =>
  M.cond t43
  (M.loadA 18 t5 (fun t44 w =>
  M.call Tryz.prog 25 #[t44, (Value.int IntKind.i64 256)] (fun t45 w =>
  M.store 18 t8 t45 (fun _ w =>
  M.loadA 18 t8 (fun r0 w => R r0 w) w) w) w) w)
  (M.fieldAddr 9 t5 (fun t47 w =>
  M.load1 t47 (fun t48 w =>
  M.indexSl 5 x0 t48 (fun t49 w =>
  M.loadA 5 t49 (fun t50 w =>
  M.new 61 #[.int .i64 0, .int .i64 0, .int .i64 0, .int .i64 0, .int .u64 0] (fun t9 w =>
  M.store 5 t9 t50 (fun _ w =>
  M.fieldAddr 0 t9 (fun t51 w =>
  M.load1 t51 (fun t52 w =>
  M.share (fun K1 w =>
  M.bin .eql t52 (Value.int IntKind.i64 1) (fun t58 w =>
  M.cond t58
  (M.fieldAddr 1 t9 (fun t59 w =>
  M.load1 t59 (fun t60 w =>
  M.fieldAddr 4 t9 (fun t61 w =>
  M.load1 t61 (fun t62 w =>
  M.fieldAddr 0 t5 (fun t63 w =>
  M.indexArr 8 1 t63 t60 (fun t64 w =>
  M.store 1 t64 t62 (fun _ w =>
  K1 [] w) w) w) w) w) w) w) w)
  (M.bin .eql t52 (Value.int IntKind.i64 2) (fun t66 w =>
  M.cond t66
  (M.draw (fun w =>
  M.fieldAddr 1 t9 (fun t67 w =>
  M.load1 t67 (fun t68 w =>
  M.fieldAddr 2 t9 (fun t69 w =>
  M.load1 t69 (fun t70 w =>
  M.fieldAddr 0 t5 (fun t71 w =>
  M.indexArr 8 1 t71 t70 (fun t72 w =>
  M.load1 t72 (fun t73 w =>
  M.fieldAddr 0 t5 (fun t74 w =>
  M.indexArr 8 1 t74 t68 (fun t75 w =>
  M.store 1 t75 t73 (fun _ w =>
  K1 [] w) w) w) w) w) w) w) w) w) w) w) w)
  (M.bin .eql t52 (Value.int IntKind.i64 3) (fun t77 w =>
  M.cond t77
  (M.draw (fun w =>
  M.fieldAddr 4 t9 (fun t79 w =>
  M.load1 t79 (fun t80 w =>
  M.conv .i64 t80 (fun t81 w =>
  M.fieldAddr 2 t9 (fun t82 w =>
  M.load1 t82 (fun t83 w =>
  M.fieldAddr 0 t5 (fun t84 w =>
  M.indexArr 8 1 t84 t83 (fun t85 w =>
  M.load1 t85 (fun t86 w =>
  M.fieldAddr 3 t9 (fun t87 w =>
  M.load1 t87 (fun t88 w =>
  M.fieldAddr 0 t5 (fun t89 w =>
  M.indexArr 8 1 t89 t88 (fun t90 w =>
  M.load1 t90 (fun t91 w =>
  M.call Tryz.prog 26 #[t81, (Value.int IntKind.i64 64), t86, t91] (fun t92 w =>
  ((M.load1 t87 (fun v' _ => v' = t88) w) ∧ ((M.load1 t82 (fun v' _ => v' = t83) w) ∧ ((M.load1 t79 (fun v' _ => v' = t80) w) ∧ M.extract 0 t92 (fun t93 w =>
  M.extract 1 t92 (fun t94 w =>
  M.fieldAddr 1 t9 (fun t95 w =>
  M.load1 t95 (fun t96 w =>
  M.fieldAddr 0 t5 (fun t98 w =>
  M.indexArr 8 1 t98 t96 (fun t99 w =>
  M.store 1 t99 t93 (fun _ w =>
  K1 [] w) w) w) w) w) w) w) w)))) w) w) w) w) w) w) w) w) w) w) w) w) w) w) w)
  (M.bin .eql t52 (Value.int IntKind.i64 4) (fun t101 w =>
  M.cond t101
  (M.draw (fun w =>
  M.fieldAddr 4 t9 (fun t103 w =>
  M.load1 t103 (fun t104 w =>
  M.conv .i64 t104 (fun t105 w =>
  M.fieldAddr 2 t9 (fun t106 w =>
  M.load1 t106 (fun t107 w =>
  M.fieldAddr 0 t5 (fun t108 w =>
  M.indexArr 8 1 t108 t107 (fun t109 w =>
  M.load1 t109 (fun t110 w =>
  M.call Tryz.prog 27 #[t105, (Value.int IntKind.i64 64), t110] (fun t111 w =>
  ((M.load1 t106 (fun v' _ => v' = t107) w) ∧ ((M.load1 t103 (fun v' _ => v' = t104) w) ∧ M.extract 0 t111 (fun t112 w =>
  M.extract 1 t111 (fun t113 w =>
  M.fieldAddr 1 t9 (fun t114 w =>
  M.load1 t114 (fun t115 w =>
  M.fieldAddr 0 t5 (fun t117 w =>
  M.indexArr 8 1 t117 t115 (fun t118 w =>
  M.store 1 t118 t112 (fun _ w =>
  K1 [] w) w) w) w) w) w) w) w))) w) w) w) w) w) w) w) w) w) w)
  (M.bin .eql t52 (Value.int IntKind.i64 9) (fun t120 w =>
  M.cond t120
  (M.share (fun K2 w =>
  M.fieldAddr 4 t9 (fun t121 w =>
  M.load1 t121 (fun t122 w =>
  M.len x2 (fun t124 w =>
  M.conv .u64 t124 (fun t125 w =>
  M.bin .lss t122 t125 (fun t126 w =>
  M.cond t126
  (M.fieldAddr 4 t9 (fun t128 w =>
  M.load1 t128 (fun t129 w =>
  M.indexSl 1 x2 t129 (fun t130 w =>
  M.load1 t130 (fun t131 w =>
  M.conv .u64 t131 (fun t132 w =>
  K2 [t132] w) w) w) w) w) w)
  (K2 [(Value.int IntKind.u64 0)] w)) w) w) w) w) w) (fun s2 w => ∀ _ : List Value,
  M.fieldAddr 1 t9 (fun t133 w =>
  M.load1 t133 (fun t134 w =>
  M.fieldAddr 0 t5 (fun t136 w =>
  M.indexArr 8 1 t136 t134 (fun t137 w =>
  M.store 1 t137 (s2.getD 0 undef) (fun _ w =>
  K1 [] w) w) w) w) w) w) w)
  (M.bin .eql t52 (Value.int IntKind.i64 5) (fun t139 w =>
  M.cond t139
  (M.fieldAddr 4 t9 (fun t140 w =>
  M.load1 t140 (fun t141 w =>
  M.conv .i64 t141 (fun t142 w =>
  M.fieldAddr 9 t5 (fun t143 w =>
  M.store 1 t143 t142 (fun _ w =>
  M.loadA 18 t5 (fun t144 w =>
  M.store 18 t8 t144 (fun _ w =>
  M.loadA 18 t8 (fun r0 w => R r0 w) w) w) w) w) w) w) w) w)
  (M.bin .eql t52 (Value.int IntKind.i64 6) (fun t146 w =>
  M.cond t146
  (M.fieldAddr 1 t9 (fun t147 w =>
  M.load1 t147 (fun t148 w =>
  M.fieldAddr 0 t5 (fun t149 w =>
  M.indexArr 8 1 t149 t148 (fun t150 w =>
  M.load1 t150 (fun t151 w =>
  M.bin .neq t151 (Value.int IntKind.u64 0) (fun t152 w =>
  M.cond t152
  (M.fieldAddr 4 t9 (fun t153 w =>
  M.load1 t153 (fun t154 w =>
  M.conv .i64 t154 (fun t155 w =>
  M.fieldAddr 9 t5 (fun t156 w =>
  M.store 1 t156 t155 (fun _ w =>
  M.loadA 18 t5 (fun t157 w =>
  M.store 18 t8 t157 (fun _ w =>
  M.loadA 18 t8 (fun r0 w => R r0 w) w) w) w) w) w) w) w) w)
  (K1 [] w)) w) w) w) w) w) w)
  (M.bin .eql t52 (Value.int IntKind.i64 14) (fun t159 w =>
  M.cond t159
  (M.fieldAddr 12 t5 (fun t160 w =>
  M.store 1 t160 (Value.int IntKind.i64 1) (fun _ w =>
  M.fieldAddr 1 t9 (fun t161 w =>
  M.load1 t161 (fun t162 w =>
  M.fieldAddr 0 t5 (fun t163 w =>
  M.indexArr 8 1 t163 t162 (fun t164 w =>
  M.load1 t164 (fun t165 w =>
  M.fieldAddr 14 t5 (fun t166 w =>
  M.store 1 t166 t165 (fun _ w =>
  M.loadA 18 t5 (fun t167 w =>
  M.store 18 t8 t167 (fun _ w =>
  M.loadA 18 t8 (fun r0 w => R r0 w) w) w) w) w) w) w) w) w) w) w) w) w)
  (M.bin .eql t52 (Value.int IntKind.i64 15) (fun t169 w =>
  M.cond t169
  (M.loadA 18 t5 (fun t170 w =>
  M.fieldAddr 4 t9 (fun t171 w =>
  M.load1 t171 (fun t172 w =>
  M.conv .i64 t172 (fun t173 w =>
  M.call Tryz.prog 25 #[t170, t173] (fun t174 w =>
  M.store 18 t8 t174 (fun _ w =>
  M.loadA 18 t8 (fun r0 w => R r0 w) w) w) w) w) w) w) w)
  (M.share (fun K3 w =>
  M.bin .eql t52 (Value.int IntKind.i64 7) (fun t176 w =>
  M.cond t176
  (K3 [t176] w)
  (M.bin .eql t52 (Value.int IntKind.i64 8) (fun t177 w =>
  K3 [t177] w) w)) w) (fun s3 w => ∀ _ : List Value,
  M.cond (s3.getD 0 undef)
  (M.loadA 18 t5 (fun t178 w =>
  M.loadA 5 t9 (fun t179 w =>
  M.call Tryz.prog 28 #[t178, t179] (fun t180 w =>
  M.store 18 t8 t180 (fun _ w =>
  M.loadA 18 t8 (fun r0 w => R r0 w) w) w) w) w) w)
  (M.loadA 18 t5 (fun t53 w =>
  M.loadA 5 t9 (fun t54 w =>
  M.call Tryz.prog 29 #[t53, t54, x3] (fun t56 w =>
  M.store 18 t8 t56 (fun _ w =>
  M.loadA 18 t8 (fun r0 w => R r0 w) w) w) w) w) w)) w)) w)) w)) w)) w)) w)) w)) w)) w)) w) (fun s1 w => ∀ _ : List Value,
  M.fieldAddr 9 t5 (fun t181 w =>
  M.load1 t181 (fun t182 w =>
  M.bin .add t182 (Value.int IntKind.i64 1) (fun t183 w =>
  M.fieldAddr 9 t5 (fun t184 w =>
  M.store 1 t184 t183 (fun _ w =>
  M.loadA 18 t5 (fun t185 w =>
  M.store 18 t8 t185 (fun _ w =>
  M.loadA 18 t8 (fun r0 w => R r0 w) w) w) w) w) w) w) w) w) w) w) w) w) w) w) w) w) w)) w) w) w) w) w) w) w) w) w) w) w) w) w) w) w) w) w) w) w) w) w) w) w) w)) w) w) w) w) w
theorem ok14 (x0 x1 x2 x3 : Value) (R : Kt) (w : World) (h : sh14 x0 x1 x2 x3 R w) : Ret Tryz.prog 14 #[x0, x1, x2, x3] w R :=
  ret_mk <| calls_of_comp mixed (c := Tryz.f14.body.getD .skip) (args := [x0, x1, x2, x3]) (rs := [(ResultVar.cell 8 48)]) (Ann.seq Ann.text (Ann.seq (Ann.seq Ann.text (Ann.cond (Ann.seq Ann.text Ann.leaf) Ann.leaf)) (Ann.seq Ann.text (Ann.seq (Ann.seq Ann.text (Ann.cond (Ann.seq Ann.text Ann.leaf) Ann.leaf)) (Ann.seq Ann.text (Ann.seq (Ann.seq Ann.text (Ann.jblock [] [10, 11, 12, 13, 14, 53, 54, 55, 56, 57, 58, 59, 60, 61, 62, 63, 64, 65, 66, 67, 68, 69, 70, 71, 72, 73, 74, 75, 76, 77, 78, 79, 80, 81, 82, 83, 84, 85, 86, 87, 88, 89, 90, 91, 92, 93, 94, 95, 96, 97, 98, 99, 100, 101, 102, 103, 104, 105, 106, 107, 108, 109, 110, 111, 112, 113, 114, 115, 116, 117, 118, 119, 120, 121, 122, 123, 124, 125, 126, 127, 128, 129, 130, 131, 132, 133, 134, 135, 136, 137, 138, 139, 140, 141, 142, 143, 144, 145, 146, 147, 148, 149, 150, 151, 152, 153, 154, 155, 156, 157, 158, 159, 160, 161, 162, 163, 164, 165, 166, 167, 168, 169, 170, 171, 172, 173, 174, 175, 176, 177, 178, 179, 180] (Ann.seq Ann.text (Ann.cond Ann.text (Ann.seq Ann.text (Ann.cond (Ann.draw (Sch.take 0 (Sch.take 1 (Sch.take 2 (Sch.take 3 (Sch.take 4 (Sch.take 5 (Sch.take 6 (Sch.take 7 (Sch.take 8 (Sch.one 9 Sch.done))))))))))) (Ann.seq Ann.text (Ann.cond (Ann.seq (Ann.draw (Sch.take 0 (Sch.take 1 (Sch.take 2 (Sch.take 3 (Sch.take 4 (Sch.take 5 (Sch.take 6 (Sch.take 7 (Sch.take 8 (Sch.take 9 (Sch.take 10 (Sch.take 11 (Sch.take 12 (Sch.one 13 (Sch.take 14 (Sch.take 15 (Sch.take 16 (Sch.take 17 (Sch.take 18 Sch.done)))))))))))))))))))) Ann.text) (Ann.seq Ann.text (Ann.cond (Ann.seq (Ann.draw (Sch.take 0 (Sch.take 1 (Sch.take 2 (Sch.take 3 (Sch.take 4 (Sch.take 5 (Sch.take 6 (Sch.take 7 (Sch.one 8 (Sch.take 9 (Sch.take 10 (Sch.take 11 (Sch.take 12 (Sch.take 13 Sch.done))))))))))))))) Ann.text) (Ann.seq Ann.text (Ann.cond (Ann.seq Ann.text (Ann.join [14] [121, 122, 123, 124, 125, 126, 127, 128, 129, 130, 131, 132] (Ann.seq Ann.text (Ann.cond Ann.text Ann.leaf)) Ann.text)) (Ann.seq Ann.text (Ann.cond (Ann.seq Ann.text (Ann.seq Ann.text Ann.leaf)) (Ann.seq Ann.text (Ann.cond (Ann.seq Ann.text (Ann.cond (Ann.seq Ann.text (Ann.seq Ann.text Ann.leaf)) Ann.leaf)) (Ann.seq Ann.text (Ann.cond (Ann.seq Ann.text (Ann.seq Ann.text (Ann.seq Ann.text Ann.leaf))) (Ann.seq Ann.text (Ann.cond (Ann.seq Ann.text Ann.leaf) (Ann.join [175] [176, 177] (Ann.seq Ann.text (Ann.cond Ann.leaf Ann.text)) (Ann.cond (Ann.seq Ann.text Ann.leaf) (Ann.seq Ann.text Ann.leaf))))))))))))))))))))))) (Ann.seq Ann.text (Ann.seq Ann.text Ann.leaf))))))))
    Tryz.func14 (by kernel_rfl) (by kernel_rfl)
    (Eq.mp (by kernel_rfl) h)
abbrev vB8 (x : W64) : Value := .int .u8 (x.toNat : Int)
theorem M.u64of8_i {k : Kt} {w : World} {n : Nat} (hn : n < 18446744073709551616) (h : k (.int .u64 (n : Int)) w) : M.conv .u64 (.int .u8 (n : Int)) k w := by
  unfold M.conv
  have : IntKind.u64.wrap (n : Int) = n := by
    simp [IntKind.wrap, IntKind.bits, IntKind.signed]
    omega
  simp only [this]; exact h
theorem M.loadIns_i {k : Kt} {w : World} {b o : Nat} {i : Ins} (hc : ∀ (j : Nat) v, i.cells[j]? = some v → w.cell? ⟨b, o + j, none⟩ = some v) (h : k (encI i) w) : M.loadA 5 (.pointer (some ⟨b, o, none⟩)) k w := by
  have := rdL_cells (w := w) (b := b) (o := o) (cs := i.cells) 5 0 (fun j hj => hc j _ (List.getElem?_eq_getElem hj)) rfl
  unfold M.loadA
  simp only [this]
  exact h
theorem insc_one (i : Ins) : ∀ v ∈ i.cells, v.oneCell' = true := by
  simp only [Ins.cells, List.mem_cons, List.not_mem_nil, or_false, forall_eq_or_imp, forall_eq]
  exact ⟨rfl, rfl, rfl, rfl, rfl⟩
theorem icells_len (i : Ins) : i.cells.length = 5 := rfl
structure NmC (s : St) : Prop where
  cells : s.cells.length ≤ 1000000
  disk : s.dev.disk.length ≤ 1000000
  pend : s.dev.pend.length ≤ 1000000
  ep : 0 ≤ s.dev.ep ∧ s.dev.ep ≤ 1000000
  calls : 0 ≤ s.calls ∧ s.calls ≤ 1000000
  steps : 0 ≤ s.steps ∧ s.steps ≤ 1000000
  pc : 0 ≤ s.pc ∧ s.pc ≤ 1000000
section
variable {w : World} {D : Nat → Prop} {s : St}
theorem StO.up {w' : World} {w4 : World} {r : Value} {t : St} (h : StO w' (fun q => (D q ∧ q < w.heap.size) ∨ w4.heap.size ≤ q) r t) (hq : w.heap.size ≤ w4.heap.size) : StO w' (fun q => D q ∨ w.heap.size ≤ q) r t :=
  h.mono (fun q _ h => by rcases h with h | h; exact .inl h.1; exact .inr (Nat.le_trans hq h))
set_option maxHeartbeats 8000000 in
theorem rstep_ret {D1 D2 : Nat → Prop} {code : List Ins} {cv v iv : Value} {bs : List W64} {mw : Int} (hcode : LN Ins.cells w D1 cv code) (hcl : code.length ≤ 1000000) (hs : StO w D v s) (hiv : LV vB8 w D2 iv bs) (hil : bs.length ≤ 1000000) (hN : NmC s) :
    Ret Tryz.prog 14 #[cv, v, iv, vi mw] w (fun r w' => StO w' (fun q => D q ∨ w.heap.size ≤ q) r (stepC code bs mw s) ∧ Keep w w' No) := by
  have hs0 := hs.mono (D' := fun q => D q ∧ q < w.heap.size) (fun q hq h => ⟨h, hq⟩)
  obtain ⟨h8, c, a, b, rfl, hc, hd⟩ := id hs0
  obtain ⟨C, cC, rfl, hrC, hcC⟩ := hcode
  obtain ⟨I, cI, rfl, hrI, hcI⟩ := hiv
  have hst := hN.steps
  have hpc := hN.pc
  refine ok14 _ _ _ _ _ _ ?_
  unfold sh14
  refine M.new_i (l := s.vals c a b) (fun w1 b1 k1 s1 => ?_)
  refine M.new_i (l := zSt) (fun w2 b2 k2 s2 => ?_)
  have b1 := b1.keep k2 (fun h => h)
  have k02 := k1.trans k2 (fun _ _ h => h)
  -- a way out with the state that is
  have retS : ∀ (w4 : World) (t : St) (R : Kt), t.regs.length = 8 → t.cells = s.cells → t.dev = s.dev → Blk w4 w.heap.size (t.vals c a b) → Blk w4 w1.heap.size zSt → Keep w w4 No → (∀ r w', StO w' (fun q => D q ∨ w.heap.size ≤ q) r t → Keep w w' No → R r w') →
      M.loadA 18 (ptr w.heap.size) (fun t18 w => M.store 18 (ptr w1.heap.size) t18 (fun _ w => M.loadA 18 (ptr w1.heap.size) (fun r0 w => R r0 w) w) w) w4 := fun w4 t R t8 tc td g1 g2 k04 hR => by
    refine M.loadAll_i g1 (sv_len t8) ?_
    refine M.storeAll_i g2 (sv_len t8) rfl (sv_one (LV.one hc) (LV.one hd.1) (LN.one hd.2)) (fun w5 b5 k5 s5 => ?_)
    refine M.loadAll_i b5 (sv_len t8) ?_
    have k05 : Keep w w5 No := k04.trans k5 (fun q hq e => by have e : q = w1.heap.size := e; omega)
    refine hR _ _ (StO.of_vals t8 ?_ ?_) k05
    · rw [tc]; exact (hc.keep k05 (fun _ _ _ h => h)).mono (fun q _ h => .inl h.1)
    · rw [td]; exact (hd.keep k05 (fun _ _ _ h => h)).mono (fun q _ h => .inl h.1)
  -- a way out with the state that a call gives
  have retC : ∀ (w4 w5 : World) (r : Value) (t : St) (R : Kt), StO w5 (fun q => (D q ∧ q < w.heap.size) ∨ w4.heap.size ≤ q) r t → w2.heap.size ≤ w4.heap.size → Blk w5 w1.heap.size zSt → Keep w w5 No → (∀ r w', StO w' (fun q => D q ∨ w.heap.size ≤ q) r t → Keep w w' No → R r w') →
      M.store 18 (ptr w1.heap.size) r (fun _ w => M.loadA 18 (ptr w1.heap.size) (fun r0 w => R r0 w) w) w5 := fun w4 w5 r t R ht hq g2 k05 hR => by
    obtain ⟨t8, c5, a5, b5, rfl, hc5, hd5⟩ := id ht
    refine M.storeAll_i g2 (sv_len t8) rfl (sv_one (LV.one hc5) (LV.one hd5.1) (LN.one hd5.2)) (fun w6 b6 k6 s6 => ?_)
    refine M.loadAll_i b6 (sv_len t8) ?_
    refine hR _ _ (StO.up (w := w) (w4 := w4) (ht.keep k6 (fun q hq h e => by have e : q = w1.heap.size := e; rcases h with h | h <;> omega)) (by omega)) (k05.trans k6 (fun q hq e => by have e : q = w1.heap.size := e; omega))
  refine M.field_i ?_
  refine M.loadB_i b1 (sv_at h8 4) ?_
  by_cases hen : s.en = 0
  case neg =>
    have e : stepC code bs mw s = s := by unfold stepC; rw [if_pos hen]
    rw [e]
    refine M.neq_t hen ?_
    refine M.cond_t ?_
    exact retS w2 s _ h8 rfl rfl b1 b2 k02 (fun r w' h1 h2 => ⟨h1, h2⟩)
  have eS : stepC code bs mw s = (match insAt code s.pc with
    | none => ({ s with steps := s.steps + 1 } : St).trap 256
    | some i => execC bs mw { s with steps := s.steps + 1 } i) := by
    unfold stepC; rw [if_neg (fun h => h hen)]
    cases insAt code s.pc <;> rfl
  rw [eS]
  refine M.neq_f hen ?_
  refine M.cond_f ?_
  refine M.field_i ?_
  refine M.loadB_i b1 (sv_at h8 2) ?_
  refine M.add_i (by omega) (by omega) ?_
  refine M.field_i ?_
  refine M.store_i b1 (sv_lt h8 (by omega)) rfl (fun w3 b3 k3 s3 => ?_)
  have b3 := Blk.sset (j := 2) (t := { s with steps := s.steps + 1 }) h8 b3 (by omega) rfl
  have b32 := b2.keep k3 (fun h => by omega)
  have k03 : Keep w w3 No := k02.trans k3 (fun q hq e => by have e : q = w.heap.size := e; omega)
  have hh8 : ({ s with steps := s.steps + 1 } : St).regs.length = 8 := h8
  have hNc := hN.cells
  have hNd := hN.disk
  have hNp := hN.pend
  have hNe := hN.ep
  have hNl := hN.calls
  generalize hS : ({ s with steps := s.steps + 1 } : St) = S at b3 hh8 ⊢
  have Spc : S.pc = s.pc := by rw [← hS]
  have Sc : S.cells = s.cells := by rw [← hS]
  have Sd : S.dev = s.dev := by rw [← hS]
  have Scl : S.calls = s.calls := by rw [← hS]
  have hs3 : StO w3 (fun q => D q ∧ q < w.heap.size) (.agg ⟨S.vals c a b⟩) S := StO.of_vals hh8 (by rw [Sc]; exact hc.keep k03 (fun _ _ _ h => h)) (by rw [Sd]; exact hd.keep k03 (fun _ _ _ h => h))
  -- a trap's way out
  have bad : ∀ (w4 : World) (n : Int) (R : Kt), Keep w3 w4 No → (∀ r w', StO w' (fun q => D q ∨ w.heap.size ≤ q) r (S.trap n) → Keep w w' No → R r w') →
      M.call Tryz.prog 25 #[.agg ⟨S.vals c a b⟩, vi n] (fun t33 w => M.store 18 (ptr w1.heap.size) t33 (fun _ w => M.loadA 18 (ptr w1.heap.size) (fun r0 w => R r0 w) w) w) w4 := fun w4 n R k34 hR => by
    refine M.call_i (rtrap_ret (hs3.keep k34 (fun _ _ _ h => h)) n) ?_
    rintro r w5 ⟨hs5, k5⟩
    have q34 := k34.size
    exact retC w4 w5 r _ R (hs5.mono (fun q _ h => .inl h)) (by omega) ((b32.keep k34 (fun h => h)).keep k5 (fun h => h)) ((k03.trans k34 (fun _ _ h => h)).trans k5 (fun _ _ h => h)) hR
  refine M.field_i ?_
  refine M.loadB_i b3 (sv_at hh8 1) ?_
  rw [Spc]
  by_cases hp0 : s.pc < 0
  · omega
  refine M.lss_f hp0 ?_
  refine M.gd_ff ?_
  refine M.field_i ?_
  refine M.gd_ff ?_
  refine M.loadB_i b3 (sv_at hh8 1) ?_
  rw [Spc]
  by_cases hpl : (code.length : Int) ≤ s.pc
  · have hno : insAt code s.pc = none := by unfold insAt; rw [if_neg (by omega)]
    rw [hno]
    (repeat (first|refine ja ?_|refine jg ?_|refine ji ?_|refine jk ?_|refine jl ?_|refine jo ?_|refine jE ?_))
    refine M.loadAll_i b3 (sv_len hh8) ?_
    exact bad w3 256 _ (Keep.refl _ _) (fun r w' h1 h2 => ⟨h1, h2⟩)
  obtain ⟨i, hi⟩ : ∃ i, code[s.pc.toNat]? = some i := ⟨_, List.getElem?_eq_getElem (by omega)⟩
  have hins : insAt code s.pc = if okI i code.length then some i else none := by
    unfold insAt
    rw [if_pos (by omega), hi]
  have hrC3 := hrC.keep k03 (fun _ _ _ h => h)
  (repeat (first|refine ja ?_|refine jc ?_|refine jg ?_|refine jl ?_|refine jF ?_))
  refine M.loadB_i b3 (sv_at hh8 1) ?_
  rw [Spc]
  (repeat (refine jg ?_))
  refine M.idxF_i icells_len (by omega) hrC3 rfl (by omega) (x := i) hi (fun bb oo hcc => ?_)
  refine M.gd_ff ?_
  refine M.loadIns_i hcc ?_
  (repeat (first|refine ja ?_|refine jg ?_))
  refine M.call_i (rcheck_ret i hcl w3) ?_
  rintro _ w5 ⟨e, rfl, he, k5⟩
  have b51 := b3.keep k5 (fun h => h)
  have b52 := b32.keep k5 (fun h => h)
  have k05 := k03.trans k5 (fun _ _ h => h)
  have q5 := k5.size
  by_cases hok : okI i code.length = true
  case neg =>
    have hno : insAt code s.pc = none := by rw [hins, if_neg hok]
    have he0 : ¬ e = 0 := fun h => hok (he.1 h)
    rw [hno]
    (repeat (first|refine jg ?_|refine jl ?_|refine jo ?_|refine jI ?_))
    refine M.loadAll_i b51 (sv_len hh8) ?_
    exact bad w5 256 _ k5 (fun r w' h1 h2 => ⟨h1, h2⟩)
  have hsome : insAt code s.pc = some i := by rw [hins, if_pos hok]
  have he0 : e = 0 := he.2 hok
  rw [hsome]
  have hrC5 := hrC.keep k05 (fun _ _ _ h => h)
  (repeat (first|refine jc ?_|refine jg ?_|refine jl ?_|refine jp ?_|refine jJ ?_))
  refine M.loadB_i b51 (sv_at hh8 1) ?_
  rw [Spc]
  refine M.idxF_i icells_len (by omega) hrC5 rfl (by omega) (x := i) hi (fun bb2 oo2 hcc2 => ?_)
  refine M.loadIns_i hcc2 ?_
  refine M.new_i (l := [vi 0, vi 0, vi 0, vi 0, vw 0]) (fun w6 b6 k6 s6 => ?_)
  refine M.storeAll_i (vs := i.cells) b6 rfl rfl (insc_one i) (fun w7 b7 k7 s7 => ?_)
  have b7 : Blk w7 w5.heap.size [vi i.op, vi i.a, vi i.b, vi i.c, vw i.imm] := b7
  have k57 : Keep w5 w7 No := k6.trans k7 (fun q hq e => by have e : q = w5.heap.size := e; omega)
  have b71 := b51.keep k57 (fun h => h)
  have b72 := b52.keep k57 (fun h => h)
  have k07 := k05.trans k57 (fun _ _ h => h)
  have k37 := k5.trans k57 (fun _ _ h => h)
  have q7 := k57.size
  have hs7 := hs3.keep k37 (fun _ _ _ h => h)
  show M.fieldAddr 0 (ptr w5.heap.size) _ w7
  refine M.field_i ?_
  refine M.loadB_i b7 rfl ?_
  have ha1 : hasA i.op = true → 0 ≤ i.a ∧ i.a ≤ 7 := okI_a hok
  have hb1 : hasB i.op = true → 0 ≤ i.b ∧ i.b ≤ 7 := okI_b hok
  have hc1 : hasC i.op = true → 0 ≤ i.c ∧ i.c ≤ 7 := okI_c hok
  have hop := okI_op hok
  have him := okI_imm hok
  clear bad
  refine M.share_j (fun vals w' => ∃ t : St, t.regs.length = 8 ∧ t.cells = s.cells ∧ t.dev = s.dev ∧ t.pc = s.pc ∧ Blk w' w.heap.size (t.vals c a b) ∧ Blk w' w1.heap.size zSt ∧ Keep w w' No ∧ t.next = execC bs mw S i) ?_ ?_
  · rintro vals w4 ⟨t, t8, tc, td, tp, g1, g2, k04, ht⟩ _
    refine M.field_i ?_
    refine M.loadB_i g1 (sv_at t8 1) ?_
    refine M.add_i (by omega) (by omega) ?_
    refine M.field_i ?_
    refine M.store_i g1 (sv_lt t8 (by omega)) rfl (fun w8 b8 k8 s8 => ?_)
    have b8 := Blk.sset (s := t) (j := 1) (t := t.next) t8 b8 (by omega) rfl
    refine retS w8 t.next _ t8 tc td b8 (g2.keep k8 (fun h => by omega)) (k04.trans k8 (fun q hq e => by have e : q = w.heap.size := e; omega)) (fun r w' h1 h2 => ⟨by show StO w' _ r (execC bs mw S i); rw [← ht]; exact h1, h2⟩)
  intro K hK
  have hK : ∀ (t : St) (w' : World), t.regs.length = 8 → t.cells = s.cells → t.dev = s.dev → t.pc = s.pc → Blk w' w.heap.size (t.vals c a b) → Blk w' w1.heap.size zSt → Keep w w' No → t.next = execC bs mw S i → K [] w' := fun t w' h1 h2 h3 h4 h5 h6 h7 h9 => hK _ _ ⟨t, h1, h2, h3, h4, h5, h6, h7, h9⟩
  -- a register is put
  have setK : ∀ (w4 : World) (y : W64), Keep w7 w4 No → (0 ≤ i.a ∧ i.a ≤ 7) → execC bs mw S i = S.set i y → M.store 1 (.pointer (some ⟨w.heap.size, 0 + 0 + i.a.toNat * 1, none⟩)) (vw y) (fun _ w => K [] w) w4 := fun w4 y k74 hA hE => by
    have g1 := b71.keep k74 (fun h => h)
    have g2 := b72.keep k74 (fun h => h)
    refine M.store_i g1 (sv_lt hh8 (by omega)) rfl (fun w8 b8 k8 s8 => ?_)
    have b8 := Blk.sreg (r := i.a) hh8 b8 (by omega) hA
    have q8 := k74.size
    exact hK { S with regs := S.regs.set i.a.toNat y } w8 (by simp [hh8]) Sc Sd Spc b8 (g2.keep k8 (fun h => by omega)) ((k07.trans k74 (fun _ _ h => h)).trans k8 (fun q hq e => by have e : q = w.heap.size := e; omega)) (by rw [hE]; rfl)
  have kd : Keep w7 w7.drew No := Keep.drew w7 No
  have b7d := b7.keep kd (fun h => h)
  have b71d := b71.keep kd (fun h => h)
  by_cases o1 : i.op = 1
  · have hA := ha1 (by rw [o1]; decide)
    refine M.eql_t o1 ?_
    refine M.cond_t ?_
    refine M.field_i ?_
    refine M.loadB_i b7 rfl ?_
    refine M.field_i ?_
    refine M.loadB_i b7 rfl ?_
    refine M.field_i ?_
    refine M.arr_i hA.1 (by omega) ?_
    exact setK w7 i.imm (Keep.refl _ _) hA (by unfold execC; rw [if_pos o1])
  refine M.eql_f o1 ?_
  refine M.cond_f ?_
  by_cases o2 : i.op = 2
  · have hA := ha1 (by rw [o2]; decide)
    have hB := hb1 (by rw [o2]; decide)
    refine M.eql_t o2 ?_
    refine M.cond_t ?_
    refine M.draw_i ?_
    refine M.field_i ?_
    refine M.loadB_i b7d rfl ?_
    refine M.field_i ?_
    refine M.loadB_i b7d rfl ?_
    refine M.field_i ?_
    refine M.arr_i hB.1 (by omega) ?_
    refine M.loadB_i b71d (sv_reg hh8 hB) ?_
    refine M.field_i ?_
    refine M.arr_i hA.1 (by omega) ?_
    exact setK _ _ kd hA (by unfold execC; rw [if_neg o1, if_pos o2])
  refine M.eql_f o2 ?_
  refine M.cond_f ?_
  by_cases o3 : i.op = 3
  · have hA := ha1 (by rw [o3]; decide)
    have hB := hb1 (by rw [o3]; decide)
    have hC := hc1 (by rw [o3]; decide)
    have him3 : 1 ≤ i.imm.toNat ∧ i.imm.toNat ≤ 14 := by unfold immOk at him; rw [if_pos o3] at him; simpa using him
    refine M.eql_t o3 ?_
    refine M.cond_t ?_
    refine M.draw_i ?_
    refine M.field_i ?_
    refine M.loadB_i b7d rfl ?_
    refine M.int8_i (by omega) (by omega) ?_
    refine M.field_i ?_
    refine M.loadB_i b7d rfl ?_
    refine M.field_i ?_
    refine M.arr_i hB.1 (by omega) ?_
    refine M.loadB_i b71d (sv_reg hh8 hB) ?_
    refine M.field_i ?_
    refine M.loadB_i b7d rfl ?_
    refine M.field_i ?_
    refine M.arr_i hC.1 (by omega) ?_
    refine M.loadB_i b71d (sv_reg hh8 hC) ?_
    refine M.call_i (rbinary_ret _ _ _ _ _) ?_
    rintro _ w8 ⟨rfl, hw8⟩
    subst hw8
    refine M.stB_i b7d rfl ?_
    refine M.stB_i b7d rfl ?_
    refine M.stB_i b7d rfl ?_
    refine M.extract_i rfl ?_
    refine M.extract_i rfl ?_
    refine M.field_i ?_
    refine M.loadB_i b7d rfl ?_
    refine M.field_i ?_
    refine M.arr_i hA.1 (by omega) ?_
    exact setK _ _ kd hA (by unfold execC; rw [if_neg o1, if_neg o2, if_pos o3])
  refine M.eql_f o3 ?_
  refine M.cond_f ?_
  by_cases o4 : i.op = 4
  · have hA := ha1 (by rw [o4]; decide)
    have hB := hb1 (by rw [o4]; decide)
    have him4 : i.imm.toNat = 15 ∨ i.imm.toNat = 16 := by unfold immOk at him; rw [if_neg o3, if_pos o4] at him; simpa using him
    refine M.eql_t o4 ?_
    refine M.cond_t ?_
    refine M.draw_i ?_
    refine M.field_i ?_
    refine M.loadB_i b7d rfl ?_
    refine M.int8_i (by omega) (by omega) ?_
    refine M.field_i ?_
    refine M.loadB_i b7d rfl ?_
    refine M.field_i ?_
    refine M.arr_i hB.1 (by omega) ?_
    refine M.loadB_i b71d (sv_reg hh8 hB) ?_
    refine M.call_i (runary_ret _ _ _ _) ?_
    rintro _ w8 ⟨rfl, hw8⟩
    subst hw8
    refine M.stB_i b7d rfl ?_
    refine M.stB_i b7d rfl ?_
    refine M.extract_i rfl ?_
    refine M.extract_i rfl ?_
    refine M.field_i ?_
    refine M.loadB_i b7d rfl ?_
    refine M.field_i ?_
    refine M.arr_i hA.1 (by omega) ?_
    exact setK _ _ kd hA (by unfold execC; rw [if_neg o1, if_neg o2, if_neg o3, if_pos o4])
  refine M.eql_f o4 ?_
  refine M.cond_f ?_
  by_cases o9 : i.op = 9
  · have hA := ha1 (by rw [o9]; decide)
    have him9 : i.imm.toNat < 4 := by unfold immOk at him; rw [if_neg o3, if_neg o4, if_neg (by omega), if_pos o9] at him; simpa using him
    refine M.eql_t o9 ?_
    refine M.cond_t ?_
    refine M.share_j (fun vals w' => vals = [vw (inputC bs i)] ∧ w7 = w') ?_ ?_
    · rintro vals w' ⟨rfl, rfl⟩ _
      simp only [List.getD_cons_zero, List.getD_cons_succ]
      refine M.field_i ?_
      refine M.loadB_i b7 rfl ?_
      refine M.field_i ?_
      refine M.arr_i hA.1 (by omega) ?_
      refine setK _ _ (Keep.refl _ _) hA ?_
      unfold execC
      rw [if_neg o1, if_neg o2, if_neg o3, if_neg o4, if_neg (by omega), if_neg (by omega), if_neg (by omega), if_neg (by omega), if_pos o9]
    · intro K2 hK2
      refine M.field_i ?_
      refine M.loadB_i b7 rfl ?_
      refine M.len_i ?_
      refine M.u64_i (by omega) ?_
      have hrI7 := hrI.keep k07 (fun _ _ _ h => h)
      unfold inputC at hK2
      by_cases hlt : i.imm.toNat < bs.length
      · rw [if_pos hlt] at hK2
        refine M.lss_t (by omega) ?_
        refine M.cond_t ?_
        refine M.field_i ?_
        refine M.loadB_i b7 rfl ?_
        refine M.idxLV_i hrI7 rfl (by omega) (by omega) (x := bs[i.imm.toNat]) (by rw [Int.toNat_natCast]; exact List.getElem?_eq_getElem hlt) (fun bb3 oo3 hA3 hcc3 => ?_)
        refine M.load_i hcc3 ?_
        refine M.u64of8_i (bs[i.imm.toNat]).isLt ?_
        rw [List.getD_eq_getElem?_getD, List.getElem?_eq_getElem hlt] at hK2
        exact hK2 _ _ ⟨rfl, rfl⟩
      · rw [if_neg hlt] at hK2
        refine M.lss_f (by omega) ?_
        refine M.cond_f ?_
        exact hK2 _ _ ⟨rfl, rfl⟩
  refine M.eql_f o9 ?_
  refine M.cond_f ?_
  by_cases o5 : i.op = 5
  · have him5 : 0 ≤ (code.length : Int) ∧ (i.imm.toNat : Int) < code.length := by unfold immOk at him; rw [if_neg o3, if_neg o4, if_pos (.inl o5)] at him; simpa using him
    have eE : execC bs mw S i = S.at i := by unfold execC; rw [if_neg o1, if_neg o2, if_neg o3, if_neg o4, if_pos o5]
    refine M.eql_t o5 ?_
    refine M.cond_t ?_
    refine M.field_i ?_
    refine M.loadB_i b7 rfl ?_
    refine M.int8_i (by omega) (by omega) ?_
    refine M.field_i ?_
    refine M.store_i b71 (sv_lt hh8 (by omega)) rfl (fun w8 b8 k8 s8 => ?_)
    have b8 := Blk.sset (s := S) (j := 1) (t := S.at i) hh8 b8 (by omega) rfl
    refine retS w8 (S.at i) _ hh8 Sc Sd b8 (b72.keep k8 (fun h => by omega)) (k07.trans k8 (fun q hq e => by have e : q = w.heap.size := e; omega)) (fun r w' h1 h2 => ⟨by show StO w' _ r (execC bs mw S i); rw [eE]; exact h1, h2⟩)
  refine M.eql_f o5 ?_
  refine M.cond_f ?_
  by_cases o6 : i.op = 6
  · have hA := ha1 (by rw [o6]; decide)
    have him6 : 0 ≤ (code.length : Int) ∧ (i.imm.toNat : Int) < code.length := by unfold immOk at him; rw [if_neg o3, if_neg o4, if_pos (.inr o6)] at him; simpa using him
    have eE : execC bs mw S i = if S.reg i.a = 0 then S.next else S.at i := by unfold execC; rw [if_neg o1, if_neg o2, if_neg o3, if_neg o4, if_neg o5, if_pos o6]
    refine M.eql_t o6 ?_
    refine M.cond_t ?_
    refine M.field_i ?_
    refine M.loadB_i b7 rfl ?_
    refine M.field_i ?_
    refine M.arr_i hA.1 (by omega) ?_
    refine M.loadB_i b71 (sv_reg hh8 hA) ?_
    change M.bin .neq (vw (S.reg i.a)) (vw 0) _ _
    refine M.neqW_i ?_
    by_cases h0 : S.reg i.a = 0
    · rw [if_pos h0] at eE
      rw [decide_eq_false (fun h => h h0)]
      refine M.cond_f ?_
      exact hK S w7 hh8 Sc Sd Spc b71 b72 k07 eE.symm
    · rw [if_neg h0] at eE
      rw [decide_eq_true h0]
      refine M.cond_t ?_
      refine M.field_i ?_
      refine M.loadB_i b7 rfl ?_
      refine M.int8_i (by omega) (by omega) ?_
      refine M.field_i ?_
      refine M.store_i b71 (sv_lt hh8 (by omega)) rfl (fun w8 b8 k8 s8 => ?_)
      have b8 := Blk.sset (s := S) (j := 1) (t := S.at i) hh8 b8 (by omega) rfl
      refine retS w8 (S.at i) _ hh8 Sc Sd b8 (b72.keep k8 (fun h => by omega)) (k07.trans k8 (fun q hq e => by have e : q = w.heap.size := e; omega)) (fun r w' h1 h2 => ⟨by show StO w' _ r (execC bs mw S i); rw [eE]; exact h1, h2⟩)
  refine M.eql_f o6 ?_
  refine M.cond_f ?_
  by_cases o14 : i.op = 14
  · have hA := ha1 (by rw [o14]; decide)
    have eE : execC bs mw S i = { S with en := 1, value := S.reg i.a } := by
      unfold execC
      rw [if_neg o1, if_neg o2, if_neg o3, if_neg o4, if_neg o5, if_neg o6, if_neg (by omega), if_neg (by omega), if_neg (by omega), if_neg (by omega), if_neg (by omega), if_neg (by omega), if_neg (by omega), if_pos o14]
    refine M.eql_t o14 ?_
    refine M.cond_t ?_
    refine M.field_i ?_
    refine M.store_i b71 (sv_lt hh8 (by omega)) rfl (fun w8 b8 k8 s8 => ?_)
    have b8 := Blk.sset (s := S) (j := 4) (t := { S with en := 1 }) hh8 b8 (by omega) rfl
    have b78 := b7.keep k8 (fun h => by have := b51.lt; omega)
    refine M.field_i ?_
    refine M.loadB_i b78 rfl ?_
    refine M.field_i ?_
    refine M.arr_i hA.1 (by omega) ?_
    refine M.loadB_i b8 (sv_reg (s := { S with en := 1 }) hh8 hA) ?_
    refine M.field_i ?_
    refine M.store_i b8 (sv_lt (s := { S with en := 1 }) hh8 (by omega)) rfl (fun w9 b9 k9 s9 => ?_)
    have b9 := Blk.sset (s := { S with en := 1 }) (j := 6) (t := { S with en := 1, value := S.reg i.a }) hh8 b9 (by omega) rfl
    refine retS w9 { S with en := 1, value := S.reg i.a } _ hh8 Sc Sd b9 ((b72.keep k8 (fun h => by omega)).keep k9 (fun h => by omega)) ((k07.trans k8 (fun q hq e => by have e : q = w.heap.size := e; omega)).trans k9 (fun q hq e => by have e : q = w.heap.size := e; omega)) (fun r w' h1 h2 => ⟨by show StO w' _ r (execC bs mw S i); rw [eE]; exact h1, h2⟩)
  refine M.eql_f o14 ?_
  refine M.cond_f ?_
  by_cases o15 : i.op = 15
  · have him15 : 1 ≤ i.imm.toNat ∧ i.imm.toNat ≤ 255 := by unfold immOk at him; rw [if_neg o3, if_neg o4, if_neg (by omega), if_neg o9, if_pos o15] at him; simpa using him
    have eE : execC bs mw S i = S.trap i.imm.toNat := by
      unfold execC
      rw [if_neg o1, if_neg o2, if_neg o3, if_neg o4, if_neg o5, if_neg o6, if_neg (by omega), if_neg (by omega), if_neg (by omega), if_neg (by omega), if_neg (by omega), if_neg (by omega), if_neg (by omega), if_neg o14]
    refine M.eql_t o15 ?_
    refine M.cond_t ?_
    refine M.loadAll_i b71 (sv_len hh8) ?_
    refine M.field_i ?_
    refine M.loadB_i b7 rfl ?_
    refine M.int8_i (by omega) (by omega) ?_
    refine M.call_i (rtrap_ret hs7 _) ?_
    rintro r w8 ⟨hs8, k8⟩
    refine retC w7 w8 r _ _ (hs8.mono (fun q _ h => .inl h)) (by omega) (b72.keep k8 (fun h => h)) (k07.trans k8 (fun _ _ h => h)) (fun r w' h1 h2 => ⟨by show StO w' _ r (execC bs mw S i); rw [eE]; exact h1, h2⟩)
  refine M.eql_f o15 ?_
  refine M.cond_f ?_
  refine M.share_j (fun vals w' => vals = [.bool (decide (i.op = 7 ∨ i.op = 8))] ∧ w7 = w') ?_ ?_
  case refine_2 =>
    intro K3 hK3
    by_cases o7 : i.op = 7
    · refine M.eql_t o7 ?_
      refine M.cond_t ?_
      exact hK3 _ _ ⟨by rw [decide_eq_true (.inl o7)], rfl⟩
    · refine M.eql_f o7 ?_
      refine M.cond_f ?_
      by_cases o8 : i.op = 8
      · refine M.eql_t o8 ?_
        exact hK3 _ _ ⟨by rw [decide_eq_true (.inr o8)], rfl⟩
      · refine M.eql_f o8 ?_
        exact hK3 _ _ ⟨by rw [decide_eq_false (by omega)], rfl⟩
  rintro vals w' ⟨rfl, rfl⟩ _
  simp only [List.getD_cons_zero, List.getD_cons_succ]
  by_cases o78 : i.op = 7 ∨ i.op = 8
  · rw [decide_eq_true o78]
    have hA := ha1 (by rcases o78 with h | h <;> rw [h] <;> decide)
    have hB := hb1 (by rcases o78 with h | h <;> rw [h] <;> decide)
    refine M.cond_t ?_
    refine M.loadAll_i b71 (sv_len hh8) ?_
    refine M.loadAll_i b7 rfl ?_
    refine M.call_i (rmem_ret (i := i) hs7 (by rw [Sc]; exact hNc) (by rw [Spc]; exact hpc) hA hB o78) ?_
    rintro r w8 ⟨hs8, k8⟩
    have eE : execC bs mw S i = if i.op = 7 then eachC S (S.reg i.b) S.cells.length 257 (S.load i) else eachC S (S.reg i.a) S.cells.length 257 (S.store i) := by
      unfold execC
      rw [if_neg o1, if_neg o2, if_neg o3, if_neg o4, if_neg o5, if_neg o6]
      by_cases o7 : i.op = 7
      · rw [if_pos o7, if_pos o7]
      · rw [if_neg o7, if_neg o7, if_pos (by omega)]
    refine retC w7 w8 r _ _ hs8 (by omega) (b72.keep k8 (fun h => h)) (k07.trans k8 (fun _ _ h => h)) (fun r w' h1 h2 => ⟨by show StO w' _ r (execC bs mw S i); rw [eE]; exact h1, h2⟩)
  · rw [decide_eq_false o78]
    have hod : i.op = 10 ∨ i.op = 11 ∨ i.op = 12 ∨ i.op = 13 := by omega
    refine M.cond_f ?_
    refine M.loadAll_i b71 (sv_len hh8) ?_
    refine M.loadAll_i b7 rfl ?_
    refine M.call_i (rdev_ret (i := i) (mw := mw) hs7 (by rw [Sd]; exact hNd) (by rw [Sd]; exact hNp) (by rw [Sd]; exact hNe) (by rw [Spc]; exact hpc) (by rw [Scl]; exact hNl) (fun h1 h2 => ha1 (by rcases hod with h | h | h | h; rw [h]; decide; rw [h]; decide; exact absurd h h1; exact absurd h h2)) (fun h1 h2 => hb1 (by rcases hod with h | h | h | h; rw [h]; decide; rw [h]; decide; exact absurd h h1; exact absurd h h2)) hod) ?_
    rintro r w8 ⟨hs8, k8⟩
    have eE : execC bs mw S i = devC mw S i := by
      unfold execC devC
      rw [if_neg o1, if_neg o2, if_neg o3, if_neg o4, if_neg o5, if_neg o6, if_neg (fun h => o78 (.inl h)), if_neg (fun h => o78 (.inr h)), if_neg o9]
      by_cases o10 : i.op = 10
      · rw [if_pos o10, if_pos o10]
      · rw [if_neg o10, if_neg o10]
        by_cases o11 : i.op = 11
        · rw [if_pos o11, if_pos o11]
        · rw [if_neg o11, if_neg o11]
          by_cases o12 : i.op = 12
          · rw [if_pos o12, if_pos o12]
          · rw [if_neg o12, if_neg o12, if_pos (by omega)]
    refine retC w7 w8 r _ _ hs8 (by omega) (b72.keep k8 (fun h => h)) (k07.trans k8 (fun _ _ h => h)) (fun r w' h1 h2 => ⟨by show StO w' _ r (execC bs mw S i); rw [eE]; exact h1, h2⟩)
end
end Go.Proofs.YtanjlgafjgoaaaaGreat
namespace Go.Proofs.YtanjlgafjgoaaaaGreat
open Go.Mw
set_option linter.unusedVariables false
set_option linter.unusedSimpArgs false
set_option maxRecDepth 100000
attribute [local irreducible] M.val M.unit M.next M.pick M.new M.nilCheck M.load1 M.loadA M.store M.fieldAddr M.indexSl M.indexArr M.slice M.makeSlice M.buildSlice M.len M.lenS M.cap M.append M.extract M.conv M.not M.neg M.bin M.shift M.eqB M.eqNil M.scat M.call M.callv M.gd M.share M.cond M.loop M.draw pureW readW Ret
def sh6 (R : Kt) (w : World) : Prop :=
  M.call Tryz.prog 7 #[(Value.int IntKind.i64 200)] (fun t19 w =>
  M.eqNil 0 false t19 (fun t21 w =>
  M.cond t21
  (R (Value.bool false) w)
  (M.buildSlice 42 1 #[.int .u64 0] 2 [(0, (Value.int IntKind.u64 5)), (1, (Value.int IntKind.u64 6))] (fun t24 w =>
  M.call Tryz.prog 8 #[t19, t24] (fun t25 w =>
  M.extract 0 t25 (fun t26 w =>
  M.extract 1 t25 (fun t27 w =>
  M.new 33 #[.slice none 0 0, .slice none 0 0, .int .i64 0] (fun t2 w =>
  M.store 3 t2 t26 (fun _ w =>
  M.loadA 3 t2 (fun t30 w =>
  M.call Tryz.prog 9 #[t19, t30, (Value.int IntKind.i64 0), (Value.slice none 0 0)] (fun t31 w =>
  M.extract 0 t31 (fun t32 w =>
  M.extract 1 t31 (fun t33 w =>
  M.new 39 #[.int .i64 0, .int .i64 0, .int .i64 0, .int .i64 0, .int .i64 0, .int .i64 0, .int .i64 0, .int .i64 0, .slice none 0 0, .int .i64 0, .int .i64 0, .int .i64 0, .int .i64 0, .int .i64 0, .int .i64 0, .slice none 0 0, .slice none 0 0, .int .i64 0, .slice none 0 0] (fun t4 w =>
  M.store 19 t4 t32 (fun _ w =>
  pureW Tryz.prog (Instr.build 61 #[(0, (Value.int IntKind.i64 9))]) (fun t34 w =>
  pureW Tryz.prog (Instr.build 61 #[(0, (Value.int IntKind.i64 6)), (4, (Value.int IntKind.u64 0))]) (fun t35 w =>
  pureW Tryz.prog (Instr.build 61 #[(0, (Value.int IntKind.i64 10)), (1, (Value.int IntKind.i64 1))]) (fun t36 w =>
  M.buildSlice 61 5 #[.int .i64 0, .int .i64 0, .int .i64 0, .int .i64 0, .int .u64 0] 3 [(0, t34), (1, t35), (2, t36)] (fun t37 w =>
  M.loadA 19 t4 (fun t41 w =>
  M.call Tryz.prog 12 #[t19, t37, t41, (Value.int IntKind.i64 1), (Value.int IntKind.i64 2)] (fun t42 w =>
  M.extract 0 t42 (fun t43 w =>
  M.extract 1 t42 (fun t44 w =>
  M.len t43 (fun t46 w =>
  M.bin .neq t46 (Value.int IntKind.i64 1) (fun t47 w =>
  M.gd t47 false (fun k w => k t44 w) (fun t49 w =>
  M.gd t47 false (fun k w => M.bin .neq t49 (Value.int IntKind.i64 0) k w) (fun t50 w =>
  M.pick t47 (Value.bool true) t50 (fun t51 w =>
  M.cond t51
  (R (Value.bool false) w)
  (M.indexSl 19 t43 (Value.int IntKind.i64 0) (fun t56 w =>
  M.loadA 19 t56 (fun t57 w =>
  M.call Tryz.prog 12 #[t19, t37, t57, (Value.int IntKind.i64 1), (Value.int IntKind.i64 2)] (fun t58 w =>
  M.extract 0 t58 (fun t59 w =>
  M.extract 1 t58 (fun t60 w =>
  M.len t59 (fun t62 w =>
  M.bin .neq t62 (Value.int IntKind.i64 2) (fun t63 w =>
  M.gd t63 false (fun k w => k t60 w) (fun t65 w =>
  M.gd t63 false (fun k w => M.bin .neq t65 (Value.int IntKind.i64 0) k w) (fun t66 w =>
  M.pick t63 (Value.bool true) t66 (fun t67 w =>
  M.cond t67
  (R (Value.bool false) w)
  (M.indexSl 19 t59 (Value.int IntKind.i64 1) (fun t72 w =>
  M.loadA 19 t72 (fun t73 w =>
  M.call Tryz.prog 12 #[t19, t37, t73, (Value.int IntKind.i64 1), (Value.int IntKind.i64 2)] (fun t74 w =>
  M.extract 0 t74 (fun t75 w =>
  M.extract 1 t74 (fun t76 w =>
  M.fieldAddr 9 t4 (fun t77 w =>
  M.store 1 t77 (Value.int IntKind.i64 2) (fun _ w =>
  M.loadA 19 t4 (fun t81 w =>
  M.call Tryz.prog 12 #[t19, t37, t81, (Value.int IntKind.i64 1), (Value.int IntKind.i64 2)] (fun t82 w =>
  M.extract 0 t82 (fun t83 w =>
  M.extract 1 t82 (fun t84 w =>
  M.fieldAddr 0 t4 (fun t85 w =>
  M.indexArr 8 1 t85 (Value.int IntKind.i64 3) (fun t86 w =>
  M.store 1 t86 (Value.int IntKind.i64 999) (fun _ w =>
  M.loadA 19 t4 (fun t90 w =>
  M.call Tryz.prog 12 #[t19, t37, t90, (Value.int IntKind.i64 1), (Value.int IntKind.i64 2)] (fun t91 w =>
  M.extract 0 t91 (fun t92 w =>
  M.extract 1 t91 (fun t93 w =>
  M.fieldAddr 12 t4 (fun t94 w =>
  M.store 1 t94 (Value.int IntKind.i64 1) (fun _ w =>
  M.loadA 19 t4 (fun t98 w =>
  M.call Tryz.prog 12 #[t19, t37, t98, (Value.int IntKind.i64 1), (Value.int IntKind.i64 2)] (fun t99 w =>
  M.extract 0 t99 (fun t100 w =>
  M.extract 1 t99 (fun t101 w =>
  M.indexSl 19 t59 (Value.int IntKind.i64 0) (fun t103 w =>
  M.fieldAddr 9 t103 (fun t104 w =>
  M.load1 t104 (fun t105 w =>
  M.bin .eql t105 (Value.int IntKind.i64 0) (fun t106 w =>
  M.gd t106 true (fun k w => k t59 w) (fun t108 w =>
  M.gd t106 true (fun k w => M.indexSl 19 t108 (Value.int IntKind.i64 1) k w) (fun t109 w =>
  M.gd t106 true (fun k w => M.fieldAddr 9 t109 k w) (fun t110 w =>
  M.gd t106 true (fun k w => M.load1 t110 k w) (fun t111 w =>
  M.gd t106 true (fun k w => M.bin .eql t111 (Value.int IntKind.i64 2) k w) (fun t112 w =>
  M.pick t106 t112 (Value.bool false) (fun t113 w =>
  M.gd t113 true (fun k w => k t59 w) (fun t115 w =>
  M.gd t113 true (fun k w => M.indexSl 19 t115 (Value.int IntKind.i64 0) k w) (fun t116 w =>
  M.gd t113 true (fun k w => M.fieldAddr 18 t116 k w) (fun t117 w =>
  M.gd t113 true (fun k w => M.load1 t117 k w) (fun t118 w =>
  M.gd t113 true (fun k w => M.len t118 k w) (fun t119 w =>
  M.gd t113 true (fun k w => M.bin .eql t119 (Value.int IntKind.i64 1) k w) (fun t120 w =>
  M.pick t113 t120 (Value.bool false) (fun t121 w =>
  M.gd t121 true (fun k w => k t75 w) (fun t123 w =>
  M.gd t121 true (fun k w => M.len t123 k w) (fun t124 w =>
  M.gd t121 true (fun k w => M.bin .eql t124 (Value.int IntKind.i64 3) k w) (fun t125 w =>
  M.pick t121 t125 (Value.bool false) (fun t126 w =>
  M.gd t126 true (fun k w => k t76 w) (fun t128 w =>
  M.gd t126 true (fun k w => M.bin .eql t128 (Value.int IntKind.i64 0) k w) (fun t129 w =>
  M.pick t126 t129 (Value.bool false) (fun t130 w =>
  M.gd t130 true (fun k w => k t75 w) (fun t132 w =>
  M.gd t130 true (fun k w => M.indexSl 19 t132 (Value.int IntKind.i64 2) k w) (fun t133 w =>
  M.gd t130 true (fun k w => M.fieldAddr 12 t133 k w) (fun t134 w =>
  M.gd t130 true (fun k w => M.load1 t134 k w) (fun t135 w =>
  M.gd t130 true (fun k w => M.bin .eql t135 (Value.int IntKind.i64 2) k w) (fun t136 w =>
  M.pick t130 t136 (Value.bool false) (fun t137 w =>
  M.gd t137 true (fun k w => k t75 w) (fun t139 w =>
  M.gd t137 true (fun k w => M.indexSl 19 t139 (Value.int IntKind.i64 2) k w) (fun t140 w =>
  M.gd t137 true (fun k w => M.fieldAddr 13 t140 k w) (fun t141 w =>
  M.gd t137 true (fun k w => M.load1 t141 k w) (fun t142 w =>
  M.gd t137 true (fun k w => M.bin .eql t142 (Value.int IntKind.i64 258) k w) (fun t143 w =>
  M.pick t137 t143 (Value.bool false) (fun t144 w =>
  M.gd t144 true (fun k w => k t83 w) (fun t146 w =>
  M.gd t144 true (fun k w => M.len t146 k w) (fun t147 w =>
  M.gd t144 true (fun k w => M.bin .eql t147 (Value.int IntKind.i64 1) k w) (fun t148 w =>
  M.pick t144 t148 (Value.bool false) (fun t149 w =>
  M.gd t149 true (fun k w => k t84 w) (fun t151 w =>
  M.gd t149 true (fun k w => M.bin .eql t151 (Value.int IntKind.i64 0) k w) (fun t152 w =>
  M.pick t149 t152 (Value.bool false) (fun t153 w =>
  M.gd t153 true (fun k w => k t93 w) (fun t155 w =>
  M.gd t153 true (fun k w => M.bin .eql t155 (Value.int IntKind.i64 11) k w) (fun t156 w =>
  M.pick t153 t156 (Value.bool false) (fun t157 w =>
  M.gd t157 true (fun k w => k t100 w) (fun t159 w =>
  M.gd t157 true (fun k w => M.len t159 k w) (fun t160 w =>
  M.gd t157 true (fun k w => M.bin .eql t160 (Value.int IntKind.i64 0) k w) (fun t161 w =>
  M.pick t157 t161 (Value.bool false) (fun t162 w =>
  M.gd t162 true (fun k w => k t101 w) (fun t164 w =>
  M.gd t162 true (fun k w => M.bin .eql t164 (Value.int IntKind.i64 0) k w) (fun t165 w =>
  M.pick t162 t165 (Value.bool false) (fun t166 w =>
  R t166 w) w) w) w) w) w) w) w) w) w) w) w) w) w) w) w) w) w) w) w) w) w) w) w) w) w) w) w) w) w) w) w) w) w) w) w) w) w) w) w) w) w) w) w) w) w) w) w) w) w) w) w) w) w) w) w) w) w) w) w) w) w) w) w) w) w) w) w) w) w) w) w) w) w) w) w) w) w)) w) w) w) w) w) w) w) w) w) w)) w) w) w) w) w) w) w) w) w) w) w) w) w) w) w) w) w) w) w) w) w) w) w) w) w)) w) w
theorem ok6 (R : Kt) (w : World) (h : sh6 R w) : Ret Tryz.prog 6 #[] w R :=
  ret_mk <| calls_of_comp mixed (c := Tryz.f6.body.getD .skip) (args := []) (rs := [(ResultVar.tmp 0)]) (Ann.seq Ann.text (Ann.seq Ann.text (Ann.seq (Ann.seq Ann.text (Ann.cond (Ann.seq Ann.text Ann.leaf) Ann.leaf)) (Ann.seq Ann.text (Ann.seq Ann.text (Ann.seq Ann.text (Ann.seq Ann.text (Ann.seq (Ann.seq Ann.text (Ann.cond (Ann.seq Ann.text Ann.leaf) Ann.leaf)) (Ann.seq Ann.text (Ann.seq (Ann.seq Ann.text (Ann.cond (Ann.seq Ann.text Ann.leaf) Ann.leaf)) (Ann.seq Ann.text (Ann.seq Ann.text (Ann.seq Ann.text (Ann.seq Ann.text (Ann.seq Ann.text (Ann.seq Ann.text (Ann.seq Ann.text (Ann.seq Ann.text Ann.leaf))))))))))))))))))
    Tryz.func6 (by kernel_rfl) (by kernel_rfl)
    (Eq.mp (by kernel_rfl) h)
theorem dev37_ok {w : World} {F D : Nat → Prop} {p : Nat} {N N' : List Nd} {most e : Int} {ids : List Int} {u : Value} {xs : List W64} (hd : DagO w F p N most) (hl : LV vw w D u xs) (hf : xs.length ≤ 1000000) (hD : ∀ b, D b → ¬ F b) (h : devN most N xs [] = (N', ids, e)) :
    Ret Tryz.prog 8 #[ptr p, u] w (fun r w' => ∃ F' A c, r = .tuple #[.agg ⟨[.slice A ids.length c, .slice none 0 0, vi 0]⟩, vi e] ∧ DagO w' F' p N' most ∧ (∀ b, b < w.heap.size → F' b → F b) ∧ Keep w w' F ∧ LV vi w' (fun b => ¬ F' b) (.slice A ids.length c) ids) :=
  (device_ret hd hl hf hD).mono (fun r w' ⟨F', a, h1, h2, h3, h4, h5⟩ => by
    rw [h] at h1 h2 h5
    obtain ⟨A, c, rfl, g1, g2⟩ := h5
    exact ⟨F', A, c, h1, h2, h3, h4, A, c, rfl, g1.mono (fun b _ h => h.2), g2⟩)
theorem start37_ok {w : World} {F D : Nat → Prop} {p : Nat} {N N' : List Nd} {most z : Int} {a b cv : Value} {d : SDv} {conds : List Int} (hd : DagO w F p N most) (hs : SDvO w D a b d) (hcv : LV vi w D cv conds) (hD : ∀ b, D b → ¬ F b) (n : Int) (h : constN most N 64 0 = (N', z, 0)) :
    Ret Tryz.prog 9 #[ptr p, .agg ⟨[a, b, vi d.ep]⟩, vi n, cv] w (fun r w' => ∃ F' v, r = .tuple #[v, vi 0] ∧ DagO w' F' p N' most ∧ (∀ b, b < w.heap.size → F' b → F b) ∧ Keep w w' F ∧ SyO w' (fun b => ¬ F' b) v ⟨List.replicate 8 z, List.replicate (cellsOk n) z, 0, 0, 0, 0, 0, -1, d, conds⟩) :=
  (sstart_ret hd hs hcv hD n (by rw [h])).mono (fun r w' ⟨F', v, h1, h2, h3, h4, h5⟩ => by
    rw [h] at h2 h5
    exact ⟨F', v, h1, h2, h3, h4, h5.mono (fun b _ h => h.2)⟩)
theorem lvw37_of_blk {w : World} {b n : Nat} {xs : List W64} (h : Blk w b (xs.map vw)) (hn : n = xs.length) {D : Nat → Prop} (hD : D b) : LV vw w D (.slice (some ⟨b, 0, none⟩) n n) xs := by
  subst hn
  exact ⟨_, _, rfl, Row.of_blk' h hD, Nat.le_refl _⟩
theorem flat19 : ∀ (cs : List (List Value)), (∀ u ∈ cs, u.length = 19) → cs.flatten.length = cs.length * 19
  | [], _ => rfl
  | u :: cs, h => by
    rw [List.flatten_cons, List.length_append, flat19 cs (fun x hx => h x (List.mem_cons_of_mem _ hx)), h u List.mem_cons_self, List.length_cons]; omega
theorem flat19_get : ∀ (cs : List (List Value)) (k j : Nat) {u : List Value}, (∀ u ∈ cs, u.length = 19) → cs[k]? = some u → j < 19 → cs.flatten[k * 19 + j]? = u[j]?
  | [], k, j, u, _, h, _ => by simp at h
  | v :: cs, 0, j, u, hl, h, hj => by
    simp only [List.getElem?_cons_zero, Option.some.injEq] at h
    subst h
    rw [List.flatten_cons, List.getElem?_append_left (by rw [hl v List.mem_cons_self]; omega), Nat.zero_mul, Nat.zero_add]
  | v :: cs, k + 1, j, u, hl, h, hj => by
    rw [List.flatten_cons, List.getElem?_append_right (by rw [hl v List.mem_cons_self]; omega), hl v List.mem_cons_self]
    have := flat19_get cs k j (fun x hx => hl x (List.mem_cons_of_mem _ hx)) (by simpa using h) hj
    rw [← this]
    congr 1; omega
theorem M.idxOut_i {kt : Kt} {w : World} {D : Nat → Prop} {v : Value} {outs : List Sy} {dd : IntKind} {i : Int} {t : Sy} (h : OutS w D v outs) (h0 : 0 ≤ i) (ht : outs[i.toNat]? = some t)
    (hK : ∀ bb oo (L : List Value), (∀ (j : Nat) y, L[j]? = some y → w.cell? ⟨bb, oo + j, none⟩ = some y) → SyO w D (.agg ⟨L⟩) t → kt (.pointer (some ⟨bb, oo, none⟩)) w) : M.indexSl 19 v (.int dd i) kt w := by
  obtain ⟨A, cap, cs, rfl, hr, h2, _, h3⟩ := h
  have hlt := (List.getElem?_eq_some_iff.1 ht).1
  have hall : ∀ u ∈ cs, u.length = 19 := fun u hu => by
    obtain ⟨k, hk⟩ := List.mem_iff_getElem?.1 hu
    have hkl := (List.getElem?_eq_some_iff.1 hk).1
    exact (h3 k u outs[k] hk (List.getElem?_eq_getElem (by omega))).len19
  obtain ⟨u, hu⟩ : ∃ u, cs[i.toNat]? = some u := ⟨_, List.getElem?_eq_getElem (by omega)⟩
  refine M.idxRowN_i hr (by rw [flat19 cs hall, h2]) (by omega) h0 (by omega) (fun b o hA hc => ?_)
  have hs := h3 _ u t hu ht
  refine hK b (o + i.toNat * 19) u (fun j y hy => ?_) hs
  have hj : j < 19 := by
    have := (List.getElem?_eq_some_iff.1 hy).1
    rw [hs.len19] at this; exact this
  rw [hc j hj, flat19_get cs _ j hall hu hj, hy]
theorem M.load19_i {kt : Kt} {w : World} {bb oo : Nat} {L : List Value} (hl : L.length = 19) (hc : ∀ (j : Nat) y, L[j]? = some y → w.cell? ⟨bb, oo + j, none⟩ = some y) (h : kt (.agg ⟨L⟩) w) : M.loadA 19 (.pointer (some ⟨bb, oo, none⟩)) kt w := by
  have := rdL_cells (w := w) (b := bb) (o := oo) (cs := L) 19 0 (fun j hj => hc j _ (List.getElem?_eq_getElem hj)) (by omega)
  unfold M.loadA
  simp only [this]
  exact h
theorem OutS.keep {w w' : World} {D S : Nat → Prop} {v : Value} {outs : List Sy} (h : OutS w D v outs) (k : Keep w w' S) (hs : ∀ b, b < w.heap.size → D b → ¬ S b) : OutS w' D v outs := by
  obtain ⟨A, cap, cs, h1, h2, h3, h4, h5⟩ := h
  exact ⟨A, cap, cs, h1, h2.keep k hs, h3, h4, fun k' u t g1 g2 => (h5 k' u t g1 g2).keep k hs⟩
theorem OutS.mono {w : World} {D D' : Nat → Prop} {v : Value} {outs : List Sy} (h : OutS w D v outs) (hd : ∀ b, b < w.heap.size → D b → D' b) : OutS w D' v outs := by
  obtain ⟨A, cap, cs, h1, h2, h3, h4, h5⟩ := h
  exact ⟨A, cap, cs, h1, h2.mono hd, h3, h4, fun k' u t g1 g2 => (h5 k' u t g1 g2).mono hd⟩
theorem OutS.stepF {w w' : World} {F F' : Nat → Prop} {v : Value} {outs : List Sy} (h : OutS w (fun x => ¬ F x) v outs) (k : Keep w w' F) (hF : ∀ x, x < w.heap.size → F' x → F x) : OutS w' (fun x => ¬ F' x) v outs :=
  ((h.mono (D' := fun x => ¬ F x ∧ x < w.heap.size) (fun x hx h => ⟨h, hx⟩)).keep k (fun x _ h => h.1)).mono (fun x _ h hf => h.1 (hF x h.2 hf))
theorem SyO.stepF {w w' : World} {F F' : Nat → Prop} {v : Value} {t : Sy} (h : SyO w (fun x => ¬ F x) v t) (k : Keep w w' F) (hF : ∀ x, x < w.heap.size → F' x → F x) : SyO w' (fun x => ¬ F' x) v t :=
  ((h.mono (D' := fun x => ¬ F x ∧ x < w.heap.size) (fun x hx h => ⟨h, hx⟩)).keep k (fun x _ h => h.1)).mono (fun x _ h hf => h.1 (hF x h.2 hf))
theorem Step37_ok {w : World} {F : Nat → Prop} {p : Nat} {N : List Nd} {most : Int} {s : Sy} {D1 : Nat → Prop} {code : List Ins} {cv v : Value} {inputs mw : Int} {R : Rp} (hd : DagO w F p N most) (hcode : LN Ins.cells w D1 cv code) (hcl : code.length ≤ 1000000) (hs : SyO w (fun x => ¬ F x) v s) (hB : Bnd s) (hst : 0 ≤ s.steps ∧ s.steps ≤ 1000000) (hin : inputs ≤ 1000000) (hR : stepN most N code s inputs mw = R) :
    Ret Tryz.prog 12 #[ptr p, cv, v, vi inputs, vi mw] w (StepP w F p most R) := by
  subst hR
  exact Step37_ret hd hcode hcl hs (fun _ h => h) hB hst hin
def OutR (w : World) (D : Nat → Prop) (v : Value) (outs : List Sy) : Prop :=
  ∃ A cap cs, v = .slice A outs.length cap ∧ Row w D A (List.flatten cs) ∧ cs.length = outs.length ∧ ∀ (k : Nat) u t, cs[k]? = some u → outs[k]? = some t → t.regs.length = 8 ∧ ∃ c a b d, u = t.vals c a b d ∧ ∃ A' cp, d = .slice A' t.conds.length cp
theorem OutS.r {w : World} {D : Nat → Prop} {v : Value} {outs : List Sy} (h : OutS w D v outs) : OutR w D v outs := by
  obtain ⟨A, cap, cs, h1, h2, h3, h4, h5⟩ := h
  refine ⟨A, cap, cs, h1, h2, h3, fun k u t g1 g2 => ?_⟩
  obtain ⟨h8, c, a, b, d, e, _, _, A', cp, hd, _⟩ := h5 k u t g1 g2
  simp only [Value.agg.injEq, Array.mk.injEq] at e
  exact ⟨h8, c, a, b, d, e, A', cp, hd⟩
theorem OutR.keep {w w' : World} {D S : Nat → Prop} {v : Value} {outs : List Sy} (h : OutR w D v outs) (k : Keep w w' S) (hs : ∀ b, b < w.heap.size → D b → ¬ S b) : OutR w' D v outs := by
  obtain ⟨A, cap, cs, h1, h2, h3, h4⟩ := h
  exact ⟨A, cap, cs, h1, h2.keep k hs, h3, h4⟩
theorem OutR.mono {w : World} {D D' : Nat → Prop} {v : Value} {outs : List Sy} (h : OutR w D v outs) (hd : ∀ b, b < w.heap.size → D b → D' b) : OutR w D' v outs := by
  obtain ⟨A, cap, cs, h1, h2, h3, h4⟩ := h
  exact ⟨A, cap, cs, h1, h2.mono hd, h3, h4⟩
theorem Row.off {w : World} {D : Nat → Prop} {A : Option Addr} {l L : List Value} {t : Nat} (h : Row w D A l) (hb : Blk w t L) (hl : L.length < l.length) : Row w (fun x => D x ∧ x ≠ t) A l := by
  rcases h with h | ⟨b, o, c, T, fz, h1, h2, h3, h4⟩
  · exact .inl h
  · refine .inr ⟨b, o, c, T, fz, h1, ⟨h2, fun e => ?_⟩, h3, h4⟩
    subst e
    obtain ⟨T', hT'⟩ := hb
    rw [h3] at hT'
    simp only [Option.some.injEq, Obj.cells.injEq] at hT'
    obtain ⟨rfl, _⟩ := hT'
    have := h4 (l.length - 1) (by omega)
    rw [List.getElem?_eq_getElem (show l.length - 1 < l.length by omega)] at this
    have h5 := (List.getElem?_eq_some_iff.1 (by simpa using this)).1
    omega
theorem OutR.off {w : World} {D : Nat → Prop} {v : Value} {outs : List Sy} {t : Nat} {L : List Value} (h : OutR w D v outs) (hb : Blk w t L) (hL : L.length = 19) (h2 : 2 ≤ outs.length) : OutR w (fun x => D x ∧ x ≠ t) v outs := by
  obtain ⟨A, cap, cs, h1, hr, h3, h4⟩ := h
  have hall : ∀ u ∈ cs, u.length = 19 := fun u hu => by
    obtain ⟨k, hk⟩ := List.mem_iff_getElem?.1 hu
    have hkl := (List.getElem?_eq_some_iff.1 hk).1
    obtain ⟨h8, c, a, b, d, e, _⟩ := h4 k u outs[k] hk (List.getElem?_eq_getElem (by omega))
    rw [e]; exact vals_len h8
  exact ⟨A, cap, cs, h1, Row.off hr hb (by rw [flat19 cs hall]; omega), h3, h4⟩
theorem OutR.stepF {w w' : World} {F F' Z : Nat → Prop} {v : Value} {outs : List Sy} (h : OutR w (fun x => ¬ F x ∧ Z x) v outs) (k : Keep w w' F) (hF : ∀ x, x < w.heap.size → F' x → F x) : OutR w' (fun x => ¬ F' x ∧ Z x) v outs :=
  ((h.mono (D' := fun x => (¬ F x ∧ Z x) ∧ x < w.heap.size) (fun x hx h => ⟨h, hx⟩)).keep k (fun x _ h => h.1.1)).mono (fun x _ h => ⟨fun hf => h.1.1 (hF x h.2 hf), h.1.2⟩)
theorem M.idxOutR_i {kt : Kt} {w : World} {D : Nat → Prop} {v : Value} {outs : List Sy} {dd : IntKind} {i : Int} {t : Sy} (h : OutR w D v outs) (h0 : 0 ≤ i) (ht : outs[i.toNat]? = some t)
    (hK : ∀ bb oo c a b d, t.regs.length = 8 → (∃ A' cp, d = .slice A' t.conds.length cp) → (∀ (j : Nat) y, (t.vals c a b d)[j]? = some y → w.cell? ⟨bb, oo + j, none⟩ = some y) → kt (.pointer (some ⟨bb, oo, none⟩)) w) : M.indexSl 19 v (.int dd i) kt w := by
  obtain ⟨A, cap, cs, rfl, hr, h2, h3⟩ := h
  have hlt := (List.getElem?_eq_some_iff.1 ht).1
  have hall : ∀ u ∈ cs, u.length = 19 := fun u hu => by
    obtain ⟨k, hk⟩ := List.mem_iff_getElem?.1 hu
    have hkl := (List.getElem?_eq_some_iff.1 hk).1
    obtain ⟨h8, c, a, b, d, e, _⟩ := h3 k u outs[k] hk (List.getElem?_eq_getElem (by omega))
    rw [e]; exact vals_len h8
  obtain ⟨u, hu⟩ : ∃ u, cs[i.toNat]? = some u := ⟨_, List.getElem?_eq_getElem (by omega)⟩
  obtain ⟨h8, c, a, b, d, e, hd⟩ := h3 _ u t hu ht
  refine M.idxRowN_i hr (by rw [flat19 cs hall, h2]) (by omega) h0 (by omega) (fun bb o hA hc => ?_)
  refine hK bb (o + i.toNat * 19) c a b d h8 hd (fun j y hy => ?_)
  rw [← e] at hy
  have hj : j < 19 := by
    have := (List.getElem?_eq_some_iff.1 hy).1
    rw [e, vals_len h8] at this; exact this
  rw [hc j hj, flat19_get cs _ j hall hu hj, hy]
def L3 (w : World) (D : Nat → Prop) (c a b d : Value) (s : Sy) : Prop := LV vi w D c s.cells ∧ SDvO w D a b s.dev ∧ LV vi w D d s.conds
theorem L3.keep {w w' : World} {D S : Nat → Prop} {c a b d : Value} {s : Sy} (h : L3 w D c a b d s) (k : Keep w w' S) (hs : ∀ x, x < w.heap.size → D x → ¬ S x) : L3 w' D c a b d s := ⟨h.1.keep k hs, h.2.1.keep k hs, h.2.2.keep k hs⟩
theorem L3.mono {w : World} {D D' : Nat → Prop} {c a b d : Value} {s : Sy} (h : L3 w D c a b d s) (hd : ∀ x, x < w.heap.size → D x → D' x) : L3 w D' c a b d s := ⟨h.1.mono hd, h.2.1.mono hd, h.2.2.mono hd⟩
theorem L3.stepF {w w' : World} {F F' Z : Nat → Prop} {c a b d : Value} {s : Sy} (h : L3 w (fun x => ¬ F x ∧ Z x) c a b d s) (k : Keep w w' F) (hF : ∀ x, x < w.heap.size → F' x → F x) : L3 w' (fun x => ¬ F' x ∧ Z x) c a b d s :=
  ((h.mono (D' := fun x => (¬ F x ∧ Z x) ∧ x < w.heap.size) (fun x hx h => ⟨h, hx⟩)).keep k (fun x _ h => h.1.1)).mono (fun x _ h => ⟨fun hf => h.1.1 (hF x h.2 hf), h.1.2⟩)
theorem LN.stepF {α : Type} {f : α → List Value} {w w' : World} {F F' Z : Nat → Prop} {v : Value} {xs : List α} (h : LN f w (fun x => ¬ F x ∧ Z x) v xs) (k : Keep w w' F) (hF : ∀ x, x < w.heap.size → F' x → F x) : LN f w' (fun x => ¬ F' x ∧ Z x) v xs :=
  ((h.mono (D' := fun x => (¬ F x ∧ Z x) ∧ x < w.heap.size) (fun x hx h => ⟨h, hx⟩)).keep k (fun x _ h => h.1.1)).mono (fun x _ h => ⟨fun hf => h.1.1 (hF x h.2 hf), h.1.2⟩)
theorem SyO.of3 {w : World} {D : Nat → Prop} {c a b d : Value} {t s : Sy} (h8 : t.regs.length = 8) (h : L3 w D c a b d s) (h1 : t.cells = s.cells) (h2 : t.dev = s.dev) (h3 : t.conds = s.conds) : SyO w D (.agg ⟨t.vals c a b d⟩) t := SyO.of_vals h8 ⟨by rw [h1]; exact h.1, by rw [h2]; exact h.2.1, by rw [h3]; exact h.2.2⟩
abbrev xN2 : List Nd := [⟨20, 64, 0, 0, 0, 5⟩, ⟨20, 64, 0, 0, 0, 6⟩]
abbrev xN3 : List Nd := xN2 ++ [⟨20, 64, 0, 0, 0, 0⟩]
abbrev xS : Sy := ⟨List.replicate 8 2, List.replicate (cellsOk 0) 2, 0, 0, 0, 0, 0, -1, ⟨[0, 1], [], 0⟩, []⟩
abbrev xCode : List Ins := [⟨9, 0, 0, 0, 0⟩, ⟨6, 0, 0, 0, 0⟩, ⟨10, 1, 0, 0, 0⟩]
def xR1 : Rp := stepN 200 xN3 xCode xS 1 2
def xS1 : Sy := xR1.2.2.getD 0 xS
def xR2 : Rp := stepN 200 xR1.1 xCode xS1 1 2
def xM0 : Sy := xR2.2.2.getD 0 xS
def xM1 : Sy := xR2.2.2.getD 1 xS
def xR3 : Rp := stepN 200 xR2.1 xCode xM1 1 2
def xT2 : Sy := xR3.2.2.getD 2 xS
abbrev xSo : Sy := { xS with pc := 2 }
def xR4 : Rp := stepN 200 xR3.1 xCode xSo 1 2
abbrev xSi : Sy := { xSo with regs := [2, 2, 2, 999, 2, 2, 2, 2] }
abbrev xSp : Sy := { xSi with en := 1 }
theorem eR1 : stepN 200 xN3 xCode xS 1 2 = xR1 := rfl
theorem eR2 : stepN 200 xR1.1 xCode xS1 1 2 = xR2 := rfl
theorem eR3 : stepN 200 xR2.1 xCode xM1 1 2 = xR3 := rfl
theorem eR4 : stepN 200 xR3.1 xCode xSo 1 2 = xR4 := rfl
theorem x1 : xR1.2.1 = 0 ∧ xR1.2.2.length = 1 ∧ xR1.2.2[0]? = some xS1 := ⟨by kernel_rfl, by kernel_rfl, by kernel_rfl⟩
theorem x2 : xR2.2.1 = 0 ∧ xR2.2.2.length = 2 ∧ xR2.2.2[0]? = some xM0 ∧ xR2.2.2[1]? = some xM1 := ⟨by kernel_rfl, by kernel_rfl, by kernel_rfl, by kernel_rfl⟩
theorem x3 : xR3.2.1 = 0 ∧ xR3.2.2.length = 3 ∧ xR3.2.2[2]? = some xT2 := ⟨by kernel_rfl, by kernel_rfl, by kernel_rfl⟩
theorem x4 : xR4.2.1 = 0 ∧ xR4.2.2.length = 1 := ⟨by kernel_rfl, by kernel_rfl⟩
theorem x5 : stepN 200 xR4.1 xCode xSi 1 2 = (xR4.1, 11, []) := by kernel_rfl
theorem x6 : stepN 200 xR4.1 xCode xSp 1 2 = (xR4.1, 0, []) := by kernel_rfl
theorem x7 : xM0.pc = 0 ∧ xM1.pc = 2 ∧ xM0.conds.length = 1 ∧ xT2.en = 2 ∧ xT2.code = 258 := ⟨by kernel_rfl, by kernel_rfl, by kernel_rfl, by kernel_rfl, by kernel_rfl⟩
theorem bnd_dec {s : Sy} (h : (decide (0 ≤ s.pc ∧ s.pc ≤ 1000000) && (decide (0 ≤ s.calls ∧ s.calls ≤ 1000000) && (decide (0 ≤ s.dev.ep ∧ s.dev.ep ≤ 1000000) && (decide (s.cells.length ≤ 100000) && (decide (s.dev.disk.length ≤ 100000) && (decide (s.dev.pend.length ≤ 100000) && (decide (s.conds.length ≤ 1000000) && decide (0 ≤ s.steps ∧ s.steps ≤ 1000000)))))))) = true) : Bnd s ∧ (0 ≤ s.steps ∧ s.steps ≤ 1000000) := by
  simp only [Bool.and_eq_true, decide_eq_true_eq] at h
  exact ⟨⟨h.1, h.2.1, h.2.2.1, h.2.2.2.1, h.2.2.2.2.1, h.2.2.2.2.2.1, h.2.2.2.2.2.2.1⟩, h.2.2.2.2.2.2.2⟩
theorem bxS : Bnd xS ∧ (0 ≤ xS.steps ∧ xS.steps ≤ 1000000) := bnd_dec (by kernel_rfl)
theorem bxS1 : Bnd xS1 ∧ (0 ≤ xS1.steps ∧ xS1.steps ≤ 1000000) := bnd_dec (by kernel_rfl)
theorem bxM1 : Bnd xM1 ∧ (0 ≤ xM1.steps ∧ xM1.steps ≤ 1000000) := bnd_dec (by kernel_rfl)
theorem bxSo : Bnd xSo ∧ (0 ≤ xSo.steps ∧ xSo.steps ≤ 1000000) := bnd_dec (by kernel_rfl)
theorem bxSi : Bnd xSi ∧ (0 ≤ xSi.steps ∧ xSi.steps ≤ 1000000) := bnd_dec (by kernel_rfl)
theorem bxSp : Bnd xSp ∧ (0 ≤ xSp.steps ∧ xSp.steps ≤ 1000000) := bnd_dec (by kernel_rfl)
end Go.Proofs.YtanjlgafjgoaaaaGreat
namespace Go.Proofs.YtanjlgafjgoaaaaGreat
open Go.Mw
set_option linter.unusedVariables false
set_option linter.unusedSimpArgs false
set_option maxRecDepth 100000
attribute [local irreducible] M.val M.unit M.next M.pick M.new M.nilCheck M.load1 M.loadA M.store M.fieldAddr M.indexSl M.indexArr M.slice M.makeSlice M.buildSlice M.len M.lenS M.cap M.append M.extract M.conv M.not M.neg M.bin M.shift M.eqB M.eqNil M.scat M.call M.callv M.gd M.share M.cond M.loop M.draw pureW readW Ret
attribute [local irreducible] stepN xR1 xR2 xR3 xR4 xS1 xM0 xM1 xT2
theorem vals_at {t : Sy} {c a b d : Value} (h8 : t.regs.length = 8) (k : Nat) : (t.vals c a b d)[8 + k]? = ([c, vi t.pc, vi t.steps, vi t.calls, vi t.en, vi t.code, vi t.value, a, b, vi t.dev.ep, d] : List Value)[k]? := by
  unfold Sy.vals
  rw [List.getElem?_append_right (by simp [h8])]
  simp [h8]
set_option maxHeartbeats 8000000 in
theorem awake37_ret (w : World) : Ret Tryz.prog 6 #[] w (fun v w' => v = .bool true ∧ Keep w w' No) := by
  have d1 : devN 200 [] [5, 6] [] = (xN2, [0, 1], 0) := by kernel_rfl
  have d2 : constN 200 xN2 64 0 = (xN3, 2, 0) := by kernel_rfl
  refine ok6 _ _ ?_
  unfold sh6
  refine M.call_i (new_ret 200 w) ?_; rintro _ w1 ⟨F1, p, rfl, hd1, hF1, k1⟩
  rw [if_neg (by omega)] at hd1
  (repeat (first|refine jp ?_|refine jt ?_))
  refine M.buildSlice_i (([5, 6] : List W64).map vw) (by kernel_rfl) (fun w2 b2 k2 s2 => ?_)
  have hd2 := hd1.keepN k2
  have k02 := k1.trans k2 (fun _ _ h => h)
  have hnF : ∀ x, w.heap.size ≤ x → True := fun _ _ => trivial
  have hl2 : LV vw w2 (fun x => x = w1.heap.size) (.slice (some ⟨w1.heap.size, 0, none⟩) 2 2) ([5, 6] : List W64) := lvw37_of_blk b2 rfl rfl
  refine M.call_i (dev37_ok hd2 hl2 (by decide) (fun x hx hf => by have := hd1.lt hf; omega) d1) ?_; rintro _ w3 ⟨F3, A3, c3, rfl, hd3, hF3, k3, l3⟩
  refine M.extract_i (v := .agg ⟨[.slice A3 2 c3, .slice none 0 0, vi 0]⟩) rfl ?_
  refine M.extract_i (v := vi 0) rfl ?_
  refine M.new_i (l := [.slice none 0 0, .slice none 0 0, vi 0]) (fun w4 b4 k4 s4 => ?_)
  refine M.storeAll_i (vs := [.slice A3 2 c3, .slice none 0 0, vi 0]) b4 rfl rfl (by
    simp only [List.mem_cons, List.not_mem_nil, or_false, forall_eq_or_imp, forall_eq]
    exact ⟨rfl, rfl, rfl⟩) (fun w5 b5 k5 s5 => ?_)
  have k35 : Keep w3 w5 No := k4.trans k5 (fun x hx e => by have e : x = w3.heap.size := e; omega)
  have hd5 := hd3.keepN k35
  have l5 := l3.keep k35 (fun _ _ _ h => h)
  refine M.loadAll_i b5 rfl ?_
  have hv5 : SDvO w5 (fun x => ¬ F3 x) (.slice A3 2 c3) (.slice none 0 0) ⟨[0, 1], [], 0⟩ := ⟨l5, LN.nil _ _ _⟩
  refine M.call_i (start37_ok (d := ⟨[0, 1], [], 0⟩) hd5 hv5 (LV.nil vi w5 (fun x => ¬ F3 x)) (fun _ h => h) 0 d2) ?_; rintro _ w6 ⟨F6, v6, rfl, hd6, hF6, k6, hs6⟩
  refine M.extract_i (v := v6) rfl ?_
  refine M.extract_i (v := vi 0) rfl ?_
  have hlow : ∀ x, x < w.heap.size → ¬ F6 x := fun x hx h => by
    have q1 := k1.size; have q2 := k2.size; have q3 := k3.size; have q5 := k35.size
    have h1 := hF6 x (by omega) h
    have h2 := hF3 x (by omega) h1
    have := hF1 x h2
    omega
  have k06 : Keep w w6 No := by
    have q1 := k1.size; have q2 := k2.size; have q3 := k3.size; have q5 := k35.size
    refine ((k02.trans k3 (fun x hx h => ?_)).trans k35 (fun _ _ h => h)).trans k6 (fun x hx h => ?_)
    · have := hF1 x h; omega
    · have := hF1 x (hF3 x (by omega) h); omega
  obtain ⟨h8, c, a, b, d, rfl, hc, hdv, hcd⟩ := id hs6
  have o1 := LV.one hc
  have o2 := LV.one hdv.1
  have o3 := LN.one hdv.2
  have o4 := LV.one hcd
  refine M.new_i (l := zSy) (fun w7 b7 k7 s7 => ?_)
  refine M.storeAll_i (vs := [vi 2, vi 2, vi 2, vi 2, vi 2, vi 2, vi 2, vi 2, c, vi 0, vi 0, vi 0, vi 0, vi 0, vi (-1), a, b, vi 0, d]) b7 rfl rfl (vals_one (s := xS) o1 o2 o3 o4) (fun w8 b8 k8 s8 => ?_)
  have k68 : Keep w6 w8 No := k7.trans k8 (fun x hx e => by have e : x = w6.heap.size := e; omega)
  have hT : ¬ F6 w6.heap.size := fun h => by have := hd6.lt h; omega
  refine M.pure_i (.agg ⟨[vi 9, vi 0, vi 0, vi 0, vw 0]⟩) (fun _ => by kernel_rfl) ?_
  refine M.pure_i (.agg ⟨[vi 6, vi 0, vi 0, vi 0, vw 0]⟩) (fun _ => by kernel_rfl) ?_
  refine M.pure_i (.agg ⟨[vi 10, vi 1, vi 0, vi 0, vw 0]⟩) (fun _ => by kernel_rfl) ?_
  refine M.buildSlice_i (xCode.flatMap Ins.cells) (by kernel_rfl) (fun w9 b9 k9 s9 => ?_)
  have b8' := b8.keep k9 (fun h => h)
  have k69 := k68.trans k9 (fun _ _ h => h)
  have hd9 := hd6.keepN k69
  have q68 := k68.size
  have hCF : ¬ F6 w8.heap.size := fun h => by have := hd6.lt h; omega
  have hTl : w6.heap.size < w8.heap.size := b8.lt
  have hcode9 : LN Ins.cells w9 (fun x => ¬ F6 x ∧ x ≠ w6.heap.size) (.slice (some ⟨w8.heap.size, 0, none⟩) 3 3) xCode := ⟨_, _, rfl, Row.of_blk' b9 ⟨hCF, by omega⟩, Nat.le_refl _⟩
  have l6 : L3 w6 (fun x => ¬ F6 x ∧ x ≠ w6.heap.size) c a b d xS := L3.mono (D := fun x => ¬ F6 x) ⟨hc, hdv, hcd⟩ (fun x hx h => ⟨h, by omega⟩)
  have l9 := l6.keep k69 (fun _ _ _ h => h)
  have w3d : ∀ {w' : World} {F' : Nat → Prop} {xs : List Ins} {v : Value}, LN Ins.cells w' (fun x => ¬ F' x ∧ x ≠ w6.heap.size) v xs → LN Ins.cells w' (fun x => ¬ F' x) v xs := fun h => h.mono (fun x _ h => h.1)
  -- the first step
  refine M.loadAll_i b8' rfl ?_
  have hs9 : SyO w9 (fun x => ¬ F6 x) (.agg ⟨[vi 2, vi 2, vi 2, vi 2, vi 2, vi 2, vi 2, vi 2, c, vi 0, vi 0, vi 0, vi 0, vi 0, vi (-1), a, b, vi 0, d]⟩) xS := (SyO.of3 (t := xS) rfl l9 rfl rfl rfl).mono (fun x _ h => h.1)
  refine M.call_i (Step37_ok hd9 hcode9 (by decide) hs9 bxS.1 bxS.2 (by decide) eR1) ?_; rintro _ w10 ⟨F10, v10, rfl, hd10, hF10, k10, hO10⟩
  refine M.extract_i (v := v10) rfl ?_
  refine M.extract_i (v := vi xR1.2.1) rfl ?_
  rw [x1.1]
  obtain ⟨A10, cp10, cs10, e10, _⟩ := id hO10
  rw [x1.2.1] at e10
  rw [e10]
  (repeat (first|refine ja ?_|refine jg ?_|refine jl ?_|refine jp ?_|refine jJ ?_))
  rw [← e10]
  refine M.idxOut_i hO10 (by decide) x1.2.2 (fun bb oo L hL hsL => ?_)
  refine M.load19_i hsL.len19 hL ?_
  have hcode10 := hcode9.stepF k10 hF10
  have l10 := l9.stepF k10 hF10
  have n6 : ¬ F6 w6.heap.size := hT
  have q9 := k9.size; have q10 := k10.size
  have b10 := b8'.keep k10 n6
  have n10 : ¬ F10 w6.heap.size := fun h => n6 (hF10 _ (by omega) h)
  refine M.call_i (Step37_ok hd10 hcode10 (by decide) hsL bxS1.1 bxS1.2 (by decide) eR2) ?_; rintro _ w11 ⟨F11, v11, rfl, hd11, hF11, k11, hO11⟩
  refine M.extract_i (v := v11) rfl ?_
  refine M.extract_i (v := vi xR2.2.1) rfl ?_
  rw [x2.1]
  obtain ⟨A11, cp11, cs11, e11, _⟩ := id hO11
  rw [x2.2.1] at e11
  rw [e11]
  (repeat (first|refine ja ?_|refine jg ?_|refine jl ?_|refine jp ?_|refine jJ ?_))
  rw [← e11]
  refine M.idxOut_i hO11 (by decide) x2.2.2.2 (fun bb1 oo1 L1 hL1 hsL1 => ?_)
  refine M.load19_i hsL1.len19 hL1 ?_
  have hcode11 := hcode10.stepF k11 hF11
  have l11 := l10.stepF k11 hF11
  have q11 := k11.size
  have b11 := b10.keep k11 n10
  have n11 : ¬ F11 w6.heap.size := fun h => n10 (hF11 _ (by omega) h)
  have r11 := (hO11.r).off b11 rfl (by rw [x2.2.1]; decide)
  refine M.call_i (Step37_ok hd11 hcode11 (by decide) hsL1 bxM1.1 bxM1.2 (by decide) eR3) ?_; rintro _ w12 ⟨F12, v12, rfl, hd12, hF12, k12, hO12⟩
  refine M.extract_i (v := v12) rfl ?_
  refine M.extract_i (v := vi xR3.2.1) rfl ?_
  rw [x3.1]
  obtain ⟨A12, cp12, cs12, e12, _⟩ := id hO12
  rw [x3.2.1] at e12
  have hcode12 := hcode11.stepF k12 hF12
  have l12 := l11.stepF k12 hF12
  have r12 := r11.stepF k12 hF12
  have q12 := k12.size
  have b12 := b11.keep k12 n11
  have n12 : ¬ F12 w6.heap.size := fun h => n11 (hF12 _ (by omega) h)
  have r12n := (hO12.r).off b12 rfl (by rw [x3.2.1]; decide)
  -- the start again
  have b12 : Blk w12 w6.heap.size [vi 2, vi 2, vi 2, vi 2, vi 2, vi 2, vi 2, vi 2, c, vi 0, vi 0, vi 0, vi 0, vi 0, vi (-1), a, b, vi 0, d] := b12
  (repeat (refine jc ?_))
  refine M.store_i b12 (by simp) rfl (fun w13 b13 k13 s13 => ?_)
  have b13 : Blk w13 w6.heap.size [vi 2, vi 2, vi 2, vi 2, vi 2, vi 2, vi 2, vi 2, c, vi 2, vi 0, vi 0, vi 0, vi 0, vi (-1), a, b, vi 0, d] := b13
  have hd13 := hd12.keep k13 (fun x hf e => n12 (by have e : x = w6.heap.size := e; rw [← e]; exact hf))
  have l13 := l12.keep k13 (fun x _ h e => h.2 e)
  have r13 := r12.keep k13 (fun x _ h e => h.2 e)
  have r13n := r12n.keep k13 (fun x _ h e => h.2 e)
  have hcode13 := hcode12.keep k13 (fun x _ h e => h.2 e)
  refine M.loadAll_i b13 rfl ?_
  have hs13 : SyO w13 (fun x => ¬ F12 x) (.agg ⟨[vi 2, vi 2, vi 2, vi 2, vi 2, vi 2, vi 2, vi 2, c, vi 2, vi 0, vi 0, vi 0, vi 0, vi (-1), a, b, vi 0, d]⟩) xSo := (SyO.of3 (t := xSo) rfl l13 rfl rfl rfl).mono (fun x _ h => h.1)
  refine M.call_i (Step37_ok hd13 hcode13 (by decide) hs13 bxSo.1 bxSo.2 (by decide) eR4) ?_; rintro _ w14 ⟨F14, v14, rfl, hd14, hF14, k14, hO14⟩
  refine M.extract_i (v := v14) rfl ?_
  refine M.extract_i (v := vi xR4.2.1) rfl ?_
  rw [x4.1]
  obtain ⟨A14, cp14, cs14, e14, _⟩ := id hO14
  rw [x4.2] at e14
  have hcode14 := hcode13.stepF k14 hF14
  have l14 := l13.stepF k14 hF14
  have r14 := r13.stepF k14 hF14
  have r14n := r13n.stepF k14 hF14
  have q13 := k13.size
  have q14 := k14.size
  have b14 := b13.keep k14 n12
  have n14 : ¬ F14 w6.heap.size := fun h => n12 (hF14 _ (by omega) h)
  (repeat (refine jc ?_))
  refine M.arr8_i (by omega) (by omega) ?_
  refine M.store_i b14 (by simp) rfl (fun w15 b15 k15 s15 => ?_)
  have b15 : Blk w15 w6.heap.size [vi 2, vi 2, vi 2, vi 999, vi 2, vi 2, vi 2, vi 2, c, vi 2, vi 0, vi 0, vi 0, vi 0, vi (-1), a, b, vi 0, d] := b15
  have hd15 := hd14.keep k15 (fun x hf e => n14 (by have e : x = w6.heap.size := e; rw [← e]; exact hf))
  have l15 := l14.keep k15 (fun x _ h e => h.2 e)
  have r15 := r14.keep k15 (fun x _ h e => h.2 e)
  have r15n := r14n.keep k15 (fun x _ h e => h.2 e)
  have hcode15 := hcode14.keep k15 (fun x _ h e => h.2 e)
  refine M.loadAll_i b15 rfl ?_
  have hs15 : SyO w15 (fun x => ¬ F14 x) (.agg ⟨[vi 2, vi 2, vi 2, vi 999, vi 2, vi 2, vi 2, vi 2, c, vi 2, vi 0, vi 0, vi 0, vi 0, vi (-1), a, b, vi 0, d]⟩) xSi := (SyO.of3 (t := xSi) rfl l15 rfl rfl rfl).mono (fun x _ h => h.1)
  refine M.call_i (Step37_ok hd15 hcode15 (by decide) hs15 bxSi.1 bxSi.2 (by decide) x5) ?_; rintro _ w16 ⟨F16, v16, rfl, hd16, hF16, k16, hO16⟩
  refine M.extract_i (v := v16) rfl ?_
  refine M.extract_i (v := vi 11) rfl ?_
  have hcode16 := hcode15.stepF k16 hF16
  have l16 := l15.stepF k16 hF16
  have r16 := r15.stepF k16 hF16
  have r16n := r15n.stepF k16 hF16
  have q15 := k15.size
  have q16 := k16.size
  have b16 := b15.keep k16 n14
  have n16 : ¬ F16 w6.heap.size := fun h => n14 (hF16 _ (by omega) h)
  (repeat (refine jc ?_))
  refine M.store_i b16 (by simp) rfl (fun w17 b17 k17 s17 => ?_)
  have b17 : Blk w17 w6.heap.size [vi 2, vi 2, vi 2, vi 999, vi 2, vi 2, vi 2, vi 2, c, vi 2, vi 0, vi 0, vi 1, vi 0, vi (-1), a, b, vi 0, d] := b17
  have hd17 := hd16.keep k17 (fun x hf e => n16 (by have e : x = w6.heap.size := e; rw [← e]; exact hf))
  have l17 := l16.keep k17 (fun x _ h e => h.2 e)
  have r17 := r16.keep k17 (fun x _ h e => h.2 e)
  have r17n := r16n.keep k17 (fun x _ h e => h.2 e)
  have hcode17 := hcode16.keep k17 (fun x _ h e => h.2 e)
  refine M.loadAll_i b17 rfl ?_
  have hs17 : SyO w17 (fun x => ¬ F16 x) (.agg ⟨[vi 2, vi 2, vi 2, vi 999, vi 2, vi 2, vi 2, vi 2, c, vi 2, vi 0, vi 0, vi 1, vi 0, vi (-1), a, b, vi 0, d]⟩) xSp := (SyO.of3 (t := xSp) rfl l17 rfl rfl rfl).mono (fun x _ h => h.1)
  refine M.call_i (Step37_ok hd17 hcode17 (by decide) hs17 bxSp.1 bxSp.2 (by decide) x6) ?_; rintro _ w18 ⟨F18, v18, rfl, hd18, hF18, k18, hO18⟩
  refine M.extract_i (v := v18) rfl ?_
  refine M.extract_i (v := vi 0) rfl ?_
  have r18 := r17.stepF k18 hF18
  have r18n := r17n.stepF k18 hF18
  obtain ⟨A18, cp18, cs18, e18, _⟩ := id hO18
  -- what is compared
  have kend : Keep w w18 No := by
    have q1 := k06.size
    have q17 := k17.size
    have low : ∀ x, x < w.heap.size → ¬ F6 x ∧ ¬ F10 x ∧ ¬ F11 x ∧ ¬ F12 x ∧ ¬ F14 x ∧ ¬ F16 x := fun x hx => by
      have a0 := hlow x hx
      have a1 : ¬ F10 x := fun h => a0 (hF10 _ (by omega) h)
      have a2 : ¬ F11 x := fun h => a1 (hF11 _ (by omega) h)
      have a3 : ¬ F12 x := fun h => a2 (hF12 _ (by omega) h)
      have a4 : ¬ F14 x := fun h => a3 (hF14 _ (by omega) h)
      exact ⟨a0, a1, a2, a3, a4, fun h => a4 (hF16 _ (by omega) h)⟩
    have k09 := k06.trans k69 (fun _ _ h => h)
    have k010 : Keep w w10 No := k09.trans k10 (fun x hx h => (low x hx).1 h)
    have k011 : Keep w w11 No := k010.trans k11 (fun x hx h => (low x hx).2.1 h)
    have k012 : Keep w w12 No := k011.trans k12 (fun x hx h => (low x hx).2.2.1 h)
    have k013 : Keep w w13 No := k012.trans k13 (fun x hx h => by have h : x = w6.heap.size := h; omega)
    have k014 : Keep w w14 No := k013.trans k14 (fun x hx h => (low x hx).2.2.2.1 h)
    have k015 : Keep w w15 No := k014.trans k15 (fun x hx h => by have h : x = w6.heap.size := h; omega)
    have k016 : Keep w w16 No := k015.trans k16 (fun x hx h => (low x hx).2.2.2.2.1 h)
    have k017 : Keep w w17 No := k016.trans k17 (fun x hx h => by have h : x = w6.heap.size := h; omega)
    exact k017.trans k18 (fun x hx h => (low x hx).2.2.2.2.2 h)
  obtain ⟨y1, y2, y3, y4, y5⟩ := x7
  refine M.idxOutR_i r18 (by decide) x2.2.2.1 (fun ba oa ca aa ab ad h8a hda hca => ?_)
  have hpc0 := hca 9 (vi xM0.pc) (vals_at h8a 1)
  rw [y1] at hpc0
  (repeat (first|refine jc ?_|refine jf ?_|refine jG ?_|refine jM (by assumption) ?_))
  refine M.idxOutR_i r18 (by decide) x2.2.2.2 (fun bb2 ob cb2 ab2 bb3 db2 h8b hdb hcb => ?_)
  have hpc1 := hcb 9 (vi xM1.pc) (vals_at h8b 1)
  rw [y2] at hpc1
  (repeat (first|refine jc ?_|refine jf ?_|refine jk ?_|refine jG ?_|refine jM (by assumption) ?_))
  refine M.idxOutR_i r18 (by decide) x2.2.2.1 (fun ba3 oa3 ca3 aa3 ab3 ad3 h8a3 hda3 hca3 => ?_)
  obtain ⟨A', cp', hd3⟩ := hda3
  rw [y3] at hd3
  have hcn := hca3 18 ad3 (vals_at h8a3 10)
  rw [hd3] at hcn
  (repeat (first|refine ja ?_|refine jc ?_|refine jf ?_|refine jk ?_|refine jG ?_|refine jM (by assumption) ?_))
  rw [e12]
  (repeat (first|refine ja ?_|refine jf ?_|refine jk ?_|refine jG ?_))
  rw [← e12]
  refine M.idxOutR_i r18n (by decide) x3.2.2 (fun bn on cn an bn2 dn h8n hdn hcn2 => ?_)
  have hen := hcn2 12 (vi xT2.en) (vals_at h8n 4)
  rw [y4] at hen
  (repeat (first|refine jc ?_|refine jf ?_|refine jk ?_|refine jG ?_|refine jM (by assumption) ?_))
  refine M.idxOutR_i r18n (by decide) x3.2.2 (fun bn3 on3 cn3 an3 bn23 dn3 h8n3 hdn3 hcn3 => ?_)
  have hec := hcn3 13 (vi xT2.code) (vals_at h8n3 5)
  rw [y5] at hec
  (repeat (first|refine jc ?_|refine jf ?_|refine jk ?_|refine jG ?_|refine jM (by assumption) ?_))
  rw [e14]
  (repeat (first|refine ja ?_|refine jf ?_|refine jk ?_|refine jG ?_))
  have e18 : v18 = .slice A18 0 cp18 := e18
  rw [e18]
  (repeat (first|refine ja ?_|refine jf ?_|refine jk ?_|refine jG ?_))
  exact ⟨rfl, kend⟩
end Go.Proofs.YtanjlgafjgoaaaaGreat
namespace Go.Proofs.YtanjlgafjgoaaaaGreat
open Go.Mw
set_option linter.unusedVariables false
set_option linter.unusedSimpArgs false
set_option maxRecDepth 100000
attribute [local irreducible] M.val M.unit M.next M.pick M.new M.nilCheck M.load1 M.loadA M.store M.fieldAddr M.indexSl M.indexArr M.slice M.makeSlice M.buildSlice M.len M.lenS M.cap M.append M.extract M.conv M.not M.neg M.bin M.shift M.eqB M.eqNil M.scat M.call M.callv M.gd M.share M.cond M.loop M.draw pureW readW Ret
def sh5 (x0 : Value) (R : Kt) (w : World) : Prop :=
  M.new 25 (Value.cells x0) (fun t1 w =>
  M.fieldAddr 0 t1 (fun t3 w =>
  M.load1 t3 (fun t4 w =>
  M.len t4 (fun t5 w =>
  M.bin .gtr t5 (Value.int IntKind.i64 70) (fun t6 w =>
  M.gd t6 false (fun k w => M.fieldAddr 1 t1 k w) (fun t8 w =>
  M.gd t6 false (fun k w => M.load1 t8 k w) (fun t9 w =>
  M.gd t6 false (fun k w => M.len t9 k w) (fun t10 w =>
  M.gd t6 false (fun k w => M.bin .gtr t10 (Value.int IntKind.i64 10) k w) (fun t11 w =>
  M.pick t6 (Value.bool true) t11 (fun t12 w =>
  M.gd t12 false (fun k w => M.fieldAddr 2 t1 k w) (fun t14 w =>
  M.gd t12 false (fun k w => M.load1 t14 k w) (fun t15 w =>
  M.gd t12 false (fun k w => M.bin .gtr t15 (Value.int IntKind.i64 10) k w) (fun t16 w =>
  M.pick t12 (Value.bool true) t16 (fun t17 w =>
  M.gd t17 false (fun k w => M.fieldAddr 3 t1 k w) (fun t19 w =>
  M.gd t17 false (fun k w => M.load1 t19 k w) (fun t20 w =>
  M.gd t17 false (fun k w => M.bin .gtr t20 (Value.int IntKind.i64 10) k w) (fun t21 w =>
  M.pick t17 (Value.bool true) t21 (fun t22 w =>
  M.gd t22 false (fun k w => M.fieldAddr 4 t1 k w) (fun t24 w =>
  M.gd t22 false (fun k w => M.load1 t24 k w) (fun t25 w =>
  M.gd t22 false (fun k w => M.bin .gtr t25 (Value.int IntKind.i64 10) k w) (fun t26 w =>
  M.pick t22 (Value.bool true) t26 (fun t27 w =>
  M.cond t27
  (R (Value.int IntKind.i64 0) w)
  (R (Value.int IntKind.i64 1) w)) w) w) w) w) w) w) w) w) w) w) w) w) w) w) w) w) w) w) w) w) w) w
theorem ok5 (x0 : Value) (R : Kt) (w : World) (h : sh5 x0 R w) : Ret Tryz.prog 5 #[x0] w R :=
  ret_mk <| calls_of_comp mixed (c := Tryz.f5.body.getD .skip) (args := [x0]) (rs := [(ResultVar.tmp 2)]) (Ann.seq Ann.text (Ann.seq (Ann.seq Ann.text (Ann.cond (Ann.seq Ann.text Ann.leaf) Ann.leaf)) (Ann.seq Ann.text Ann.leaf)))
    Tryz.func5 (by kernel_rfl) (by kernel_rfl)
    (Eq.mp (by kernel_rfl) h)
def PlO (w : World) (v : Value) (code : List Ins) (blocks : List W64) (n inputs most : Int) : Prop :=
  ∃ A c B cb, v = .agg ⟨[.slice A code.length c, .slice B blocks.length cb, vi n, vi inputs, vi most]⟩ ∧ Row w (· < w.heap.size) A (code.flatMap Ins.cells) ∧ code.length ≤ c ∧ Row w (· < w.heap.size) B (blocks.map vw) ∧ blocks.length ≤ cb
theorem few37_ret {w : World} {v : Value} {code : List Ins} {blocks : List W64} {n inputs most : Int} (h : PlO w v code blocks n inputs most) :
    Ret Tryz.prog 5 #[v] w (fun r w' => ∃ z : Int, r = vi z ∧ (z = 0 ∨ (z = 1 ∧ code.length ≤ 70 ∧ blocks.length ≤ 10 ∧ n ≤ 10 ∧ inputs ≤ 10 ∧ most ≤ 10)) ∧ Keep w w' No) := by
  obtain ⟨A, c, B, cb, rfl, _⟩ := h
  refine ok5 _ _ _ ?_
  unfold sh5
  refine M.new_i (l := [.slice A code.length c, .slice B blocks.length cb, vi n, vi inputs, vi most]) (fun w1 b1 k1 s1 => ?_)
  by_cases h1 : 70 < code.length
  · (repeat (first|refine ja ?_|refine jc ?_|refine ji ?_|refine jk ?_|refine jo ?_|refine jC ?_|refine jN (by assumption) rfl ?_))
    exact ⟨0, rfl, .inl rfl, k1⟩
  by_cases h2 : 10 < blocks.length
  · (repeat (first|refine ja ?_|refine jc ?_|refine jg ?_|refine ji ?_|refine jk ?_|refine jl ?_|refine jo ?_|refine jC ?_|refine jD ?_|refine jN (by assumption) rfl ?_))
    exact ⟨0, rfl, .inl rfl, k1⟩
  by_cases h3 : 10 < n
  · (repeat (first|refine ja ?_|refine jc ?_|refine jg ?_|refine ji ?_|refine jk ?_|refine jl ?_|refine jo ?_|refine jC ?_|refine jD ?_|refine jN (by assumption) rfl ?_))
    exact ⟨0, rfl, .inl rfl, k1⟩
  by_cases h4 : 10 < inputs
  · (repeat (first|refine ja ?_|refine jc ?_|refine jg ?_|refine ji ?_|refine jk ?_|refine jl ?_|refine jo ?_|refine jC ?_|refine jD ?_|refine jN (by assumption) rfl ?_))
    exact ⟨0, rfl, .inl rfl, k1⟩
  by_cases h5 : 10 < most
  · (repeat (first|refine ja ?_|refine jc ?_|refine jg ?_|refine jl ?_|refine jo ?_|refine jC ?_|refine jD ?_|refine jN (by assumption) rfl ?_))
    exact ⟨0, rfl, .inl rfl, k1⟩
  · (repeat (first|refine ja ?_|refine jc ?_|refine jg ?_|refine jl ?_|refine jp ?_|refine jD ?_|refine jN (by assumption) rfl ?_))
    exact ⟨1, rfl, .inr ⟨rfl, by omega, by omega, by omega, by omega, by omega⟩, k1⟩
end Go.Proofs.YtanjlgafjgoaaaaGreat
