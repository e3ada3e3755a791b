import Derived.Test.YtanjlgafjgoaaaaSt37j
namespace Go.Proofs.Ytanjlgafjgoaaaa
open Go.Mw
set_option linter.unusedVariables false
set_option linter.unusedSimpArgs false
set_option maxRecDepth 100000
attribute [local irreducible] M.val M.unit M.next M.pick M.new M.nilCheck M.load1 M.loadA M.store M.fieldAddr M.indexSl M.indexArr M.slice M.makeSlice M.buildSlice M.len M.lenS M.cap M.append M.extract M.conv M.not M.neg M.bin M.shift M.eqB M.eqNil M.scat M.call M.callv M.gd M.share M.cond M.loop M.draw pureW readW Ret
/-! breakwater/sstep.fine: function 15 -/
def sh15 (x0 x1 : Value) (R : Kt) (w : World) : Prop :=
  M.new 28 (Value.cells x0) (fun t2 w =>
  M.new 42 (Value.cells x1) (fun t3 w =>
  M.draw (fun w =>
  M.fieldAddr 0 t3 (fun t8 w =>
  M.fieldAddr 8 t3 (fun t10 w =>
  M.load1 t10 (fun t11 w =>
  M.fieldAddr 15 t3 (fun t12 w =>
  M.fieldAddr 0 t12 (fun t13 w =>
  M.load1 t13 (fun t14 w =>
  M.val Try.prog (Instr.sliceAt 40 t8 none none none) (fun t9 w =>
  ((M.load1 t13 (fun v' _ => v' = t14) w) ∧ ((M.load1 t10 (fun v' _ => v' = t11) w) ∧ M.buildSlice 34 1 #[.slice none 0 0] 3 [(0, t9), (1, t11), (2, t14)] (fun t15 w =>
  M.call Try.prog 20 #[t15] (fun t16 w =>
  M.fieldAddr 15 t3 (fun t17 w =>
  M.fieldAddr 1 t17 (fun t18 w =>
  M.load1 t18 (fun t19 w =>
  M.len t19 (fun t20 w =>
  M.loop [t16, (Value.int IntKind.i64 0)] (fun s1 K1 w => ∀ _ : List Value,
  M.bin .lss (s1.getD 1 undef) t20 (fun t22 w =>
  M.cond t22
  (M.indexSl 3 t19 (s1.getD 1 undef) (fun t23 w =>
  M.loadA 3 t23 (fun t24 w =>
  M.new 72 #[.int .i64 0, .int .i64 0, .int .i64 0] (fun t7 w =>
  M.store 3 t7 t24 (fun _ w =>
  M.fieldAddr 1 t7 (fun t26 w =>
  M.load1 t26 (fun t27 w =>
  M.buildSlice 3 1 #[.int .i64 0] 1 [(0, t27)] (fun t28 w =>
  M.append 3 1 8 #[.int .i64 0] (s1.getD 0 undef) t28 (fun t29 w =>
  M.bin .add (s1.getD 1 undef) (Value.int IntKind.i64 1) (fun t30 w =>
  K1 [t29, t30] w) w) w) w) w) w) w) w) w) w)
  (M.call Try.prog 21 #[(s1.getD 0 undef), (.func (Fn.func 22) #[] #[t2])] (fun t33 w =>
  M.not t33 (fun t34 w =>
  R t34 w) w) w)) w) w) w) w) w) w) w) w))) w) w) w) w) w) w) w) w) w) w
theorem ok15 (x0 x1 : Value) (R : Kt) (w : World) (h : sh15 x0 x1 R w) : Ret Try.prog 15 #[x0, x1] w R :=
  ret_mk <| calls_of_comp mixed (c := Try.f15.body.getD .skip) (args := [x0, x1]) (rs := [(ResultVar.tmp 4)]) (Ann.seq Ann.text (Ann.seq (Ann.draw (Sch.take 0 (Sch.take 2 (Sch.take 3 (Sch.take 4 (Sch.take 5 (Sch.take 6 (Sch.one 1 (Sch.one 7 (Sch.one 8 (Sch.take 9 Sch.done))))))))))) (Ann.seq (Ann.seq Ann.text (Ann.block (Ann.loop [5, 21] [7, 22, 23, 24, 25, 26, 27, 28, 29, 30] (Ann.seq Ann.text (Ann.seq (Ann.cond Ann.leaf Ann.leaf) (Ann.seq (Ann.block (Ann.seq Ann.text Ann.text)) Ann.text)))))) (Ann.seq Ann.text Ann.leaf))))
    Try.func15 (by kernel_rfl) (by kernel_rfl)
    (Eq.mp (by kernel_rfl) h)
/-! breakwater/sstep.fine$1: function 22 -/
def sh22 (x0 x1 : Value) (R : Kt) (w : World) : Prop :=
  M.load1 x1 (fun t4 w =>
  M.call Try.prog 23 #[t4, x0] (fun t6 w =>
  M.bin .neq t6 (Value.int IntKind.i64 64) (fun t7 w =>
  R t7 w) w) w) w
theorem ok22 (x0 x1 : Value) (R : Kt) (w : World) (h : sh22 x0 x1 R w) : Ret Try.prog 22 #[x0, x1] w R :=
  ret_mk <| calls_of_comp mixed (c := Try.f22.body.getD .skip) (args := [x0, x1]) (rs := [(ResultVar.tmp 3)]) (Ann.seq Ann.text (Ann.seq Ann.text Ann.leaf))
    Try.func22 (by kernel_rfl) (by kernel_rfl)
    (Eq.mp (by kernel_rfl) h)
/-! breakwater/sstep.Step: function 10 -/
def sh10 (x0 x1 x2 x3 x4 : Value) (R : Kt) (w : World) : Prop :=
  M.new 42 (Value.cells x2) (fun t7 w =>
  M.fieldAddr 12 t7 (fun t13 w =>
  M.load1 t13 (fun t14 w =>
  M.bin .neq t14 (Value.int IntKind.i64 0) (fun t15 w =>
  M.cond t15
  (R (.tuple #[(Value.slice none 0 0), (Value.int IntKind.i64 0)]) w)
  (M.loadA 19 t7 (fun t17 w =>
  M.call Try.prog 15 #[x0, t17] (fun t18 w =>
  M.not t18 (fun t19 w =>
  M.cond t19
  (R (.tuple #[(Value.slice none 0 0), (Value.int IntKind.i64 11)]) w)
  (M.loadA 19 t7 (fun t21 w =>
  pureW Try.prog (Instr.build 65 #[(0, x0), (1, t21), (3, x3), (4, x4)]) (fun t24 w =>
  M.new 65 (Value.cells t24) (fun t25 w =>
  M.nilCheck t25 (fun t27 w =>
  M.fieldAddr 1 t27 (fun t28 w =>
  M.fieldAddr 10 t28 (fun t29 w =>
  M.load1 t29 (fun t30 w =>
  M.bin .add t30 (Value.int IntKind.i64 1) (fun t31 w =>
  M.nilCheck t25 (fun t32 w =>
  M.fieldAddr 1 t32 (fun t33 w =>
  M.fieldAddr 10 t33 (fun t34 w =>
  M.store 1 t34 t31 (fun _ w =>
  M.fieldAddr 9 t7 (fun t35 w =>
  M.load1 t35 (fun t36 w =>
  M.bin .lss t36 (Value.int IntKind.i64 0) (fun t37 w =>
  M.gd t37 false (fun k w => M.fieldAddr 9 t7 k w) (fun t39 w =>
  M.gd t37 false (fun k w => M.load1 t39 k w) (fun t40 w =>
  M.gd t37 false (fun k w => k x1 w) (fun t41 w =>
  M.gd t37 false (fun k w => M.len t41 k w) (fun t42 w =>
  M.gd t37 false (fun k w => M.bin .geq t40 t42 k w) (fun t43 w =>
  M.pick t37 (Value.bool true) t43 (fun t44 w =>
  M.gd t44 false (fun k w => k x1 w) (fun t46 w =>
  M.gd t44 false (fun k w => M.fieldAddr 9 t7 k w) (fun t47 w =>
  M.gd t44 false (fun k w => M.load1 t47 k w) (fun t48 w =>
  M.gd t44 false (fun k w => M.indexSl 5 t46 t48 k w) (fun t49 w =>
  M.gd t44 false (fun k w => M.loadA 5 t49 k w) (fun t50 w =>
  M.gd t44 false (fun k w => k x1 w) (fun t51 w =>
  M.gd t44 false (fun k w => M.len t51 k w) (fun t52 w =>
  M.gd t44 false (fun k w => M.call Try.prog 16 #[t50, (Value.int IntKind.i64 0), t52] k w) (fun t53 w =>
  M.gd t44 false (fun k w => M.bin .neq t53 (Value.int IntKind.i64 0) k w) (fun t54 w =>
  M.pick t44 (Value.bool true) t54 (fun t55 w =>
  M.cond t55
  (M.call Try.prog 17 #[t25, (Value.int IntKind.i64 256)] (fun t57 w =>
  M.buildSlice 42 19 #[.int .i64 0, .int .i64 0, .int .i64 0, .int .i64 0, .int .i64 0, .int .i64 0, .int .i64 0, .int .i64 0, .slice none 0 0, .int .i64 0, .int .i64 0, .int .i64 0, .int .i64 0, .int .i64 0, .int .i64 0, .slice none 0 0, .slice none 0 0, .int .i64 0, .slice none 0 0] 1 [(0, t57)] (fun t58 w =>
  R (.tuple #[t58, (Value.int IntKind.i64 0)]) w) w) w)
  (M.fieldAddr 9 t7 (fun t61 w =>
  M.load1 t61 (fun t62 w =>
  M.indexSl 5 x1 t62 (fun t63 w =>
  M.loadA 5 t63 (fun t64 w =>
  M.nilCheck t25 (fun t65 w =>
  M.fieldAddr 20 t65 (fun t66 w =>
  M.store 5 t66 t64 (fun _ w =>
  M.call Try.prog 18 #[t25] (fun t68 w =>
  M.nilCheck t25 (fun t70 w =>
  M.fieldAddr 28 t70 (fun t71 w =>
  M.load1 t71 (fun t72 w =>
  M.bin .neq t72 (Value.int IntKind.i64 0) (fun t73 w =>
  M.cond t73
  (M.draw (fun w =>
  M.nilCheck t25 (fun t75 w =>
  M.fieldAddr 28 t75 (fun t76 w =>
  M.load1 t76 (fun t77 w =>
  R (.tuple #[(Value.slice none 0 0), t77]) w) w) w) w) w)
  (M.nilCheck t25 (fun t79 w =>
  M.fieldAddr 27 t79 (fun t80 w =>
  M.load1 t80 (fun t81 w =>
  R (.tuple #[t81, (Value.int IntKind.i64 0)]) w) w) w) w)) w) w) w) w) w) w) w) w) w) w) w) w)) w) w) w) w) w) w) w) w) w) w) w) w) w) w) w) w) w) w) w) w) w) w) w) w) w) w) w) w) w) w) w)) w) w) w)) w) w) w) w
theorem ok10 (x0 x1 x2 x3 x4 : Value) (R : Kt) (w : World) (h : sh10 x0 x1 x2 x3 x4 R w) : Ret Try.prog 10 #[x0, x1, x2, x3, x4] w R :=
  ret_mk <| calls_of_comp mixed (c := Try.f10.body.getD .skip) (args := [x0, x1, x2, x3, x4]) (rs := [(ResultVar.tmp 10), (ResultVar.tmp 11)]) (Ann.seq Ann.text (Ann.seq (Ann.seq Ann.text (Ann.cond (Ann.seq Ann.text Ann.leaf) Ann.leaf)) (Ann.seq (Ann.seq Ann.text (Ann.cond (Ann.seq Ann.text Ann.leaf) Ann.leaf)) (Ann.seq Ann.text (Ann.seq Ann.text (Ann.seq (Ann.seq Ann.text (Ann.cond (Ann.seq Ann.text Ann.leaf) Ann.leaf)) (Ann.seq Ann.text (Ann.seq Ann.text (Ann.seq (Ann.seq Ann.text (Ann.cond (Ann.seq (Ann.draw (Sch.take 0 (Sch.take 1 (Sch.take 2 (Sch.take 3 (Sch.take 4 (Sch.take 5 Sch.done))))))) Ann.leaf) Ann.leaf)) (Ann.seq Ann.text Ann.leaf))))))))))
    Try.func10 (by kernel_rfl) (by kernel_rfl)
    (Eq.mp (by kernel_rfl) h)

section
variable {w : World} {F : Nat → Prop} {p : Nat} {N : List Nd} {most : Int} {s : Sy} {D : Nat → Prop}
theorem sp_flat (l : List SP) : True := trivial
set_option maxHeartbeats 2000000 in
theorem fine37_ret {v : Value} (hd : DagO w F p N most) (hs : SyO w D v s) (hB : Bnd s) :
    Ret Try.prog 15 #[ptr p, v] w (fun r w' => r = .bool (fineN N s) ∧ Keep w w' No) := by
  obtain ⟨h8, c, a, b, d, rfl, hc, hdv, hcd⟩ := hs.mono (D' := fun x => x < w.heap.size) (fun x hx _ => hx)
  have hB1 := hB.cells; have hB2 := hB.disk; have hB3 := hB.pend
  obtain ⟨regs, cells, pc, steps, calls, en, code, value, ⟨disk, pend, ep⟩, conds⟩ := s
  obtain ⟨r0, r1, r2, r3, r4, r5, r6, r7, rfl⟩ := eight h8
  have hB1 : cells.length ≤ 100000 := hB1
  have hB2 : disk.length ≤ 100000 := hB2
  have hB3 : pend.length ≤ 100000 := hB3
  obtain ⟨hda, B, cB, eb, hrb, hcB⟩ := hdv
  refine ok15 _ _ _ _ ?_
  unfold sh15
  refine M.new_i (l := [ptr p]) (fun w1 b1 k1 s1 => ?_)
  refine M.new_i (l := [vi r0, vi r1, vi r2, vi r3, vi r4, vi r5, vi r6, vi r7, c, vi pc, vi steps, vi calls, vi en, vi code, vi value, a, b, vi ep, d]) (fun w2 b2 k2 s2 => ?_)
  have b1 := b1.keep k2 (fun h => h)
  have kd := Keep.drew w2 No
  have k0d := (k1.trans k2 (fun _ _ h => h)).trans kd (fun _ _ h => h)
  have b1d := b1.keep kd (fun h => h)
  have b2d := b2.keep kd (fun h => h)
  have q1 := k1.size
  refine M.draw_i ?_
  generalize w2.drew = w3 at k0d b1d b2d ⊢
  (repeat (first|refine ja ?_|refine jb ?_|refine jc ?_|refine jd ?_|refine je ?_|refine jf ?_|refine jg ?_|refine jh ?_|refine ji ?_|refine jj ?_|refine jk ?_|refine jl ?_|refine jm ?_|refine jn ?_|refine jo ?_|refine jp ?_|refine jq ?_|refine jr ?_|refine js ?_|refine jt ?_|refine ju ?_|refine jv ?_|refine jw ?_|refine jx ?_|refine jy ?_|refine jz ?_|refine jA ?_|refine jB ?_|refine jC ?_|refine jD ?_|refine jE ?_|refine jF ?_|refine jG ?_|refine jH ?_|refine jI ?_|refine jJ ?_|refine jK ?_|refine jL ?_|refine jM (by assumption) ?_|refine jN (by assumption) rfl ?_|refine jO (by assumption) ?_|refine jP (by assumption) rfl ?_|refine jQ ?_|refine jR ?_|refine jS ?_|refine jT ?_|refine jU (by assumption) rfl ?_))
  refine M.val_i (v := .slice (some ⟨w1.heap.size, 0, none⟩) 8 8) (w' := w3) (by rfl) ?_
  (repeat (first|refine ja ?_|refine jb ?_|refine jc ?_|refine jd ?_|refine je ?_|refine jf ?_|refine jg ?_|refine jh ?_|refine ji ?_|refine jj ?_|refine jk ?_|refine jl ?_|refine jm ?_|refine jn ?_|refine jo ?_|refine jp ?_|refine jq ?_|refine jr ?_|refine js ?_|refine jt ?_|refine ju ?_|refine jv ?_|refine jw ?_|refine jx ?_|refine jy ?_|refine jz ?_|refine jA ?_|refine jB ?_|refine jC ?_|refine jD ?_|refine jE ?_|refine jF ?_|refine jG ?_|refine jH ?_|refine jI ?_|refine jJ ?_|refine jK ?_|refine jL ?_|refine jM (by assumption) ?_|refine jN (by assumption) rfl ?_|refine jO (by assumption) ?_|refine jP (by assumption) rfl ?_|refine jQ ?_|refine jR ?_|refine jS ?_|refine jT ?_|refine jU (by assumption) rfl ?_))
  have one3 : ∀ y ∈ [(.slice (some ⟨w1.heap.size, 0, none⟩) 8 8 : Value), c, a], y.oneCell' = true := by
    simp only [List.mem_cons, List.not_mem_nil, or_false, forall_eq_or_imp, forall_eq]
    exact ⟨rfl, LV.one hc, LV.one hda⟩
  obtain ⟨C, cC, ec, hrc, hcC⟩ := id hc
  obtain ⟨A, cA, ea, hra, hcA⟩ := id hda
  refine M.buildSlice_i [.slice (some ⟨w1.heap.size, 0, none⟩) 8 8, c, a] (by rw [ec, ea]; kernel_rfl) (fun w4 b4 k4 s4 => ?_)
  have k04 := k0d.trans k4 (fun _ _ h => h)
  have b2e := b2d.keep k4 (fun h => h)
  have hl8 : LV vi w4 (fun x => x < w4.heap.size) (.slice (some ⟨w1.heap.size, 0, none⟩) 8 8) [r0, r1, r2, r3, r4, r5, r6, r7] := by
    refine ⟨_, _, rfl, ?_, Nat.le_refl _⟩
    have := (Row.of_blk' (D := fun x => x < w4.heap.size) b2e b2e.lt).take 8
    exact this
  have q4 := k04.size
  have hc4 := (hc.keep k04 (fun _ _ _ h => h)).mono (D' := fun x => x < w4.heap.size) (fun x hx _ => hx)
  have ha4 := (hda.keep k04 (fun _ _ _ h => h)).mono (D' := fun x => x < w4.heap.size) (fun x hx _ => hx)
  refine M.call_i (scon_ret (D := fun x => x < w4.heap.size) (ls := [[r0, r1, r2, r3, r4, r5, r6, r7], cells, disk]) b4 rfl (fun k v l h1 h2 => ?_) (by simp; omega) (by simp) 3 rfl) ?_
  · match k, h1, h2 with
    | 0, h1, h2 => simp at h1 h2; subst h1 h2; exact hl8
    | 1, h1, h2 => simp at h1 h2; subst h1 h2; exact hc4
    | 2, h1, h2 => simp at h1 h2; subst h1 h2; exact ha4
    | k + 3, h1, _ => simp at h1
  rintro v0 w5 ⟨g5, k5⟩
  have k05 := k04.trans k5 (fun _ _ h => h)
  have b2f := b2e.keep k5 (fun h => h)
  have b1f := (b1d.keep k4 (fun h => h)).keep k5 (fun h => h)
  rw [eb] at b2f
  (repeat (first|refine ja ?_|refine jb ?_|refine jc ?_|refine jd ?_|refine je ?_|refine jf ?_|refine jg ?_|refine jh ?_|refine ji ?_|refine jj ?_|refine jk ?_|refine jl ?_|refine jm ?_|refine jn ?_|refine jo ?_|refine jp ?_|refine jq ?_|refine jr ?_|refine js ?_|refine jt ?_|refine ju ?_|refine jv ?_|refine jw ?_|refine jx ?_|refine jy ?_|refine jz ?_|refine jA ?_|refine jB ?_|refine jC ?_|refine jD ?_|refine jE ?_|refine jF ?_|refine jG ?_|refine jH ?_|refine jI ?_|refine jJ ?_|refine jK ?_|refine jL ?_|refine jM (by assumption) ?_|refine jN (by assumption) rfl ?_|refine jO (by assumption) ?_|refine jP (by assumption) rfl ?_|refine jQ ?_|refine jR ?_|refine jS ?_|refine jT ?_|refine jU (by assumption) rfl ?_))
  have efl : ([[r0, r1, r2, r3, r4, r5, r6, r7], cells, disk] : List (List Int)).flatten = [r0, r1, r2, r3, r4, r5, r6, r7] ++ cells ++ disk := by simp
  rw [efl] at g5
  generalize hL : ([r0, r1, r2, r3, r4, r5, r6, r7] ++ cells ++ disk : List Int) = L at g5
  have hLl : L.length ≤ 200008 := by rw [← hL]; simp; omega
  refine M.loop_i (σ := Nat) (fun j vals w' => ∃ u, vals = [u, vi j] ∧ j ≤ pend.length ∧ GI w' (w4.heap.size ≤ ·) u (L ++ (pend.take j).map SP.v) ∧ Keep w5 w' (w4.heap.size ≤ ·)) (fun j => pend.length - j) 0 ⟨v0, rfl, by omega, by simpa using g5, Keep.refl _ _⟩ ?_
  rintro j vals w6 K ⟨u, rfl, hj, g6, k6⟩ hK _
  simp only [List.getD_cons_zero, List.getD_cons_succ]
  have k06 : Keep w w6 No := k05.trans k6 (fun x hx e => by have e : w4.heap.size ≤ x := e; omega)
  by_cases hlt : j < pend.length
  · obtain ⟨y, hy⟩ : ∃ y, pend[j]? = some y := ⟨_, List.getElem?_eq_getElem hlt⟩
    have et : (pend.take (j + 1)).map SP.v = (pend.take j).map SP.v ++ [y.v] := by rw [List.take_add_one, hy, List.map_append]; rfl
    (repeat (first|refine ja ?_|refine jb ?_|refine jc ?_|refine jd ?_|refine je ?_|refine jf ?_|refine jg ?_|refine jh ?_|refine ji ?_|refine jj ?_|refine jk ?_|refine jl ?_|refine jm ?_|refine jn ?_|refine jo ?_|refine jp ?_|refine jq ?_|refine jr ?_|refine js ?_|refine jt ?_|refine ju ?_|refine jv ?_|refine jw ?_|refine jx ?_|refine jy ?_|refine jz ?_|refine jA ?_|refine jB ?_|refine jC ?_|refine jD ?_|refine jE ?_|refine jF ?_|refine jG ?_|refine jH ?_|refine jI ?_|refine jJ ?_|refine jK ?_|refine jL ?_|refine jM (by assumption) ?_|refine jN (by assumption) rfl ?_|refine jO (by assumption) ?_|refine jP (by assumption) rfl ?_|refine jQ ?_|refine jR ?_|refine jS ?_|refine jT ?_|refine jU (by assumption) rfl ?_))
    refine M.idxF_i sp_len (by omega) (hrb.keep k06 (fun _ _ _ h => h)) rfl (by omega) (x := y) (by rw [Int.toNat_natCast]; exact hy) (fun bb oo hcc => ?_)
    refine M.load3_i (hcc 0 (vi y.b) rfl) (hcc 1 (vi y.v) rfl) (hcc 2 (vi y.e) rfl) ?_
    refine M.new_i (l := [vi 0, vi 0, vi 0]) (fun w7 b7 k7 s7 => ?_)
    refine M.storeAll_i (vs := [vi y.b, vi y.v, vi y.e]) b7 rfl rfl (by intro z hz; simp at hz; rcases hz with rfl | rfl | rfl <;> rfl) (fun w8 b8 k8 s8 => ?_)
    have q6 := k06.size
    have q56 := k6.size
    have q45 := k5.size
    have k68 : Keep w6 w8 No := k7.trans k8 (fun z hz e => by have e : z = w6.heap.size := e; omega)
    (repeat (first|refine ja ?_|refine jb ?_|refine jc ?_|refine jd ?_|refine je ?_|refine jf ?_|refine jg ?_|refine jh ?_|refine ji ?_|refine jj ?_|refine jk ?_|refine jl ?_|refine jm ?_|refine jn ?_|refine jo ?_|refine jp ?_|refine jq ?_|refine jr ?_|refine js ?_|refine jt ?_|refine ju ?_|refine jv ?_|refine jw ?_|refine jx ?_|refine jy ?_|refine jz ?_|refine jA ?_|refine jB ?_|refine jC ?_|refine jD ?_|refine jE ?_|refine jF ?_|refine jG ?_|refine jH ?_|refine jI ?_|refine jJ ?_|refine jK ?_|refine jL ?_|refine jM (by assumption) ?_|refine jN (by assumption) rfl ?_|refine jO (by assumption) ?_|refine jP (by assumption) rfl ?_|refine jQ ?_|refine jR ?_|refine jS ?_|refine jT ?_|refine jU (by assumption) rfl ?_))
    refine M.buildSlice_i [vi y.v] (by kernel_rfl) (fun w9 b9 k9 s9 => ?_)
    have k69 := k68.trans k9 (fun _ _ h => h)
    refine M.append1_i (g6.keep k69 (fun _ _ _ h => h)) (Row.of_blk' (D := fun _ => True) b9 trivial) rfl (by rw [List.length_append, List.length_map, List.length_take]; omega) (fun v10 w10 g10 k10 => ?_)
    have q9 := k69.size
    (repeat (first|refine ja ?_|refine jb ?_|refine jc ?_|refine jd ?_|refine je ?_|refine jf ?_|refine jg ?_|refine jh ?_|refine ji ?_|refine jj ?_|refine jk ?_|refine jl ?_|refine jm ?_|refine jn ?_|refine jo ?_|refine jp ?_|refine jq ?_|refine jr ?_|refine js ?_|refine jt ?_|refine ju ?_|refine jv ?_|refine jw ?_|refine jx ?_|refine jy ?_|refine jz ?_|refine jA ?_|refine jB ?_|refine jC ?_|refine jD ?_|refine jE ?_|refine jF ?_|refine jG ?_|refine jH ?_|refine jI ?_|refine jJ ?_|refine jK ?_|refine jL ?_|refine jM (by assumption) ?_|refine jN (by assumption) rfl ?_|refine jO (by assumption) ?_|refine jP (by assumption) rfl ?_|refine jQ ?_|refine jR ?_|refine jS ?_|refine jT ?_|refine jU (by assumption) rfl ?_))
    refine hK (j + 1) _ _ (by omega) ⟨v10, rfl, by omega, ?_, (k6.trans k69 (fun _ _ h => h.elim)).trans k10 (fun x hx e => e)⟩
    rw [et, ← List.append_assoc]
    exact g10.mono (fun x hx e => by
      rcases e with e | e
      · exact e
      · show w4.heap.size ≤ x; omega)
  · have e : j = pend.length := by omega
    subst e
    rw [List.take_length] at g6
    (repeat (first|refine ja ?_|refine jb ?_|refine jc ?_|refine jd ?_|refine je ?_|refine jf ?_|refine jg ?_|refine jh ?_|refine ji ?_|refine jj ?_|refine jk ?_|refine jl ?_|refine jm ?_|refine jn ?_|refine jo ?_|refine jp ?_|refine jq ?_|refine jr ?_|refine js ?_|refine jt ?_|refine ju ?_|refine jv ?_|refine jw ?_|refine jx ?_|refine jy ?_|refine jz ?_|refine jA ?_|refine jB ?_|refine jC ?_|refine jD ?_|refine jE ?_|refine jF ?_|refine jG ?_|refine jH ?_|refine jI ?_|refine jJ ?_|refine jK ?_|refine jL ?_|refine jM (by assumption) ?_|refine jN (by assumption) rfl ?_|refine jO (by assumption) ?_|refine jP (by assumption) rfl ?_|refine jQ ?_|refine jR ?_|refine jS ?_|refine jT ?_|refine jU (by assumption) rfl ?_))
    have hd6 := hd.keepN k06
    have hb14 := (b1d.keep k4 (fun h => h)).lt
    have b1g := b1f.keep k6 (fun x => by have x : w4.heap.size ≤ w.heap.size := x; omega)
    have hpred : PredF (.func (.func 22) #[] #[ptr w.heap.size]) (fun w' => DagO w' F p N most ∧ Blk w' w.heap.size [ptr p]) (fun id => decide (wdN N id ≠ 64)) := by
      intro x w' kt hI hk
      refine M.callv_i (fun _ _ => rfl) (Q := fun r w'' => r = .bool (decide (wdN N x ≠ 64)) ∧ Keep w' w'' No) ?_ ?_
      · show Ret Try.prog 22 #[vi x, ptr w.heap.size] w' _
        have hcell : w'.cell? ⟨w.heap.size, 0, none⟩ = some (ptr p) := hI.2.cell rfl
        refine ok22 _ _ _ _ ?_
        unfold sh22
        (repeat (first|refine ja ?_|refine jb ?_|refine jc ?_|refine jd ?_|refine je ?_|refine jf ?_|refine jg ?_|refine jh ?_|refine ji ?_|refine jj ?_|refine jk ?_|refine jl ?_|refine jm ?_|refine jn ?_|refine jo ?_|refine jp ?_|refine jq ?_|refine jr ?_|refine js ?_|refine jt ?_|refine ju ?_|refine jv ?_|refine jw ?_|refine jx ?_|refine jy ?_|refine jz ?_|refine jA ?_|refine jB ?_|refine jC ?_|refine jD ?_|refine jE ?_|refine jF ?_|refine jG ?_|refine jH ?_|refine jI ?_|refine jJ ?_|refine jK ?_|refine jL ?_|refine jM (by assumption) ?_|refine jN (by assumption) rfl ?_|refine jO (by assumption) ?_|refine jP (by assumption) rfl ?_|refine jQ ?_|refine jR ?_|refine jS ?_|refine jT ?_|refine jU (by assumption) rfl ?_))
        refine M.call_i (hI.1.width x) ?_; rintro _ w'' ⟨rfl, k''⟩
        by_cases hx : wdN N x = 64
        · (repeat (first|refine ja ?_|refine jb ?_|refine jc ?_|refine jd ?_|refine je ?_|refine jf ?_|refine jg ?_|refine jh ?_|refine ji ?_|refine jj ?_|refine jk ?_|refine jl ?_|refine jm ?_|refine jn ?_|refine jo ?_|refine jp ?_|refine jq ?_|refine jr ?_|refine js ?_|refine jt ?_|refine ju ?_|refine jv ?_|refine jw ?_|refine jx ?_|refine jy ?_|refine jz ?_|refine jA ?_|refine jB ?_|refine jC ?_|refine jD ?_|refine jE ?_|refine jF ?_|refine jG ?_|refine jH ?_|refine jI ?_|refine jJ ?_|refine jK ?_|refine jL ?_|refine jM (by assumption) ?_|refine jN (by assumption) rfl ?_|refine jO (by assumption) ?_|refine jP (by assumption) rfl ?_|refine jQ ?_|refine jR ?_|refine jS ?_|refine jT ?_|refine jU (by assumption) rfl ?_))
          exact ⟨by rw [decide_eq_false (fun h => h hx)], k''⟩
        · (repeat (first|refine ja ?_|refine jb ?_|refine jc ?_|refine jd ?_|refine je ?_|refine jf ?_|refine jg ?_|refine jh ?_|refine ji ?_|refine jj ?_|refine jk ?_|refine jl ?_|refine jm ?_|refine jn ?_|refine jo ?_|refine jp ?_|refine jq ?_|refine jr ?_|refine js ?_|refine jt ?_|refine ju ?_|refine jv ?_|refine jw ?_|refine jx ?_|refine jy ?_|refine jz ?_|refine jA ?_|refine jB ?_|refine jC ?_|refine jD ?_|refine jE ?_|refine jF ?_|refine jG ?_|refine jH ?_|refine jI ?_|refine jJ ?_|refine jK ?_|refine jL ?_|refine jM (by assumption) ?_|refine jN (by assumption) rfl ?_|refine jO (by assumption) ?_|refine jP (by assumption) rfl ?_|refine jQ ?_|refine jR ?_|refine jS ?_|refine jT ?_|refine jU (by assumption) rfl ?_))
          exact ⟨by rw [decide_eq_true hx], k''⟩
      · rintro _ w'' ⟨rfl, k''⟩
        exact hk w'' ⟨hI.1.keepN k'', hI.2.keep k'' (fun h => h)⟩ k''
    have hLl2 : (L ++ pend.map SP.v).length ≤ 300008 := by rw [List.length_append, List.length_map]; omega
    have hfew : Few (L ++ pend.map SP.v).length := Nat.le_trans hLl2 (by decide)
    refine M.call_i (containsFunc_ret (GI.lv g6) hfew hpred ⟨hd6, b1g⟩) ?_
    rintro _ w7 ⟨rfl, _, k7⟩
    refine M.not_i ?_
    refine ⟨?_, k06.trans k7 (fun _ _ h => h)⟩
    have : fineN N ⟨[r0, r1, r2, r3, r4, r5, r6, r7], cells, pc, steps, calls, en, code, value, ⟨disk, pend, ep⟩, conds⟩ = !((L ++ pend.map SP.v).any (fun id => decide (wdN N id ≠ 64))) := by
      unfold fineN
      rw [← hL]
      rw [List.all_eq_not_any_not]
      congr 2
      funext id
      by_cases h : wdN N id = 64 <;> simp [h]
    rw [this]
end
end Go.Proofs.Ytanjlgafjgoaaaa
