import Derived.Test.YtgbodhibflpgmaaRef16
import Derived.Test.YtgbodhibflpgmaaSym36d
namespace Go.Proofs.Ytgbodhibflpgmaa
open Go.Mw Go.Maps Go.MapKept
set_option linter.unusedVariables false
set_option linter.unusedSimpArgs false
set_option maxRecDepth 100000
attribute [local irreducible] M.val M.unit M.next M.pick M.new M.nilCheck M.load1 M.loadA M.store M.fieldAddr M.indexSl M.indexArr M.slice M.makeSlice M.buildSlice M.len M.lenS M.cap M.append M.extract M.conv M.not M.neg M.bin M.shift M.eqB M.eqNil M.call M.callv M.gd M.share M.cond M.loop M.draw pureW readW Ret
/-! breakwater/breakwaterref36.words: function 60 -/
def sh60 (x0 x1 x2 : Value) (R : Kt) (w : World) : Prop :=
  M.new 56 (Value.cells x0) (fun t3 w =>
  M.loop [(Value.slice none 0 0), (Value.int IntKind.i64 0)] (fun s1 K1 w => ∀ _ : List Value,
  M.len x1 (fun t12 w =>
  M.bin .lss (s1.getD 1 undef) t12 (fun t13 w =>
  M.cond t13
  (M.draw (fun w =>
  M.loadA 2 t3 (fun t16 w =>
  M.indexSl 1 x1 (s1.getD 1 undef) (fun t19 w =>
  M.load1 t19 (fun t20 w =>
  M.call Try.prog 62 #[t16, t20] (fun t21 w =>
  M.not t21 (fun t22 w =>
  M.cond t22
  (R (.tuple #[(Value.slice none 0 0), (Value.bool false)]) w)
  (M.indexSl 1 x1 (s1.getD 1 undef) (fun t27 w =>
  M.load1 t27 (fun t28 w =>
  M.indexSl 1 x2 t28 (fun t29 w =>
  M.load1 t29 (fun t30 w =>
  M.buildSlice 38 1 #[.int .u64 0] 1 [(0, t30)] (fun t31 w =>
  M.append 38 1 8 #[.int .u64 0] (s1.getD 0 undef) t31 (fun t32 w =>
  M.bin .add (s1.getD 1 undef) (Value.int IntKind.i64 1) (fun t15 w =>
  K1 [t32, t15] w) w) w) w) w) w) w) w)) w) w) w) w) w) w)
  (R (.tuple #[(s1.getD 0 undef), (Value.bool true)]) w)) w) w) w) w
theorem ok60 (x0 x1 x2 : Value) (R : Kt) (w : World) (h : sh60 x0 x1 x2 R w) : Ret Try.prog 60 #[x0, x1, x2] w R :=
  ret_mk <| calls_of_comp mixed (c := Try.f60.body.getD .skip) (args := [x0, x1, x2]) (rs := [(ResultVar.tmp 6), (ResultVar.tmp 7)]) (Ann.seq Ann.text (Ann.seq Ann.text (Ann.seq (Ann.seq Ann.text (Ann.block (Ann.loop [8, 9] [6, 7, 10, 11, 12, 13, 14, 15, 16, 17, 18, 19, 20, 21, 22, 23, 24, 25, 26, 27, 28, 29, 30, 31, 32] (Ann.seq (Ann.seq Ann.text (Ann.cond Ann.leaf Ann.leaf)) (Ann.seq (Ann.block (Ann.seq (Ann.seq (Ann.draw (Sch.take 0 (Sch.take 1 (Sch.take 2 (Sch.take 3 (Sch.take 4 (Sch.one 5 (Sch.take 6 Sch.done)))))))) (Ann.cond (Ann.seq Ann.text Ann.leaf) Ann.leaf)) Ann.text)) Ann.text))))) (Ann.seq Ann.text Ann.leaf))))
    Try.func60 (by kernel_rfl) (by kernel_rfl)
    (Eq.mp (by kernel_rfl) h)
/-! breakwater/breakwaterref36.device: function 61 -/
def sh61 (x0 x1 x2 : Value) (R : Kt) (w : World) : Prop :=
  M.new 56 (Value.cells x0) (fun t3 w =>
  M.new 29 (Value.cells x1) (fun t4 w =>
  M.new 42 #[.slice none 0 0, .slice none 0 0, .int .i64 0] (fun t6 w =>
  M.loadA 2 t3 (fun t14 w =>
  M.fieldAddr 0 t4 (fun t15 w =>
  M.load1 t15 (fun t16 w =>
  M.call Try.prog 60 #[t14, t16, x2] (fun t18 w =>
  M.extract 0 t18 (fun t19 w =>
  M.extract 1 t18 (fun t20 w =>
  M.fieldAddr 2 t4 (fun t22 w =>
  M.load1 t22 (fun t23 w =>
  pureW Try.prog (Instr.build 42 #[(0, t19), (2, t23)]) (fun t24 w =>
  M.new 42 #[.slice none 0 0, .slice none 0 0, .int .i64 0] (fun t10 w =>
  M.store 3 t10 t24 (fun _ w =>
  M.loop [(Value.int IntKind.i64 0)] (fun s1 K1 w => ∀ _ : List Value,
  M.fieldAddr 1 t4 (fun t26 w =>
  M.load1 t26 (fun t27 w =>
  M.len t27 (fun t28 w =>
  M.bin .lss (s1.getD 0 undef) t28 (fun t29 w =>
  M.cond t29
  (M.fieldAddr 1 t4 (fun t32 w =>
  M.load1 t32 (fun t33 w =>
  M.indexSl 3 t33 (s1.getD 0 undef) (fun t35 w =>
  M.loadA 3 t35 (fun t36 w =>
  M.new 134 #[.int .i64 0, .int .i64 0, .int .i64 0] (fun t12 w =>
  M.store 3 t12 t36 (fun _ w =>
  M.loadA 2 t3 (fun t37 w =>
  M.fieldAddr 1 t12 (fun t38 w =>
  M.load1 t38 (fun t39 w =>
  M.call Try.prog 62 #[t37, t39] (fun t40 w =>
  M.not t40 (fun t41 w =>
  M.cond t41
  (pureW Try.prog (Instr.build 42 #[]) (fun t42 w =>
  M.store 3 t6 t42 (fun _ w =>
  M.loadA 3 t6 (fun r0 w => R (.tuple #[r0, (Value.bool false)]) w) w) w) w)
  (M.draw (fun w =>
  M.fieldAddr 1 t10 (fun t43 w =>
  M.load1 t43 (fun t44 w =>
  M.fieldAddr 0 t12 (fun t45 w =>
  M.load1 t45 (fun t46 w =>
  M.fieldAddr 1 t12 (fun t48 w =>
  M.load1 t48 (fun t49 w =>
  M.indexSl 1 x2 t49 (fun t50 w =>
  M.load1 t50 (fun t51 w =>
  M.fieldAddr 2 t12 (fun t52 w =>
  M.load1 t52 (fun t53 w =>
  pureW Try.prog (Instr.build 116 #[(0, t46), (1, t51), (2, t53)]) (fun t54 w =>
  M.buildSlice 116 3 #[.int .i64 0, .int .u64 0, .int .i64 0] 1 [(0, t54)] (fun t55 w =>
  ((M.load1 t52 (fun v' _ => v' = t53) w) ∧ ((M.load1 t50 (fun v' _ => v' = t51) w) ∧ ((M.load1 t48 (fun v' _ => v' = t49) w) ∧ ((M.load1 t45 (fun v' _ => v' = t46) w) ∧ ((M.load1 t43 (fun v' _ => v' = t44) w) ∧ M.append 116 3 24 #[.int .i64 0, .int .u64 0, .int .i64 0] t44 t55 (fun t56 w =>
  ((M.load1 t52 (fun v' _ => v' = t53) w) ∧ ((M.load1 t50 (fun v' _ => v' = t51) w) ∧ ((M.load1 t48 (fun v' _ => v' = t49) w) ∧ ((M.load1 t45 (fun v' _ => v' = t46) w) ∧ M.fieldAddr 1 t10 (fun t57 w =>
  M.store 1 t57 t56 (fun _ w =>
  M.bin .add (s1.getD 0 undef) (Value.int IntKind.i64 1) (fun t31 w =>
  K1 [t31] w) w) w) w))))) w)))))) w) w) w) w) w) w) w) w) w) w) w) w) w)) w) w) w) w) w) w) w) w) w) w) w)
  (M.loadA 3 t10 (fun t58 w =>
  M.store 3 t6 t58 (fun _ w =>
  M.loadA 3 t6 (fun r0 w => R (.tuple #[r0, t20]) w) w) w) w)) w) w) w) w) w) w) w) w) w) w) w) w) w) w) w) w) w) w) w
theorem ok61 (x0 x1 x2 : Value) (R : Kt) (w : World) (h : sh61 x0 x1 x2 R w) : Ret Try.prog 61 #[x0, x1, x2] w R :=
  ret_mk <| calls_of_comp mixed (c := Try.f61.body.getD .skip) (args := [x0, x1, x2]) (rs := [(ResultVar.cell 6 42), (ResultVar.tmp 7)]) (Ann.seq Ann.text (Ann.seq Ann.text (Ann.seq Ann.text (Ann.seq (Ann.seq Ann.text (Ann.block (Ann.loop [11] [7, 12, 25, 26, 27, 28, 29, 30, 31, 32, 33, 34, 35, 36, 37, 38, 39, 40, 41, 42, 43, 44, 45, 46, 47, 48, 49, 50, 51, 52, 53, 54, 55, 56, 57] (Ann.seq (Ann.seq Ann.text (Ann.cond Ann.leaf Ann.leaf)) (Ann.seq (Ann.block (Ann.seq Ann.text (Ann.seq (Ann.seq Ann.text (Ann.cond (Ann.seq Ann.text Ann.leaf) Ann.leaf)) (Ann.draw (Sch.take 0 (Sch.take 1 (Sch.take 2 (Sch.take 3 (Sch.take 4 (Sch.take 5 (Sch.take 6 (Sch.take 7 (Sch.take 8 (Sch.take 9 (Sch.take 10 (Sch.take 11 (Sch.one 12 (Sch.one 13 (Sch.take 14 (Sch.one 15 Sch.done)))))))))))))))))))) Ann.text))))) (Ann.seq Ann.text Ann.leaf)))))
    Try.func61 (by kernel_rfl) (by kernel_rfl)
    (Eq.mp (by kernel_rfl) h)
/-! breakwater/breakwaterref36.DeviceOf: function 24 -/
def sh24 (x0 x1 x2 : Value) (R : Kt) (w : World) : Prop :=
  M.new 56 (Value.cells x0) (fun t3 w =>
  M.new 29 (Value.cells x1) (fun t4 w =>
  M.new 42 #[.slice none 0 0, .slice none 0 0, .int .i64 0] (fun t6 w =>
  M.share (fun K1 w =>
  M.draw (fun w =>
  M.loadA 2 t3 (fun t11 w =>
  M.loadA 3 t4 (fun t12 w =>
  M.loadA 2 t3 (fun t13 w =>
  ((M.call Try.prog 46 #[t13, x2] (fun t15 w =>
  ((M.loadA 3 t4 (fun v' _ => v' = t12) w) ∧ ((M.loadA 2 t3 (fun v' _ => v' = t11) w) ∧ ((M.call Try.prog 61 #[t11, t12, t15] (fun t16 w =>
  M.extract 0 t16 (fun t17 w =>
  M.extract 1 t16 (fun t18 w =>
  M.new 42 #[.slice none 0 0, .slice none 0 0, .int .i64 0] (fun t8 w =>
  M.store 3 t8 t17 (fun _ w =>
  K1 [t8, t18] w) w) w) w) w) w) ∧
   (M.new 42 #[.slice none 0 0, .slice none 0 0, .int .i64 0] (fun t8_2 w =>
  ((M.loadA 3 t4 (fun v' _ => v' = t12) w) ∧ ((M.loadA 2 t3 (fun v' _ => v' = t11) w) ∧ M.call Try.prog 61 #[t11, t12, t15] (fun t16_2 w =>
  M.extract 0 t16_2 (fun t17_2 w =>
  M.extract 1 t16_2 (fun t18_2 w =>
  M.store 3 t8_2 t17_2 (fun _ w =>
  K1 [t8_2, t18_2] w) w) w) w) w))) w))))) w) ∧
   (M.new 42 #[.slice none 0 0, .slice none 0 0, .int .i64 0] (fun t8_3 w =>
  ((M.loadA 2 t3 (fun v' _ => v' = t13) w) ∧ ((M.loadA 3 t4 (fun v' _ => v' = t12) w) ∧ ((M.loadA 2 t3 (fun v' _ => v' = t11) w) ∧ M.call Try.prog 46 #[t13, x2] (fun t15_2 w =>
  ((M.loadA 3 t4 (fun v' _ => v' = t12) w) ∧ ((M.loadA 2 t3 (fun v' _ => v' = t11) w) ∧ M.call Try.prog 61 #[t11, t12, t15_2] (fun t16_3 w =>
  M.extract 0 t16_3 (fun t17_3 w =>
  M.extract 1 t16_3 (fun t18_3 w =>
  M.store 3 t8_3 t17_3 (fun _ w =>
  K1 [t8_3, t18_3] w) w) w) w) w))) w)))) w))) w) w) w) w) (fun s1 w => ∀ _ : List Value,
  M.not (s1.getD 1 undef) (fun t20 w =>
  M.cond t20
  (pureW Try.prog (Instr.build 42 #[]) (fun t21 w =>
  M.store 3 t6 t21 (fun _ w =>
  M.loadA 3 t6 (fun r0 w => R (.tuple #[r0, (Value.int IntKind.i64 11)]) w) w) w) w)
  (M.loadA 3 (s1.getD 0 undef) (fun t22 w =>
  M.store 3 t6 t22 (fun _ w =>
  M.loadA 3 t6 (fun r0 w => R (.tuple #[r0, (Value.int IntKind.i64 0)]) w) w) w) w)) w) w) w) w) w
theorem ok24 (x0 x1 x2 : Value) (R : Kt) (w : World) (h : sh24 x0 x1 x2 R w) : Ret Try.prog 24 #[x0, x1, x2] w R :=
  ret_mk <| calls_of_comp mixed (c := Try.f24.body.getD .skip) (args := [x0, x1, x2]) (rs := [(ResultVar.cell 6 42), (ResultVar.tmp 7)]) (Ann.seq Ann.text (Ann.join [8, 9] [10, 11, 12, 13, 14, 15, 16, 17, 18] (Ann.draw (Sch.take 0 (Sch.take 1 (Sch.take 2 (Sch.take 3 (Sch.two 4 9 (Sch.two 5 9 (Sch.take 6 (Sch.take 7 (Sch.take 8 (Sch.one 9 (Sch.one 10 (Sch.take 11 Sch.done)))))) (Sch.one 5 (Sch.take 6 (Sch.take 7 (Sch.take 8 (Sch.one 10 (Sch.take 11 Sch.done))))))) (Sch.one 4 (Sch.one 5 (Sch.take 6 (Sch.take 7 (Sch.take 8 (Sch.one 10 (Sch.take 11 Sch.done))))))))))))) (Ann.seq (Ann.seq Ann.text (Ann.cond (Ann.seq Ann.text Ann.leaf) Ann.leaf)) (Ann.seq Ann.text Ann.leaf))))
    Try.func24 (by kernel_rfl) (by kernel_rfl)
    (Eq.mp (by kernel_rfl) h)

theorem valW_at {N : List Nd} {env : List W64} {i : Int} (h : isN N i = true) : (valsU N env N.length).getD i.toNat 0 = valW N env i := by
  unfold valW; rw [h, if_pos rfl]; rfl
theorem M.watD_i {K : Kt} {w : World} {D : Nat → Prop} {A : Option Addr} {vals : List W64} {n c : Nat} {k : Int} (hr : Row w D A (vals.map vw)) (hn : vals.length = n) (h0 : 0 ≤ k) (h1 : k < vals.length)
    (h : ∀ b o, D b → w.cell? ⟨b, o, none⟩ = some (vw (vals.getD k.toNat 0)) → K (.pointer (some ⟨b, o, none⟩)) w) : M.indexSl 1 (.slice A n c) (vi k) K w := by
  have hl : k.toNat < vals.length := by omega
  refine M.idxLV_i hr hn h0 (by omega) (x := vals.getD k.toNat 0) ?_ (fun b o hA hc => h b _ ?_ hc)
  · rw [List.getD_eq_getElem?_getD, List.getElem?_eq_getElem hl]; rfl
  · rcases hr with h' | ⟨b', o', c', T, fz, h1, h2, _⟩
    · have := congrArg List.length h'
      simp at this; subst this; simp at hl
    · rw [h1] at hA
      simp only [Option.some.injEq, Addr.mk.injEq] at hA
      obtain ⟨rfl, _⟩ := hA
      exact h2
section
variable {w : World} {D : Nat → Prop} {v : Value} {N : List Nd} {most : Int} {env : List W64}
theorem rwords_ret {D1 D2 : Nat → Prop} {lv vv : Value} {xs : List Int} (hd : RD w D v N most) (hl : LV vi w D1 lv xs) (hv : LV vw w D2 vv (valsU N env N.length)) (hf : xs.length ≤ 1000000) :
    Ret Try.prog 60 #[v, lv, vv] w (fun r w' => ∃ u, r = .tuple #[u, .bool (!xs.any (fun i => !isN N i))] ∧ LV vw w' (w.heap.size ≤ ·) u (if xs.any (fun i => !isN N i) then [] else xs.map (valW N env)) ∧ Keep w w' No) := by
  obtain ⟨A, c, rfl, hr⟩ := id hd
  obtain ⟨B, cl, rfl, hlr, _⟩ := hl
  obtain ⟨C, cv, rfl, hvr, _⟩ := hv
  refine ok60 _ _ _ _ _ ?_
  unfold sh60
  refine M.new_i (l := [.slice A N.length c, vi most]) (fun w1 b1 k1 s1 => ?_)
  refine M.loop_i (σ := Nat) (fun m vals w' => ∃ (i : Nat) (sv : Value), m = xs.length - i ∧ i ≤ xs.length ∧ vals = [sv, vi i] ∧ GW w' (w1.heap.size ≤ ·) sv ((xs.take i).map (valW N env)) ∧ (xs.take i).any (fun i => !isN N i) = false ∧ Blk w' w.heap.size [.slice A N.length c, vi most] ∧ Keep w1 w' No) id xs.length
    ⟨0, _, by omega, by omega, rfl, GC.nil _ _ _, rfl, b1, Keep.refl _ _⟩ ?_
  rintro m vals w2 K ⟨i, sv, rfl, hi, rfl, g2, hno, b2, k2⟩ hK _
  simp only [List.getD_cons_zero, List.getD_cons_succ]
  have k02 := k1.trans k2 (fun _ _ h => h)
  have q2 := k2.size
  by_cases hlt : i < xs.length
  · have kd := Keep.drew w2 No
    have k0d := k02.trans kd (fun _ _ h => h)
    have d2 := b2.keep kd (fun h => h)
    have gd := g2.keep kd (fun _ _ _ h => h)
    have et : xs.take (i + 1) = xs.take i ++ [xs[i]] := List.take_succ_eq_append_getElem hlt
    (repeat (first|refine ja ?_|refine jb ?_|refine jc ?_|refine jd ?_|refine je ?_|refine jf ?_|refine jg ?_|refine jh ?_|refine ji ?_|refine jj ?_|refine jk ?_|refine jl ?_|refine jm ?_|refine jn ?_|refine jo ?_|refine jp ?_|refine jq ?_|refine jr ?_|refine js ?_|refine jt ?_|refine ju ?_|refine jv ?_|refine jw ?_|refine jx ?_|refine jy ?_|refine jz ?_|refine jA ?_|refine jB ?_|refine jC ?_|refine jD ?_|refine jE ?_|refine jF ?_|refine jG ?_|refine jH ?_|refine jI ?_|refine jJ ?_|refine jK ?_|refine jL ?_|refine jM (by assumption) ?_|refine jN (by assumption) rfl ?_|refine jO (by assumption) ?_|refine jP (by assumption) rfl ?_|refine jQ ?_|refine jR ?_|refine jS ?_|refine jT ?_|refine jU (by assumption) rfl ?_))
    refine M.loadAll_i d2 rfl ?_
    refine M.idxLV_i (hlr.keep k0d (fun _ _ _ h => h)) rfl (by omega) (by omega) (x := xs[i]) (by rw [Int.toNat_natCast]; exact List.getElem?_eq_getElem hlt) (fun bb oo hA hcc => ?_)
    (repeat (first|refine ja ?_|refine jb ?_|refine jc ?_|refine jd ?_|refine je ?_|refine jf ?_|refine jg ?_|refine jh ?_|refine ji ?_|refine jj ?_|refine jk ?_|refine jl ?_|refine jm ?_|refine jn ?_|refine jo ?_|refine jp ?_|refine jq ?_|refine jr ?_|refine js ?_|refine jt ?_|refine ju ?_|refine jv ?_|refine jw ?_|refine jx ?_|refine jy ?_|refine jz ?_|refine jA ?_|refine jB ?_|refine jC ?_|refine jD ?_|refine jE ?_|refine jF ?_|refine jG ?_|refine jH ?_|refine jI ?_|refine jJ ?_|refine jK ?_|refine jL ?_|refine jM (by assumption) ?_|refine jN (by assumption) rfl ?_|refine jO (by assumption) ?_|refine jP (by assumption) rfl ?_|refine jQ ?_|refine jR ?_|refine jS ?_|refine jT ?_|refine jU (by assumption) rfl ?_))
    refine M.call_i (ris_ret (hd.keep k0d (fun _ _ _ h => h)) xs[i]) ?_; rintro _ w3 ⟨rfl, k3⟩
    have k03 := k0d.trans k3 (fun _ _ h => h)
    have d3 := d2.keep k3 (fun h => h)
    have g3 := gd.keep k3 (fun _ _ _ h => h)
    refine M.not_i ?_
    cases hx : isN N xs[i] with
    | false =>
      (repeat (first|refine ja ?_|refine jb ?_|refine jc ?_|refine jd ?_|refine je ?_|refine jf ?_|refine jg ?_|refine jh ?_|refine ji ?_|refine jj ?_|refine jk ?_|refine jl ?_|refine jm ?_|refine jn ?_|refine jo ?_|refine jp ?_|refine jq ?_|refine jr ?_|refine js ?_|refine jt ?_|refine ju ?_|refine jv ?_|refine jw ?_|refine jx ?_|refine jy ?_|refine jz ?_|refine jA ?_|refine jB ?_|refine jC ?_|refine jD ?_|refine jE ?_|refine jF ?_|refine jG ?_|refine jH ?_|refine jI ?_|refine jJ ?_|refine jK ?_|refine jL ?_|refine jM (by assumption) ?_|refine jN (by assumption) rfl ?_|refine jO (by assumption) ?_|refine jP (by assumption) rfl ?_|refine jQ ?_|refine jR ?_|refine jS ?_|refine jT ?_|refine jU (by assumption) rfl ?_))
      have ha : xs.any (fun i => !isN N i) = true := List.any_eq_true.2 ⟨xs[i], List.getElem_mem _, by rw [hx]; rfl⟩
      rw [ha]
      exact ⟨_, rfl, LV.nil _ _ _, k03⟩
    | true =>
      (repeat (first|refine ja ?_|refine jb ?_|refine jc ?_|refine jd ?_|refine je ?_|refine jf ?_|refine jg ?_|refine jh ?_|refine ji ?_|refine jj ?_|refine jk ?_|refine jl ?_|refine jm ?_|refine jn ?_|refine jo ?_|refine jp ?_|refine jq ?_|refine jr ?_|refine js ?_|refine jt ?_|refine ju ?_|refine jv ?_|refine jw ?_|refine jx ?_|refine jy ?_|refine jz ?_|refine jA ?_|refine jB ?_|refine jC ?_|refine jD ?_|refine jE ?_|refine jF ?_|refine jG ?_|refine jH ?_|refine jI ?_|refine jJ ?_|refine jK ?_|refine jL ?_|refine jM (by assumption) ?_|refine jN (by assumption) rfl ?_|refine jO (by assumption) ?_|refine jP (by assumption) rfl ?_|refine jQ ?_|refine jR ?_|refine jS ?_|refine jT ?_|refine jU (by assumption) rfl ?_))
      refine M.idxLV_i (hlr.keep k03 (fun _ _ _ h => h)) rfl (by omega) (by omega) (x := xs[i]) (by rw [Int.toNat_natCast]; exact List.getElem?_eq_getElem hlt) (fun bb oo hA hcc => ?_)
      (repeat (first|refine ja ?_|refine jb ?_|refine jc ?_|refine jd ?_|refine je ?_|refine jf ?_|refine jg ?_|refine jh ?_|refine ji ?_|refine jj ?_|refine jk ?_|refine jl ?_|refine jm ?_|refine jn ?_|refine jo ?_|refine jp ?_|refine jq ?_|refine jr ?_|refine js ?_|refine jt ?_|refine ju ?_|refine jv ?_|refine jw ?_|refine jx ?_|refine jy ?_|refine jz ?_|refine jA ?_|refine jB ?_|refine jC ?_|refine jD ?_|refine jE ?_|refine jF ?_|refine jG ?_|refine jH ?_|refine jI ?_|refine jJ ?_|refine jK ?_|refine jL ?_|refine jM (by assumption) ?_|refine jN (by assumption) rfl ?_|refine jO (by assumption) ?_|refine jP (by assumption) rfl ?_|refine jQ ?_|refine jR ?_|refine jS ?_|refine jT ?_|refine jU (by assumption) rfl ?_))
      have hxi := isN_iff.1 hx
      refine M.wat_i (hvr.keep k03 (fun _ _ _ h => h)) rfl hxi.1 (by rw [valsU_len]; exact hxi.2) (fun bb' oo' hcc' => ?_)
      refine M.load_i hcc' ?_
      rw [valW_at hx]
      refine M.appendW_i g3 (by simp; omega) (fun v4 w4 g4 k4 => ?_)
      have qd := (kd.trans k3 (fun _ _ h => h)).size
      (repeat (first|refine ja ?_|refine jb ?_|refine jc ?_|refine jd ?_|refine je ?_|refine jf ?_|refine jg ?_|refine jh ?_|refine ji ?_|refine jj ?_|refine jk ?_|refine jl ?_|refine jm ?_|refine jn ?_|refine jo ?_|refine jp ?_|refine jq ?_|refine jr ?_|refine js ?_|refine jt ?_|refine ju ?_|refine jv ?_|refine jw ?_|refine jx ?_|refine jy ?_|refine jz ?_|refine jA ?_|refine jB ?_|refine jC ?_|refine jD ?_|refine jE ?_|refine jF ?_|refine jG ?_|refine jH ?_|refine jI ?_|refine jJ ?_|refine jK ?_|refine jL ?_|refine jM (by assumption) ?_|refine jN (by assumption) rfl ?_|refine jO (by assumption) ?_|refine jP (by assumption) rfl ?_|refine jQ ?_|refine jR ?_|refine jS ?_|refine jT ?_|refine jU (by assumption) rfl ?_))
      refine hK (xs.length - (i + 1)) _ _ (by show xs.length - (i + 1) < xs.length - i; omega) ⟨i + 1, _, rfl, by omega, rfl, ?_, ?_, d3.keep k4 (fun h => by have h : w1.heap.size ≤ w.heap.size := h; omega), ((k2.trans kd (fun _ _ h => h)).trans k3 (fun _ _ h => h)).trans k4 (fun b hb h => by have h : w1.heap.size ≤ b := h; omega)⟩
      · rw [et, List.map_append]
        exact g4.mono (L' := (w1.heap.size ≤ ·)) (fun b hb h => by rcases h with h | h; exact h; (show w1.heap.size ≤ b); omega)
      · rw [et, List.any_append, hno, List.any_cons, hx]; rfl
  · have e : i = xs.length := by omega
    subst e
    rw [List.take_length] at g2 hno
    rw [hno]
    (repeat (first|refine ja ?_|refine jb ?_|refine jc ?_|refine jd ?_|refine je ?_|refine jf ?_|refine jg ?_|refine jh ?_|refine ji ?_|refine jj ?_|refine jk ?_|refine jl ?_|refine jm ?_|refine jn ?_|refine jo ?_|refine jp ?_|refine jq ?_|refine jr ?_|refine js ?_|refine jt ?_|refine ju ?_|refine jv ?_|refine jw ?_|refine jx ?_|refine jy ?_|refine jz ?_|refine jA ?_|refine jB ?_|refine jC ?_|refine jD ?_|refine jE ?_|refine jF ?_|refine jG ?_|refine jH ?_|refine jI ?_|refine jJ ?_|refine jK ?_|refine jL ?_|refine jM (by assumption) ?_|refine jN (by assumption) rfl ?_|refine jO (by assumption) ?_|refine jP (by assumption) rfl ?_|refine jQ ?_|refine jR ?_|refine jS ?_|refine jT ?_|refine jU (by assumption) rfl ?_))
    exact ⟨_, rfl, (GW.lv g2).mono (fun b _ h => by have h : w1.heap.size ≤ b := h; show w.heap.size ≤ b; omega), k02⟩
set_option maxHeartbeats 1000000 in
theorem rdev_ret {D1 D2 : Nat → Prop} {a b vv : Value} {d : SDv} (hd : RD w D v N most) (hl : SDvO w D1 a b d) (hv : LV vw w D2 vv (valsU N env N.length)) (hf : d.few) :
    Ret Try.prog 61 #[v, .agg ⟨[a, b, vi d.ep]⟩, vv] w (fun r w' => ∃ A n c A' n' c' e, r = .tuple #[.agg ⟨[.slice A n c, .slice A' n' c', vi e]⟩, .bool (!devBad N d)] ∧ (devBad N d = false → e = d.ep ∧ DvO w' (w.heap.size ≤ ·) (.slice A n c) (.slice A' n' c') (devOf N env d)) ∧ Keep w w' No) := by
  obtain ⟨hf1, hf2⟩ := hf
  obtain ⟨A, c, rfl, hr⟩ := id hd
  obtain ⟨⟨B, cb, rfl, hbr, _⟩, B', cb', rfl, hpr, _⟩ := id hl
  obtain ⟨C, cv, rfl, hvr, _⟩ := id hv
  refine ok61 _ _ _ _ _ ?_
  unfold sh61
  refine M.new_i (l := [.slice A N.length c, vi most]) (fun w1 b1 k1 s1 => ?_)
  refine M.new_i (l := [.slice B d.disk.length cb, .slice B' d.pend.length cb', vi d.ep]) (fun w2 b2 k2 s2 => ?_)
  refine M.new_i (l := [.slice none 0 0, .slice none 0 0, vi 0]) (fun w3 b3 k3 s3 => ?_)
  have b1 := (b1.keep k2 (fun h => h)).keep k3 (fun h => h)
  have b2 := b2.keep k3 (fun h => h)
  have k03 := (k1.trans k2 (fun _ _ h => h)).trans k3 (fun _ _ h => h)
  refine M.loadAll_i b1 rfl ?_
  (repeat (first|refine ja ?_|refine jb ?_|refine jc ?_|refine jd ?_|refine je ?_|refine jf ?_|refine jg ?_|refine jh ?_|refine ji ?_|refine jj ?_|refine jk ?_|refine jl ?_|refine jm ?_|refine jn ?_|refine jo ?_|refine jp ?_|refine jq ?_|refine jr ?_|refine js ?_|refine jt ?_|refine ju ?_|refine jv ?_|refine jw ?_|refine jx ?_|refine jy ?_|refine jz ?_|refine jA ?_|refine jB ?_|refine jC ?_|refine jD ?_|refine jE ?_|refine jF ?_|refine jG ?_|refine jH ?_|refine jI ?_|refine jJ ?_|refine jK ?_|refine jL ?_|refine jM (by assumption) ?_|refine jN (by assumption) rfl ?_|refine jO (by assumption) ?_|refine jP (by assumption) rfl ?_|refine jQ ?_|refine jR ?_|refine jS ?_|refine jT ?_|refine jU (by assumption) rfl ?_))
  refine M.call_i (rwords_ret (hd.keep k03 (fun _ _ _ h => h)) (hl.1.keep k03 (fun _ _ _ h => h)) (hv.keep k03 (fun _ _ _ h => h)) hf1) ?_; rintro _ w4 ⟨du, rfl, l4, k4⟩
  obtain ⟨X, cx, rfl, _, _⟩ := id l4
  have l4 := l4.mono (D' := fun b => w3.heap.size ≤ b ∧ b < w4.heap.size) (fun b hb h => ⟨h, hb⟩)
  have b1 := b1.keep k4 (fun h => h)
  have b2 := b2.keep k4 (fun h => h)
  have b3 := b3.keep k4 (fun h => h)
  have k04 := k03.trans k4 (fun _ _ h => h)
  have q4 := k4.size
  refine M.extract_i (v := .slice X (if d.disk.any (fun i => !isN N i) then [] else d.disk.map (valW N env)).length cx) rfl ?_
  refine M.extract_i (v := .bool (!d.disk.any (fun i => !isN N i))) rfl ?_
  (repeat (first|refine ja ?_|refine jb ?_|refine jc ?_|refine jd ?_|refine je ?_|refine jf ?_|refine jg ?_|refine jh ?_|refine ji ?_|refine jj ?_|refine jk ?_|refine jl ?_|refine jm ?_|refine jn ?_|refine jo ?_|refine jp ?_|refine jq ?_|refine jr ?_|refine js ?_|refine jt ?_|refine ju ?_|refine jv ?_|refine jw ?_|refine jx ?_|refine jy ?_|refine jz ?_|refine jA ?_|refine jB ?_|refine jC ?_|refine jD ?_|refine jE ?_|refine jF ?_|refine jG ?_|refine jH ?_|refine jI ?_|refine jJ ?_|refine jK ?_|refine jL ?_|refine jM (by assumption) ?_|refine jN (by assumption) rfl ?_|refine jO (by assumption) ?_|refine jP (by assumption) rfl ?_|refine jQ ?_|refine jR ?_|refine jS ?_|refine jT ?_|refine jU (by assumption) rfl ?_))
  refine M.pure_i (.agg ⟨[.slice X (if d.disk.any (fun i => !isN N i) then [] else d.disk.map (valW N env)).length cx, .slice none 0 0, vi d.ep]⟩) (fun _ => by kernel_rfl) ?_
  refine M.new_i (l := [.slice none 0 0, .slice none 0 0, vi 0]) (fun w5 b5 k5 s5 => ?_)
  refine M.storeAll_i b5 rfl rfl (List.all_eq_true.1 rfl) (fun w6 b6 k6 s6 => ?_)
  have k46 : Keep w4 w6 No := k5.trans k6 (fun b hb h => by omega)
  have b1 := b1.keep k46 (fun h => h)
  have b2 := b2.keep k46 (fun h => h)
  have b3 := b3.keep k46 (fun h => h)
  have l6 := l4.keep k46 (fun _ _ _ h => h)
  have k06 := k04.trans k46 (fun _ _ h => h)
  refine M.loop_i (σ := Nat) (fun m vals w' => ∃ (i : Nat) (pv : Value), m = d.pend.length - i ∧ i ≤ d.pend.length ∧ vals = [vi i] ∧ GC w' (w6.heap.size ≤ ·) 3 pv i (((d.pend.take i).map (pdOf N env)).flatMap PD.cells) ∧ (d.pend.take i).any (fun i => !isN N i.v) = false ∧ Blk w' w4.heap.size [.slice X (if d.disk.any (fun i => !isN N i) then [] else d.disk.map (valW N env)).length cx, pv, vi d.ep] ∧ Keep w6 w' (· = w4.heap.size)) id d.pend.length
    ⟨0, _, by omega, by omega, rfl, GC.nil _ _ _, rfl, b6, Keep.refl _ _⟩ ?_
  rintro m vals w7 K ⟨i, pv, rfl, hi, rfl, g7, hno, b7, k7⟩ hK _
  simp only [List.getD_cons_zero, List.getD_cons_succ]
  have b1 := b1.keep k7 (fun h => by omega)
  have b2 := b2.keep k7 (fun h => by omega)
  have b3 := b3.keep k7 (fun h => by omega)
  have hpr7 := (hpr.mono (D' := fun b => b < w.heap.size) (fun b hb _ => hb)).keep k06 (fun _ _ _ h => h) |>.keep k7 (fun b _ h e => by have h : b < w.heap.size := h; omega)
  have hvr7 := (hvr.mono (D' := fun b => b < w.heap.size) (fun b hb _ => hb)).keep k06 (fun _ _ _ h => h) |>.keep k7 (fun b _ h e => by have h : b < w.heap.size := h; omega)
  have k07 : Keep w w7 No := k06.trans k7 (fun b hb h => by omega)
  have q7 := k7.size
  by_cases hlt : i < d.pend.length
  · have et : d.pend.take (i + 1) = d.pend.take i ++ [d.pend[i]] := List.take_succ_eq_append_getElem hlt
    (repeat (first|refine ja ?_|refine jb ?_|refine jc ?_|refine jd ?_|refine je ?_|refine jf ?_|refine jg ?_|refine jh ?_|refine ji ?_|refine jj ?_|refine jk ?_|refine jl ?_|refine jm ?_|refine jn ?_|refine jo ?_|refine jp ?_|refine jq ?_|refine jr ?_|refine js ?_|refine jt ?_|refine ju ?_|refine jv ?_|refine jw ?_|refine jx ?_|refine jy ?_|refine jz ?_|refine jA ?_|refine jB ?_|refine jC ?_|refine jD ?_|refine jE ?_|refine jF ?_|refine jG ?_|refine jH ?_|refine jI ?_|refine jJ ?_|refine jK ?_|refine jL ?_|refine jM (by assumption) ?_|refine jN (by assumption) rfl ?_|refine jO (by assumption) ?_|refine jP (by assumption) rfl ?_|refine jQ ?_|refine jR ?_|refine jS ?_|refine jT ?_|refine jU (by assumption) rfl ?_))
    refine M.idxF_i sp_len (by omega) hpr7 rfl (by omega) (x := d.pend[i]) (by rw [Int.toNat_natCast]; exact List.getElem?_eq_getElem hlt) (fun bb oo hcc => ?_)
    refine M.load3_i (hcc 0 (vi d.pend[i].b) rfl) (hcc 1 (vi d.pend[i].v) rfl) (hcc 2 (vi d.pend[i].e) rfl) ?_
    refine M.new_i (l := [vi 0, vi 0, vi 0]) (fun w8 b8 k8 s8 => ?_)
    refine M.storeAll_i (vs := [vi d.pend[i].b, vi d.pend[i].v, vi d.pend[i].e]) b8 rfl rfl (List.all_eq_true.1 rfl) (fun w9 b9 k9 s9 => ?_)
    have k79 : Keep w7 w9 No := k8.trans k9 (fun b hb h => by omega)
    have b1 := b1.keep k79 (fun h => h)
    have b3 := b3.keep k79 (fun h => h)
    have b7 := b7.keep k79 (fun h => h)
    have k09 := k07.trans k79 (fun _ _ h => h)
    refine M.loadAll_i b1 rfl ?_
    (repeat (first|refine ja ?_|refine jb ?_|refine jc ?_|refine jd ?_|refine je ?_|refine jf ?_|refine jg ?_|refine jh ?_|refine ji ?_|refine jj ?_|refine jk ?_|refine jl ?_|refine jm ?_|refine jn ?_|refine jo ?_|refine jp ?_|refine jq ?_|refine jr ?_|refine js ?_|refine jt ?_|refine ju ?_|refine jv ?_|refine jw ?_|refine jx ?_|refine jy ?_|refine jz ?_|refine jA ?_|refine jB ?_|refine jC ?_|refine jD ?_|refine jE ?_|refine jF ?_|refine jG ?_|refine jH ?_|refine jI ?_|refine jJ ?_|refine jK ?_|refine jL ?_|refine jM (by assumption) ?_|refine jN (by assumption) rfl ?_|refine jO (by assumption) ?_|refine jP (by assumption) rfl ?_|refine jQ ?_|refine jR ?_|refine jS ?_|refine jT ?_|refine jU (by assumption) rfl ?_))
    refine M.call_i (ris_ret ((hd.mono (D' := fun b => b < w.heap.size) (fun b hb _ => hb)).keep k09 (fun _ _ _ h => h)) d.pend[i].v) ?_; rintro _ w10 ⟨rfl, k10⟩
    have k010 := k09.trans k10 (fun _ _ h => h)
    refine M.not_i ?_
    cases hx : isN N d.pend[i].v with
    | false =>
      have b3 := b3.keep k10 (fun h => h)
      have ha : devBad N d = true := by
        unfold devBad
        rw [Bool.or_eq_true]
        exact .inr (List.any_eq_true.2 ⟨d.pend[i], List.getElem_mem _, by rw [hx]; rfl⟩)
      rw [ha]
      (repeat (first|refine ja ?_|refine jb ?_|refine jc ?_|refine jd ?_|refine je ?_|refine jf ?_|refine jg ?_|refine jh ?_|refine ji ?_|refine jj ?_|refine jk ?_|refine jl ?_|refine jm ?_|refine jn ?_|refine jo ?_|refine jp ?_|refine jq ?_|refine jr ?_|refine js ?_|refine jt ?_|refine ju ?_|refine jv ?_|refine jw ?_|refine jx ?_|refine jy ?_|refine jz ?_|refine jA ?_|refine jB ?_|refine jC ?_|refine jD ?_|refine jE ?_|refine jF ?_|refine jG ?_|refine jH ?_|refine jI ?_|refine jJ ?_|refine jK ?_|refine jL ?_|refine jM (by assumption) ?_|refine jN (by assumption) rfl ?_|refine jO (by assumption) ?_|refine jP (by assumption) rfl ?_|refine jQ ?_|refine jR ?_|refine jS ?_|refine jT ?_|refine jU (by assumption) rfl ?_))
      refine M.pure_i (.agg ⟨[.slice none 0 0, .slice none 0 0, vi 0]⟩) (fun _ => by kernel_rfl) ?_
      refine M.storeAll_i b3 rfl rfl (List.all_eq_true.1 rfl) (fun w11 b11 k11 s11 => ?_)
      refine M.loadAll_i b11 rfl ?_
      exact ⟨_, _, _, _, _, _, _, rfl, fun h => by simp at h, k010.trans k11 (fun b hb h => by omega)⟩
    | true =>
      have kd := Keep.drew w10 No
      have k7d := (k79.trans k10 (fun _ _ h => h)).trans kd (fun _ _ h => h)
      have b7 := (b7.keep k10 (fun h => h)).keep kd (fun h => h)
      have b9 := (b9.keep k10 (fun h => h)).keep kd (fun h => h)
      have gd := g7.keep k7d (fun _ _ _ h => h)
      have hvd := hvr7.keep k7d (fun _ _ _ h => h)
      have hxi := isN_iff.1 hx
      have qd := k7d.size
      (repeat (first|refine ja ?_|refine jb ?_|refine jc ?_|refine jd ?_|refine je ?_|refine jf ?_|refine jg ?_|refine jh ?_|refine ji ?_|refine jj ?_|refine jk ?_|refine jl ?_|refine jm ?_|refine jn ?_|refine jo ?_|refine jp ?_|refine jq ?_|refine jr ?_|refine js ?_|refine jt ?_|refine ju ?_|refine jv ?_|refine jw ?_|refine jx ?_|refine jy ?_|refine jz ?_|refine jA ?_|refine jB ?_|refine jC ?_|refine jD ?_|refine jE ?_|refine jF ?_|refine jG ?_|refine jH ?_|refine jI ?_|refine jJ ?_|refine jK ?_|refine jL ?_|refine jM (by assumption) ?_|refine jN (by assumption) rfl ?_|refine jO (by assumption) ?_|refine jP (by assumption) rfl ?_|refine jQ ?_|refine jR ?_|refine jS ?_|refine jT ?_|refine jU (by assumption) rfl ?_))
      refine M.watD_i hvd rfl hxi.1 (by rw [valsU_len]; exact hxi.2) (fun bb' oo' hbb hcc' => ?_)
      have hbb : bb' < w.heap.size := hbb
      (repeat (first|refine ja ?_|refine jb ?_|refine jc ?_|refine jd ?_|refine je ?_|refine jf ?_|refine jg ?_|refine jh ?_|refine ji ?_|refine jj ?_|refine jk ?_|refine jl ?_|refine jm ?_|refine jn ?_|refine jo ?_|refine jp ?_|refine jq ?_|refine jr ?_|refine js ?_|refine jt ?_|refine ju ?_|refine jv ?_|refine jw ?_|refine jx ?_|refine jy ?_|refine jz ?_|refine jA ?_|refine jB ?_|refine jC ?_|refine jD ?_|refine jE ?_|refine jF ?_|refine jG ?_|refine jH ?_|refine jI ?_|refine jJ ?_|refine jK ?_|refine jL ?_|refine jM (by assumption) ?_|refine jN (by assumption) rfl ?_|refine jO (by assumption) ?_|refine jP (by assumption) rfl ?_|refine jQ ?_|refine jR ?_|refine jS ?_|refine jT ?_|refine jU (by assumption) rfl ?_))
      rw [valW_at hx] at hcc' ⊢
      refine M.pure_i (.agg ⟨(pdOf N env d.pend[i]).cells⟩) (fun _ => by kernel_rfl) ?_
      have hown : ∀ b, blkOf pv b → w6.heap.size ≤ b ∧ b < w7.heap.size := fun b hb => by
        obtain ⟨h1, l', h2⟩ := GC.blkOf g7 hb
        exact ⟨h1, h2.lt⟩
      refine M.buildSlice_i (pdOf N env d.pend[i]).cells (by kernel_rfl) (fun w11 b11 k11 s11 => ?_)
      have b7 := b7.keep k11 (fun h => h)
      have b9 := b9.keep k11 (fun h => h)
      have hcc' := k11.cell (fun h => h) hcc'
      have gd := GC.own (gd.keep k11 (fun _ _ _ h => h))
      have q06 := k06.size
      (repeat (first|refine ja ?_|refine jb ?_|refine jc ?_|refine jd ?_|refine je ?_|refine jf ?_|refine jg ?_|refine jh ?_|refine ji ?_|refine jj ?_|refine jk ?_|refine jl ?_|refine jm ?_|refine jn ?_|refine jo ?_|refine jp ?_|refine jq ?_|refine jr ?_|refine js ?_|refine jt ?_|refine ju ?_|refine jv ?_|refine jw ?_|refine jx ?_|refine jy ?_|refine jz ?_|refine jA ?_|refine jB ?_|refine jC ?_|refine jD ?_|refine jE ?_|refine jF ?_|refine jG ?_|refine jH ?_|refine jI ?_|refine jJ ?_|refine jK ?_|refine jL ?_|refine jM (by assumption) ?_|refine jN (by assumption) rfl ?_|refine jO (by assumption) ?_|refine jP (by assumption) rfl ?_|refine jQ ?_|refine jR ?_|refine jS ?_|refine jT ?_|refine jU (by assumption) rfl ?_))
      refine M.append_i (m := 1) gd (Row.of_blk' (D := fun _ => True) b11 trivial) rfl (List.all_eq_true.1 rfl) rfl (by omega) (by omega) (fun v12 w12 g12 k12 => ?_)
      have b7 := b7.keep k12 (fun h => by have := (hown _ h).1; omega)
      have b9 := b9.keep k12 (fun h => by have := (hown _ h).2; omega)
      have hcc' := k12.cell (fun h => by have := (hown _ h).1; omega) hcc'
      have q12 := k12.size
      (repeat (first|refine ja ?_|refine jb ?_|refine jc ?_|refine jd ?_|refine je ?_|refine jf ?_|refine jg ?_|refine jh ?_|refine ji ?_|refine jj ?_|refine jk ?_|refine jl ?_|refine jm ?_|refine jn ?_|refine jo ?_|refine jp ?_|refine jq ?_|refine jr ?_|refine js ?_|refine jt ?_|refine ju ?_|refine jv ?_|refine jw ?_|refine jx ?_|refine jy ?_|refine jz ?_|refine jA ?_|refine jB ?_|refine jC ?_|refine jD ?_|refine jE ?_|refine jF ?_|refine jG ?_|refine jH ?_|refine jI ?_|refine jJ ?_|refine jK ?_|refine jL ?_|refine jM (by assumption) ?_|refine jN (by assumption) rfl ?_|refine jO (by assumption) ?_|refine jP (by assumption) rfl ?_|refine jQ ?_|refine jR ?_|refine jS ?_|refine jT ?_|refine jU (by assumption) rfl ?_))
      refine M.store_i b7 (by simp) (GC.one g12) (fun w13 b13 k13 s13 => ?_)
      (repeat (first|refine ja ?_|refine jb ?_|refine jc ?_|refine jd ?_|refine je ?_|refine jf ?_|refine jg ?_|refine jh ?_|refine ji ?_|refine jj ?_|refine jk ?_|refine jl ?_|refine jm ?_|refine jn ?_|refine jo ?_|refine jp ?_|refine jq ?_|refine jr ?_|refine js ?_|refine jt ?_|refine ju ?_|refine jv ?_|refine jw ?_|refine jx ?_|refine jy ?_|refine jz ?_|refine jA ?_|refine jB ?_|refine jC ?_|refine jD ?_|refine jE ?_|refine jF ?_|refine jG ?_|refine jH ?_|refine jI ?_|refine jJ ?_|refine jK ?_|refine jL ?_|refine jM (by assumption) ?_|refine jN (by assumption) rfl ?_|refine jO (by assumption) ?_|refine jP (by assumption) rfl ?_|refine jQ ?_|refine jR ?_|refine jS ?_|refine jT ?_|refine jU (by assumption) rfl ?_))
      refine hK (d.pend.length - (i + 1)) _ _ (by show d.pend.length - (i + 1) < d.pend.length - i; omega) ⟨i + 1, v12, rfl, by omega, rfl, ?_, ?_, b13, ?_⟩
      · rw [et, List.map_append, List.flatMap_append]
        have := (GC.mono (L' := (w6.heap.size ≤ ·)) g12 (fun b hb h => by rcases h with h | h; exact (hown b h).1; (show w6.heap.size ≤ b); omega)).keep k13 (fun b _ h e => by have h : w6.heap.size ≤ b := h; omega)
        simpa using this
      · rw [et, List.any_append, hno, List.any_cons, hx]; rfl
      · exact (((k7.trans k7d (fun _ _ h => h.elim)).trans k11 (fun _ _ h => h.elim)).trans k12 (fun b hb h => by have := (hown b h).1; omega)).trans k13 (fun _ _ h => h)
  · have e : i = d.pend.length := by omega
    subst e
    rw [List.take_length] at g7 hno
    have hdb : devBad N d = d.disk.any (fun i => !isN N i) := by unfold devBad; rw [hno, Bool.or_false]
    have g7 := gc_ln (by simp) g7
    obtain ⟨Y, cy, rfl, _, _⟩ := id g7
    (repeat (first|refine ja ?_|refine jb ?_|refine jc ?_|refine jd ?_|refine je ?_|refine jf ?_|refine jg ?_|refine jh ?_|refine ji ?_|refine jj ?_|refine jk ?_|refine jl ?_|refine jm ?_|refine jn ?_|refine jo ?_|refine jp ?_|refine jq ?_|refine jr ?_|refine js ?_|refine jt ?_|refine ju ?_|refine jv ?_|refine jw ?_|refine jx ?_|refine jy ?_|refine jz ?_|refine jA ?_|refine jB ?_|refine jC ?_|refine jD ?_|refine jE ?_|refine jF ?_|refine jG ?_|refine jH ?_|refine jI ?_|refine jJ ?_|refine jK ?_|refine jL ?_|refine jM (by assumption) ?_|refine jN (by assumption) rfl ?_|refine jO (by assumption) ?_|refine jP (by assumption) rfl ?_|refine jQ ?_|refine jR ?_|refine jS ?_|refine jT ?_|refine jU (by assumption) rfl ?_))
    refine M.loadAll_i b7 rfl ?_
    refine M.storeAll_i b3 rfl rfl (List.all_eq_true.1 rfl) (fun w8 b8 k8 s8 => ?_)
    refine M.loadAll_i b8 rfl ?_
    refine ⟨_, _, _, _, _, _, _, by rw [hdb], fun h => ⟨rfl, ?_⟩, k07.trans k8 (fun b hb h => by omega)⟩
    rw [hdb] at h
    rw [h] at l6 ⊢
    refine ⟨?_, (g7.keep k8 (fun b _ h e => by have h : w6.heap.size ≤ b := h; omega)).mono (fun b _ h => by have h : w6.heap.size ≤ b := h; show w.heap.size ≤ b; have := k06.size; omega)⟩
    exact ((l6.keep k7 (fun b _ h e => by have := h.2; omega)).keep k8 (fun b _ h e => by have := h.1; omega)).mono (fun b _ h => by have := h.1; show w.heap.size ≤ b; omega)
end
end Go.Proofs.Ytgbodhibflpgmaa
