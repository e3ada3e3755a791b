import Derived.Test.YtfffepeloiefiaaDev36
import Derived.Test.YtfffepeloiefiaaSem16d
namespace Go.Proofs.Ytfffepeloiefiaa
open Go.Mw Go.Maps Go.MapKept
set_option linter.unusedVariables false
set_option linter.unusedSimpArgs false
set_option maxRecDepth 100000
attribute [local irreducible] M.val M.unit M.next M.pick M.new M.nilCheck M.load1 M.loadA M.store M.fieldAddr M.indexSl M.indexArr M.slice M.makeSlice M.buildSlice M.len M.lenS M.cap M.append M.extract M.conv M.not M.neg M.bin M.shift M.eqB M.eqNil M.call M.callv M.gd M.share M.cond M.loop M.draw pureW readW Ret
/-! (*breakwater/sym.reader).word: function 49 -/
def sh49 (x0 x1 : Value) (R : Kt) (w : World) : Prop :=
  M.draw (fun w =>
  M.nilCheck x0 (fun t9 w =>
  M.fieldAddr 0 t9 (fun t10 w =>
  M.load1 t10 (fun t11 w =>
  M.nilCheck x0 (fun t14 w =>
  M.fieldAddr 1 t14 (fun t15 w =>
  M.load1 t15 (fun t16 w =>
  M.call Try.prog 67 #[t11, x1, t16] (fun t17 w =>
  M.extract 0 t17 (fun t18 w =>
  M.extract 1 t17 (fun t19 w =>
  M.nilCheck x0 (fun t22 w =>
  M.fieldAddr 2 t22 (fun t23 w =>
  M.load1 t23 (fun t24 w =>
  M.gd t24 false (fun k w => k t19 w) (fun t26 w =>
  M.gd t24 false (fun k w => M.bin .neq t26 (Value.int IntKind.i64 0) k w) (fun t27 w =>
  M.pick t24 (Value.bool true) t27 (fun t28 w =>
  M.nilCheck x0 (fun t29 w =>
  M.fieldAddr 2 t29 (fun t30 w =>
  M.store 1 t30 t28 (fun _ w =>
  R t18 w) w) w) w) w) w) w) w) w) w) w) w) w) w) w) w) w) w) w) w
theorem ok49 (x0 x1 : Value) (R : Kt) (w : World) (h : sh49 x0 x1 R w) : Ret Try.prog 49 #[x0, x1] w R :=
  ret_mk <| calls_of_comp mixed (c := Try.f49.body.getD .skip) (args := [x0, x1]) (rs := [(ResultVar.tmp 4)]) (Ann.seq Ann.text (Ann.seq (Ann.draw (Sch.take 0 (Sch.take 1 (Sch.take 2 (Sch.take 3 (Sch.take 4 (Sch.take 5 (Sch.take 6 (Sch.take 7 (Sch.take 8 (Sch.one 9 (Sch.take 10 (Sch.take 11 (Sch.take 12 (Sch.take 13 (Sch.take 14 Sch.done)))))))))))))))) (Ann.seq Ann.text (Ann.seq Ann.text Ann.leaf))))
    Try.func49 (by kernel_rfl) (by kernel_rfl)
    (Eq.mp (by kernel_rfl) h)
/-! breakwater/sym.each[int,uint64]: function 50 -/
def sh50 (x0 x1 : Value) (R : Kt) (w : World) : Prop :=
  M.len x0 (fun t9 w =>
  M.loop [(Value.slice none 0 0), (Value.int IntKind.i64 0)] (fun s1 K1 w => ∀ _ : List Value,
  M.bin .lss (s1.getD 1 undef) t9 (fun t11 w =>
  M.cond t11
  (M.indexSl 1 x0 (s1.getD 1 undef) (fun t12 w =>
  M.load1 t12 (fun t13 w =>
  M.callv Try.prog x1 #[t13] (fun t17 w =>
  M.buildSlice 30 1 #[.int .u64 0] 1 [(0, t17)] (fun t18 w =>
  M.append 30 1 8 #[.int .u64 0] (s1.getD 0 undef) t18 (fun t19 w =>
  M.bin .add (s1.getD 1 undef) (Value.int IntKind.i64 1) (fun t20 w =>
  K1 [t19, t20] w) w) w) w) w) w) w)
  (R (s1.getD 0 undef) w)) w) w) w
theorem ok50 (x0 x1 : Value) (R : Kt) (w : World) (h : sh50 x0 x1 R w) : Ret Try.prog 50 #[x0, x1] w R :=
  ret_mk <| calls_of_comp mixed (c := Try.f50.body.getD .skip) (args := [x0, x1]) (rs := [(ResultVar.tmp 4)]) (Ann.seq Ann.text (Ann.seq Ann.text (Ann.seq (Ann.seq Ann.text (Ann.block (Ann.loop [5, 10] [7, 11, 12, 13, 14, 15, 16, 17, 18, 19, 20] (Ann.seq Ann.text (Ann.seq (Ann.cond Ann.leaf Ann.leaf) (Ann.seq (Ann.block (Ann.seq Ann.text Ann.text)) Ann.text)))))) (Ann.seq Ann.text Ann.leaf))))
    Try.func50 (by kernel_rfl) (by kernel_rfl)
    (Eq.mp (by kernel_rfl) h)
/-! breakwater/sym.each[breakwater/api.SymPend,breakwater/api.Pend]: function 51 -/
def sh51 (x0 x1 : Value) (R : Kt) (w : World) : Prop :=
  M.len x0 (fun t9 w =>
  M.loop [(Value.slice none 0 0), (Value.int IntKind.i64 0)] (fun s1 K1 w => ∀ _ : List Value,
  M.bin .lss (s1.getD 1 undef) t9 (fun t11 w =>
  M.cond t11
  (M.indexSl 3 x0 (s1.getD 1 undef) (fun t12 w =>
  M.loadA 3 t12 (fun t13 w =>
  M.new 55 #[.int .i64 0, .int .i64 0, .int .i64 0] (fun t7 w =>
  M.store 3 t7 t13 (fun _ w =>
  M.loadA 3 t7 (fun t16 w =>
  M.callv Try.prog x1 #[t16] (fun t17 w =>
  M.buildSlice 59 3 #[.int .i64 0, .int .u64 0, .int .i64 0] 1 [(0, t17)] (fun t18 w =>
  M.append 59 3 24 #[.int .i64 0, .int .u64 0, .int .i64 0] (s1.getD 0 undef) t18 (fun t19 w =>
  M.bin .add (s1.getD 1 undef) (Value.int IntKind.i64 1) (fun t20 w =>
  K1 [t19, t20] w) w) w) w) w) w) w) w) w) w)
  (R (s1.getD 0 undef) w)) w) w) w
theorem ok51 (x0 x1 : Value) (R : Kt) (w : World) (h : sh51 x0 x1 R w) : Ret Try.prog 51 #[x0, x1] w R :=
  ret_mk <| calls_of_comp mixed (c := Try.f51.body.getD .skip) (args := [x0, x1]) (rs := [(ResultVar.tmp 4)]) (Ann.seq Ann.text (Ann.seq Ann.text (Ann.seq (Ann.seq Ann.text (Ann.block (Ann.loop [5, 10] [7, 11, 12, 13, 14, 15, 16, 17, 18, 19, 20] (Ann.seq Ann.text (Ann.seq (Ann.cond Ann.leaf Ann.leaf) (Ann.seq (Ann.block (Ann.seq Ann.text Ann.text)) Ann.text)))))) (Ann.seq Ann.text Ann.leaf))))
    Try.func51 (by kernel_rfl) (by kernel_rfl)
    (Eq.mp (by kernel_rfl) h)
/-! (*breakwater/sym.reader).device: function 28 -/
def sh28 (x0 x1 : Value) (R : Kt) (w : World) : Prop :=
  M.new 73 (Value.cells x0) (fun t2 w =>
  M.new 25 (Value.cells x1) (fun t3 w =>
  M.new 37 #[.slice none 0 0, .slice none 0 0, .int .i64 0] (fun t4 w =>
  M.draw (fun w =>
  M.fieldAddr 0 t3 (fun t7 w =>
  M.load1 t7 (fun t8 w =>
  M.load1 t2 (fun t9 w =>
  M.fieldAddr 1 t3 (fun t12 w =>
  M.load1 t12 (fun t13 w =>
  M.fieldAddr 2 t3 (fun t16 w =>
  M.load1 t16 (fun t17 w =>
  M.call Try.prog 50 #[t8, (.func (Fn.func 49) #[t9] #[])] (fun t11 w =>
  ((M.load1 t16 (fun v' _ => v' = t17) w) ∧ ((M.load1 t12 (fun v' _ => v' = t13) w) ∧ ((M.load1 t2 (fun v' _ => v' = t9) w) ∧ M.call Try.prog 51 #[t13, (.func (Fn.func 48) #[] #[t2])] (fun t15 w =>
  ((M.load1 t16 (fun v' _ => v' = t17) w) ∧ ((M.load1 t2 (fun v' _ => v' = t9) w) ∧ pureW Try.prog (Instr.build 37 #[(0, t11), (1, t15), (2, t17)]) (fun t18 w =>
  M.store 3 t4 t18 (fun _ w =>
  M.loadA 3 t4 (fun r0 w => R r0 w) w) w) w))) w)))) w) w) w) w) w) w) w) w) w) w) w) w
theorem ok28 (x0 x1 : Value) (R : Kt) (w : World) (h : sh28 x0 x1 R w) : Ret Try.prog 28 #[x0, x1] w R :=
  ret_mk <| calls_of_comp mixed (c := Try.f28.body.getD .skip) (args := [x0, x1]) (rs := [(ResultVar.cell 4 37)]) (Ann.seq Ann.text (Ann.seq Ann.text (Ann.seq (Ann.draw (Sch.take 0 (Sch.take 1 (Sch.take 2 (Sch.take 3 (Sch.take 5 (Sch.take 6 (Sch.take 7 (Sch.take 9 (Sch.take 10 (Sch.one 4 (Sch.one 8 (Sch.take 11 (Sch.one 12 Sch.done)))))))))))))) Ann.leaf)))
    Try.func28 (by kernel_rfl) (by kernel_rfl)
    (Eq.mp (by kernel_rfl) h)
/-! (*breakwater/sym.reader).device$1: function 48 -/
def sh48 (x0 x1 : Value) (R : Kt) (w : World) : Prop :=
  M.new 55 (Value.cells x0) (fun t2 w =>
  M.new 59 #[.int .i64 0, .int .u64 0, .int .i64 0] (fun t3 w =>
  M.draw (fun w =>
  M.fieldAddr 0 t2 (fun t4 w =>
  M.load1 t4 (fun t5 w =>
  M.load1 x1 (fun t6 w =>
  M.fieldAddr 1 t2 (fun t7 w =>
  M.load1 t7 (fun t8 w =>
  M.fieldAddr 2 t2 (fun t10 w =>
  M.load1 t10 (fun t11 w =>
  M.call Try.prog 49 #[t6, t8] (fun t9 w =>
  ((M.load1 t10 (fun v' _ => v' = t11) w) ∧ ((M.load1 t4 (fun v' _ => v' = t5) w) ∧ pureW Try.prog (Instr.build 59 #[(0, t5), (1, t9), (2, t11)]) (fun t12 w =>
  M.store 3 t3 t12 (fun _ w =>
  M.loadA 3 t3 (fun r0 w => R r0 w) w) w) w))) w) w) w) w) w) w) w) w) w) w) w
theorem ok48 (x0 x1 : Value) (R : Kt) (w : World) (h : sh48 x0 x1 R w) : Ret Try.prog 48 #[x0, x1] w R :=
  ret_mk <| calls_of_comp mixed (c := Try.f48.body.getD .skip) (args := [x0, x1]) (rs := [(ResultVar.cell 3 59)]) (Ann.seq Ann.text (Ann.seq (Ann.draw (Sch.take 0 (Sch.take 1 (Sch.take 2 (Sch.take 3 (Sch.take 4 (Sch.take 6 (Sch.take 7 (Sch.one 5 (Sch.take 8 (Sch.one 9 Sch.done))))))))))) Ann.leaf))
    Try.func48 (by kernel_rfl) (by kernel_rfl)
    (Eq.mp (by kernel_rfl) h)

/-! ### the reader -/
structure Rdr (w : World) (F : Nat → Prop) (p : Nat) (N : List Nd) (most : Int) (De : Nat → Prop) (ev : Value) (env : List W64) (rb : Nat) (bad : Bool) : Prop where
  dag : DagO w F p N most
  words : LV vw w De ev env
  blk : Blk w rb [ptr p, ev, .bool bad]
  nF : ¬ F rb
  nD : ¬ De rb
  small : env.length ≤ 1000000
theorem Rdr.keep {w w' : World} {F De : Nat → Prop} {p rb : Nat} {N : List Nd} {most : Int} {ev : Value} {env : List W64} {bad : Bool} (h : Rdr w F p N most De ev env rb bad) (k : Keep w w' No) : Rdr w' F p N most De ev env rb bad :=
  ⟨h.dag.keepN k, h.words.keep k (fun _ _ _ h => h), h.blk.keep k (fun h => h), h.nF, h.nD, h.small⟩
theorem Rdr.set {w w' : World} {F De : Nat → Prop} {p rb : Nat} {N : List Nd} {most : Int} {ev : Value} {env : List W64} {bad bad' : Bool} (h : Rdr w F p N most De ev env rb bad) (k : Keep w w' (· = rb)) (b : Blk w' rb [ptr p, ev, .bool bad']) : Rdr w' F p N most De ev env rb bad' :=
  ⟨h.dag.keep k (fun b hb h' => h.nF (h' ▸ hb)), h.words.keep k (fun b _ hb h' => h.nD (h' ▸ hb)), b, h.nF, h.nD, h.small⟩
section
variable {w : World} {F De : Nat → Prop} {p rb : Nat} {N : List Nd} {most : Int} {ev : Value} {env : List W64} {bad : Bool}
theorem word_ret (h : Rdr w F p N most De ev env rb bad) (id : Int) :
    Ret Try.prog 49 #[ptr rb, vi id] w (fun r w' => r = vw (valW N env id) ∧ Rdr w' F p N most De ev env rb (bad || !isN N id) ∧ Keep w w' (· = rb)) := by
  refine ok49 _ _ _ _ ?_
  unfold sh49
  have hb := h.blk
  refine M.draw_i ?_
  have k0 := Keep.drew w No
  have h := h.keep k0
  have hb := h.blk
  (repeat (first|refine ja ?_|refine jb ?_|refine jc ?_|refine jd ?_|refine je ?_|refine jf ?_|refine jg ?_|refine jh ?_|refine ji ?_|refine jj ?_|refine jk ?_|refine jl ?_|refine jm ?_|refine jn ?_|refine jo ?_|refine jp ?_|refine jq ?_|refine jr ?_|refine js ?_|refine jt ?_|refine ju ?_|refine jv ?_|refine jw ?_|refine jx ?_|refine jy ?_|refine jz ?_|refine jA ?_|refine jB ?_|refine jC ?_|refine jD ?_|refine jE ?_|refine jF ?_|refine jG ?_|refine jH ?_|refine jI ?_|refine jJ ?_|refine jK ?_|refine jL ?_|refine jM (by assumption) ?_|refine jN (by assumption) rfl ?_|refine jO (by assumption) ?_|refine jP (by assumption) rfl ?_|refine jQ ?_|refine jR ?_|refine jS ?_|refine jT ?_|refine jU (by assumption) rfl ?_))
  refine M.call_i (value_ret h.dag h.words h.small id) ?_; rintro _ w1 ⟨rfl, k1⟩
  have h1 := h.keep k1
  have hb := h1.blk
  refine M.extract_i rfl ?_
  refine M.extract_i rfl ?_
  have fin : ∀ w2, Blk w2 rb [ptr p, ev, .bool (bad || !isN N id)] → Keep w1 w2 (· = rb) → Rdr w2 F p N most De ev env rb (bad || !isN N id) ∧ Keep w w2 (· = rb) := fun w2 b2 k2 =>
    ⟨h1.set k2 b2, ((k0.trans k1 (fun _ _ h => h)).mono (fun _ _ h => h.elim)).trans k2 (fun _ _ h => h)⟩
  cases bad with
  | true =>
    (repeat (first|refine ja ?_|refine jb ?_|refine jc ?_|refine jd ?_|refine je ?_|refine jf ?_|refine jg ?_|refine jh ?_|refine ji ?_|refine jj ?_|refine jk ?_|refine jl ?_|refine jm ?_|refine jn ?_|refine jo ?_|refine jp ?_|refine jq ?_|refine jr ?_|refine js ?_|refine jt ?_|refine ju ?_|refine jv ?_|refine jw ?_|refine jx ?_|refine jy ?_|refine jz ?_|refine jA ?_|refine jB ?_|refine jC ?_|refine jD ?_|refine jE ?_|refine jF ?_|refine jG ?_|refine jH ?_|refine jI ?_|refine jJ ?_|refine jK ?_|refine jL ?_|refine jM (by assumption) ?_|refine jN (by assumption) rfl ?_|refine jO (by assumption) ?_|refine jP (by assumption) rfl ?_|refine jQ ?_|refine jR ?_|refine jS ?_|refine jT ?_|refine jU (by assumption) rfl ?_))
    refine M.store_i hb (by simp) rfl (fun w2 b2 k2 s2 => ?_)
    exact ⟨rfl, fin w2 b2 k2⟩
  | false =>
    cases hi : isN N id with
    | true =>
      rw [hi] at fin
      simp only [if_true]
      (repeat (first|refine ja ?_|refine jb ?_|refine jc ?_|refine jd ?_|refine je ?_|refine jf ?_|refine jg ?_|refine jh ?_|refine ji ?_|refine jj ?_|refine jk ?_|refine jl ?_|refine jm ?_|refine jn ?_|refine jo ?_|refine jp ?_|refine jq ?_|refine jr ?_|refine js ?_|refine jt ?_|refine ju ?_|refine jv ?_|refine jw ?_|refine jx ?_|refine jy ?_|refine jz ?_|refine jA ?_|refine jB ?_|refine jC ?_|refine jD ?_|refine jE ?_|refine jF ?_|refine jG ?_|refine jH ?_|refine jI ?_|refine jJ ?_|refine jK ?_|refine jL ?_|refine jM (by assumption) ?_|refine jN (by assumption) rfl ?_|refine jO (by assumption) ?_|refine jP (by assumption) rfl ?_|refine jQ ?_|refine jR ?_|refine jS ?_|refine jT ?_|refine jU (by assumption) rfl ?_))
      refine M.store_i hb (by simp) rfl (fun w2 b2 k2 s2 => ?_)
      exact ⟨rfl, fin w2 b2 k2⟩
    | false =>
      rw [hi] at fin
      simp only [Bool.false_eq_true, if_false]
      (repeat (first|refine ja ?_|refine jb ?_|refine jc ?_|refine jd ?_|refine je ?_|refine jf ?_|refine jg ?_|refine jh ?_|refine ji ?_|refine jj ?_|refine jk ?_|refine jl ?_|refine jm ?_|refine jn ?_|refine jo ?_|refine jp ?_|refine jq ?_|refine jr ?_|refine js ?_|refine jt ?_|refine ju ?_|refine jv ?_|refine jw ?_|refine jx ?_|refine jy ?_|refine jz ?_|refine jA ?_|refine jB ?_|refine jC ?_|refine jD ?_|refine jE ?_|refine jF ?_|refine jG ?_|refine jH ?_|refine jI ?_|refine jJ ?_|refine jK ?_|refine jL ?_|refine jM (by assumption) ?_|refine jN (by assumption) rfl ?_|refine jO (by assumption) ?_|refine jP (by assumption) rfl ?_|refine jQ ?_|refine jR ?_|refine jS ?_|refine jT ?_|refine jU (by assumption) rfl ?_))
      refine M.store_i hb (by simp) rfl (fun w2 b2 k2 s2 => ?_)
      exact ⟨rfl, fin w2 b2 k2⟩
theorem callword {kt : Kt} (h : Rdr w F p N most De ev env rb bad) (id : Int) (hk : ∀ w', Rdr w' F p N most De ev env rb (bad || !isN N id) → Keep w w' (· = rb) → kt (vw (valW N env id)) w') :
    M.callv Try.prog (.func (.func 49) #[ptr rb] #[]) #[vi id] kt w := by
  refine M.callv_i (fun a w => rfl) (Q := fun x w' => x = vw (valW N env id) ∧ Rdr w' F p N most De ev env rb (bad || !isN N id) ∧ Keep w w' (· = rb)) ?_ ?_
  · show Ret Try.prog 49 #[ptr rb, vi id] w _
    exact word_ret h id
  · rintro x w' ⟨rfl, h1, h2⟩
    exact hk w' h1 h2
theorem each_ret {D : Nat → Prop} {v : Value} {xs : List Int} (h : Rdr w F p N most De ev env rb bad) (hl : LV vi w D v xs) (hf : xs.length ≤ 1000000) (hD : ¬ D rb) :
    Ret Try.prog 50 #[v, .func (.func 49) #[ptr rb] #[]] w (fun r w' => GW w' (w.heap.size ≤ ·) r (xs.map (valW N env)) ∧ Rdr w' F p N most De ev env rb (bad || xs.any (fun i => !isN N i)) ∧ Keep w w' (· = rb)) := by
  refine ok50 _ _ _ _ ?_
  unfold sh50
  obtain ⟨A, c, rfl, hr, hc⟩ := hl
  (repeat (first|refine ja ?_|refine jb ?_|refine jc ?_|refine jd ?_|refine je ?_|refine jf ?_|refine jg ?_|refine jh ?_|refine ji ?_|refine jj ?_|refine jk ?_|refine jl ?_|refine jm ?_|refine jn ?_|refine jo ?_|refine jp ?_|refine jq ?_|refine jr ?_|refine js ?_|refine jt ?_|refine ju ?_|refine jv ?_|refine jw ?_|refine jx ?_|refine jy ?_|refine jz ?_|refine jA ?_|refine jB ?_|refine jC ?_|refine jD ?_|refine jE ?_|refine jF ?_|refine jG ?_|refine jH ?_|refine jI ?_|refine jJ ?_|refine jK ?_|refine jL ?_|refine jM (by assumption) ?_|refine jN (by assumption) rfl ?_|refine jO (by assumption) ?_|refine jP (by assumption) rfl ?_|refine jQ ?_|refine jR ?_|refine jS ?_|refine jT ?_|refine jU (by assumption) rfl ?_))
  refine M.loop_i (σ := Nat) (fun n vals w' => ∃ (i : Nat) (sv : Value), n = xs.length - i ∧ i ≤ xs.length ∧ vals = [sv, vi i] ∧ GW w' (w.heap.size ≤ ·) sv ((xs.take i).map (valW N env)) ∧ Rdr w' F p N most De ev env rb (bad || (xs.take i).any (fun i => !isN N i)) ∧ Keep w w' (· = rb)) id xs.length
    ⟨0, _, by omega, by omega, rfl, GC.nil _ _ _, by simpa using h, Keep.refl _ _⟩ ?_
  rintro n vals w1 K ⟨i, sv, rfl, hi, rfl, hg, h1, k1⟩ hK _
  simp only [List.getD_cons_zero, List.getD_cons_succ]
  have hr1 := hr.keep k1 (fun b _ hb e => hD (e ▸ hb))
  by_cases hlt : i < xs.length
  · (repeat (first|refine ja ?_|refine jb ?_|refine jc ?_|refine jd ?_|refine je ?_|refine jf ?_|refine jg ?_|refine jh ?_|refine ji ?_|refine jj ?_|refine jk ?_|refine jl ?_|refine jm ?_|refine jn ?_|refine jo ?_|refine jp ?_|refine jq ?_|refine jr ?_|refine js ?_|refine jt ?_|refine ju ?_|refine jv ?_|refine jw ?_|refine jx ?_|refine jy ?_|refine jz ?_|refine jA ?_|refine jB ?_|refine jC ?_|refine jD ?_|refine jE ?_|refine jF ?_|refine jG ?_|refine jH ?_|refine jI ?_|refine jJ ?_|refine jK ?_|refine jL ?_|refine jM (by assumption) ?_|refine jN (by assumption) rfl ?_|refine jO (by assumption) ?_|refine jP (by assumption) rfl ?_|refine jQ ?_|refine jR ?_|refine jS ?_|refine jT ?_|refine jU (by assumption) rfl ?_))
    refine M.idxLV_i hr1 rfl (by omega) (by omega) (x := xs[i]) (by rw [Int.toNat_natCast]; exact List.getElem?_eq_getElem hlt) (fun bb oo hA hcc => ?_)
    (repeat (first|refine ja ?_|refine jb ?_|refine jc ?_|refine jd ?_|refine je ?_|refine jf ?_|refine jg ?_|refine jh ?_|refine ji ?_|refine jj ?_|refine jk ?_|refine jl ?_|refine jm ?_|refine jn ?_|refine jo ?_|refine jp ?_|refine jq ?_|refine jr ?_|refine js ?_|refine jt ?_|refine ju ?_|refine jv ?_|refine jw ?_|refine jx ?_|refine jy ?_|refine jz ?_|refine jA ?_|refine jB ?_|refine jC ?_|refine jD ?_|refine jE ?_|refine jF ?_|refine jG ?_|refine jH ?_|refine jI ?_|refine jJ ?_|refine jK ?_|refine jL ?_|refine jM (by assumption) ?_|refine jN (by assumption) rfl ?_|refine jO (by assumption) ?_|refine jP (by assumption) rfl ?_|refine jQ ?_|refine jR ?_|refine jS ?_|refine jT ?_|refine jU (by assumption) rfl ?_))
    refine callword h1 _ (fun w2 h2 k2 => ?_)
    have hrb := h.blk.lt
    have hg2 := hg.keep k2 (fun b hb h e => by have h : w.heap.size ≤ b := h; omega)
    refine M.appendW_i hg2 (by simp; omega) (fun v3 w3 g3 k3 => ?_)
    have q1 := k1.size; have q2 := k2.size
    have k03 : Keep w w3 (· = rb) := (k1.trans k2 (fun _ _ h => h)).trans k3 (fun b hb h => by have h : w.heap.size ≤ b := h; omega)
    (repeat (first|refine ja ?_|refine jb ?_|refine jc ?_|refine jd ?_|refine je ?_|refine jf ?_|refine jg ?_|refine jh ?_|refine ji ?_|refine jj ?_|refine jk ?_|refine jl ?_|refine jm ?_|refine jn ?_|refine jo ?_|refine jp ?_|refine jq ?_|refine jr ?_|refine js ?_|refine jt ?_|refine ju ?_|refine jv ?_|refine jw ?_|refine jx ?_|refine jy ?_|refine jz ?_|refine jA ?_|refine jB ?_|refine jC ?_|refine jD ?_|refine jE ?_|refine jF ?_|refine jG ?_|refine jH ?_|refine jI ?_|refine jJ ?_|refine jK ?_|refine jL ?_|refine jM (by assumption) ?_|refine jN (by assumption) rfl ?_|refine jO (by assumption) ?_|refine jP (by assumption) rfl ?_|refine jQ ?_|refine jR ?_|refine jS ?_|refine jT ?_|refine jU (by assumption) rfl ?_))
    have et : xs.take (i + 1) = xs.take i ++ [xs[i]] := List.take_succ_eq_append_getElem hlt
    refine hK (xs.length - (i + 1)) _ _ (by show xs.length - (i + 1) < xs.length - i; omega) ⟨i + 1, _, rfl, by omega, rfl, ?_, ?_, k03⟩
    · rw [et, List.map_append]
      have := g3.mono (L' := (w.heap.size ≤ ·)) (fun b hb h => by rcases h with h | h; exact h; (show w.heap.size ≤ b); omega)
      exact this
    · have e : (bad || (xs.take (i + 1)).any (fun i => !isN N i)) = ((bad || (xs.take i).any (fun i => !isN N i)) || !isN N xs[i]) := by rw [et, List.any_append, List.any_cons, List.any_nil, Bool.or_false, Bool.or_assoc]
      rw [e]
      exact h.set k03 (h2.blk.keep k3 (fun h => by have h : w.heap.size ≤ rb := h; omega))
  · have e : i = xs.length := by omega
    subst e
    (repeat (first|refine ja ?_|refine jb ?_|refine jc ?_|refine jd ?_|refine je ?_|refine jf ?_|refine jg ?_|refine jh ?_|refine ji ?_|refine jj ?_|refine jk ?_|refine jl ?_|refine jm ?_|refine jn ?_|refine jo ?_|refine jp ?_|refine jq ?_|refine jr ?_|refine js ?_|refine jt ?_|refine ju ?_|refine jv ?_|refine jw ?_|refine jx ?_|refine jy ?_|refine jz ?_|refine jA ?_|refine jB ?_|refine jC ?_|refine jD ?_|refine jE ?_|refine jF ?_|refine jG ?_|refine jH ?_|refine jI ?_|refine jJ ?_|refine jK ?_|refine jL ?_|refine jM (by assumption) ?_|refine jN (by assumption) rfl ?_|refine jO (by assumption) ?_|refine jP (by assumption) rfl ?_|refine jQ ?_|refine jR ?_|refine jS ?_|refine jT ?_|refine jU (by assumption) rfl ?_))
    rw [List.take_length] at hg h1
    exact ⟨hg, h1, k1⟩
/-! ### writes that wait -/
def pdOf (N : List Nd) (env : List W64) (x : SP) : PD := ⟨x.b, valW N env x.v, x.e⟩
theorem pend1_ret {t2 : Nat} (h : Rdr w F p N most De ev env rb bad) (b2 : Blk w t2 [ptr rb]) (hne : t2 ≠ rb) (x : SP) :
    Ret Try.prog 48 #[.agg ⟨x.cells⟩, ptr t2] w (fun r w' => r = .agg ⟨(pdOf N env x).cells⟩ ∧ Rdr w' F p N most De ev env rb (bad || !isN N x.v) ∧ Keep w w' (· = rb)) := by
  refine ok48 _ _ _ _ ?_
  unfold sh48
  refine M.new_i (l := x.cells) (fun w1 b1 k1 s1 => ?_)
  refine M.new_i (l := [vi 0, vw 0, vi 0]) (fun w3 b3 k3 s3 => ?_)
  refine M.draw_i ?_
  have k0 := (k1.trans k3 (fun _ _ h => h)).trans (Keep.drew w3 No) (fun _ _ h => h)
  have b1 : Blk w3.drew w.heap.size [vi x.b, vi x.v, vi x.e] := (b1.keep k3 (fun h => h) : Blk w3 _ _)
  have b2 := b2.keep k0 (fun h => h)
  have b3 : Blk w3.drew w1.heap.size [vi 0, vw 0, vi 0] := b3
  have h0 := h.keep k0
  have q := h.blk.lt
  (repeat (first|refine ja ?_|refine jb ?_|refine jc ?_|refine jd ?_|refine je ?_|refine jf ?_|refine jg ?_|refine jh ?_|refine ji ?_|refine jj ?_|refine jk ?_|refine jl ?_|refine jm ?_|refine jn ?_|refine jo ?_|refine jp ?_|refine jq ?_|refine jr ?_|refine js ?_|refine jt ?_|refine ju ?_|refine jv ?_|refine jw ?_|refine jx ?_|refine jy ?_|refine jz ?_|refine jA ?_|refine jB ?_|refine jC ?_|refine jD ?_|refine jE ?_|refine jF ?_|refine jG ?_|refine jH ?_|refine jI ?_|refine jJ ?_|refine jK ?_|refine jL ?_|refine jM (by assumption) ?_|refine jN (by assumption) rfl ?_|refine jO (by assumption) ?_|refine jP (by assumption) rfl ?_|refine jQ ?_|refine jR ?_|refine jS ?_|refine jT ?_|refine jU (by assumption) rfl ?_))
  refine M.call_i (word_ret h0 x.v) ?_; rintro _ w4 ⟨rfl, h4, k4⟩
  have b1 := b1.keep k4 (fun h => by omega)
  have b3 := b3.keep k4 (fun h => by omega)
  (repeat (first|refine ja ?_|refine jb ?_|refine jc ?_|refine jd ?_|refine je ?_|refine jf ?_|refine jg ?_|refine jh ?_|refine ji ?_|refine jj ?_|refine jk ?_|refine jl ?_|refine jm ?_|refine jn ?_|refine jo ?_|refine jp ?_|refine jq ?_|refine jr ?_|refine js ?_|refine jt ?_|refine ju ?_|refine jv ?_|refine jw ?_|refine jx ?_|refine jy ?_|refine jz ?_|refine jA ?_|refine jB ?_|refine jC ?_|refine jD ?_|refine jE ?_|refine jF ?_|refine jG ?_|refine jH ?_|refine jI ?_|refine jJ ?_|refine jK ?_|refine jL ?_|refine jM (by assumption) ?_|refine jN (by assumption) rfl ?_|refine jO (by assumption) ?_|refine jP (by assumption) rfl ?_|refine jQ ?_|refine jR ?_|refine jS ?_|refine jT ?_|refine jU (by assumption) rfl ?_))
  refine M.pure_i (.agg ⟨(pdOf N env x).cells⟩) (fun _ => by kernel_rfl) ?_
  refine M.storeAll_i b3 rfl rfl (by intro y hy; simp [PD.cells] at hy; rcases hy with rfl | rfl | rfl <;> rfl) (fun w5 b5 k5 s5 => ?_)
  refine M.loadAll_i b5 rfl ?_
  have k05 : Keep w w5 (· = rb) := ((k0.mono (fun _ _ h => h.elim)).trans k4 (fun _ _ h => h)).trans k5 (fun b hb h => by omega)
  exact ⟨rfl, h.set k05 (h4.blk.keep k5 (fun h => by omega)), k05⟩
theorem pends_ret {D : Nat → Prop} {t2 : Nat} {v : Value} {xs : List SP} (h : Rdr w F p N most De ev env rb bad) (b2 : Blk w t2 [ptr rb]) (hne : t2 ≠ rb) (hl : LN SP.cells w D v xs) (hf : xs.length ≤ 1000000) (hD : ¬ D rb) :
    Ret Try.prog 51 #[v, .func (.func 48) #[] #[ptr t2]] w (fun r w' => GC w' (w.heap.size ≤ ·) 3 r xs.length ((xs.map (pdOf N env)).flatMap PD.cells) ∧ Rdr w' F p N most De ev env rb (bad || xs.any (fun i => !isN N i.v)) ∧ Keep w w' (· = rb)) := by
  refine ok51 _ _ _ _ ?_
  unfold sh51
  obtain ⟨A, c, rfl, hr, hc⟩ := hl
  have hrb := h.blk.lt
  have ht2 := b2.lt
  (repeat (first|refine ja ?_|refine jb ?_|refine jc ?_|refine jd ?_|refine je ?_|refine jf ?_|refine jg ?_|refine jh ?_|refine ji ?_|refine jj ?_|refine jk ?_|refine jl ?_|refine jm ?_|refine jn ?_|refine jo ?_|refine jp ?_|refine jq ?_|refine jr ?_|refine js ?_|refine jt ?_|refine ju ?_|refine jv ?_|refine jw ?_|refine jx ?_|refine jy ?_|refine jz ?_|refine jA ?_|refine jB ?_|refine jC ?_|refine jD ?_|refine jE ?_|refine jF ?_|refine jG ?_|refine jH ?_|refine jI ?_|refine jJ ?_|refine jK ?_|refine jL ?_|refine jM (by assumption) ?_|refine jN (by assumption) rfl ?_|refine jO (by assumption) ?_|refine jP (by assumption) rfl ?_|refine jQ ?_|refine jR ?_|refine jS ?_|refine jT ?_|refine jU (by assumption) rfl ?_))
  refine M.loop_i (σ := Nat) (fun n vals w' => ∃ (i : Nat) (sv : Value), n = xs.length - i ∧ i ≤ xs.length ∧ vals = [sv, vi i] ∧ GC w' (w.heap.size ≤ ·) 3 sv i (((xs.take i).map (pdOf N env)).flatMap PD.cells) ∧ Rdr w' F p N most De ev env rb (bad || (xs.take i).any (fun i => !isN N i.v)) ∧ Keep w w' (· = rb)) id xs.length
    ⟨0, _, by omega, by omega, rfl, GC.nil _ _ _, by simpa using h, Keep.refl _ _⟩ ?_
  rintro n vals w1 K ⟨i, sv, rfl, hi, rfl, hg, h1, k1⟩ hK _
  simp only [List.getD_cons_zero, List.getD_cons_succ]
  have hr1 := hr.keep k1 (fun b _ hb e => hD (e ▸ hb))
  have b2 := b2.keep k1 hne
  by_cases hlt : i < xs.length
  · (repeat (first|refine ja ?_|refine jb ?_|refine jc ?_|refine jd ?_|refine je ?_|refine jf ?_|refine jg ?_|refine jh ?_|refine ji ?_|refine jj ?_|refine jk ?_|refine jl ?_|refine jm ?_|refine jn ?_|refine jo ?_|refine jp ?_|refine jq ?_|refine jr ?_|refine js ?_|refine jt ?_|refine ju ?_|refine jv ?_|refine jw ?_|refine jx ?_|refine jy ?_|refine jz ?_|refine jA ?_|refine jB ?_|refine jC ?_|refine jD ?_|refine jE ?_|refine jF ?_|refine jG ?_|refine jH ?_|refine jI ?_|refine jJ ?_|refine jK ?_|refine jL ?_|refine jM (by assumption) ?_|refine jN (by assumption) rfl ?_|refine jO (by assumption) ?_|refine jP (by assumption) rfl ?_|refine jQ ?_|refine jR ?_|refine jS ?_|refine jT ?_|refine jU (by assumption) rfl ?_))
    refine M.idxF_i sp_len (by omega) hr1 rfl (by omega) (x := xs[i]) (by rw [Int.toNat_natCast]; exact List.getElem?_eq_getElem hlt) (fun bb oo hcc => ?_)
    refine M.load3_i (hcc 0 (vi xs[i].b) rfl) (hcc 1 (vi xs[i].v) rfl) (hcc 2 (vi xs[i].e) rfl) ?_
    refine M.new_i (l := [vi 0, vi 0, vi 0]) (fun w2 b7 k2 s2 => ?_)
    refine M.storeAll_i (vs := xs[i].cells) b7 rfl rfl (by intro y hy; simp [SP.cells] at hy; rcases hy with rfl | rfl | rfl <;> rfl) (fun w3 b3 k3 s3 => ?_)
    refine M.loadAll_i b3 rfl ?_
    have k13 : Keep w1 w3 No := k2.trans k3 (fun b hb h => by omega)
    have q1 := k1.size
    refine M.callv_i (fun a w => rfl) (Q := fun x w' => x = .agg ⟨(pdOf N env xs[i]).cells⟩ ∧ Rdr w' F p N most De ev env rb ((bad || (xs.take i).any (fun i => !isN N i.v)) || !isN N xs[i].v) ∧ Keep w3 w' (· = rb)) ?_ ?_
    · show Ret Try.prog 48 #[.agg ⟨xs[i].cells⟩, ptr t2] w3 _
      exact pend1_ret (h1.keep k13) (b2.keep k13 (fun h => h)) hne xs[i]
    rintro _ w4 ⟨rfl, h4, k4⟩
    refine M.buildSlice_i (pdOf N env xs[i]).cells (by kernel_rfl) (fun w5 b5 k5 s5 => ?_)
    have q3 := k13.size; have q4 := k4.size; have q5 := k5.size
    have hg5 := ((hg.keep k13 (fun _ _ _ h => h)).keep k4 (fun b hb h e => by have h : w.heap.size ≤ b := h; omega)).keep k5 (fun _ _ _ h => h)
    refine M.append_i (m := 1) hg5 (Row.of_blk' (D := fun _ => True) b5 trivial) rfl (by intro y hy; simp [PD.cells, pdOf] at hy; rcases hy with rfl | rfl | rfl <;> rfl) rfl (by omega) (by omega) (fun v6 w6 g6 k6 => ?_)
    have k06 : Keep w w6 (· = rb) := (((k1.trans k13 (fun _ _ h => h.elim)).trans k4 (fun _ _ h => h)).trans k5 (fun _ _ h => h.elim)).trans k6 (fun b hb h => by have h : w.heap.size ≤ b := h; omega)
    (repeat (first|refine ja ?_|refine jb ?_|refine jc ?_|refine jd ?_|refine je ?_|refine jf ?_|refine jg ?_|refine jh ?_|refine ji ?_|refine jj ?_|refine jk ?_|refine jl ?_|refine jm ?_|refine jn ?_|refine jo ?_|refine jp ?_|refine jq ?_|refine jr ?_|refine js ?_|refine jt ?_|refine ju ?_|refine jv ?_|refine jw ?_|refine jx ?_|refine jy ?_|refine jz ?_|refine jA ?_|refine jB ?_|refine jC ?_|refine jD ?_|refine jE ?_|refine jF ?_|refine jG ?_|refine jH ?_|refine jI ?_|refine jJ ?_|refine jK ?_|refine jL ?_|refine jM (by assumption) ?_|refine jN (by assumption) rfl ?_|refine jO (by assumption) ?_|refine jP (by assumption) rfl ?_|refine jQ ?_|refine jR ?_|refine jS ?_|refine jT ?_|refine jU (by assumption) rfl ?_))
    have et : xs.take (i + 1) = xs.take i ++ [xs[i]] := List.take_succ_eq_append_getElem hlt
    refine hK (xs.length - (i + 1)) _ _ (by show xs.length - (i + 1) < xs.length - i; omega) ⟨i + 1, _, rfl, by omega, rfl, ?_, ?_, k06⟩
    · rw [et, List.map_append, List.flatMap_append]
      have := g6.mono (L' := (w.heap.size ≤ ·)) (fun b hb h => by rcases h with h | h; exact h; (show w.heap.size ≤ b); omega)
      simpa using this
    · have e : (bad || (xs.take (i + 1)).any (fun i => !isN N i.v)) = ((bad || (xs.take i).any (fun i => !isN N i.v)) || !isN N xs[i].v) := by rw [et, List.any_append, List.any_cons, List.any_nil, Bool.or_false, Bool.or_assoc]
      rw [e]
      exact h.set k06 ((h4.blk.keep k5 (fun h => h)).keep k6 (fun h => by have h : w.heap.size ≤ rb := h; omega))
  · have e : i = xs.length := by omega
    subst e
    (repeat (first|refine ja ?_|refine jb ?_|refine jc ?_|refine jd ?_|refine je ?_|refine jf ?_|refine jg ?_|refine jh ?_|refine ji ?_|refine jj ?_|refine jk ?_|refine jl ?_|refine jm ?_|refine jn ?_|refine jo ?_|refine jp ?_|refine jq ?_|refine jr ?_|refine js ?_|refine jt ?_|refine ju ?_|refine jv ?_|refine jw ?_|refine jx ?_|refine jy ?_|refine jz ?_|refine jA ?_|refine jB ?_|refine jC ?_|refine jD ?_|refine jE ?_|refine jF ?_|refine jG ?_|refine jH ?_|refine jI ?_|refine jJ ?_|refine jK ?_|refine jL ?_|refine jM (by assumption) ?_|refine jN (by assumption) rfl ?_|refine jO (by assumption) ?_|refine jP (by assumption) rfl ?_|refine jQ ?_|refine jR ?_|refine jS ?_|refine jT ?_|refine jU (by assumption) rfl ?_))
    rw [List.take_length] at hg h1
    exact ⟨hg, h1, k1⟩
/-! ### the device -/
def devOf (N : List Nd) (env : List W64) (d : SDv) : Dv := ⟨d.disk.map (valW N env), d.pend.map (pdOf N env), d.ep⟩
def devBad (N : List Nd) (d : SDv) : Bool := d.disk.any (fun i => !isN N i) || d.pend.any (fun i => !isN N i.v)
theorem dev_ret {D : Nat → Prop} {a b : Value} {d : SDv} (h : Rdr w F p N most De ev env rb bad) (hd : SDvO w D a b d) (hf : d.few) (hD : ¬ D rb) :
    Ret Try.prog 28 #[ptr rb, .agg ⟨[a, b, vi d.ep]⟩] w (fun r w' => ∃ a' b', r = .agg ⟨[a', b', vi d.ep]⟩ ∧ DvO w' (w.heap.size ≤ ·) a' b' (devOf N env d) ∧ Rdr w' F p N most De ev env rb (bad || devBad N d) ∧ Keep w w' (· = rb)) := by
  obtain ⟨hf1, hf2⟩ := hf
  refine ok28 _ _ _ _ ?_
  unfold sh28
  have hrb := h.blk.lt
  refine M.new_i (l := [ptr rb]) (fun w1 b1 k1 s1 => ?_)
  refine M.new_i (l := [a, b, vi d.ep]) (fun w2 b2 k2 s2 => ?_)
  refine M.new_i (l := [.slice none 0 0, .slice none 0 0, vi 0]) (fun w3 b3 k3 s3 => ?_)
  refine M.draw_i ?_
  have k0 := ((k1.trans k2 (fun _ _ h => h)).trans k3 (fun _ _ h => h)).trans (Keep.drew w3 No) (fun _ _ h => h)
  have b1 : Blk w3.drew w.heap.size [ptr rb] := ((b1.keep k2 (fun h => h)).keep k3 (fun h => h) : Blk w3 _ _)
  have b2 : Blk w3.drew w1.heap.size [a, b, vi d.ep] := (b2.keep k3 (fun h => h) : Blk w3 _ _)
  have b3 : Blk w3.drew w2.heap.size [.slice none 0 0, .slice none 0 0, vi 0] := b3
  have s3' : w3.drew.heap.size = w.heap.size + 3 := by show w3.heap.size = _; omega
  have h0 := h.keep k0
  have hd0 := hd.keep k0 (fun _ _ _ h => h)
  (repeat (first|refine ja ?_|refine jb ?_|refine jc ?_|refine jd ?_|refine je ?_|refine jf ?_|refine jg ?_|refine jh ?_|refine ji ?_|refine jj ?_|refine jk ?_|refine jl ?_|refine jm ?_|refine jn ?_|refine jo ?_|refine jp ?_|refine jq ?_|refine jr ?_|refine js ?_|refine jt ?_|refine ju ?_|refine jv ?_|refine jw ?_|refine jx ?_|refine jy ?_|refine jz ?_|refine jA ?_|refine jB ?_|refine jC ?_|refine jD ?_|refine jE ?_|refine jF ?_|refine jG ?_|refine jH ?_|refine jI ?_|refine jJ ?_|refine jK ?_|refine jL ?_|refine jM (by assumption) ?_|refine jN (by assumption) rfl ?_|refine jO (by assumption) ?_|refine jP (by assumption) rfl ?_|refine jQ ?_|refine jR ?_|refine jS ?_|refine jT ?_|refine jU (by assumption) rfl ?_))
  refine M.call_i (each_ret h0 hd0.1 hf1 hD) ?_; rintro av w4 ⟨g4, h4, k4⟩
  have b1 := b1.keep k4 (fun h => by omega)
  have b2 := b2.keep k4 (fun h => by omega)
  have b3 := b3.keep k4 (fun h => by omega)
  have hd4 := hd0.keep k4 (fun b _ hb e => hD (e ▸ hb))
  have q4 := k4.size
  (repeat (first|refine ja ?_|refine jb ?_|refine jc ?_|refine jd ?_|refine je ?_|refine jf ?_|refine jg ?_|refine jh ?_|refine ji ?_|refine jj ?_|refine jk ?_|refine jl ?_|refine jm ?_|refine jn ?_|refine jo ?_|refine jp ?_|refine jq ?_|refine jr ?_|refine js ?_|refine jt ?_|refine ju ?_|refine jv ?_|refine jw ?_|refine jx ?_|refine jy ?_|refine jz ?_|refine jA ?_|refine jB ?_|refine jC ?_|refine jD ?_|refine jE ?_|refine jF ?_|refine jG ?_|refine jH ?_|refine jI ?_|refine jJ ?_|refine jK ?_|refine jL ?_|refine jM (by assumption) ?_|refine jN (by assumption) rfl ?_|refine jO (by assumption) ?_|refine jP (by assumption) rfl ?_|refine jQ ?_|refine jR ?_|refine jS ?_|refine jT ?_|refine jU (by assumption) rfl ?_))
  refine M.call_i (pends_ret h4 b1 (by omega) hd4.2 hf2 hD) ?_; rintro bv w5 ⟨g5, h5, k5⟩
  have b1 := b1.keep k5 (fun h => by omega)
  have b2 := b2.keep k5 (fun h => by omega)
  have b3 := b3.keep k5 (fun h => by omega)
  have g4 := g4.keep k5 (fun b _ hb e => by have hb : w3.drew.heap.size ≤ b := hb; omega)
  (repeat (first|refine ja ?_|refine jb ?_|refine jc ?_|refine jd ?_|refine je ?_|refine jf ?_|refine jg ?_|refine jh ?_|refine ji ?_|refine jj ?_|refine jk ?_|refine jl ?_|refine jm ?_|refine jn ?_|refine jo ?_|refine jp ?_|refine jq ?_|refine jr ?_|refine js ?_|refine jt ?_|refine ju ?_|refine jv ?_|refine jw ?_|refine jx ?_|refine jy ?_|refine jz ?_|refine jA ?_|refine jB ?_|refine jC ?_|refine jD ?_|refine jE ?_|refine jF ?_|refine jG ?_|refine jH ?_|refine jI ?_|refine jJ ?_|refine jK ?_|refine jL ?_|refine jM (by assumption) ?_|refine jN (by assumption) rfl ?_|refine jO (by assumption) ?_|refine jP (by assumption) rfl ?_|refine jQ ?_|refine jR ?_|refine jS ?_|refine jT ?_|refine jU (by assumption) rfl ?_))
  have g5 := gc_ln (by simp) g5
  have g4 := GW.lv g4
  obtain ⟨A4, c4, rfl, _, _⟩ := id g4
  obtain ⟨A5, c5, rfl, _, _⟩ := id g5
  refine M.pure_i (.agg ⟨[.slice A4 (d.disk.map (valW N env)).length c4, .slice A5 (d.pend.map (pdOf N env)).length c5, vi d.ep]⟩) (fun _ => by kernel_rfl) ?_
  refine M.storeAll_i b3 rfl rfl (by intro y hy; simp at hy; rcases hy with rfl | rfl | rfl <;> rfl) (fun w6 b6 k6 s6 => ?_)
  refine M.loadAll_i b6 rfl ?_
  have k06 : Keep w w6 (· = rb) := (((k0.mono (fun _ _ h => h.elim)).trans k4 (fun _ _ h => h)).trans k5 (fun _ _ h => h)).trans k6 (fun b hb h => by omega)
  have e : (bad || devBad N d) = ((bad || d.disk.any (fun i => !isN N i)) || d.pend.any (fun i => !isN N i.v)) := by unfold devBad; rw [Bool.or_assoc]
  rw [e]
  refine ⟨_, _, rfl, ?_, h.set k06 (h5.blk.keep k6 (fun h => by omega)), k06⟩
  have t4 : LV vw w6 (w.heap.size ≤ ·) _ (d.disk.map (valW N env)) := (g4.keep k6 (fun b _ hb e => by have hb : w3.drew.heap.size ≤ b := hb; omega)).mono (fun b _ hb => by have hb : w3.drew.heap.size ≤ b := hb; show w.heap.size ≤ b; omega)
  have t5 : LN PD.cells w6 (w.heap.size ≤ ·) _ (d.pend.map (pdOf N env)) := (g5.keep k6 (fun b _ hb e => by have hb : w4.heap.size ≤ b := hb; omega)).mono (fun b _ hb => by have hb : w4.heap.size ≤ b := hb; show w.heap.size ≤ b; omega)
  exact ⟨t4, t5⟩
end
end Go.Proofs.Ytfffepeloiefiaa
