import Derived.Test.YtanjlgafjgoaaaaSt37c
import Derived.Test.YtanjlgafjgoaaaaIsa37c
import Derived.Laws.Build
namespace Go.Proofs.Ytanjlgafjgoaaaa
open Go.Mw
set_option linter.unusedVariables false
set_option linter.unusedSimpArgs false
set_option maxRecDepth 100000
attribute [local irreducible] M.val M.unit M.next M.pick M.new M.nilCheck M.load1 M.loadA M.store M.fieldAddr M.indexSl M.indexArr M.slice M.makeSlice M.buildSlice M.len M.lenS M.cap M.append M.extract M.conv M.not M.neg M.bin M.shift M.eqB M.eqNil M.scat M.call M.callv M.gd M.share M.cond M.loop M.draw pureW readW Ret
/-! (*breakwater/sstep.stepper).place: function 75 -/
def sh75 (x0 x1 : Value) (R : Kt) (w : World) : Prop :=
  M.nilCheck x0 (fun t10 w =>
  M.fieldAddr 1 t10 (fun t11 w =>
  M.fieldAddr 0 t11 (fun t12 w =>
  M.indexArr 8 1 t12 x1 (fun t13 w =>
  M.load1 t13 (fun t14 w =>
  M.nilCheck x0 (fun t17 w =>
  M.fieldAddr 0 t17 (fun t18 w =>
  M.load1 t18 (fun t19 w =>
  M.call Try.prog 46 #[t19, t14] (fun t21 w =>
  M.extract 0 t21 (fun t22 w =>
  M.extract 1 t21 (fun t23 w =>
  M.cond t23
  (pureW Try.prog (Instr.build 116 #[(0, t14), (1, t22)]) (fun t27 w =>
  M.val Try.prog (Instr.makeInterface 116 t27) (fun t28 w =>
  R t28 w) w) w)
  (pureW Try.prog (Instr.build 118 #[(0, t14)]) (fun t30 w =>
  M.val Try.prog (Instr.makeInterface 118 t30) (fun t31 w =>
  R t31 w) w) w)) w) w) w) w) w) w) w) w) w) w) w
theorem ok75 (x0 x1 : Value) (R : Kt) (w : World) (h : sh75 x0 x1 R w) : Ret Try.prog 75 #[x0, x1] w R :=
  ret_mk <| calls_of_comp mixed (c := Try.f75.body.getD .skip) (args := [x0, x1]) (rs := [(ResultVar.tmp 4)]) (Ann.seq Ann.text (Ann.seq Ann.text (Ann.seq (Ann.seq Ann.text (Ann.seq Ann.text (Ann.cond (Ann.seq Ann.text Ann.leaf) Ann.leaf))) (Ann.seq Ann.text Ann.leaf))))
    Try.func75 (by kernel_rfl) (by kernel_rfl)
    (Eq.mp (by kernel_rfl) h)
/-! (*breakwater/sstep.stepper).each: function 55 -/
def sh55 (x0 x1 x2 x3 x4 : Value) (R : Kt) (w : World) : Prop :=
  M.call Try.prog 75 #[x0, x1] (fun t16 w =>
  M.share (fun K1 w =>
  M.val Try.prog (Instr.typeAssert t16 113 116 true) (fun t17 w =>
  M.extract 1 t17 (fun t18 w =>
  M.extract 0 t17 (fun t19 w =>
  M.cond t18
  (M.new 116 #[.int .i64 0, .int .u64 0] (fun t10 w =>
  M.store 2 t10 t19 (fun _ w =>
  M.fieldAddr 1 t10 (fun t20 w =>
  M.load1 t20 (fun t21 w =>
  M.conv .u64 x2 (fun t23 w =>
  M.bin .lss t21 t23 (fun t24 w =>
  M.cond t24
  (M.fieldAddr 1 t10 (fun t27 w =>
  M.load1 t27 (fun t28 w =>
  M.conv .i64 t28 (fun t29 w =>
  M.callv Try.prog x4 #[t29] (fun t30 w =>
  M.call Try.prog 25 #[x0, t30, (Value.int IntKind.i64 (-1))] (fun t31 w =>
  K1 [] w) w) w) w) w) w)
  (M.call Try.prog 17 #[x0, x3] (fun t35 w =>
  M.call Try.prog 25 #[x0, t35, (Value.int IntKind.i64 (-1))] (fun t36 w =>
  K1 [] w) w) w)) w) w) w) w) w) w)
  (M.val Try.prog (Instr.typeAssert t16 113 118 true) (fun t37 w =>
  M.extract 1 t37 (fun t38 w =>
  M.extract 0 t37 (fun t39 w =>
  M.cond t38
  (M.new 118 #[.int .i64 0] (fun t11 w =>
  M.store 1 t11 t39 (fun _ w =>
  M.loop [(Value.int IntKind.i64 0)] (fun s2 K2 w => ∀ _ : List Value,
  M.bin .lss (s2.getD 0 undef) x2 (fun t42 w =>
  M.cond t42
  (M.draw (fun w =>
  M.fieldAddr 0 t11 (fun t49 w =>
  M.load1 t49 (fun t50 w =>
  M.conv .u64 (s2.getD 0 undef) (fun t52 w =>
  M.callv Try.prog x4 #[(s2.getD 0 undef)] (fun t47 w =>
  ((M.load1 t49 (fun v' _ => v' = t50) w) ∧ M.call Try.prog 53 #[x0, t50, t52] (fun t53 w =>
  M.call Try.prog 25 #[x0, t47, t53] (fun t54 w =>
  M.bin .add (s2.getD 0 undef) (Value.int IntKind.i64 1) (fun t55 w =>
  K2 [t55] w) w) w) w)) w) w) w) w) w)
  (M.draw (fun w =>
  M.nilCheck x0 (fun t58 w =>
  M.fieldAddr 0 t58 (fun t59 w =>
  M.load1 t59 (fun t60 w =>
  M.fieldAddr 0 t11 (fun t61 w =>
  M.load1 t61 (fun t62 w =>
  M.conv .u64 x2 (fun t65 w =>
  M.call Try.prog 27 #[x0, t65] (fun t66 w =>
  ((M.load1 t61 (fun v' _ => v' = t62) w) ∧ ((M.load1 t59 (fun v' _ => v' = t60) w) ∧ M.call Try.prog 49 #[t60, (Value.int IntKind.i64 13), t62, t66] (fun t67 w =>
  M.extract 0 t67 (fun t68 w =>
  M.extract 1 t67 (fun t69 w =>
  M.call Try.prog 29 #[x0, t68, t69] (fun t70 w =>
  M.call Try.prog 17 #[x0, x3] (fun t74 w =>
  M.call Try.prog 54 #[x0, t70] (fun t77 w =>
  M.call Try.prog 25 #[x0, t74, t77] (fun t78 w =>
  K1 [] w) w) w) w) w) w) w) w))) w) w) w) w) w) w) w) w)) w) w) w) w)
  (K1 [] w)) w) w) w)) w) w) w) (fun s1 w => ∀ _ : List Value,
  R (.tuple #[]) w) w) w
theorem ok55 (x0 x1 x2 x3 x4 : Value) (R : Kt) (w : World) (h : sh55 x0 x1 x2 x3 x4 R w) : Ret Try.prog 55 #[x0, x1, x2, x3, x4] w R :=
  ret_mk <| calls_of_comp mixed (c := Try.f55.body.getD .skip) (args := [x0, x1, x2, x3, x4]) (rs := []) (Ann.seq Ann.text (Ann.jblock [] [10, 11, 12, 13, 17, 18, 19, 20, 21, 22, 23, 24, 25, 26, 27, 28, 29, 30, 31, 32, 33, 34, 35, 36, 37, 38, 39, 40, 41, 42, 43, 44, 45, 46, 47, 48, 49, 50, 51, 52, 53, 54, 55, 56, 57, 58, 59, 60, 61, 62, 63, 64, 65, 66, 67, 68, 69, 70, 71, 72, 73, 74, 75, 76, 77, 78] (Ann.seq Ann.text (Ann.cond (Ann.seq Ann.text (Ann.seq Ann.text (Ann.cond Ann.text Ann.text))) (Ann.seq Ann.text (Ann.cond (Ann.seq Ann.text (Ann.seq (Ann.seq Ann.text (Ann.block (Ann.loop [41] [12, 42, 43, 44, 45, 46, 47, 48, 49, 50, 51, 52, 53, 54, 55] (Ann.seq Ann.text (Ann.seq (Ann.cond Ann.leaf Ann.leaf) (Ann.seq (Ann.block (Ann.seq Ann.text (Ann.draw (Sch.take 0 (Sch.take 1 (Sch.take 2 (Sch.take 4 (Sch.take 5 (Sch.take 6 (Sch.take 7 (Sch.take 8 (Sch.one 3 (Sch.one 9 (Sch.one 10 Sch.done)))))))))))))) Ann.text)))))) (Ann.seq (Ann.draw (Sch.take 0 (Sch.take 1 (Sch.take 2 (Sch.take 3 (Sch.take 4 (Sch.take 5 (Sch.take 6 (Sch.take 7 (Sch.take 8 (Sch.take 9 (Sch.one 10 (Sch.one 11 (Sch.take 12 (Sch.take 13 (Sch.one 14 (Sch.take 15 Sch.done))))))))))))))))) Ann.text))) Ann.leaf))))))
    Try.func55 (by kernel_rfl) (by kernel_rfl)
    (Eq.mp (by kernel_rfl) h)

section
variable {w : World} {F : Nat → Prop} {p pb : Nat} {N : List Nd} {most : Int} {s : Sy} {sv : List Value} {i : Ins} {inputs mw : Int} {ov : Value} {outs : List Sy} {e : Int} {c a b d : Value}
def plV (N : List Nd) (id : Int) : Value := match knownN N id with
  | some x => .iface 116 (.agg #[vi id, vw x])
  | none => .iface 118 (.agg #[vi id])
theorem place37_ret (h : Stp w F p pb N most s sv i inputs mw ov outs e) {r : Int} (h0 : 0 ≤ r) (h7 : r ≤ 7) :
    Ret Try.prog 75 #[ptr pb, vi r] w (fun v w' => v = plV N (s.reg r) ∧ Keep w w' No) := by
  have hr := h.creg h0 h7
  have hcp := h.cp
  refine ok75 _ _ _ _ ?_
  unfold sh75
  (repeat (first|refine ja ?_|refine jb ?_|refine jc ?_|refine jd ?_|refine je ?_|refine jf ?_|refine jg ?_|refine jh ?_|refine ji ?_|refine jj ?_|refine jk ?_|refine jl ?_|refine jm ?_|refine jn ?_|refine jo ?_|refine jp ?_|refine jq ?_|refine jr ?_|refine js ?_|refine jt ?_|refine ju ?_|refine jv ?_|refine jw ?_|refine jx ?_|refine jy ?_|refine jz ?_|refine jA ?_|refine jB ?_|refine jC ?_|refine jD ?_|refine jE ?_|refine jF ?_|refine jG ?_|refine jH ?_|refine jI ?_|refine jJ ?_|refine jK ?_|refine jL ?_|refine jM (by assumption) ?_|refine jN (by assumption) rfl ?_|refine jO (by assumption) ?_|refine jP (by assumption) rfl ?_|refine jQ ?_|refine jR ?_|refine jS ?_|refine jT ?_|refine jU (by assumption) rfl ?_))
  refine M.arr8_i h0 (by omega) ?_
  (repeat (first|refine ja ?_|refine jb ?_|refine jc ?_|refine jd ?_|refine je ?_|refine jf ?_|refine jg ?_|refine jh ?_|refine ji ?_|refine jj ?_|refine jk ?_|refine jl ?_|refine jm ?_|refine jn ?_|refine jo ?_|refine jp ?_|refine jq ?_|refine jr ?_|refine js ?_|refine jt ?_|refine ju ?_|refine jv ?_|refine jw ?_|refine jx ?_|refine jy ?_|refine jz ?_|refine jA ?_|refine jB ?_|refine jC ?_|refine jD ?_|refine jE ?_|refine jF ?_|refine jG ?_|refine jH ?_|refine jI ?_|refine jJ ?_|refine jK ?_|refine jL ?_|refine jM (by assumption) ?_|refine jN (by assumption) rfl ?_|refine jO (by assumption) ?_|refine jP (by assumption) rfl ?_|refine jQ ?_|refine jR ?_|refine jS ?_|refine jT ?_|refine jU (by assumption) rfl ?_))
  refine M.call_i (known_ret h.dag (s.reg r)) ?_; rintro _ w1 ⟨rfl, k1⟩
  refine M.extract_i (v := vw ((knownN N (s.reg r)).getD 0)) rfl ?_
  refine M.extract_i (v := .bool (knownN N (s.reg r)).isSome) rfl ?_
  unfold plV
  cases hk : knownN N (s.reg r) with
  | some x =>
    (repeat (first|refine ja ?_|refine jb ?_|refine jc ?_|refine jd ?_|refine je ?_|refine jf ?_|refine jg ?_|refine jh ?_|refine ji ?_|refine jj ?_|refine jk ?_|refine jl ?_|refine jm ?_|refine jn ?_|refine jo ?_|refine jp ?_|refine jq ?_|refine jr ?_|refine js ?_|refine jt ?_|refine ju ?_|refine jv ?_|refine jw ?_|refine jx ?_|refine jy ?_|refine jz ?_|refine jA ?_|refine jB ?_|refine jC ?_|refine jD ?_|refine jE ?_|refine jF ?_|refine jG ?_|refine jH ?_|refine jI ?_|refine jJ ?_|refine jK ?_|refine jL ?_|refine jM (by assumption) ?_|refine jN (by assumption) rfl ?_|refine jO (by assumption) ?_|refine jP (by assumption) rfl ?_|refine jQ ?_|refine jR ?_|refine jS ?_|refine jT ?_|refine jU (by assumption) rfl ?_))
    refine M.pure_i (.agg ⟨[vi (s.reg r), vw x]⟩) (fun _ => by kernel_rfl) ?_
    refine M.val_i (run_makeInterface _ _ _ (by kernel_rfl)) ?_
    exact ⟨rfl, k1⟩
  | none =>
    (repeat (first|refine ja ?_|refine jb ?_|refine jc ?_|refine jd ?_|refine je ?_|refine jf ?_|refine jg ?_|refine jh ?_|refine ji ?_|refine jj ?_|refine jk ?_|refine jl ?_|refine jm ?_|refine jn ?_|refine jo ?_|refine jp ?_|refine jq ?_|refine jr ?_|refine js ?_|refine jt ?_|refine ju ?_|refine jv ?_|refine jw ?_|refine jx ?_|refine jy ?_|refine jz ?_|refine jA ?_|refine jB ?_|refine jC ?_|refine jD ?_|refine jE ?_|refine jF ?_|refine jG ?_|refine jH ?_|refine jI ?_|refine jJ ?_|refine jK ?_|refine jL ?_|refine jM (by assumption) ?_|refine jN (by assumption) rfl ?_|refine jO (by assumption) ?_|refine jP (by assumption) rfl ?_|refine jQ ?_|refine jR ?_|refine jS ?_|refine jT ?_|refine jU (by assumption) rfl ?_))
    refine M.pure_i (.agg ⟨[vi (s.reg r)]⟩) (fun _ => by kernel_rfl) ?_
    refine M.val_i (run_makeInterface _ _ _ (by kernel_rfl)) ?_
    exact ⟨rfl, k1⟩
/-- What gives the state of a place. -/
def Clo (g : Value) (p pb : Nat) (most : Int) (s : Sy) (sv : List Value) (i : Ins) (inputs mw : Int) (q n : Nat) (f : Nat → Sy) : Prop :=
  ∀ (k : Nat) (w : World) (F : Nat → Prop) (N : List Nd) (ov : Value) (outs : List Sy) (e : Int) (kt : Kt), k < n → Stp w F p pb N most s sv i inputs mw ov outs e → Blk w q [ptr pb] → Fr F pb ov q →
    (∀ v w', SyO w' (Fr F pb ov) v (f k) → (f k).conds.length ≤ 1000000 → Keep w w' No → kt v w') → M.callv Try.prog g #[vi k] kt w
theorem addR_len {r : Rs} {out : List Sy} {t : Sy} : (addR r out t).2.2.length ≤ out.length + 1 := addP_len
theorem eachK_len (most id : Int) (f : Nat → Sy) : ∀ (k : Nat) (r : Rp), (eachK most id f k r).2.2.length ≤ r.2.2.length + k
  | 0, r => Nat.le_refl _
  | k + 1, r => by
    have h1 := eachK_len most id f k r
    have : (eachK most id f (k + 1) r).2.2.length ≤ (eachK most id f k r).2.2.length + 1 := addR_len
    omega
/-- A method that adds states. -/
def Adds (w : World) (F : Nat → Prop) (p pb : Nat) (most : Int) (s : Sy) (sv : List Value) (i : Ins) (inputs mw : Int) (ov : Value) (R : Rp) (v : Value) (w' : World) : Prop :=
  v = .tuple #[] ∧ ∃ F' ov', Stp w' F' p pb R.1 most s sv i inputs mw ov' R.2.2 R.2.1 ∧ Mv w F pb ov w' F' ov'
theorem SyO.of_vals {D : Nat → Prop} {t : Sy} (h8 : t.regs.length = 8) (h : LV vi w D c t.cells ∧ SDvO w D a b t.dev ∧ LV vi w D d t.conds) : SyO w D (.agg ⟨t.vals c a b d⟩) t := ⟨h8, c, a, b, d, rfl, h.1, h.2.1, h.2.2⟩
theorem SDvO.ep' {D : Nat → Prop} {v u : SDv} (h : SDvO w D a b v) (h1 : u.disk = v.disk) (h2 : u.pend = v.pend) : SDvO w D a b u := by
  unfold SDvO at h ⊢
  rw [h1, h2]; exact h
set_option maxHeartbeats 4000000 in
theorem each37_ret {q n : Nat} {f : Nat → Sy} {g : Value} {code r : Int} (h : Stp w F p pb N most s sv i inputs mw ov [] e) (hsv : sv = s.vals c a b d) (hq : Blk w q [ptr pb]) (hqf : Fr F pb ov q) (hg : Clo g p pb most s sv i inputs mw q n f) (h0 : 0 ≤ r) (h7 : r ≤ 7) (hn : n ≤ 100000) (hcs : s.conds.length ≤ 1000000) :
    Ret Try.prog 55 #[ptr pb, vi r, vi n, vi code, g] w (Adds w F p pb most s sv i inputs mw ov (eachP most N e s (s.reg r) n code f)) := by
  refine ok55 _ _ _ _ _ _ _ ?_
  unfold sh55
  refine M.call_i (place37_ret h h0 h7) ?_; rintro _ w1 ⟨rfl, k1⟩
  have h1 := h.keepN k1
  have hq1 := hq.keep k1 (fun h => h)
  have htrap : ∀ {w' : World} {F' : Nat → Prop} {N' : List Nd} {ov' : Value} {outs' : List Sy} {e' : Int}, Stp w' F' p pb N' most s sv i inputs mw ov' outs' e' → SyO w' (Fr F' pb ov') (.agg ⟨(s.trap code).vals c a b d⟩) (s.trap code) := fun h' => SyO.of_vals h'.sy.1 (h'.lists hsv)
  refine M.share_j (fun vals w' => Adds w F p pb most s sv i inputs mw ov (eachP most N e s (s.reg r) n code f) (.tuple #[]) w') (fun vals w' hA _ => hA) ?_
  intro K hK
  have hK : ∀ w', (∃ F' ov', Stp w' F' p pb (eachP most N e s (s.reg r) n code f).1 most s sv i inputs mw ov' (eachP most N e s (s.reg r) n code f).2.2 (eachP most N e s (s.reg r) n code f).2.1 ∧ Mv w F pb ov w' F' ov') → K [] w' := fun w' hh => hK [] w' ⟨rfl, hh⟩
  unfold plV
  unfold eachP at hK
  generalize s.reg r = id at hK ⊢
  cases hk : knownN N id with
  | some x =>
    simp only [hk] at hK
    refine M.val_i (v := .tuple #[.agg #[vi id, vw x], .bool true]) (w' := w1) (by rfl) ?_
    refine M.extract_i (v := .bool true) rfl ?_
    refine M.extract_i (v := .agg #[vi id, vw x]) rfl ?_
    (repeat (first|refine ja ?_|refine jb ?_|refine jc ?_|refine jd ?_|refine je ?_|refine jf ?_|refine jg ?_|refine jh ?_|refine ji ?_|refine jj ?_|refine jk ?_|refine jl ?_|refine jm ?_|refine jn ?_|refine jo ?_|refine jp ?_|refine jq ?_|refine jr ?_|refine js ?_|refine jt ?_|refine ju ?_|refine jv ?_|refine jw ?_|refine jx ?_|refine jy ?_|refine jz ?_|refine jA ?_|refine jB ?_|refine jC ?_|refine jD ?_|refine jE ?_|refine jF ?_|refine jG ?_|refine jH ?_|refine jI ?_|refine jJ ?_|refine jK ?_|refine jL ?_|refine jM (by assumption) ?_|refine jN (by assumption) rfl ?_|refine jO (by assumption) ?_|refine jP (by assumption) rfl ?_|refine jQ ?_|refine jR ?_|refine jS ?_|refine jT ?_|refine jU (by assumption) rfl ?_))
    refine M.new_i (l := [vi 0, .int .u64 0]) (fun w2 b2 k2 s2 => ?_)
    refine M.storeAll_i (vs := [vi id, vw x]) b2 rfl rfl (by simp only [List.mem_cons, List.not_mem_nil, or_false, forall_eq_or_imp, forall_eq]; exact ⟨rfl, rfl⟩) (fun w3 b3 k3 s3 => ?_)
    have k13 : Keep w1 w3 No := k2.trans k3 (fun y hy e => by have e : y = w1.heap.size := e; omega)
    have k03 := k1.trans k13 (fun _ _ h => h)
    have h3 := h1.keepN k13
    have hq3 := hq1.keep k13 (fun h => h)
    (repeat (first|refine ja ?_|refine jb ?_|refine jc ?_|refine jd ?_|refine je ?_|refine jf ?_|refine jg ?_|refine jh ?_|refine ji ?_|refine jj ?_|refine jk ?_|refine jl ?_|refine jm ?_|refine jn ?_|refine jo ?_|refine jp ?_|refine jq ?_|refine jr ?_|refine js ?_|refine jt ?_|refine ju ?_|refine jv ?_|refine jw ?_|refine jx ?_|refine jy ?_|refine jz ?_|refine jA ?_|refine jB ?_|refine jC ?_|refine jD ?_|refine jE ?_|refine jF ?_|refine jG ?_|refine jH ?_|refine jI ?_|refine jJ ?_|refine jK ?_|refine jL ?_|refine jM (by assumption) ?_|refine jN (by assumption) rfl ?_|refine jO (by assumption) ?_|refine jP (by assumption) rfl ?_|refine jQ ?_|refine jR ?_|refine jS ?_|refine jT ?_|refine jU (by assumption) rfl ?_))
    refine M.u64_i (by omega) ?_
    by_cases hx : x.toNat < n
    · rw [if_pos hx] at hK
      (repeat (first|refine ja ?_|refine jb ?_|refine jc ?_|refine jd ?_|refine je ?_|refine jf ?_|refine jg ?_|refine jh ?_|refine ji ?_|refine jj ?_|refine jk ?_|refine jl ?_|refine jm ?_|refine jn ?_|refine jo ?_|refine jp ?_|refine jq ?_|refine jr ?_|refine js ?_|refine jt ?_|refine ju ?_|refine jv ?_|refine jw ?_|refine jx ?_|refine jy ?_|refine jz ?_|refine jA ?_|refine jB ?_|refine jC ?_|refine jD ?_|refine jE ?_|refine jF ?_|refine jG ?_|refine jH ?_|refine jI ?_|refine jJ ?_|refine jK ?_|refine jL ?_|refine jM (by assumption) ?_|refine jN (by assumption) rfl ?_|refine jO (by assumption) ?_|refine jP (by assumption) rfl ?_|refine jQ ?_|refine jR ?_|refine jS ?_|refine jT ?_|refine jU (by assumption) rfl ?_))
      refine M.toIntW_i ?_
      have eI : x.toInt = (x.toNat : Int) := by rw [BitVec.toInt_eq_toNat_cond]; rw [if_pos (by omega)]
      rw [eI]
      refine hg x.toNat w3 F N ov [] e _ hx h3 hq3 hqf (fun v w4 hv hvc k4 => ?_)
      have h4 := h3.keepN k4
      refine M.call_i (add37_ret h4 hv hvc (by simp) (-1)) ?_
      rintro _ w5 ⟨rfl, ov5, h5, m5⟩
      exact hK w5 ⟨F, ov5, h5, (Mv.none (k03.trans k4 (fun _ _ h => h))).trans m5⟩
    · rw [if_neg hx] at hK
      (repeat (first|refine ja ?_|refine jb ?_|refine jc ?_|refine jd ?_|refine je ?_|refine jf ?_|refine jg ?_|refine jh ?_|refine ji ?_|refine jj ?_|refine jk ?_|refine jl ?_|refine jm ?_|refine jn ?_|refine jo ?_|refine jp ?_|refine jq ?_|refine jr ?_|refine js ?_|refine jt ?_|refine ju ?_|refine jv ?_|refine jw ?_|refine jx ?_|refine jy ?_|refine jz ?_|refine jA ?_|refine jB ?_|refine jC ?_|refine jD ?_|refine jE ?_|refine jF ?_|refine jG ?_|refine jH ?_|refine jI ?_|refine jJ ?_|refine jK ?_|refine jL ?_|refine jM (by assumption) ?_|refine jN (by assumption) rfl ?_|refine jO (by assumption) ?_|refine jP (by assumption) rfl ?_|refine jQ ?_|refine jR ?_|refine jS ?_|refine jT ?_|refine jU (by assumption) rfl ?_))
      refine M.call_i (trap37_ret h3 hsv code) ?_; rintro _ w4 ⟨rfl, k4⟩
      have h4 := h3.keepN k4
      refine M.call_i (add37_ret h4 (htrap h4) hcs (by simp) (-1)) ?_
      rintro _ w5 ⟨rfl, ov5, h5, m5⟩
      exact hK w5 ⟨F, ov5, h5, (Mv.none (k03.trans k4 (fun _ _ h => h))).trans m5⟩
  | none =>
    simp only [hk] at hK
    refine M.val_i (v := .tuple #[.agg #[vi 0, .int .u64 0], .bool false]) (w' := w1) (by rfl) ?_
    refine M.extract_i (v := .bool false) rfl ?_
    refine M.extract_i (v := .agg #[vi 0, .int .u64 0]) rfl ?_
    (repeat (first|refine ja ?_|refine jb ?_|refine jc ?_|refine jd ?_|refine je ?_|refine jf ?_|refine jg ?_|refine jh ?_|refine ji ?_|refine jj ?_|refine jk ?_|refine jl ?_|refine jm ?_|refine jn ?_|refine jo ?_|refine jp ?_|refine jq ?_|refine jr ?_|refine js ?_|refine jt ?_|refine ju ?_|refine jv ?_|refine jw ?_|refine jx ?_|refine jy ?_|refine jz ?_|refine jA ?_|refine jB ?_|refine jC ?_|refine jD ?_|refine jE ?_|refine jF ?_|refine jG ?_|refine jH ?_|refine jI ?_|refine jJ ?_|refine jK ?_|refine jL ?_|refine jM (by assumption) ?_|refine jN (by assumption) rfl ?_|refine jO (by assumption) ?_|refine jP (by assumption) rfl ?_|refine jQ ?_|refine jR ?_|refine jS ?_|refine jT ?_|refine jU (by assumption) rfl ?_))
    refine M.val_i (v := .tuple #[.agg #[vi id], .bool true]) (w' := w1) (by rfl) ?_
    refine M.extract_i (v := .bool true) rfl ?_
    refine M.extract_i (v := .agg #[vi id]) rfl ?_
    (repeat (first|refine ja ?_|refine jb ?_|refine jc ?_|refine jd ?_|refine je ?_|refine jf ?_|refine jg ?_|refine jh ?_|refine ji ?_|refine jj ?_|refine jk ?_|refine jl ?_|refine jm ?_|refine jn ?_|refine jo ?_|refine jp ?_|refine jq ?_|refine jr ?_|refine js ?_|refine jt ?_|refine ju ?_|refine jv ?_|refine jw ?_|refine jx ?_|refine jy ?_|refine jz ?_|refine jA ?_|refine jB ?_|refine jC ?_|refine jD ?_|refine jE ?_|refine jF ?_|refine jG ?_|refine jH ?_|refine jI ?_|refine jJ ?_|refine jK ?_|refine jL ?_|refine jM (by assumption) ?_|refine jN (by assumption) rfl ?_|refine jO (by assumption) ?_|refine jP (by assumption) rfl ?_|refine jQ ?_|refine jR ?_|refine jS ?_|refine jT ?_|refine jU (by assumption) rfl ?_))
    refine M.new_i (l := [vi 0]) (fun w2 b2 k2 s2 => ?_)
    refine M.storeAll_i (vs := [vi id]) b2 rfl rfl (by simp only [List.mem_cons, List.not_mem_nil, or_false, forall_eq]; rfl) (fun w3 b3 k3 s3 => ?_)
    have k13 : Keep w1 w3 No := k2.trans k3 (fun y hy e => by have e : y = w1.heap.size := e; omega)
    have k03 := k1.trans k13 (fun _ _ h => h)
    have h3 := h1.keepN k13
    have hq3 := hq1.keep k13 (fun h => h)
    have ht3 : Fr F pb ov w1.heap.size := h1.fresh (Nat.le_refl _)
    refine M.loop_i (σ := Nat) (fun k vals w' => vals = [vi k] ∧ k ≤ n ∧ ∃ F' ov', Stp w' F' p pb (eachK most id f k (N, e, [])).1 most s sv i inputs mw ov' (eachK most id f k (N, e, [])).2.2 (eachK most id f k (N, e, [])).2.1 ∧ Mv w F pb ov w' F' ov' ∧ Blk w' q [ptr pb] ∧ Fr F' pb ov' q ∧ Blk w' w1.heap.size [vi id] ∧ Fr F' pb ov' w1.heap.size) (fun k => n - k) 0
      ⟨rfl, by omega, F, ov, h3, Mv.none k03, hq3, hqf, b3, ht3⟩ ?_
    rintro k vals w4 K4 ⟨rfl, hkn, F4, ov4, h4, m4, hq4, hqf4, b4, ht4⟩ hK4 _
    simp only [List.getD_cons_zero, List.getD_cons_succ]
    have hlen := eachK_len most id f k (N, e, [])
    simp only [List.length_nil, Nat.zero_add] at hlen
    by_cases hlt : k < n
    · have kd := Keep.drew w4 No
      have b4d := b4.keep kd (fun h => h)
      have h4d := h4.keepN kd
      have hq4d := hq4.keep kd (fun h => h)
      (repeat (first|refine ja ?_|refine jb ?_|refine jc ?_|refine jd ?_|refine je ?_|refine jf ?_|refine jg ?_|refine jh ?_|refine ji ?_|refine jj ?_|refine jk ?_|refine jl ?_|refine jm ?_|refine jn ?_|refine jo ?_|refine jp ?_|refine jq ?_|refine jr ?_|refine js ?_|refine jt ?_|refine ju ?_|refine jv ?_|refine jw ?_|refine jx ?_|refine jy ?_|refine jz ?_|refine jA ?_|refine jB ?_|refine jC ?_|refine jD ?_|refine jE ?_|refine jF ?_|refine jG ?_|refine jH ?_|refine jI ?_|refine jJ ?_|refine jK ?_|refine jL ?_|refine jM (by assumption) ?_|refine jN (by assumption) rfl ?_|refine jO (by assumption) ?_|refine jP (by assumption) rfl ?_|refine jQ ?_|refine jR ?_|refine jS ?_|refine jT ?_|refine jU (by assumption) rfl ?_))
      refine M.u64_i (by omega) ?_
      refine hg k w4.drew F4 _ ov4 _ _ _ hlt h4d hq4d hqf4 (fun v w5 hv hvc k5 => ?_)
      have h5 := h4d.keepN k5
      have b5 := b4d.keep k5 (fun h => h)
      have k45 := kd.trans k5 (fun _ _ h => h)
      (repeat (first|refine ja ?_|refine jb ?_|refine jc ?_|refine jd ?_|refine je ?_|refine jf ?_|refine jg ?_|refine jh ?_|refine ji ?_|refine jj ?_|refine jk ?_|refine jl ?_|refine jm ?_|refine jn ?_|refine jo ?_|refine jp ?_|refine jq ?_|refine jr ?_|refine js ?_|refine jt ?_|refine ju ?_|refine jv ?_|refine jw ?_|refine jx ?_|refine jy ?_|refine jz ?_|refine jA ?_|refine jB ?_|refine jC ?_|refine jD ?_|refine jE ?_|refine jF ?_|refine jG ?_|refine jH ?_|refine jI ?_|refine jJ ?_|refine jK ?_|refine jL ?_|refine jM (by assumption) ?_|refine jN (by assumption) rfl ?_|refine jO (by assumption) ?_|refine jP (by assumption) rfl ?_|refine jQ ?_|refine jR ?_|refine jS ?_|refine jT ?_|refine jU (by assumption) rfl ?_))
      have ew : (.int .u64 (k : Int) : Value) = vw (BitVec.ofNat 64 k) := by
        show Value.int .u64 (k : Int) = Value.int .u64 (((BitVec.ofNat 64 k).toNat : Nat) : Int)
        rw [BitVec.toNat_ofNat, Nat.mod_eq_of_lt (by omega)]
      rw [ew]
      refine M.call_i (is37_ret h5 id (BitVec.ofNat 64 k)) ?_
      rintro _ w6 ⟨rfl, F6, h6, m6⟩
      refine M.call_i (add37_ret h6 (hv.mv m6) hvc (by omega) _) ?_
      rintro _ w7 ⟨rfl, ov7, h7, m7⟩
      have m47 : Mv w4 F4 pb ov4 w7 F6 ov7 := (Mv.none k45).trans (m6.trans m7)
      obtain ⟨hq7, hqf7⟩ := Blk.mv m47 hq4 hqf4
      obtain ⟨b7, ht7⟩ := Blk.mv m47 b4 ht4
      (repeat (first|refine ja ?_|refine jb ?_|refine jc ?_|refine jd ?_|refine je ?_|refine jf ?_|refine jg ?_|refine jh ?_|refine ji ?_|refine jj ?_|refine jk ?_|refine jl ?_|refine jm ?_|refine jn ?_|refine jo ?_|refine jp ?_|refine jq ?_|refine jr ?_|refine js ?_|refine jt ?_|refine ju ?_|refine jv ?_|refine jw ?_|refine jx ?_|refine jy ?_|refine jz ?_|refine jA ?_|refine jB ?_|refine jC ?_|refine jD ?_|refine jE ?_|refine jF ?_|refine jG ?_|refine jH ?_|refine jI ?_|refine jJ ?_|refine jK ?_|refine jL ?_|refine jM (by assumption) ?_|refine jN (by assumption) rfl ?_|refine jO (by assumption) ?_|refine jP (by assumption) rfl ?_|refine jQ ?_|refine jR ?_|refine jS ?_|refine jT ?_|refine jU (by assumption) rfl ?_))
      exact hK4 (k + 1) _ _ (by omega) ⟨rfl, by omega, F6, ov7, h7, m4.trans m47, hq7, hqf7, b7, ht7⟩
    · have ek : k = n := by omega
      subst ek
      have kd := Keep.drew w4 No
      have b4d := b4.keep kd (fun h => h)
      have h4d := h4.keepN kd
      have hcp := h4d.cp
      (repeat (first|refine ja ?_|refine jb ?_|refine jc ?_|refine jd ?_|refine je ?_|refine jf ?_|refine jg ?_|refine jh ?_|refine ji ?_|refine jj ?_|refine jk ?_|refine jl ?_|refine jm ?_|refine jn ?_|refine jo ?_|refine jp ?_|refine jq ?_|refine jr ?_|refine js ?_|refine jt ?_|refine ju ?_|refine jv ?_|refine jw ?_|refine jx ?_|refine jy ?_|refine jz ?_|refine jA ?_|refine jB ?_|refine jC ?_|refine jD ?_|refine jE ?_|refine jF ?_|refine jG ?_|refine jH ?_|refine jI ?_|refine jJ ?_|refine jK ?_|refine jL ?_|refine jM (by assumption) ?_|refine jN (by assumption) rfl ?_|refine jO (by assumption) ?_|refine jP (by assumption) rfl ?_|refine jQ ?_|refine jR ?_|refine jS ?_|refine jT ?_|refine jU (by assumption) rfl ?_))
      refine M.u64_i (by omega) ?_
      have ew : (.int .u64 (k : Int) : Value) = vw (BitVec.ofNat 64 k) := by
        show Value.int .u64 (k : Int) = Value.int .u64 (((BitVec.ofNat 64 k).toNat : Nat) : Int)
        rw [BitVec.toNat_ofNat, Nat.mod_eq_of_lt (by omega)]
      rw [ew]
      refine M.call_i (word37_ret h4d (BitVec.ofNat 64 k)) ?_
      rintro _ w5 ⟨rfl, F5, h5, m5⟩
      have hcp5 := h5.cp
      obtain ⟨b5, ht5⟩ := Blk.mv m5 b4d ht4
      (repeat (first|refine ja ?_|refine jb ?_|refine jc ?_|refine jd ?_|refine je ?_|refine jf ?_|refine jg ?_|refine jh ?_|refine ji ?_|refine jj ?_|refine jk ?_|refine jl ?_|refine jm ?_|refine jn ?_|refine jo ?_|refine jp ?_|refine jq ?_|refine jr ?_|refine js ?_|refine jt ?_|refine ju ?_|refine jv ?_|refine jw ?_|refine jx ?_|refine jy ?_|refine jz ?_|refine jA ?_|refine jB ?_|refine jC ?_|refine jD ?_|refine jE ?_|refine jF ?_|refine jG ?_|refine jH ?_|refine jI ?_|refine jJ ?_|refine jK ?_|refine jL ?_|refine jM (by assumption) ?_|refine jN (by assumption) rfl ?_|refine jO (by assumption) ?_|refine jP (by assumption) rfl ?_|refine jQ ?_|refine jR ?_|refine jS ?_|refine jT ?_|refine jU (by assumption) rfl ?_))
      refine M.call_i (foldBin_ret h5.dag 13 id _) ?_; rintro _ w6 ⟨F6, rfl, d6, f6, k6⟩
      refine M.extract_i rfl ?_
      refine M.extract_i rfl ?_
      obtain ⟨h6, m6⟩ := h5.ask d6 f6 k6
      refine M.call_i (keep37_ret h6 _ _) ?_
      rintro _ w7 ⟨rfl, F7, h7, m7⟩
      refine M.call_i (trap37_ret h7 hsv code) ?_; rintro _ w8 ⟨rfl, k8⟩
      have h8 := h7.keepN k8
      refine M.call_i (not37_ret h8 _) ?_
      rintro _ w9 ⟨rfl, F9, h9, m9⟩
      refine M.call_i (add37_ret h9 (htrap h9) hcs (by omega) _) ?_
      rintro _ w10 ⟨rfl, ov10, h10, m10⟩
      exact hK w10 ⟨F9, ov10, h10, m4.trans ((Mv.none kd).trans (m5.trans (m6.trans (m7.trans ((Mv.none k8).trans (m9.trans m10))))))⟩
end
end Go.Proofs.Ytanjlgafjgoaaaa
