import Derived.Test.YtfffepeloiefiaaLit
import Derived.Test.YtfffepeloiefiaaWordM
namespace Go.Proofs.Ytfffepeloiefiaa
open Go.Mw
set_option linter.unusedVariables false
set_option linter.unusedSimpArgs false
set_option maxRecDepth 100000
attribute [local irreducible] M.val M.unit M.next M.pick M.new M.nilCheck M.load1 M.loadA M.store M.fieldAddr M.indexSl M.indexArr M.slice M.makeSlice M.buildSlice M.len M.lenS M.cap M.append M.extract M.conv M.not M.neg M.bin M.shift M.eqB M.eqNil M.call M.callv M.gd M.share M.cond M.loop M.draw pureW readW Ret
/-! breakwater/word.fits: function 72 -/
def sh72 (x0 : Value) (R : Kt) (w : World) : Prop :=
  M.bin .geq x0 (Value.int IntKind.i64 1) (fun t4 w =>
  M.gd t4 true (fun k w => k x0 w) (fun t6 w =>
  M.gd t4 true (fun k w => M.bin .leq t6 (Value.int IntKind.i64 64) k w) (fun t7 w =>
  M.pick t4 t7 (Value.bool false) (fun t8 w =>
  R t8 w) w) w) w) w
theorem ok72 (x0 : Value) (R : Kt) (w : World) (h : sh72 x0 R w) : Ret Try.prog 72 #[x0] w R :=
  ret_mk <| calls_of_comp mixed (c := Try.f72.body.getD .skip) (args := [x0]) (rs := [(ResultVar.tmp 2)]) (Ann.seq Ann.text (Ann.seq Ann.text Ann.leaf))
    Try.func72 (by kernel_rfl) (by kernel_rfl)
    (Eq.mp (by kernel_rfl) h)
/-! breakwater/word.Mask: function 59 -/
def sh59 (x0 : Value) (R : Kt) (w : World) : Prop :=
  M.call Try.prog 72 #[x0] (fun t4 w =>
  M.not t4 (fun t5 w =>
  M.cond t5
  (R (Value.int IntKind.u64 0) w)
  (M.bin .sub (Value.int IntKind.i64 64) x0 (fun t7 w =>
  M.shift .shr (Value.int IntKind.u64 18446744073709551615) t7 (fun t8 w =>
  R t8 w) w) w)) w) w
theorem ok59 (x0 : Value) (R : Kt) (w : World) (h : sh59 x0 R w) : Ret Try.prog 59 #[x0] w R :=
  ret_mk <| calls_of_comp mixed (c := Try.f59.body.getD .skip) (args := [x0]) (rs := [(ResultVar.tmp 2)]) (Ann.seq Ann.text (Ann.seq (Ann.seq Ann.text (Ann.cond (Ann.seq Ann.text Ann.leaf) Ann.leaf)) (Ann.seq Ann.text Ann.leaf)))
    Try.func59 (by kernel_rfl) (by kernel_rfl)
    (Eq.mp (by kernel_rfl) h)
/-! breakwater/word.Cut: function 61 -/
def sh61 (x0 x1 : Value) (R : Kt) (w : World) : Prop :=
  M.call Try.prog 59 #[x0] (fun t7 w =>
  M.bin .and x1 t7 (fun t8 w =>
  R t8 w) w) w
theorem ok61 (x0 x1 : Value) (R : Kt) (w : World) (h : sh61 x0 x1 R w) : Ret Try.prog 61 #[x0, x1] w R :=
  ret_mk <| calls_of_comp mixed (c := Try.f61.body.getD .skip) (args := [x0, x1]) (rs := [(ResultVar.tmp 4)]) (Ann.seq Ann.text (Ann.seq Ann.text Ann.leaf))
    Try.func61 (by kernel_rfl) (by kernel_rfl)
    (Eq.mp (by kernel_rfl) h)
/-! breakwater/word.Signed: function 76 -/
def sh76 (x0 x1 : Value) (R : Kt) (w : World) : Prop :=
  M.call Try.prog 72 #[x0] (fun t7 w =>
  M.not t7 (fun t8 w =>
  M.cond t8
  (R (Value.int IntKind.i64 0) w)
  (M.bin .sub (Value.int IntKind.i64 64) x0 (fun t10 w =>
  M.shift .shl x1 t10 (fun t13 w =>
  M.conv .i64 t13 (fun t14 w =>
  M.shift .shr t14 t10 (fun t16 w =>
  R t16 w) w) w) w) w)) w) w
theorem ok76 (x0 x1 : Value) (R : Kt) (w : World) (h : sh76 x0 x1 R w) : Ret Try.prog 76 #[x0, x1] w R :=
  ret_mk <| calls_of_comp mixed (c := Try.f76.body.getD .skip) (args := [x0, x1]) (rs := [(ResultVar.tmp 4)]) (Ann.seq Ann.text (Ann.seq (Ann.seq Ann.text (Ann.cond (Ann.seq Ann.text Ann.leaf) Ann.leaf)) (Ann.seq Ann.text (Ann.seq Ann.text Ann.leaf))))
    Try.func76 (by kernel_rfl) (by kernel_rfl)
    (Eq.mp (by kernel_rfl) h)
/-! breakwater/word.truth: function 83 -/
def sh83 (x0 : Value) (R : Kt) (w : World) : Prop :=
  M.cond x0
  (R (Value.int IntKind.u64 1) w)
  (R (Value.int IntKind.u64 0) w)
theorem ok83 (x0 : Value) (R : Kt) (w : World) (h : sh83 x0 R w) : Ret Try.prog 83 #[x0] w R :=
  ret_mk <| calls_of_comp mixed (c := Try.f83.body.getD .skip) (args := [x0]) (rs := [(ResultVar.tmp 2)]) (Ann.seq Ann.text (Ann.seq (Ann.seq Ann.text (Ann.cond (Ann.seq Ann.text Ann.leaf) Ann.leaf)) (Ann.seq Ann.text Ann.leaf)))
    Try.func83 (by kernel_rfl) (by kernel_rfl)
    (Eq.mp (by kernel_rfl) h)
/-! breakwater/breakwaterref01.Fits: function 64 -/
def sh64 (x0 : Value) (R : Kt) (w : World) : Prop :=
  M.bin .geq x0 (Value.int IntKind.i64 1) (fun t4 w =>
  M.gd t4 true (fun k w => k x0 w) (fun t6 w =>
  M.gd t4 true (fun k w => M.bin .leq t6 (Value.int IntKind.i64 64) k w) (fun t7 w =>
  M.pick t4 t7 (Value.bool false) (fun t8 w =>
  R t8 w) w) w) w) w
theorem ok64 (x0 : Value) (R : Kt) (w : World) (h : sh64 x0 R w) : Ret Try.prog 64 #[x0] w R :=
  ret_mk <| calls_of_comp mixed (c := Try.f64.body.getD .skip) (args := [x0]) (rs := [(ResultVar.tmp 2)]) (Ann.seq Ann.text (Ann.seq Ann.text Ann.leaf))
    Try.func64 (by kernel_rfl) (by kernel_rfl)
    (Eq.mp (by kernel_rfl) h)
/-! breakwater/breakwaterref01.Bit: function 69 -/
def sh69 (x0 x1 : Value) (R : Kt) (w : World) : Prop :=
  M.bin .geq x1 (Value.int IntKind.i64 0) (fun t6 w =>
  M.gd t6 true (fun k w => k x1 w) (fun t8 w =>
  M.gd t6 true (fun k w => M.bin .lss t8 (Value.int IntKind.i64 64) k w) (fun t9 w =>
  M.pick t6 t9 (Value.bool false) (fun t10 w =>
  M.gd t10 true (fun k w => k x0 w) (fun t12 w =>
  M.gd t10 true (fun k w => k x1 w) (fun t13 w =>
  M.gd t10 true (fun k w => M.conv .u64 t13 k w) (fun t14 w =>
  M.gd t10 true (fun k w => M.shift .shr t12 t14 k w) (fun t15 w =>
  M.gd t10 true (fun k w => M.bin .rem t15 (Value.int IntKind.u64 2) k w) (fun t16 w =>
  M.gd t10 true (fun k w => M.bin .eql t16 (Value.int IntKind.u64 1) k w) (fun t17 w =>
  M.pick t10 t17 (Value.bool false) (fun t18 w =>
  R t18 w) w) w) w) w) w) w) w) w) w) w) w
theorem ok69 (x0 x1 : Value) (R : Kt) (w : World) (h : sh69 x0 x1 R w) : Ret Try.prog 69 #[x0, x1] w R :=
  ret_mk <| calls_of_comp mixed (c := Try.f69.body.getD .skip) (args := [x0, x1]) (rs := [(ResultVar.tmp 4)]) (Ann.seq Ann.text (Ann.seq Ann.text Ann.leaf))
    Try.func69 (by kernel_rfl) (by kernel_rfl)
    (Eq.mp (by kernel_rfl) h)
/-! breakwater/breakwaterref01.Mask: function 68 -/
def sh68 (x0 : Value) (R : Kt) (w : World) : Prop :=
  M.loop [(Value.int IntKind.u64 0), (Value.int IntKind.i64 0)] (fun s1 K1 w => ∀ _ : List Value,
  M.bin .lss (s1.getD 1 undef) x0 (fun t7 w =>
  M.gd t7 true (fun k w => k x0 w) (fun t9 w =>
  M.gd t7 true (fun k w => M.call Try.prog 64 #[t9] k w) (fun t10 w =>
  M.pick t7 t10 (Value.bool false) (fun t11 w =>
  M.cond t11
  (M.bin .mul (s1.getD 0 undef) (Value.int IntKind.u64 2) (fun t15 w =>
  M.bin .add t15 (Value.int IntKind.u64 1) (fun t16 w =>
  M.bin .add (s1.getD 1 undef) (Value.int IntKind.i64 1) (fun t13 w =>
  K1 [t16, t13] w) w) w) w)
  (R (s1.getD 0 undef) w)) w) w) w) w) w
theorem ok68 (x0 : Value) (R : Kt) (w : World) (h : sh68 x0 R w) : Ret Try.prog 68 #[x0] w R :=
  ret_mk <| calls_of_comp mixed (c := Try.f68.body.getD .skip) (args := [x0]) (rs := [(ResultVar.tmp 2)]) (Ann.seq Ann.text (Ann.seq Ann.text (Ann.seq (Ann.seq Ann.text (Ann.block (Ann.loop [3, 4] [5, 6, 7, 8, 9, 10, 11, 12, 13, 14, 15, 16] (Ann.seq (Ann.seq Ann.text (Ann.cond Ann.leaf Ann.leaf)) (Ann.seq (Ann.block Ann.text) Ann.text))))) (Ann.seq Ann.text Ann.leaf))))
    Try.func68 (by kernel_rfl) (by kernel_rfl)
    (Eq.mp (by kernel_rfl) h)
/-! breakwater/breakwaterref01.Cut: function 52 -/
def sh52 (x0 x1 : Value) (R : Kt) (w : World) : Prop :=
  M.call Try.prog 68 #[x0] (fun t7 w =>
  M.bin .and x1 t7 (fun t8 w =>
  R t8 w) w) w
theorem ok52 (x0 x1 : Value) (R : Kt) (w : World) (h : sh52 x0 x1 R w) : Ret Try.prog 52 #[x0, x1] w R :=
  ret_mk <| calls_of_comp mixed (c := Try.f52.body.getD .skip) (args := [x0, x1]) (rs := [(ResultVar.tmp 4)]) (Ann.seq Ann.text (Ann.seq Ann.text Ann.leaf))
    Try.func52 (by kernel_rfl) (by kernel_rfl)
    (Eq.mp (by kernel_rfl) h)
/-! breakwater/breakwaterref01.Signed: function 54 -/
def sh54 (x0 x1 : Value) (R : Kt) (w : World) : Prop :=
  M.call Try.prog 64 #[x0] (fun t6 w =>
  M.not t6 (fun t7 w =>
  M.cond t7
  (R (Value.int IntKind.i64 0) w)
  (M.call Try.prog 52 #[x0, x1] (fun t10 w =>
  M.share (fun K1 w =>
  M.bin .sub x0 (Value.int IntKind.i64 1) (fun t13 w =>
  M.call Try.prog 69 #[t10, t13] (fun t14 w =>
  M.cond t14
  (M.call Try.prog 68 #[x0] (fun t17 w =>
  M.val Try.prog (Op.unary .xor t17) (fun t18 w =>
  M.bin .or t10 t18 (fun t19 w =>
  K1 [t19] w) w) w) w)
  (K1 [t10] w)) w) w) (fun s1 w => ∀ _ : List Value,
  M.conv .i64 (s1.getD 0 undef) (fun t21 w =>
  R t21 w) w) w) w)) w) w
theorem ok54 (x0 x1 : Value) (R : Kt) (w : World) (h : sh54 x0 x1 R w) : Ret Try.prog 54 #[x0, x1] w R :=
  ret_mk <| calls_of_comp mixed (c := Try.f54.body.getD .skip) (args := [x0, x1]) (rs := [(ResultVar.tmp 4)]) (Ann.seq Ann.text (Ann.seq (Ann.seq Ann.text (Ann.cond (Ann.seq Ann.text Ann.leaf) Ann.leaf)) (Ann.seq Ann.text (Ann.join [1] [11, 12, 13, 14, 15, 16, 17, 18, 19] (Ann.seq Ann.text (Ann.cond Ann.text Ann.leaf)) (Ann.seq Ann.text Ann.leaf)))))
    Try.func54 (by kernel_rfl) (by kernel_rfl)
    (Eq.mp (by kernel_rfl) h)
/-! breakwater/breakwaterref01.one: function 70 -/
def sh70 (x0 : Value) (R : Kt) (w : World) : Prop :=
  M.cond x0
  (R (Value.int IntKind.u64 1) w)
  (R (Value.int IntKind.u64 0) w)
theorem ok70 (x0 : Value) (R : Kt) (w : World) (h : sh70 x0 R w) : Ret Try.prog 70 #[x0] w R :=
  ret_mk <| calls_of_comp mixed (c := Try.f70.body.getD .skip) (args := [x0]) (rs := [(ResultVar.tmp 2)]) (Ann.seq Ann.text (Ann.seq (Ann.seq Ann.text (Ann.cond (Ann.seq Ann.text Ann.leaf) Ann.leaf)) (Ann.seq Ann.text Ann.leaf)))
    Try.func70 (by kernel_rfl) (by kernel_rfl)
    (Eq.mp (by kernel_rfl) h)

/-! ### words, their widths -/
def fitsB (n : Int) : Bool := decide (1 ≤ n ∧ n ≤ 64)
def maskW (n : Int) : W64 := if fitsB n then BitVec.allOnes 64 >>> (64 - n.toNat) else 0
def cutW (n : Int) (x : W64) : W64 := x &&& maskW n
def sgnW (n : Int) (x : W64) : W64 := if fitsB n then (x <<< (64 - n.toNat)).sshiftRight (64 - n.toNat) else 0
theorem fits_ret (n : Int) (w : World) : Ret Try.prog 72 #[vi n] w (fun r w' => r = .bool (fitsB n) ∧ w' = w) := by
  refine ok72 _ _ _ ?_
  unfold sh72
  by_cases h1 : 1 ≤ n
  · (repeat (first|refine ja ?_|refine jb ?_|refine jc ?_|refine jd ?_|refine je ?_|refine jf ?_|refine jg ?_|refine jh ?_|refine ji ?_|refine jj ?_|refine jk ?_|refine jl ?_|refine jm ?_|refine jn ?_|refine jo ?_|refine jp ?_|refine jq ?_|refine jr ?_|refine js ?_|refine jt ?_|refine ju ?_|refine jv ?_|refine jw ?_|refine jx ?_|refine jy ?_|refine jz ?_|refine jA ?_|refine jB ?_|refine jC ?_|refine jD ?_|refine jE ?_|refine jF ?_|refine jG ?_|refine jH ?_|refine jI ?_|refine jJ ?_|refine jK ?_|refine jL ?_|refine jM (by assumption) ?_|refine jN (by assumption) rfl ?_|refine jO (by assumption) ?_|refine jP (by assumption) rfl ?_|refine jQ ?_|refine jR ?_|refine jS ?_|refine jT ?_|refine jU (by assumption) rfl ?_))
    refine M.leq_i ?_
    (repeat (first|refine ja ?_|refine jb ?_|refine jc ?_|refine jd ?_|refine je ?_|refine jf ?_|refine jg ?_|refine jh ?_|refine ji ?_|refine jj ?_|refine jk ?_|refine jl ?_|refine jm ?_|refine jn ?_|refine jo ?_|refine jp ?_|refine jq ?_|refine jr ?_|refine js ?_|refine jt ?_|refine ju ?_|refine jv ?_|refine jw ?_|refine jx ?_|refine jy ?_|refine jz ?_|refine jA ?_|refine jB ?_|refine jC ?_|refine jD ?_|refine jE ?_|refine jF ?_|refine jG ?_|refine jH ?_|refine jI ?_|refine jJ ?_|refine jK ?_|refine jL ?_|refine jM (by assumption) ?_|refine jN (by assumption) rfl ?_|refine jO (by assumption) ?_|refine jP (by assumption) rfl ?_|refine jQ ?_|refine jR ?_|refine jS ?_|refine jT ?_|refine jU (by assumption) rfl ?_))
    exact ⟨by simp [fitsB, h1], rfl⟩
  · (repeat (first|refine ja ?_|refine jb ?_|refine jc ?_|refine jd ?_|refine je ?_|refine jf ?_|refine jg ?_|refine jh ?_|refine ji ?_|refine jj ?_|refine jk ?_|refine jl ?_|refine jm ?_|refine jn ?_|refine jo ?_|refine jp ?_|refine jq ?_|refine jr ?_|refine js ?_|refine jt ?_|refine ju ?_|refine jv ?_|refine jw ?_|refine jx ?_|refine jy ?_|refine jz ?_|refine jA ?_|refine jB ?_|refine jC ?_|refine jD ?_|refine jE ?_|refine jF ?_|refine jG ?_|refine jH ?_|refine jI ?_|refine jJ ?_|refine jK ?_|refine jL ?_|refine jM (by assumption) ?_|refine jN (by assumption) rfl ?_|refine jO (by assumption) ?_|refine jP (by assumption) rfl ?_|refine jQ ?_|refine jR ?_|refine jS ?_|refine jT ?_|refine jU (by assumption) rfl ?_))
    exact ⟨by simp [fitsB, h1], rfl⟩
theorem rfits_ret (n : Int) (w : World) : Ret Try.prog 64 #[vi n] w (fun r w' => r = .bool (fitsB n) ∧ w' = w) := by
  refine ok64 _ _ _ ?_
  unfold sh64
  by_cases h1 : 1 ≤ n
  · (repeat (first|refine ja ?_|refine jb ?_|refine jc ?_|refine jd ?_|refine je ?_|refine jf ?_|refine jg ?_|refine jh ?_|refine ji ?_|refine jj ?_|refine jk ?_|refine jl ?_|refine jm ?_|refine jn ?_|refine jo ?_|refine jp ?_|refine jq ?_|refine jr ?_|refine js ?_|refine jt ?_|refine ju ?_|refine jv ?_|refine jw ?_|refine jx ?_|refine jy ?_|refine jz ?_|refine jA ?_|refine jB ?_|refine jC ?_|refine jD ?_|refine jE ?_|refine jF ?_|refine jG ?_|refine jH ?_|refine jI ?_|refine jJ ?_|refine jK ?_|refine jL ?_|refine jM (by assumption) ?_|refine jN (by assumption) rfl ?_|refine jO (by assumption) ?_|refine jP (by assumption) rfl ?_|refine jQ ?_|refine jR ?_|refine jS ?_|refine jT ?_|refine jU (by assumption) rfl ?_))
    refine M.leq_i ?_
    (repeat (first|refine ja ?_|refine jb ?_|refine jc ?_|refine jd ?_|refine je ?_|refine jf ?_|refine jg ?_|refine jh ?_|refine ji ?_|refine jj ?_|refine jk ?_|refine jl ?_|refine jm ?_|refine jn ?_|refine jo ?_|refine jp ?_|refine jq ?_|refine jr ?_|refine js ?_|refine jt ?_|refine ju ?_|refine jv ?_|refine jw ?_|refine jx ?_|refine jy ?_|refine jz ?_|refine jA ?_|refine jB ?_|refine jC ?_|refine jD ?_|refine jE ?_|refine jF ?_|refine jG ?_|refine jH ?_|refine jI ?_|refine jJ ?_|refine jK ?_|refine jL ?_|refine jM (by assumption) ?_|refine jN (by assumption) rfl ?_|refine jO (by assumption) ?_|refine jP (by assumption) rfl ?_|refine jQ ?_|refine jR ?_|refine jS ?_|refine jT ?_|refine jU (by assumption) rfl ?_))
    exact ⟨by simp [fitsB, h1], rfl⟩
  · (repeat (first|refine ja ?_|refine jb ?_|refine jc ?_|refine jd ?_|refine je ?_|refine jf ?_|refine jg ?_|refine jh ?_|refine ji ?_|refine jj ?_|refine jk ?_|refine jl ?_|refine jm ?_|refine jn ?_|refine jo ?_|refine jp ?_|refine jq ?_|refine jr ?_|refine js ?_|refine jt ?_|refine ju ?_|refine jv ?_|refine jw ?_|refine jx ?_|refine jy ?_|refine jz ?_|refine jA ?_|refine jB ?_|refine jC ?_|refine jD ?_|refine jE ?_|refine jF ?_|refine jG ?_|refine jH ?_|refine jI ?_|refine jJ ?_|refine jK ?_|refine jL ?_|refine jM (by assumption) ?_|refine jN (by assumption) rfl ?_|refine jO (by assumption) ?_|refine jP (by assumption) rfl ?_|refine jQ ?_|refine jR ?_|refine jS ?_|refine jT ?_|refine jU (by assumption) rfl ?_))
    exact ⟨by simp [fitsB, h1], rfl⟩
theorem fits_nat {n : Int} (h : fitsB n = true) : ∃ m : Nat, n = m ∧ 1 ≤ m ∧ m ≤ 64 := by
  unfold fitsB at h
  rw [decide_eq_true_iff] at h
  exact ⟨n.toNat, by omega, by omega, by omega⟩
theorem fits_of {m : Nat} (h1 : 1 ≤ m) (h2 : m ≤ 64) : fitsB m = true := by
  unfold fitsB
  rw [decide_eq_true_iff]; omega
theorem maskW_nat {m : Nat} (h1 : 1 ≤ m) (h2 : m ≤ 64) : maskW m = BitVec.allOnes 64 >>> (64 - m) := by
  unfold maskW
  rw [if_pos (fits_of h1 h2), Int.toNat_natCast]
theorem mask_ret (n : Int) (w : World) : Ret Try.prog 59 #[vi n] w (fun r w' => r = vw (maskW n) ∧ w' = w) := by
  refine ok59 _ _ _ ?_
  unfold sh59
  refine M.call_i (fits_ret n w) ?_; rintro _ w1 ⟨rfl, rfl⟩
  refine M.not_i ?_
  cases hf : fitsB n with
  | false =>
    (repeat (first|refine ja ?_|refine jb ?_|refine jc ?_|refine jd ?_|refine je ?_|refine jf ?_|refine jg ?_|refine jh ?_|refine ji ?_|refine jj ?_|refine jk ?_|refine jl ?_|refine jm ?_|refine jn ?_|refine jo ?_|refine jp ?_|refine jq ?_|refine jr ?_|refine js ?_|refine jt ?_|refine ju ?_|refine jv ?_|refine jw ?_|refine jx ?_|refine jy ?_|refine jz ?_|refine jA ?_|refine jB ?_|refine jC ?_|refine jD ?_|refine jE ?_|refine jF ?_|refine jG ?_|refine jH ?_|refine jI ?_|refine jJ ?_|refine jK ?_|refine jL ?_|refine jM (by assumption) ?_|refine jN (by assumption) rfl ?_|refine jO (by assumption) ?_|refine jP (by assumption) rfl ?_|refine jQ ?_|refine jR ?_|refine jS ?_|refine jT ?_|refine jU (by assumption) rfl ?_))
    exact ⟨by unfold maskW; rw [hf]; rfl, rfl⟩
  | true =>
    obtain ⟨m, rfl, h1, h2⟩ := fits_nat hf
    (repeat (first|refine ja ?_|refine jb ?_|refine jc ?_|refine jd ?_|refine je ?_|refine jf ?_|refine jg ?_|refine jh ?_|refine ji ?_|refine jj ?_|refine jk ?_|refine jl ?_|refine jm ?_|refine jn ?_|refine jo ?_|refine jp ?_|refine jq ?_|refine jr ?_|refine js ?_|refine jt ?_|refine ju ?_|refine jv ?_|refine jw ?_|refine jx ?_|refine jy ?_|refine jz ?_|refine jA ?_|refine jB ?_|refine jC ?_|refine jD ?_|refine jE ?_|refine jF ?_|refine jG ?_|refine jH ?_|refine jI ?_|refine jJ ?_|refine jK ?_|refine jL ?_|refine jM (by assumption) ?_|refine jN (by assumption) rfl ?_|refine jO (by assumption) ?_|refine jP (by assumption) rfl ?_|refine jQ ?_|refine jR ?_|refine jS ?_|refine jT ?_|refine jU (by assumption) rfl ?_))
    have e : (64 : Int) - (m : Int) = ((64 - m : Nat) : Int) := by omega
    rw [e]
    change M.shift .shr (vw (BitVec.allOnes 64)) _ _ _
    refine M.shrW_i ⟨?_, rfl⟩
    rw [maskW_nat h1 h2]
theorem cut_ret (n : Int) (x : W64) (w : World) : Ret Try.prog 61 #[vi n, vw x] w (fun r w' => r = vw (cutW n x) ∧ w' = w) := by
  refine ok61 _ _ _ _ ?_
  unfold sh61
  refine M.call_i (mask_ret n w) ?_; rintro _ w1 ⟨rfl, rfl⟩
  exact M.andW_i ⟨rfl, rfl⟩
theorem sgnW_nat {m : Nat} (h1 : 1 ≤ m) (h2 : m ≤ 64) (x : W64) : sgnW m x = (x <<< (64 - m)).sshiftRight (64 - m) := by
  unfold sgnW
  rw [if_pos (fits_of h1 h2), Int.toNat_natCast]
theorem signed_ret (n : Int) (x : W64) (w : World) : Ret Try.prog 76 #[vi n, vw x] w (fun r w' => r = vi (sgnW n x).toInt ∧ w' = w) := by
  refine ok76 _ _ _ _ ?_
  unfold sh76
  refine M.call_i (fits_ret n w) ?_; rintro _ w1 ⟨rfl, rfl⟩
  refine M.not_i ?_
  cases hf : fitsB n with
  | false =>
    (repeat (first|refine ja ?_|refine jb ?_|refine jc ?_|refine jd ?_|refine je ?_|refine jf ?_|refine jg ?_|refine jh ?_|refine ji ?_|refine jj ?_|refine jk ?_|refine jl ?_|refine jm ?_|refine jn ?_|refine jo ?_|refine jp ?_|refine jq ?_|refine jr ?_|refine js ?_|refine jt ?_|refine ju ?_|refine jv ?_|refine jw ?_|refine jx ?_|refine jy ?_|refine jz ?_|refine jA ?_|refine jB ?_|refine jC ?_|refine jD ?_|refine jE ?_|refine jF ?_|refine jG ?_|refine jH ?_|refine jI ?_|refine jJ ?_|refine jK ?_|refine jL ?_|refine jM (by assumption) ?_|refine jN (by assumption) rfl ?_|refine jO (by assumption) ?_|refine jP (by assumption) rfl ?_|refine jQ ?_|refine jR ?_|refine jS ?_|refine jT ?_|refine jU (by assumption) rfl ?_))
    exact ⟨by unfold sgnW; rw [hf]; rfl, rfl⟩
  | true =>
    obtain ⟨m, rfl, h1, h2⟩ := fits_nat hf
    (repeat (first|refine ja ?_|refine jb ?_|refine jc ?_|refine jd ?_|refine je ?_|refine jf ?_|refine jg ?_|refine jh ?_|refine ji ?_|refine jj ?_|refine jk ?_|refine jl ?_|refine jm ?_|refine jn ?_|refine jo ?_|refine jp ?_|refine jq ?_|refine jr ?_|refine js ?_|refine jt ?_|refine ju ?_|refine jv ?_|refine jw ?_|refine jx ?_|refine jy ?_|refine jz ?_|refine jA ?_|refine jB ?_|refine jC ?_|refine jD ?_|refine jE ?_|refine jF ?_|refine jG ?_|refine jH ?_|refine jI ?_|refine jJ ?_|refine jK ?_|refine jL ?_|refine jM (by assumption) ?_|refine jN (by assumption) rfl ?_|refine jO (by assumption) ?_|refine jP (by assumption) rfl ?_|refine jQ ?_|refine jR ?_|refine jS ?_|refine jT ?_|refine jU (by assumption) rfl ?_))
    have e : (64 : Int) - (m : Int) = ((64 - m : Nat) : Int) := by omega
    rw [e]
    refine M.shlW_i ?_
    refine M.toIntW_i ?_
    refine M.sarW_i ⟨?_, rfl⟩ (by omega)
    rw [sgnW_nat h1 h2]
theorem truth_ret (b : Bool) (w : World) : Ret Try.prog 83 #[.bool b] w (fun r w' => r = vw (if b then 1 else 0) ∧ w' = w) := by
  refine ok83 _ _ _ ?_
  unfold sh83
  cases b with
  | false => exact M.cond_f ⟨rfl, rfl⟩
  | true => exact M.cond_t ⟨rfl, rfl⟩
theorem one_ret (b : Bool) (w : World) : Ret Try.prog 70 #[.bool b] w (fun r w' => r = vw (if b then 1 else 0) ∧ w' = w) := by
  refine ok70 _ _ _ ?_
  unfold sh70
  cases b with
  | false => exact M.cond_f ⟨rfl, rfl⟩
  | true => exact M.cond_t ⟨rfl, rfl⟩
/-! ### bit by bit -/
theorem maskW_bit {m : Nat} (h1 : 1 ≤ m) (h2 : m ≤ 64) (i : Nat) : (maskW m).getLsbD i = decide (i < m) := by
  rw [maskW_nat h1 h2, BitVec.getLsbD_ushiftRight, BitVec.getLsbD_allOnes]
  by_cases h : i < m
  · rw [decide_eq_true h, decide_eq_true]; omega
  · rw [decide_eq_false h, decide_eq_false]; omega
theorem cutW_bit {m : Nat} (h1 : 1 ≤ m) (h2 : m ≤ 64) (x : W64) (i : Nat) : (cutW m x).getLsbD i = (x.getLsbD i && decide (i < m)) := by
  unfold cutW
  rw [BitVec.getLsbD_and, maskW_bit h1 h2]
theorem sgnW_bit {m : Nat} (h1 : 1 ≤ m) (h2 : m ≤ 64) (x : W64) (i : Nat) (hi : i < 64) : (sgnW m x).getLsbD i = x.getLsbD (if i < m then i else m - 1) := by
  rw [sgnW_nat h1 h2, BitVec.getLsbD_sshiftRight]
  have hm : (x <<< (64 - m)).msb = x.getLsbD (m - 1) := by
    rw [BitVec.msb_eq_getLsbD_last, BitVec.getLsbD_shiftLeft]
    have e : 64 - 1 - (64 - m) = m - 1 := by omega
    rw [e]
    have h3 : decide (64 - 1 < 64) = true := by decide
    have h4 : decide (64 - 1 < 64 - m) = false := by rw [decide_eq_false_iff_not]; omega
    rw [h3, h4]; rfl
  have h5 : decide (64 ≤ i) = false := by rw [decide_eq_false_iff_not]; omega
  rw [h5, hm]
  by_cases h : i < m
  · rw [if_pos h, if_pos (by omega), BitVec.getLsbD_shiftLeft]
    have e : 64 - m + i - (64 - m) = i := by omega
    have h6 : decide (64 - m + i < 64) = true := by rw [decide_eq_true_iff]; omega
    have h7 : decide (64 - m + i < 64 - m) = false := by rw [decide_eq_false_iff_not]; omega
    rw [e, h6, h7]; rfl
  · rw [if_neg h, if_neg (by omega)]; rfl
theorem maskR_eq {m : Nat} (h1 : 1 ≤ m) (h2 : m ≤ 64) : BitVec.ofNat 64 (2 ^ m - 1) = maskW m := by
  apply BitVec.eq_of_getLsbD_eq
  intro i hi
  rw [maskW_bit h1 h2, BitVec.getLsbD_ofNat, Nat.testBit_two_pow_sub_one]
  simp [hi]
theorem rmask_ret (n : Int) (w : World) : Ret Try.prog 68 #[vi n] w (fun r w' => r = vw (maskW n) ∧ w' = w) := by
  refine ok68 _ _ _ ?_
  unfold sh68
  refine M.loop_i (σ := Nat) (fun i vals w' => vals = [vw (BitVec.ofNat 64 (2 ^ i - 1)), vi i] ∧ (fitsB n = false → i = 0) ∧ ((i : Int) ≤ n ∨ i = 0) ∧ w' = w) (fun i => n.toNat - i) 0 ⟨rfl, fun _ => rfl, .inr rfl, rfl⟩ ?_
  rintro i vals w1 K ⟨rfl, h0, hi, rfl⟩ hK _
  simp only [List.getD_cons_zero, List.getD_cons_succ]
  by_cases hlt : (i : Int) < n
  · (repeat (first|refine ja ?_|refine jb ?_|refine jc ?_|refine jd ?_|refine je ?_|refine jf ?_|refine jg ?_|refine jh ?_|refine ji ?_|refine jj ?_|refine jk ?_|refine jl ?_|refine jm ?_|refine jn ?_|refine jo ?_|refine jp ?_|refine jq ?_|refine jr ?_|refine js ?_|refine jt ?_|refine ju ?_|refine jv ?_|refine jw ?_|refine jx ?_|refine jy ?_|refine jz ?_|refine jA ?_|refine jB ?_|refine jC ?_|refine jD ?_|refine jE ?_|refine jF ?_|refine jG ?_|refine jH ?_|refine jI ?_|refine jJ ?_|refine jK ?_|refine jL ?_|refine jM (by assumption) ?_|refine jN (by assumption) rfl ?_|refine jO (by assumption) ?_|refine jP (by assumption) rfl ?_|refine jQ ?_|refine jR ?_|refine jS ?_|refine jT ?_|refine jU (by assumption) rfl ?_))
    refine M.call_i (rfits_ret n w1) ?_; rintro _ w2 ⟨rfl, rfl⟩
    (repeat (first|refine ja ?_|refine jb ?_|refine jc ?_|refine jd ?_|refine je ?_|refine jf ?_|refine jg ?_|refine jh ?_|refine ji ?_|refine jj ?_|refine jk ?_|refine jl ?_|refine jm ?_|refine jn ?_|refine jo ?_|refine jp ?_|refine jq ?_|refine jr ?_|refine js ?_|refine jt ?_|refine ju ?_|refine jv ?_|refine jw ?_|refine jx ?_|refine jy ?_|refine jz ?_|refine jA ?_|refine jB ?_|refine jC ?_|refine jD ?_|refine jE ?_|refine jF ?_|refine jG ?_|refine jH ?_|refine jI ?_|refine jJ ?_|refine jK ?_|refine jL ?_|refine jM (by assumption) ?_|refine jN (by assumption) rfl ?_|refine jO (by assumption) ?_|refine jP (by assumption) rfl ?_|refine jQ ?_|refine jR ?_|refine jS ?_|refine jT ?_|refine jU (by assumption) rfl ?_))
    cases hf : fitsB n with
    | false =>
      obtain rfl := h0 hf
      (repeat (first|refine ja ?_|refine jb ?_|refine jc ?_|refine jd ?_|refine je ?_|refine jf ?_|refine jg ?_|refine jh ?_|refine ji ?_|refine jj ?_|refine jk ?_|refine jl ?_|refine jm ?_|refine jn ?_|refine jo ?_|refine jp ?_|refine jq ?_|refine jr ?_|refine js ?_|refine jt ?_|refine ju ?_|refine jv ?_|refine jw ?_|refine jx ?_|refine jy ?_|refine jz ?_|refine jA ?_|refine jB ?_|refine jC ?_|refine jD ?_|refine jE ?_|refine jF ?_|refine jG ?_|refine jH ?_|refine jI ?_|refine jJ ?_|refine jK ?_|refine jL ?_|refine jM (by assumption) ?_|refine jN (by assumption) rfl ?_|refine jO (by assumption) ?_|refine jP (by assumption) rfl ?_|refine jQ ?_|refine jR ?_|refine jS ?_|refine jT ?_|refine jU (by assumption) rfl ?_))
      exact ⟨by unfold maskW; rw [hf]; rfl, rfl⟩
    | true =>
      obtain ⟨m, rfl, h1, h2⟩ := fits_nat hf
      (repeat (first|refine ja ?_|refine jb ?_|refine jc ?_|refine jd ?_|refine je ?_|refine jf ?_|refine jg ?_|refine jh ?_|refine ji ?_|refine jj ?_|refine jk ?_|refine jl ?_|refine jm ?_|refine jn ?_|refine jo ?_|refine jp ?_|refine jq ?_|refine jr ?_|refine js ?_|refine jt ?_|refine ju ?_|refine jv ?_|refine jw ?_|refine jx ?_|refine jy ?_|refine jz ?_|refine jA ?_|refine jB ?_|refine jC ?_|refine jD ?_|refine jE ?_|refine jF ?_|refine jG ?_|refine jH ?_|refine jI ?_|refine jJ ?_|refine jK ?_|refine jL ?_|refine jM (by assumption) ?_|refine jN (by assumption) rfl ?_|refine jO (by assumption) ?_|refine jP (by assumption) rfl ?_|refine jQ ?_|refine jR ?_|refine jS ?_|refine jT ?_|refine jU (by assumption) rfl ?_))
      change M.bin .mul (vw _) (vw 2) _ _
      refine M.mulW_i ?_
      change M.bin .add (vw _) (vw 1) _ _
      refine M.addW_i ?_
      have e : BitVec.ofNat 64 (2 ^ i - 1) * 2 + 1 = BitVec.ofNat 64 (2 ^ (i + 1) - 1) := by
        have h2 : (2 : W64) = BitVec.ofNat 64 2 := rfl
        have h3 : (1 : W64) = BitVec.ofNat 64 1 := rfl
        rw [h2, h3, ← BitVec.ofNat_mul, ← BitVec.ofNat_add]
        congr 1
        have := Nat.one_le_two_pow (n := i)
        rw [Nat.pow_succ]; omega
      rw [e]
      (repeat (first|refine ja ?_|refine jb ?_|refine jc ?_|refine jd ?_|refine je ?_|refine jf ?_|refine jg ?_|refine jh ?_|refine ji ?_|refine jj ?_|refine jk ?_|refine jl ?_|refine jm ?_|refine jn ?_|refine jo ?_|refine jp ?_|refine jq ?_|refine jr ?_|refine js ?_|refine jt ?_|refine ju ?_|refine jv ?_|refine jw ?_|refine jx ?_|refine jy ?_|refine jz ?_|refine jA ?_|refine jB ?_|refine jC ?_|refine jD ?_|refine jE ?_|refine jF ?_|refine jG ?_|refine jH ?_|refine jI ?_|refine jJ ?_|refine jK ?_|refine jL ?_|refine jM (by assumption) ?_|refine jN (by assumption) rfl ?_|refine jO (by assumption) ?_|refine jP (by assumption) rfl ?_|refine jQ ?_|refine jR ?_|refine jS ?_|refine jT ?_|refine jU (by assumption) rfl ?_))
      exact hK (i + 1) _ _ (by omega) ⟨by simp, fun h => by simp [hf] at h, .inl (by omega), rfl⟩
  · (repeat (first|refine ja ?_|refine jb ?_|refine jc ?_|refine jd ?_|refine je ?_|refine jf ?_|refine jg ?_|refine jh ?_|refine ji ?_|refine jj ?_|refine jk ?_|refine jl ?_|refine jm ?_|refine jn ?_|refine jo ?_|refine jp ?_|refine jq ?_|refine jr ?_|refine js ?_|refine jt ?_|refine ju ?_|refine jv ?_|refine jw ?_|refine jx ?_|refine jy ?_|refine jz ?_|refine jA ?_|refine jB ?_|refine jC ?_|refine jD ?_|refine jE ?_|refine jF ?_|refine jG ?_|refine jH ?_|refine jI ?_|refine jJ ?_|refine jK ?_|refine jL ?_|refine jM (by assumption) ?_|refine jN (by assumption) rfl ?_|refine jO (by assumption) ?_|refine jP (by assumption) rfl ?_|refine jQ ?_|refine jR ?_|refine jS ?_|refine jT ?_|refine jU (by assumption) rfl ?_))
    refine ⟨?_, rfl⟩
    cases hf : fitsB n with
    | false =>
      obtain rfl := h0 hf
      unfold maskW; rw [hf]; rfl
    | true =>
      obtain ⟨m, rfl, h1, h2⟩ := fits_nat hf
      have : i = m := by omega
      subst this
      rw [maskR_eq h1 h2]
theorem rcut_ret (n : Int) (x : W64) (w : World) : Ret Try.prog 52 #[vi n, vw x] w (fun r w' => r = vw (cutW n x) ∧ w' = w) := by
  refine ok52 _ _ _ _ ?_
  unfold sh52
  refine M.call_i (rmask_ret n w) ?_; rintro _ w1 ⟨rfl, rfl⟩
  exact M.andW_i ⟨rfl, rfl⟩
theorem bit_of (x : W64) (i : Nat) : decide ((x >>> i) % 2 = 1) = x.getLsbD i := by
  have e : ((x >>> i) % 2 = 1) ↔ x.toNat / 2 ^ i % 2 = 1 := by
    constructor
    · intro h
      have := congrArg BitVec.toNat h
      rw [BitVec.toNat_umod, BitVec.toNat_ushiftRight, Nat.shiftRight_eq_div_pow] at this
      exact this
    · intro h
      apply BitVec.eq_of_toNat_eq
      rw [BitVec.toNat_umod, BitVec.toNat_ushiftRight, Nat.shiftRight_eq_div_pow]
      exact h
  unfold BitVec.getLsbD
  rw [Nat.testBit_eq_decide_div_mod_eq]
  by_cases h : x.toNat / 2 ^ i % 2 = 1
  · rw [decide_eq_true h, decide_eq_true (e.2 h)]
  · rw [decide_eq_false h, decide_eq_false (fun h' => h (e.1 h'))]
theorem rbit_ret (x : W64) (i : Int) (w : World) : Ret Try.prog 69 #[vw x, vi i] w (fun r w' => r = .bool (decide (0 ≤ i) && x.getLsbD i.toNat) ∧ w' = w) := by
  refine ok69 _ _ _ _ ?_
  unfold sh69
  by_cases h0 : 0 ≤ i
  · obtain ⟨m, rfl⟩ : ∃ m : Nat, i = m := ⟨i.toNat, by omega⟩
    by_cases h1 : (m : Int) < 64
    · (repeat (first|refine ja ?_|refine jb ?_|refine jc ?_|refine jd ?_|refine je ?_|refine jf ?_|refine jg ?_|refine jh ?_|refine ji ?_|refine jj ?_|refine jk ?_|refine jl ?_|refine jm ?_|refine jn ?_|refine jo ?_|refine jp ?_|refine jq ?_|refine jr ?_|refine js ?_|refine jt ?_|refine ju ?_|refine jv ?_|refine jw ?_|refine jx ?_|refine jy ?_|refine jz ?_|refine jA ?_|refine jB ?_|refine jC ?_|refine jD ?_|refine jE ?_|refine jF ?_|refine jG ?_|refine jH ?_|refine jI ?_|refine jJ ?_|refine jK ?_|refine jL ?_|refine jM (by assumption) ?_|refine jN (by assumption) rfl ?_|refine jO (by assumption) ?_|refine jP (by assumption) rfl ?_|refine jQ ?_|refine jR ?_|refine jS ?_|refine jT ?_|refine jU (by assumption) rfl ?_))
      refine M.toWord_i ?_
      have e : vw (BitVec.ofInt 64 (m : Int)) = .int .u64 (m : Int) := by
        show Value.int .u64 _ = _
        congr 1
        rw [BitVec.toNat_ofInt]; omega
      rw [e]
      (repeat (first|refine ja ?_|refine jb ?_|refine jc ?_|refine jd ?_|refine je ?_|refine jf ?_|refine jg ?_|refine jh ?_|refine ji ?_|refine jj ?_|refine jk ?_|refine jl ?_|refine jm ?_|refine jn ?_|refine jo ?_|refine jp ?_|refine jq ?_|refine jr ?_|refine js ?_|refine jt ?_|refine ju ?_|refine jv ?_|refine jw ?_|refine jx ?_|refine jy ?_|refine jz ?_|refine jA ?_|refine jB ?_|refine jC ?_|refine jD ?_|refine jE ?_|refine jF ?_|refine jG ?_|refine jH ?_|refine jI ?_|refine jJ ?_|refine jK ?_|refine jL ?_|refine jM (by assumption) ?_|refine jN (by assumption) rfl ?_|refine jO (by assumption) ?_|refine jP (by assumption) rfl ?_|refine jQ ?_|refine jR ?_|refine jS ?_|refine jT ?_|refine jU (by assumption) rfl ?_))
      refine M.shrW_i ?_
      change M.gd _ _ (fun k w => M.bin .rem (vw _) (vw 2) k w) _ _
      (repeat (first|refine ja ?_|refine jb ?_|refine jc ?_|refine jd ?_|refine je ?_|refine jf ?_|refine jg ?_|refine jh ?_|refine ji ?_|refine jj ?_|refine jk ?_|refine jl ?_|refine jm ?_|refine jn ?_|refine jo ?_|refine jp ?_|refine jq ?_|refine jr ?_|refine js ?_|refine jt ?_|refine ju ?_|refine jv ?_|refine jw ?_|refine jx ?_|refine jy ?_|refine jz ?_|refine jA ?_|refine jB ?_|refine jC ?_|refine jD ?_|refine jE ?_|refine jF ?_|refine jG ?_|refine jH ?_|refine jI ?_|refine jJ ?_|refine jK ?_|refine jL ?_|refine jM (by assumption) ?_|refine jN (by assumption) rfl ?_|refine jO (by assumption) ?_|refine jP (by assumption) rfl ?_|refine jQ ?_|refine jR ?_|refine jS ?_|refine jT ?_|refine jU (by assumption) rfl ?_))
      refine M.remW_i (by decide) ?_
      change M.gd _ _ (fun k w => M.bin .eql (vw _) (vw 1) k w) _ _
      (repeat (first|refine ja ?_|refine jb ?_|refine jc ?_|refine jd ?_|refine je ?_|refine jf ?_|refine jg ?_|refine jh ?_|refine ji ?_|refine jj ?_|refine jk ?_|refine jl ?_|refine jm ?_|refine jn ?_|refine jo ?_|refine jp ?_|refine jq ?_|refine jr ?_|refine js ?_|refine jt ?_|refine ju ?_|refine jv ?_|refine jw ?_|refine jx ?_|refine jy ?_|refine jz ?_|refine jA ?_|refine jB ?_|refine jC ?_|refine jD ?_|refine jE ?_|refine jF ?_|refine jG ?_|refine jH ?_|refine jI ?_|refine jJ ?_|refine jK ?_|refine jL ?_|refine jM (by assumption) ?_|refine jN (by assumption) rfl ?_|refine jO (by assumption) ?_|refine jP (by assumption) rfl ?_|refine jQ ?_|refine jR ?_|refine jS ?_|refine jT ?_|refine jU (by assumption) rfl ?_))
      refine M.eqlW_i ?_
      (repeat (first|refine ja ?_|refine jb ?_|refine jc ?_|refine jd ?_|refine je ?_|refine jf ?_|refine jg ?_|refine jh ?_|refine ji ?_|refine jj ?_|refine jk ?_|refine jl ?_|refine jm ?_|refine jn ?_|refine jo ?_|refine jp ?_|refine jq ?_|refine jr ?_|refine js ?_|refine jt ?_|refine ju ?_|refine jv ?_|refine jw ?_|refine jx ?_|refine jy ?_|refine jz ?_|refine jA ?_|refine jB ?_|refine jC ?_|refine jD ?_|refine jE ?_|refine jF ?_|refine jG ?_|refine jH ?_|refine jI ?_|refine jJ ?_|refine jK ?_|refine jL ?_|refine jM (by assumption) ?_|refine jN (by assumption) rfl ?_|refine jO (by assumption) ?_|refine jP (by assumption) rfl ?_|refine jQ ?_|refine jR ?_|refine jS ?_|refine jT ?_|refine jU (by assumption) rfl ?_))
      refine ⟨?_, rfl⟩
      rw [bit_of]
      simp
    · (repeat (first|refine ja ?_|refine jb ?_|refine jc ?_|refine jd ?_|refine je ?_|refine jf ?_|refine jg ?_|refine jh ?_|refine ji ?_|refine jj ?_|refine jk ?_|refine jl ?_|refine jm ?_|refine jn ?_|refine jo ?_|refine jp ?_|refine jq ?_|refine jr ?_|refine js ?_|refine jt ?_|refine ju ?_|refine jv ?_|refine jw ?_|refine jx ?_|refine jy ?_|refine jz ?_|refine jA ?_|refine jB ?_|refine jC ?_|refine jD ?_|refine jE ?_|refine jF ?_|refine jG ?_|refine jH ?_|refine jI ?_|refine jJ ?_|refine jK ?_|refine jL ?_|refine jM (by assumption) ?_|refine jN (by assumption) rfl ?_|refine jO (by assumption) ?_|refine jP (by assumption) rfl ?_|refine jQ ?_|refine jR ?_|refine jS ?_|refine jT ?_|refine jU (by assumption) rfl ?_))
      refine ⟨?_, rfl⟩
      rw [BitVec.getLsbD_of_ge _ _ (by omega)]; simp
  · (repeat (first|refine ja ?_|refine jb ?_|refine jc ?_|refine jd ?_|refine je ?_|refine jf ?_|refine jg ?_|refine jh ?_|refine ji ?_|refine jj ?_|refine jk ?_|refine jl ?_|refine jm ?_|refine jn ?_|refine jo ?_|refine jp ?_|refine jq ?_|refine jr ?_|refine js ?_|refine jt ?_|refine ju ?_|refine jv ?_|refine jw ?_|refine jx ?_|refine jy ?_|refine jz ?_|refine jA ?_|refine jB ?_|refine jC ?_|refine jD ?_|refine jE ?_|refine jF ?_|refine jG ?_|refine jH ?_|refine jI ?_|refine jJ ?_|refine jK ?_|refine jL ?_|refine jM (by assumption) ?_|refine jN (by assumption) rfl ?_|refine jO (by assumption) ?_|refine jP (by assumption) rfl ?_|refine jQ ?_|refine jR ?_|refine jS ?_|refine jT ?_|refine jU (by assumption) rfl ?_))
    refine ⟨?_, rfl⟩
    simp [h0]
end Go.Proofs.Ytfffepeloiefiaa
