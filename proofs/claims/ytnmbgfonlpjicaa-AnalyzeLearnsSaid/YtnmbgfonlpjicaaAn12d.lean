import Derived.Test.YtnmbgfonlpjicaaAn12a
import Derived.Test.YtnmbgfonlpjicaaCoreIn
namespace Go.Proofs.Ytnmbgfonlpjicaa
open Go.Mw
set_option linter.unusedVariables false
set_option linter.unusedSimpArgs false
set_option maxRecDepth 100000
attribute [local irreducible] M.val M.unit M.next M.pick M.new M.nilCheck M.load1 M.loadA M.store M.fieldAddr M.indexSl M.indexArr M.slice M.makeSlice M.buildSlice M.len M.lenS M.cap M.append M.extract M.conv M.not M.neg M.bin M.shift M.eqB M.eqNil M.call M.callv M.gd M.share M.cond M.loop M.draw pureW readW Ret
def sub : Nat → Code → Code
  | 0, .seq a _ => a
  | 1, .seq _ b => b
  | 1, .block _ b => b
  | 9, .rangeFunc _ _ _ b => b
  | _, c => c
def shB19 (x1 x2 x3 x5 : Value) (KN KR : World → Prop) (w : World) : Prop :=
  M.share (fun K1 w =>
  M.call Try.prog 22 #[x5] (fun t17 w =>
  M.draw (fun w =>
  M.load1 x1 (fun t18 w =>
  M.nilCheck t18 (fun t19 w =>
  M.fieldAddr 2 t19 (fun t20 w =>
  M.call Try.prog 40 #[t20, t17] (fun t22 w =>
  ((M.load1 x1 (fun v' _ => v' = t18) w) ∧ M.not t22 (fun t23 w =>
  M.gd t23 false (fun k w => M.load1 x1 k w) (fun t25 w =>
  M.gd t23 false (fun k w => M.nilCheck t25 k w) (fun t26 w =>
  M.gd t23 false (fun k w => M.fieldAddr 0 t26 k w) (fun t27 w =>
  M.gd t23 false (fun k w => M.load1 t27 k w) (fun t28 w =>
  M.gd t23 false (fun k w => k t17 w) (fun t29 w =>
  M.gd t23 false (fun k w => M.load1 x1 k w) (fun t31 w =>
  M.gd t23 false (fun k w => M.nilCheck t31 k w) (fun t32 w =>
  M.gd t23 false (fun k w => M.fieldAddr 0 t32 k w) (fun t33 w =>
  M.gd t23 false (fun k w => M.load1 t33 k w) (fun t34 w =>
  M.gd t23 false (fun k w => M.call Try.prog 21 #[t28, t29] k w) (fun t30 w =>
  ((M.gd t23 false (fun k w => M.load1 t33 k w) (fun v' _ => v' = t34) w) ∧ ((M.gd t23 false (fun k w => M.load1 x1 k w) (fun v' _ => v' = t31) w) ∧ ((M.gd t23 false (fun k w => M.load1 x1 k w) (fun v' _ => v' = t25) w) ∧ ((M.load1 x1 (fun v' _ => v' = t18) w) ∧ M.gd t23 false (fun k w => M.call Try.prog 14 #[t34] k w) (fun t35 w =>
  ((M.gd t23 false (fun k w => M.load1 x1 k w) (fun v' _ => v' = t31) w) ∧ ((M.gd t23 false (fun k w => M.load1 x1 k w) (fun v' _ => v' = t25) w) ∧ ((M.load1 x1 (fun v' _ => v' = t18) w) ∧ M.gd t23 false (fun k w => M.bin .neq t30 t35 k w) (fun t36 w =>
  M.pick t23 (Value.bool true) t36 (fun t37 w =>
  M.cond t37
  (K1 [] w)
  (M.load1 x1 (fun t38 w =>
  M.nilCheck t38 (fun t39 w =>
  M.fieldAddr 69 t39 (fun t40 w =>
  M.load1 t40 (fun t41 w =>
  M.bin .eql t41 (Value.int IntKind.i64 1) (fun t42 w =>
  M.cond t42
  (M.store 1 x2 x5 (fun _ w =>
  M.store 1 x3 (Value.bool true) (fun _ w =>
  KR w) w) w)
  (M.load1 x1 (fun t44 w =>
  M.call Try.prog 43 #[t44, x5] (fun t46 w =>
  M.load1 x1 (fun t47 w =>
  M.nilCheck t47 (fun t48 w =>
  M.fieldAddr 69 t48 (fun t49 w =>
  M.load1 t49 (fun t50 w =>
  M.bin .sub t50 (Value.int IntKind.i64 1) (fun t51 w =>
  M.nilCheck t47 (fun t52 w =>
  M.fieldAddr 69 t52 (fun t53 w =>
  M.store 1 t53 t51 (fun _ w =>
  M.eqNil 1 false t46 (fun t55 w =>
  M.gd t55 false (fun k w => M.load1 x1 k w) (fun t57 w =>
  M.gd t55 false (fun k w => k t46 w) (fun t58 w =>
  M.gd t55 false (fun k w => k x5 w) (fun t59 w =>
  M.gd t55 false (fun k w => M.call Try.prog 18 #[t57, t58, t59] k w) (fun t60 w =>
  M.gd t55 false (fun k w => M.not t60 k w) (fun t61 w =>
  M.pick t55 (Value.bool true) t61 (fun t62 w =>
  M.cond t62
  (M.store 1 x2 (Value.int IntKind.i64 0) (fun _ w =>
  M.store 1 x3 (Value.bool false) (fun _ w =>
  KR w) w) w)
  (K1 [] w)) w) w) w) w) w) w) w) w) w) w) w) w) w) w) w) w) w)) w) w) w) w) w)) w) w)))) w))))) w) w) w) w) w) w) w) w) w) w) w)) w) w) w) w) w) w) (fun s1 w => ∀ _ : List Value,
  KN w) w
def qB19 (KN KR : World → Prop) : EQ
  | .normal, _, w => KN w
  | .ret, _, w => KR w
  | _, _, _ => False
theorem okB19 {l n : Nat} (y0 x1 x2 x3 y4 x5 y6 y7 y8 y9 y10 y11 y12 y13 y14 y15 y16 y17 y18 y19 y20 y21 y22 y23 y24 y25 y26 y27 y28 y29 y30 y31 y32 y33 y34 y35 y36 y37 y38 y39 y40 y41 y42 y43 y44 y45 y46 y47 y48 y49 y50 y51 y52 y53 y54 y55 y56 y57 y58 y59 y60 y61 y62 : Value) (KN KR : World → Prop) (w : World) (h : shB19 x1 x2 x3 x5 KN KR w) :
  (sub 9 (sub 1 (sub 1 (sub 0 (sub 1 (Try.f19.body.getD .skip)))))).wpIn (Fence.wide.inRound l) n Try.prog (liftQ (asg (sub 9 (sub 1 (sub 1 (sub 0 (sub 1 (Try.f19.body.getD .skip))))))) [y0, x1, x2, x3, y4, x5, y6, y7, y8, y9, y10, y11, y12, y13, y14, y15, y16, y17, y18, y19, y20, y21, y22, y23, y24, y25, y26, y27, y28, y29, y30, y31, y32, y33, y34, y35, y36, y37, y38, y39, y40, y41, y42, y43, y44, y45, y46, y47, y48, y49, y50, y51, y52, y53, y54, y55, y56, y57, y58, y59, y60, y61, y62] (qB19 KN KR)) (mk [y0, x1, x2, x3, y4, x5, y6, y7, y8, y9, y10, y11, y12, y13, y14, y15, y16, y17, y18, y19, y20, y21, y22, y23, y24, y25, y26, y27, y28, y29, y30, y31, y32, y33, y34, y35, y36, y37, y38, y39, y40, y41, y42, y43, y44, y45, y46, y47, y48, y49, y50, y51, y52, y53, y54, y55, y56, y57, y58, y59, y60, y61, y62]) w :=
  comp_in mixed (Ann.jblock [] [6, 7, 16, 17, 18, 19, 20, 21, 22, 23, 24, 25, 26, 27, 28, 29, 30, 31, 32, 33, 34, 35, 36, 37, 38, 39, 40, 41, 42, 43, 44, 45, 46, 47, 48, 49, 50, 51, 52, 53, 54, 55, 56, 57, 58, 59, 60, 61, 62] (Ann.seq Ann.text (Ann.seq (Ann.seq (Ann.draw (Sch.take 0 (Sch.take 1 (Sch.take 2 (Sch.take 3 (Sch.one 4 (Sch.take 5 (Sch.take 6 (Sch.take 7 (Sch.take 8 (Sch.take 9 (Sch.take 10 (Sch.take 11 (Sch.take 13 (Sch.take 14 (Sch.take 15 (Sch.take 16 (Sch.one 12 (Sch.one 17 (Sch.take 18 (Sch.take 19 Sch.done))))))))))))))))))))) (Ann.cond Ann.leaf Ann.leaf)) (Ann.seq (Ann.seq Ann.text (Ann.cond (Ann.seq Ann.text Ann.leaf) Ann.leaf)) (Ann.seq Ann.text (Ann.seq Ann.text (Ann.seq Ann.text (Ann.cond (Ann.seq Ann.text Ann.leaf) Ann.leaf)))))))) _ _ _ _ (by kernel_rfl) (Eq.mp (by kernel_rfl) h)

section
variable {n0 b p : Nat} {w w' : World} {cs : List Value} {lv mp vs os : Value} {m : LS} {t : Tr} {lab : Nat → Nat}
/-- The three boxes of 'last'. -/
def LBox (n1 b : Nat) (a1 a2 : Value) (W : World) : Prop := Blk W n1 [ptr b] ∧ Blk W (n1 + 1) [a1] ∧ Blk W (n1 + 1 + 1) [a2]
theorem LBox.keep {n1 : Nat} {a1 a2 : Value} {W W' : World} {S : Nat → Prop} (h : LBox n1 b a1 a2 W) (k : Keep W W' S) (h1 : ¬ S n1) (h2 : ¬ S (n1 + 1)) (h3 : ¬ S (n1 + 1 + 1)) : LBox n1 b a1 a2 W' :=
  ⟨h.1.keep k h1, h.2.1.keep k h2, h.2.2.keep k h3⟩
theorem meet1_left (t : Tr) (m : LS) (x : Int) : m.left ≤ (meet1 t m x).left := by
  unfold meet1
  split
  · exact Int.le_refl _
  · split
    · show m.left ≤ m.left + 1; omega
    · exact Int.le_refl _
theorem meetL_left (t : Tr) (but : Int) : ∀ (c : List Int) (m : LS), m.left ≤ (meetL t but c m).1.left
  | [], m => Int.le_refl _
  | x :: c, m => by
    rw [meetL_cons]
    split
    · exact meetL_left t but c m
    · split
      · exact Int.le_refl _
      · exact Int.le_trans (meet1_left t m x) (meetL_left t but c _)
theorem lastL_cons (t : Tr) (l : List (List Int)) (x : Int) (es : List Int) (m : LS) : lastL t l (x :: es) m = if varOf x ∉ m.met ∨ t.lev (varOf x) ≠ t.begins.length then lastL t l es m
    else if m.left = 1 then (m, some x)
    else match reasonL t l x with
      | none => (⟨m.met, m.others, m.left - 1⟩, none)
      | some c => if (meetL t x c ⟨m.met, m.others, m.left - 1⟩).2 then lastL t l es (meetL t x c ⟨m.met, m.others, m.left - 1⟩).1 else ((meetL t x c ⟨m.met, m.others, m.left - 1⟩).1, none) := rfl
set_option maxHeartbeats 4000000 in
theorem lastbody_ok {n1 : Nat} {l : List (List Int)} {x : Int} {KN KR : World → Prop} (hT : TRep w p lab t) (hlab : ∀ x, lab x ≠ 0 → x < n0) (hf : t.Fine) (hv : t.vars ≤ 64) (hR : LRn n0 w b cs p lv mp vs os m) (hm : LSok m) (h1 : 1 ≤ m.left) (hl : LL w (· < n0) lv l) (hlc : ∀ c ∈ l, c.length ≤ 1000)
    (hx0 : 0 ≤ x) (hx1 : x / 2 < t.vars) (hB : LBox n1 b (vi 0) (.bool false) w) (hS : ∀ y, y = n1 ∨ y = n1 + 1 ∨ y = n1 + 1 + 1 → ¬ (y = b ∨ blkOf vs y ∨ blkOf os y)) (hn0 : n0 ≤ n1)
    (hN : ∀ W' m2 cs2 vs2 os2, (∀ rest, lastL t l (x :: rest) m = lastL t l rest m2) → LSok m2 → 1 ≤ m2.left → LRn n0 W' b cs2 p lv mp vs2 os2 m2 → LMod b vs os vs2 os2 w W' → LBox n1 b (vi 0) (.bool false) W' → KN W')
    (hKR : ∀ W0 W' m2 cs2 vs2 os2 res, (∀ rest, lastL t l (x :: rest) m = (m2, res)) → LRn n0 W0 b cs2 p lv mp vs2 os2 m2 → LMod b vs os vs2 os2 w W0 → Keep W0 W' (fun y => y = n1 + 1 ∨ y = n1 + 1 + 1) → LBox n1 b (vi (res.getD 0)) (.bool res.isSome) W' → KR W') :
    shB19 (ptr n1) (ptr (n1 + 1)) (ptr (n1 + 1 + 1)) (vi x) KN KR w := by
  have hvx : 0 ≤ varOf x ∧ varOf x < 64 := by
    have e : varOf x = x / 2 := by unfold varOf; rw [if_neg (by omega)]
    rw [e]; omega
  have cx : ∀ W' , Keep w W' No → LBox n1 b (vi 0) (.bool false) W' := fun W' k => hB.keep k (fun h => h) (fun h => h) (fun h => h)
  unfold shB19
  refine M.share_j (fun vals w' => vals = [] ∧ KN w') (fun vals w' h _ => h.2) (fun K1 hK1 => ?_)
  refine M.call_i (var_ret x w) ?_; rintro _ w1 ⟨rfl, k1⟩
  generalize hvv : varOf x = v at *
  have kd := k1.trans (Keep.drew w1 No) (fun _ _ h => h)
  have R1 := hR.keep kd
  have c0 : w1.drew.cell? ⟨n1, 0, none⟩ = some (ptr b) := (cx _ kd).1.cell rfl
  (repeat (first|refine ja ?_|refine jb ?_|refine jc ?_|refine jd ?_|refine je ?_|refine jf ?_|refine jg ?_|refine jh ?_|refine ji ?_|refine jj ?_|refine jk ?_|refine jl ?_|refine jm ?_|refine jn ?_|refine jo ?_|refine jp ?_|refine jq ?_|refine jr ?_|refine js ?_|refine jt ?_|refine ju ?_|refine jv ?_|refine jw ?_|refine jx ?_|refine jy ?_|refine jz ?_|refine jA ?_|refine jB ?_|refine jC ?_|refine jD ?_|refine jE ?_|refine jF ?_|refine jG ?_|refine jH ?_|refine jI ?_|refine jJ ?_|refine jK ?_|refine jL ?_|refine jM (by assumption) ?_|refine jN (by assumption) rfl ?_|refine jO (by assumption) ?_|refine jP (by assumption) rfl ?_|refine jQ ?_|refine jR ?_|refine jS ?_|refine jT ?_|refine jU (by assumption) rfl ?_))
  refine M.call_i (has12_ret R1 hvx) ?_; rintro _ w2 ⟨rfl, k2⟩
  have k02 := kd.trans k2 (fun _ _ h => h)
  have R2 := hR.keep k02
  have c0 : w2.cell? ⟨n1, 0, none⟩ = some (ptr b) := (cx _ k02).1.cell rfl
  have ct : w2.cell? ⟨b, 0, none⟩ = some (ptr p) := R2.blk.cell R2.lc.c0
  by_cases hmem : v ∈ m.met
  rotate_left
  · simp only [hmem, decide_false]
    (repeat (first|refine ja ?_|refine jb ?_|refine jc ?_|refine jd ?_|refine je ?_|refine jf ?_|refine jg ?_|refine jh ?_|refine ji ?_|refine jj ?_|refine jk ?_|refine jl ?_|refine jm ?_|refine jn ?_|refine jo ?_|refine jp ?_|refine jq ?_|refine jr ?_|refine js ?_|refine jt ?_|refine ju ?_|refine jv ?_|refine jw ?_|refine jx ?_|refine jy ?_|refine jz ?_|refine jA ?_|refine jB ?_|refine jC ?_|refine jD ?_|refine jE ?_|refine jF ?_|refine jG ?_|refine jH ?_|refine jI ?_|refine jJ ?_|refine jK ?_|refine jL ?_|refine jM (by assumption) ?_|refine jN (by assumption) rfl ?_|refine jO (by assumption) ?_|refine jP (by assumption) rfl ?_|refine jQ ?_|refine jR ?_|refine jS ?_|refine jT ?_|refine jU (by assumption) rfl ?_))
    exact hK1 _ _ ⟨rfl, hN _ m cs vs os (fun rest => by rw [lastL_cons, hvv, if_pos (.inl hmem)]) hm h1 R2 (LMod.of k02) (cx _ k02)⟩
  simp only [hmem, decide_true]
  (repeat (first|refine ja ?_|refine jb ?_|refine jc ?_|refine jd ?_|refine je ?_|refine jf ?_|refine jg ?_|refine jh ?_|refine ji ?_|refine jj ?_|refine jk ?_|refine jl ?_|refine jm ?_|refine jn ?_|refine jo ?_|refine jp ?_|refine jq ?_|refine jr ?_|refine js ?_|refine jt ?_|refine ju ?_|refine jv ?_|refine jw ?_|refine jx ?_|refine jy ?_|refine jz ?_|refine jA ?_|refine jB ?_|refine jC ?_|refine jD ?_|refine jE ?_|refine jF ?_|refine jG ?_|refine jH ?_|refine jI ?_|refine jJ ?_|refine jK ?_|refine jL ?_|refine jM (by assumption) ?_|refine jN (by assumption) rfl ?_|refine jO (by assumption) ?_|refine jP (by assumption) rfl ?_|refine jQ ?_|refine jR ?_|refine jS ?_|refine jT ?_|refine jU (by assumption) rfl ?_))
  refine M.call_i (level_ret (hT.keep k02 (fun _ _ _ h => h)) v) ?_; rintro _ w3 ⟨rfl, k3⟩
  have k03 := k02.trans k3 (fun _ _ h => h)
  have R3 := hR.keep k03
  have c0 : w3.cell? ⟨n1, 0, none⟩ = some (ptr b) := (cx _ k03).1.cell rfl
  have ct : w3.cell? ⟨b, 0, none⟩ = some (ptr p) := R3.blk.cell R3.lc.c0
  (repeat (first|refine ja ?_|refine jb ?_|refine jc ?_|refine jd ?_|refine je ?_|refine jf ?_|refine jg ?_|refine jh ?_|refine ji ?_|refine jj ?_|refine jk ?_|refine jl ?_|refine jm ?_|refine jn ?_|refine jo ?_|refine jp ?_|refine jq ?_|refine jr ?_|refine js ?_|refine jt ?_|refine ju ?_|refine jv ?_|refine jw ?_|refine jx ?_|refine jy ?_|refine jz ?_|refine jA ?_|refine jB ?_|refine jC ?_|refine jD ?_|refine jE ?_|refine jF ?_|refine jG ?_|refine jH ?_|refine jI ?_|refine jJ ?_|refine jK ?_|refine jL ?_|refine jM (by assumption) ?_|refine jN (by assumption) rfl ?_|refine jO (by assumption) ?_|refine jP (by assumption) rfl ?_|refine jQ ?_|refine jR ?_|refine jS ?_|refine jT ?_|refine jU (by assumption) rfl ?_))
  refine M.call_i (levels_ret (hT.keep k03 (fun _ _ _ h => h))) ?_; rintro _ w4 ⟨rfl, k4⟩
  have k04 := k03.trans k4 (fun _ _ h => h)
  have R4 := hR.keep k04
  have c0 : w4.cell? ⟨n1, 0, none⟩ = some (ptr b) := (cx _ k04).1.cell rfl
  have ct : w4.cell? ⟨b, 0, none⟩ = some (ptr p) := R4.blk.cell R4.lc.c0
  by_cases hlev : t.lev v = t.begins.length
  rotate_left
  · (repeat (first|refine ja ?_|refine jb ?_|refine jc ?_|refine jd ?_|refine je ?_|refine jf ?_|refine jg ?_|refine jh ?_|refine ji ?_|refine jj ?_|refine jk ?_|refine jl ?_|refine jm ?_|refine jn ?_|refine jo ?_|refine jp ?_|refine jq ?_|refine jr ?_|refine js ?_|refine jt ?_|refine ju ?_|refine jv ?_|refine jw ?_|refine jx ?_|refine jy ?_|refine jz ?_|refine jA ?_|refine jB ?_|refine jC ?_|refine jD ?_|refine jE ?_|refine jF ?_|refine jG ?_|refine jH ?_|refine jI ?_|refine jJ ?_|refine jK ?_|refine jL ?_|refine jM (by assumption) ?_|refine jN (by assumption) rfl ?_|refine jO (by assumption) ?_|refine jP (by assumption) rfl ?_|refine jQ ?_|refine jR ?_|refine jS ?_|refine jT ?_|refine jU (by assumption) rfl ?_))
    exact hK1 _ _ ⟨rfl, hN _ m cs vs os (fun rest => by rw [lastL_cons, hvv, if_pos (.inr hlev)]) hm h1 R4 (LMod.of k04) (cx _ k04)⟩
  have hcond : ¬ (v ∉ m.met ∨ t.lev v ≠ t.begins.length) := fun e => by
    rcases e with e | e
    · exact e hmem
    · exact e hlev
  have cl : w4.cell? ⟨b, 69, none⟩ = some (vi m.left) := R4.blk.cell R4.lc.c69
  (repeat (first|refine ja ?_|refine jb ?_|refine jc ?_|refine jd ?_|refine je ?_|refine jf ?_|refine jg ?_|refine jh ?_|refine ji ?_|refine jj ?_|refine jk ?_|refine jl ?_|refine jm ?_|refine jn ?_|refine jo ?_|refine jp ?_|refine jq ?_|refine jr ?_|refine js ?_|refine jt ?_|refine ju ?_|refine jv ?_|refine jw ?_|refine jx ?_|refine jy ?_|refine jz ?_|refine jA ?_|refine jB ?_|refine jC ?_|refine jD ?_|refine jE ?_|refine jF ?_|refine jG ?_|refine jH ?_|refine jI ?_|refine jJ ?_|refine jK ?_|refine jL ?_|refine jM (by assumption) ?_|refine jN (by assumption) rfl ?_|refine jO (by assumption) ?_|refine jP (by assumption) rfl ?_|refine jQ ?_|refine jR ?_|refine jS ?_|refine jT ?_|refine jU (by assumption) rfl ?_))
  by_cases hl1 : m.left = 1
  · (repeat (first|refine ja ?_|refine jb ?_|refine jc ?_|refine jd ?_|refine je ?_|refine jf ?_|refine jg ?_|refine jh ?_|refine ji ?_|refine jj ?_|refine jk ?_|refine jl ?_|refine jm ?_|refine jn ?_|refine jo ?_|refine jp ?_|refine jq ?_|refine jr ?_|refine js ?_|refine jt ?_|refine ju ?_|refine jv ?_|refine jw ?_|refine jx ?_|refine jy ?_|refine jz ?_|refine jA ?_|refine jB ?_|refine jC ?_|refine jD ?_|refine jE ?_|refine jF ?_|refine jG ?_|refine jH ?_|refine jI ?_|refine jJ ?_|refine jK ?_|refine jL ?_|refine jM (by assumption) ?_|refine jN (by assumption) rfl ?_|refine jO (by assumption) ?_|refine jP (by assumption) rfl ?_|refine jQ ?_|refine jR ?_|refine jS ?_|refine jT ?_|refine jU (by assumption) rfl ?_))
    refine M.store_i (cx _ k04).2.1 (by simp) rfl (fun w5 b5 k5 s5 => ?_)
    refine M.store_i ((cx _ k04).2.2.keep k5 (by omega)) (by simp) rfl (fun w6 b6 k6 s6 => ?_)
    refine hKR w4 w6 m cs vs os (some x) (fun rest => by rw [lastL_cons, hvv, if_neg hcond, if_pos hl1]) R4 (LMod.of k04) (k5.mono (fun y _ e => .inl e) |>.trans k6 (fun y _ e => .inr e)) ⟨((cx _ k04).1.keep k5 (by omega)).keep k6 (by omega), b5.keep k6 (by omega), b6⟩
  (repeat (first|refine ja ?_|refine jb ?_|refine jc ?_|refine jd ?_|refine je ?_|refine jf ?_|refine jg ?_|refine jh ?_|refine ji ?_|refine jj ?_|refine jk ?_|refine jl ?_|refine jm ?_|refine jn ?_|refine jo ?_|refine jp ?_|refine jq ?_|refine jr ?_|refine js ?_|refine jt ?_|refine ju ?_|refine jv ?_|refine jw ?_|refine jx ?_|refine jy ?_|refine jz ?_|refine jA ?_|refine jB ?_|refine jC ?_|refine jD ?_|refine jE ?_|refine jF ?_|refine jG ?_|refine jH ?_|refine jI ?_|refine jJ ?_|refine jK ?_|refine jL ?_|refine jM (by assumption) ?_|refine jN (by assumption) rfl ?_|refine jO (by assumption) ?_|refine jP (by assumption) rfl ?_|refine jQ ?_|refine jR ?_|refine jS ?_|refine jT ?_|refine jU (by assumption) rfl ?_))
  have hx63 : x < 9223372036854775808 := by omega
  refine M.call_i (reason12_ret (hT.keep k04 (fun _ _ _ h => h)) R4 (hl.keep k04 (fun _ _ _ h => h)) (fun c hc => by have := hlc c hc; omega) hx0 hx63) ?_; rintro r5 w5 ⟨g5, k5⟩
  have k05 := k04.trans k5 (fun _ _ h => h)
  have R5 := hR.keep k05
  have c0 : w5.cell? ⟨n1, 0, none⟩ = some (ptr b) := (cx _ k05).1.cell rfl
  have cl : w5.cell? ⟨b, 69, none⟩ = some (vi m.left) := R5.blk.cell R5.lc.c69
  have hml := hm.left
  have hmlen := hm.len
  (repeat (first|refine ja ?_|refine jb ?_|refine jc ?_|refine jd ?_|refine je ?_|refine jf ?_|refine jg ?_|refine jh ?_|refine ji ?_|refine jj ?_|refine jk ?_|refine jl ?_|refine jm ?_|refine jn ?_|refine jo ?_|refine jp ?_|refine jq ?_|refine jr ?_|refine js ?_|refine jt ?_|refine ju ?_|refine jv ?_|refine jw ?_|refine jx ?_|refine jy ?_|refine jz ?_|refine jA ?_|refine jB ?_|refine jC ?_|refine jD ?_|refine jE ?_|refine jF ?_|refine jG ?_|refine jH ?_|refine jI ?_|refine jJ ?_|refine jK ?_|refine jL ?_|refine jM (by assumption) ?_|refine jN (by assumption) rfl ?_|refine jO (by assumption) ?_|refine jP (by assumption) rfl ?_|refine jQ ?_|refine jR ?_|refine jS ?_|refine jT ?_|refine jU (by assumption) rfl ?_))
  refine M.store_i R5.blk (by rw [R5.lc.len]; omega) rfl (fun w6 b6 k6 s6 => ?_)
  have hx6 : LBox n1 b (vi 0) (.bool false) w6 := (cx _ k05).keep k6 (fun e => hS _ (.inl rfl) (.inl e)) (fun e => hS _ (.inr (.inl rfl)) (.inl e)) (fun e => hS _ (.inr (.inr rfl)) (.inl e))
  have R6 : LRn n0 w6 b (cs.set 69 (vi (m.left - 1))) p lv mp vs os ⟨m.met, m.others, m.left - 1⟩ :=
    ⟨b6, R5.lc.s69 (m.left - 1) m.others, R5.gv.keep k6 (fun y _ e e2 => (R5.dv y e).2.1 e2), R5.go.keep k6 (fun y _ e e2 => (R5.dd y e).2 e2), R5.dv, R5.dd, R5.b0⟩
  have M6 : LMod b vs os vs os w w6 := ⟨(k05.mono (fun _ _ e => e.elim)).trans k6 (fun y _ e => .inl e), fun _ h => .inl h, fun _ h => .inl h⟩
  have hm6 : LSok ⟨m.met, m.others, m.left - 1⟩ := ⟨hm.rng, hm.nod, ⟨by show 0 ≤ m.left - 1; omega, by show m.left - 1 ≤ (m.met.length : Int); omega⟩, hm.oth⟩
  have kW := M6.keep hR
  have hT6 := hT.keep kW (fun y _ hy e => by have := hlab y hy; have e : n0 ≤ y := e; omega)
  have c0 : w6.cell? ⟨n1, 0, none⟩ = some (ptr b) := hx6.1.cell rfl
  have stop : ∀ w7 m2 cs2 vs2 os2, (∀ rest, lastL t l (x :: rest) m = (m2, none)) → LRn n0 w7 b cs2 p lv mp vs2 os2 m2 → LMod b vs os vs2 os2 w w7 → LBox n1 b (vi 0) (.bool false) w7 →
      M.store 1 (ptr (n1 + 1)) (Value.int IntKind.i64 0) (fun _ w => M.store 1 (ptr (n1 + 1 + 1)) (Value.bool false) (fun _ w => KR w) w) w7 := fun w7 m2 cs2 vs2 os2 e r7 m7 x7 => by
    refine M.store_i x7.2.1 (by simp) rfl (fun w8 b8 k8 s8 => ?_)
    refine M.store_i (x7.2.2.keep k8 (by omega)) (by simp) rfl (fun w9 b9 k9 s9 => ?_)
    exact hKR w7 w9 m2 cs2 vs2 os2 none e r7 m7 (k8.mono (fun y _ e => .inl e) |>.trans k9 (fun y _ e => .inr e)) ⟨(x7.1.keep k8 (by omega)).keep k9 (by omega), b8.keep k9 (by omega), b9⟩
  have heq : ∀ rest, lastL t l (x :: rest) m = match reasonL t l x with
      | none => (⟨m.met, m.others, m.left - 1⟩, none)
      | some c => if (meetL t x c ⟨m.met, m.others, m.left - 1⟩).2 then lastL t l rest (meetL t x c ⟨m.met, m.others, m.left - 1⟩).1 else ((meetL t x c ⟨m.met, m.others, m.left - 1⟩).1, none) := fun rest => by
    rw [lastL_cons, hvv, if_neg hcond, if_neg hl1]
  cases hr : reasonL t l x with
  | none =>
    rw [hr] at g5
    subst g5
    (repeat (first|refine ja ?_|refine jb ?_|refine jc ?_|refine jd ?_|refine je ?_|refine jf ?_|refine jg ?_|refine jh ?_|refine ji ?_|refine jj ?_|refine jk ?_|refine jl ?_|refine jm ?_|refine jn ?_|refine jo ?_|refine jp ?_|refine jq ?_|refine jr ?_|refine js ?_|refine jt ?_|refine ju ?_|refine jv ?_|refine jw ?_|refine jx ?_|refine jy ?_|refine jz ?_|refine jA ?_|refine jB ?_|refine jC ?_|refine jD ?_|refine jE ?_|refine jF ?_|refine jG ?_|refine jH ?_|refine jI ?_|refine jJ ?_|refine jK ?_|refine jL ?_|refine jM (by assumption) ?_|refine jN (by assumption) rfl ?_|refine jO (by assumption) ?_|refine jP (by assumption) rfl ?_|refine jQ ?_|refine jR ?_|refine jS ?_|refine jT ?_|refine jU (by assumption) rfl ?_))
    exact stop _ _ _ _ _ (fun rest => by rw [heq, hr]) R6 M6 hx6
  | some c =>
    rw [hr] at g5
    obtain ⟨g5, A5, n5, c5, rfl⟩ := g5
    have hcl : c.length ≤ 1000 := by
      unfold reasonL at hr
      split at hr
      · split at hr
        · rename_i c' hc'
          split at hr
          · cases hr; exact hlc _ (List.mem_of_getElem? hc')
          · cases hr
        · cases hr
      · cases hr
    have g6 := g5.keep k6 (fun y _ e e2 => by have e : y < n0 := e; have e2 : y = b := e2; have := hR.b0; omega)
    (repeat (first|refine ja ?_|refine jb ?_|refine jc ?_|refine jd ?_|refine je ?_|refine jf ?_|refine jg ?_|refine jh ?_|refine ji ?_|refine jj ?_|refine jk ?_|refine jl ?_|refine jm ?_|refine jn ?_|refine jo ?_|refine jp ?_|refine jq ?_|refine jr ?_|refine js ?_|refine jt ?_|refine ju ?_|refine jv ?_|refine jw ?_|refine jx ?_|refine jy ?_|refine jz ?_|refine jA ?_|refine jB ?_|refine jC ?_|refine jD ?_|refine jE ?_|refine jF ?_|refine jG ?_|refine jH ?_|refine jI ?_|refine jJ ?_|refine jK ?_|refine jL ?_|refine jM (by assumption) ?_|refine jN (by assumption) rfl ?_|refine jO (by assumption) ?_|refine jP (by assumption) rfl ?_|refine jQ ?_|refine jR ?_|refine jS ?_|refine jT ?_|refine jU (by assumption) rfl ?_))
    refine M.call_i (meet12_ret hT6 hlab hf hv R6 hm6 g6 hcl x) ?_; rintro _ w7 ⟨rfl, cs7, vs7, os7, R7, M7⟩
    have hmok := hm6.meetL hf hv (but := x) (c := c)
    have hmleft := meetL_left t x c ⟨m.met, m.others, m.left - 1⟩
    have M07 := M6.trans M7
    have hx7 : LBox n1 b (vi 0) (.bool false) w7 := hx6.keep M7.1 (fun e => hS _ (.inl rfl) e) (fun e => hS _ (.inr (.inl rfl)) e) (fun e => hS _ (.inr (.inr rfl)) e)
    cases hok : (meetL t x c ⟨m.met, m.others, m.left - 1⟩).2 with
    | true =>
      (repeat (first|refine ja ?_|refine jb ?_|refine jc ?_|refine jd ?_|refine je ?_|refine jf ?_|refine jg ?_|refine jh ?_|refine ji ?_|refine jj ?_|refine jk ?_|refine jl ?_|refine jm ?_|refine jn ?_|refine jo ?_|refine jp ?_|refine jq ?_|refine jr ?_|refine js ?_|refine jt ?_|refine ju ?_|refine jv ?_|refine jw ?_|refine jx ?_|refine jy ?_|refine jz ?_|refine jA ?_|refine jB ?_|refine jC ?_|refine jD ?_|refine jE ?_|refine jF ?_|refine jG ?_|refine jH ?_|refine jI ?_|refine jJ ?_|refine jK ?_|refine jL ?_|refine jM (by assumption) ?_|refine jN (by assumption) rfl ?_|refine jO (by assumption) ?_|refine jP (by assumption) rfl ?_|refine jQ ?_|refine jR ?_|refine jS ?_|refine jT ?_|refine jU (by assumption) rfl ?_))
      exact hK1 _ _ ⟨rfl, hN _ _ cs7 vs7 os7 (fun rest => by rw [heq, hr]; simp only [hok, if_true]) hmok (by have hmleft : m.left - 1 ≤ _ := hmleft; omega) R7 M07 hx7⟩
    | false =>
      (repeat (first|refine ja ?_|refine jb ?_|refine jc ?_|refine jd ?_|refine je ?_|refine jf ?_|refine jg ?_|refine jh ?_|refine ji ?_|refine jj ?_|refine jk ?_|refine jl ?_|refine jm ?_|refine jn ?_|refine jo ?_|refine jp ?_|refine jq ?_|refine jr ?_|refine js ?_|refine jt ?_|refine ju ?_|refine jv ?_|refine jw ?_|refine jx ?_|refine jy ?_|refine jz ?_|refine jA ?_|refine jB ?_|refine jC ?_|refine jD ?_|refine jE ?_|refine jF ?_|refine jG ?_|refine jH ?_|refine jI ?_|refine jJ ?_|refine jK ?_|refine jL ?_|refine jM (by assumption) ?_|refine jN (by assumption) rfl ?_|refine jO (by assumption) ?_|refine jP (by assumption) rfl ?_|refine jQ ?_|refine jR ?_|refine jS ?_|refine jT ?_|refine jU (by assumption) rfl ?_))
      exact stop _ _ _ _ _ (fun rest => by rw [heq, hr]; simp only [hok, Bool.false_eq_true, if_false]) R7 M07 hx7
end
end Go.Proofs.Ytnmbgfonlpjicaa
