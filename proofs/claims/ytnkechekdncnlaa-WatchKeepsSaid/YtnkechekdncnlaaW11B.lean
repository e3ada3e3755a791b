import Derived.Test.YtnkechekdncnlaaW11A
namespace Go.Proofs.Ytnkechekdncnlaa
open Go.Mw
set_option linter.unusedVariables false
set_option linter.unusedSimpArgs false
set_option maxRecDepth 100000
attribute [local irreducible] M.val M.unit M.next M.pick M.new M.nilCheck M.load1 M.loadA M.store M.fieldAddr M.indexSl M.indexArr M.slice M.makeSlice M.buildSlice M.len M.lenS M.cap M.append M.extract M.conv M.not M.neg M.bin M.shift M.eqB M.eqNil M.call M.callv M.gd M.share M.cond M.loop M.draw pureW readW Ret
/-! breakwater/breakwaterlaw11.few: function 15 -/
def sh15 (x0 : Value) (R : Kt) (w : World) : Prop :=
  M.len x0 (fun t5 w =>
  M.bin .gtr t5 (Value.int IntKind.i64 60) (fun t6 w =>
  M.cond t6
  (R (Value.bool false) w)
  (M.loop [(Value.int IntKind.i64 0)] (fun s1 K1 w => ∀ _ : List Value,
  M.len x0 (fun t9 w =>
  M.bin .lss (s1.getD 0 undef) t9 (fun t10 w =>
  M.cond t10
  (M.indexSl 3 x0 (s1.getD 0 undef) (fun t15 w =>
  M.fieldAddr 2 t15 (fun t16 w =>
  M.load1 t16 (fun t17 w =>
  M.len t17 (fun t18 w =>
  M.bin .gtr t18 (Value.int IntKind.i64 12) (fun t19 w =>
  M.cond t19
  (R (Value.bool false) w)
  (M.bin .add (s1.getD 0 undef) (Value.int IntKind.i64 1) (fun t12 w =>
  K1 [t12] w) w)) w) w) w) w) w)
  (R (Value.bool true) w)) w) w) w)) w) w
theorem ok15 (x0 : Value) (R : Kt) (w : World) (h : sh15 x0 R w) : Ret Try.prog 15 #[x0] w R :=
  ret_mk <| calls_of_comp mixed (c := Try.f15.body.getD .skip) (args := [x0]) (rs := [(ResultVar.tmp 2)]) (Ann.seq Ann.text (Ann.seq (Ann.seq Ann.text (Ann.cond (Ann.seq Ann.text Ann.leaf) Ann.leaf)) (Ann.seq (Ann.seq Ann.text (Ann.block (Ann.loop [3] [2, 7, 8, 9, 10, 11, 12, 13, 14, 15, 16, 17, 18, 19] (Ann.seq (Ann.seq Ann.text (Ann.cond Ann.leaf Ann.leaf)) (Ann.seq (Ann.block (Ann.seq Ann.text (Ann.cond (Ann.seq Ann.text Ann.leaf) Ann.leaf))) Ann.text))))) (Ann.seq Ann.text Ann.leaf))))
    Try.func15 (by kernel_rfl) (by kernel_rfl)
    (Eq.mp (by kernel_rfl) h)
/-! breakwater/breakwaterlaw11.first: function 38 -/
def sh38 (x0 : Value) (R : Kt) (w : World) : Prop :=
  M.new 24 (Value.cells x0) (fun t1 w =>
  M.fieldAddr 2 t1 (fun t3 w =>
  M.load1 t3 (fun t4 w =>
  M.len t4 (fun t5 w =>
  M.bin .eql t5 (Value.int IntKind.i64 0) (fun t6 w =>
  M.cond t6
  (R (Value.int IntKind.i64 (-1)) w)
  (M.fieldAddr 2 t1 (fun t7 w =>
  M.load1 t7 (fun t8 w =>
  M.indexSl 1 t8 (Value.int IntKind.i64 0) (fun t9 w =>
  M.load1 t9 (fun t10 w =>
  R t10 w) w) w) w) w)) w) w) w) w) w
theorem ok38 (x0 : Value) (R : Kt) (w : World) (h : sh38 x0 R w) : Ret Try.prog 38 #[x0] w R :=
  ret_mk <| calls_of_comp mixed (c := Try.f38.body.getD .skip) (args := [x0]) (rs := [(ResultVar.tmp 2)]) (Ann.seq Ann.text (Ann.seq (Ann.seq Ann.text (Ann.cond (Ann.seq Ann.text Ann.leaf) Ann.leaf)) (Ann.seq Ann.text Ann.leaf)))
    Try.func38 (by kernel_rfl) (by kernel_rfl)
    (Eq.mp (by kernel_rfl) h)
/-! breakwater/breakwaterlaw11.used: function 35 -/
def sh35 (x0 x1 : Value) (R : Kt) (w : World) : Prop :=
  M.call Try.prog 27 #[x0] (fun t8 w =>
  M.loop [(Value.int IntKind.i64 0)] (fun s1 K1 w => ∀ _ : List Value,
  M.len t8 (fun t11 w =>
  M.bin .lss (s1.getD 0 undef) t11 (fun t12 w =>
  M.cond t12
  (M.indexSl 1 t8 (s1.getD 0 undef) (fun t18 w =>
  M.load1 t18 (fun t19 w =>
  M.bin .quo t19 (Value.int IntKind.i64 2) (fun t20 w =>
  M.call Try.prog 33 #[x0, t20] (fun t21 w =>
  M.bin .eql t21 x1 (fun t23 w =>
  M.cond t23
  (R (Value.bool true) w)
  (M.bin .add (s1.getD 0 undef) (Value.int IntKind.i64 1) (fun t14 w =>
  K1 [t14] w) w)) w) w) w) w) w)
  (R (Value.bool false) w)) w) w) w) w
theorem ok35 (x0 x1 : Value) (R : Kt) (w : World) (h : sh35 x0 x1 R w) : Ret Try.prog 35 #[x0, x1] w R :=
  ret_mk <| calls_of_comp mixed (c := Try.f35.body.getD .skip) (args := [x0, x1]) (rs := [(ResultVar.tmp 4)]) (Ann.seq Ann.text (Ann.seq Ann.text (Ann.seq (Ann.seq Ann.text (Ann.block (Ann.loop [6] [4, 9, 10, 11, 12, 13, 14, 15, 16, 17, 18, 19, 20, 21, 22, 23] (Ann.seq (Ann.seq Ann.text (Ann.cond Ann.leaf Ann.leaf)) (Ann.seq (Ann.block (Ann.seq Ann.text (Ann.cond (Ann.seq Ann.text Ann.leaf) Ann.leaf))) Ann.text))))) (Ann.seq Ann.text Ann.leaf))))
    Try.func35 (by kernel_rfl) (by kernel_rfl)
    (Eq.mp (by kernel_rfl) h)
/-! breakwater/breakwaterlaw11.held: function 41 -/
def sh41 (x0 x1 : Value) (R : Kt) (w : World) : Prop :=
  M.new 48 (Value.cells x1) (fun t3 w =>
  M.call Try.prog 27 #[x0] (fun t10 w =>
  M.loop [(Value.int IntKind.i64 0)] (fun s1 K1 w => ∀ _ : List Value,
  M.len t10 (fun t13 w =>
  M.bin .lss (s1.getD 0 undef) t13 (fun t14 w =>
  M.cond t14
  (M.share (fun K2 w =>
  M.indexSl 1 t10 (s1.getD 0 undef) (fun t20 w =>
  M.load1 t20 (fun t21 w =>
  M.bin .quo t21 (Value.int IntKind.i64 2) (fun t22 w =>
  M.call Try.prog 33 #[x0, t22] (fun t23 w =>
  M.bin .lss t23 (Value.int IntKind.i64 0) (fun t25 w =>
  M.cond t25
  (K2 [] w)
  (M.draw (fun w =>
  M.loadA 3 t3 (fun t26 w =>
  M.call Try.prog 42 #[t26, t23] (fun t28 w =>
  M.not t28 (fun t29 w =>
  M.gd t29 false (fun k w => M.fieldAddr 1 t3 k w) (fun t31 w =>
  M.gd t29 false (fun k w => M.load1 t31 k w) (fun t32 w =>
  M.gd t29 false (fun k w => k t23 w) (fun t33 w =>
  M.gd t29 false (fun k w => M.indexSl 1 t32 t33 k w) (fun t34 w =>
  M.gd t29 false (fun k w => M.load1 t34 k w) (fun t35 w =>
  M.gd t29 false (fun k w => k t10 w) (fun t36 w =>
  M.gd t29 false (fun k w => k (s1.getD 0 undef) w) (fun t37 w =>
  M.gd t29 false (fun k w => M.indexSl 1 t36 t37 k w) (fun t38 w =>
  M.gd t29 false (fun k w => M.load1 t38 k w) (fun t39 w =>
  M.gd t29 false (fun k w => M.call Try.prog 54 #[t35, t39] k w) (fun t40 w =>
  ((M.gd t29 false (fun k w => M.load1 t31 k w) (fun v' _ => v' = t32) w) ∧ M.gd t29 false (fun k w => M.not t40 k w) (fun t41 w =>
  M.pick t29 (Value.bool true) t41 (fun t42 w =>
  M.cond t42
  (R (Value.bool false) w)
  (M.loop [(Value.int IntKind.i64 0)] (fun s3 K3 w => ∀ _ : List Value,
  M.fieldAddr 1 t3 (fun t44 w =>
  M.load1 t44 (fun t45 w =>
  M.indexSl 1 t45 t23 (fun t47 w =>
  M.load1 t47 (fun t48 w =>
  M.len t48 (fun t49 w =>
  M.bin .lss (s3.getD 0 undef) t49 (fun t50 w =>
  M.cond t50
  (M.draw (fun w =>
  M.fieldAddr 1 t3 (fun t53 w =>
  M.load1 t53 (fun t54 w =>
  M.indexSl 1 t54 t23 (fun t56 w =>
  M.load1 t56 (fun t57 w =>
  M.indexSl 1 t57 (s3.getD 0 undef) (fun t59 w =>
  M.load1 t59 (fun t60 w =>
  M.indexSl 1 t10 (s1.getD 0 undef) (fun t63 w =>
  M.load1 t63 (fun t64 w =>
  M.bin .neq t60 t64 (fun t65 w =>
  M.gd t65 true (fun k w => k t10 w) (fun t67 w =>
  M.gd t65 true (fun k w => k (s1.getD 0 undef) w) (fun t68 w =>
  M.gd t65 true (fun k w => M.slice 1 t67 none (some t68) none k w) (fun t69 w =>
  M.gd t65 true (fun k w => M.fieldAddr 1 t3 k w) (fun t70 w =>
  M.gd t65 true (fun k w => M.load1 t70 k w) (fun t71 w =>
  M.gd t65 true (fun k w => k t23 w) (fun t72 w =>
  M.gd t65 true (fun k w => M.indexSl 1 t71 t72 k w) (fun t73 w =>
  M.gd t65 true (fun k w => M.load1 t73 k w) (fun t74 w =>
  M.gd t65 true (fun k w => k (s3.getD 0 undef) w) (fun t75 w =>
  M.gd t65 true (fun k w => M.indexSl 1 t74 t75 k w) (fun t76 w =>
  M.gd t65 true (fun k w => M.load1 t76 k w) (fun t77 w =>
  M.gd t65 true (fun k w => M.call Try.prog 55 #[t77] k w) (fun t78 w =>
  ((M.gd t65 true (fun k w => M.load1 t73 k w) (fun v' _ => v' = t74) w) ∧ ((M.gd t65 true (fun k w => M.load1 t70 k w) (fun v' _ => v' = t71) w) ∧ ((M.load1 t63 (fun v' _ => v' = t64) w) ∧ ((M.load1 t59 (fun v' _ => v' = t60) w) ∧ ((M.load1 t56 (fun v' _ => v' = t57) w) ∧ ((M.load1 t53 (fun v' _ => v' = t54) w) ∧ M.gd t65 true (fun k w => M.call Try.prog 54 #[t69, t78] k w) (fun t79 w =>
  ((M.gd t65 true (fun k w => M.load1 t73 k w) (fun v' _ => v' = t74) w) ∧ ((M.gd t65 true (fun k w => M.load1 t70 k w) (fun v' _ => v' = t71) w) ∧ ((M.load1 t63 (fun v' _ => v' = t64) w) ∧ ((M.load1 t59 (fun v' _ => v' = t60) w) ∧ ((M.load1 t56 (fun v' _ => v' = t57) w) ∧ ((M.load1 t53 (fun v' _ => v' = t54) w) ∧ M.gd t65 true (fun k w => M.not t79 k w) (fun t80 w =>
  M.pick t65 t80 (Value.bool false) (fun t81 w =>
  M.cond t81
  (R (Value.bool false) w)
  (M.bin .add (s3.getD 0 undef) (Value.int IntKind.i64 1) (fun t52 w =>
  K3 [t52] w) w)) w) w))))))) w))))))) w) w) w) w) w) w) w) w) w) w) w) w) w) w) w) w) w) w) w) w) w) w)
  (K2 [] w)) w) w) w) w) w) w) w)) w) w)) w) w) w) w) w) w) w) w) w) w) w) w) w) w)) w) w) w) w) w) (fun s2 w => ∀ _ : List Value,
  M.bin .add (s1.getD 0 undef) (Value.int IntKind.i64 1) (fun t16 w =>
  K1 [t16] w) w) w)
  (R (Value.bool true) w)) w) w) w) w) w
theorem ok41 (x0 x1 : Value) (R : Kt) (w : World) (h : sh41 x0 x1 R w) : Ret Try.prog 41 #[x0, x1] w R :=
  ret_mk <| calls_of_comp mixed (c := Try.f41.body.getD .skip) (args := [x0, x1]) (rs := [(ResultVar.tmp 4)]) (Ann.seq Ann.text (Ann.seq Ann.text (Ann.seq (Ann.seq Ann.text (Ann.block (Ann.loop [6] [4, 7, 8, 11, 12, 13, 14, 15, 16, 17, 18, 19, 20, 21, 22, 23, 24, 25, 26, 27, 28, 29, 30, 31, 32, 33, 34, 35, 36, 37, 38, 39, 40, 41, 42, 43, 44, 45, 46, 47, 48, 49, 50, 51, 52, 53, 54, 55, 56, 57, 58, 59, 60, 61, 62, 63, 64, 65, 66, 67, 68, 69, 70, 71, 72, 73, 74, 75, 76, 77, 78, 79, 80, 81] (Ann.seq (Ann.seq Ann.text (Ann.cond Ann.leaf Ann.leaf)) (Ann.seq (Ann.jblock [] [4, 7, 8, 17, 18, 19, 20, 21, 22, 23, 24, 25, 26, 27, 28, 29, 30, 31, 32, 33, 34, 35, 36, 37, 38, 39, 40, 41, 42, 43, 44, 45, 46, 47, 48, 49, 50, 51, 52, 53, 54, 55, 56, 57, 58, 59, 60, 61, 62, 63, 64, 65, 66, 67, 68, 69, 70, 71, 72, 73, 74, 75, 76, 77, 78, 79, 80, 81] (Ann.seq Ann.text (Ann.seq (Ann.seq Ann.text (Ann.cond Ann.leaf Ann.leaf)) (Ann.seq (Ann.seq (Ann.draw (Sch.take 0 (Sch.take 1 (Sch.one 2 (Sch.take 3 (Sch.take 4 (Sch.take 5 (Sch.take 6 (Sch.take 7 (Sch.take 8 (Sch.take 9 (Sch.take 10 (Sch.take 11 (Sch.take 12 (Sch.take 13 (Sch.one 14 (Sch.take 15 (Sch.take 16 Sch.done)))))))))))))))))) (Ann.cond (Ann.seq Ann.text Ann.leaf) Ann.leaf)) (Ann.seq Ann.text (Ann.block (Ann.loop [8] [4, 43, 44, 45, 46, 47, 48, 49, 50, 51, 52, 53, 54, 55, 56, 57, 58, 59, 60, 61, 62, 63, 64, 65, 66, 67, 68, 69, 70, 71, 72, 73, 74, 75, 76, 77, 78, 79, 80, 81] (Ann.seq (Ann.seq Ann.text (Ann.cond Ann.leaf Ann.leaf)) (Ann.seq (Ann.block (Ann.seq (Ann.draw (Sch.take 0 (Sch.take 1 (Sch.take 2 (Sch.take 3 (Sch.take 4 (Sch.take 5 (Sch.take 6 (Sch.take 7 (Sch.take 8 (Sch.take 9 (Sch.take 10 (Sch.take 11 (Sch.take 12 (Sch.take 13 (Sch.take 14 (Sch.take 15 (Sch.take 16 (Sch.take 17 (Sch.take 18 (Sch.take 19 (Sch.take 20 (Sch.take 21 (Sch.take 22 (Sch.take 23 (Sch.take 24 (Sch.one 25 (Sch.one 26 (Sch.take 27 (Sch.take 28 Sch.done)))))))))))))))))))))))))))))) (Ann.cond (Ann.seq Ann.text Ann.leaf) Ann.leaf))) Ann.text))))))))) Ann.text))))) (Ann.seq Ann.text Ann.leaf))))
    Try.func41 (by kernel_rfl) (by kernel_rfl)
    (Eq.mp (by kernel_rfl) h)

structure Dd where
  kind : Int
  n : Int
  l : List Int
abbrev Dc := Int × Int × Value
def dcl (c : Dc) : List Value := [vi c.1, vi c.2.1, c.2.2]
theorem dcl_len (c : Dc) : (dcl c).length = 3 := rfl
structure DLr (w : World) (D : Nat → Prop) (A : Option Addr) (cs : List Dc) (ds : List Dd) : Prop where
  row : Row w D A (cs.flatMap dcl)
  len : cs.length = ds.length
  all : ∀ (i : Nat) d, ds[i]? = some d → ∃ u, cs[i]? = some (d.kind, d.n, u) ∧ LV vi w D u d.l
def DL (w : World) (D : Nat → Prop) (v : Value) (ds : List Dd) : Prop := ∃ A c cs, v = .slice A ds.length c ∧ DLr w D A cs ds ∧ ds.length ≤ c
theorem DLr.keep {w w' : World} {D S : Nat → Prop} {A : Option Addr} {cs : List Dc} {ds : List Dd} (h : DLr w D A cs ds) (k : Keep w w' S) (hs : ∀ b, b < w.heap.size → D b → ¬ S b) : DLr w' D A cs ds :=
  ⟨h.row.keep k hs, h.len, fun i c hc => by obtain ⟨u, g1, g2⟩ := h.all i c hc; exact ⟨u, g1, g2.keep k hs⟩⟩
theorem DL.keep {w w' : World} {D S : Nat → Prop} {v : Value} {ds : List Dd} (h : DL w D v ds) (k : Keep w w' S) (hs : ∀ b, b < w.heap.size → D b → ¬ S b) : DL w' D v ds := by
  obtain ⟨A, c, cs, h1, h2, h3⟩ := h
  exact ⟨A, c, cs, h1, h2.keep k hs, h3⟩
theorem M.idxD_i {k : Kt} {w : World} {D : Nat → Prop} {A : Option Addr} {cs : List Dc} {ds : List Dd} {n cc : Nat} {i : Nat} {d : Dd} (h : DLr w D A cs ds) (hn : ds.length = n) (hd : ds[i]? = some d)
    (hk : ∀ b o u, w.cell? ⟨b, o, none⟩ = some (vi d.kind) → w.cell? ⟨b, o + 1, none⟩ = some (vi d.n) → w.cell? ⟨b, o + 2, none⟩ = some u → LV vi w D u d.l → k (.pointer (some ⟨b, o, none⟩)) w) : M.indexSl 3 (.slice A n cc) (vi i) k w := by
  obtain ⟨u, g1, g2⟩ := h.all i d hd
  refine M.idxF_i dcl_len (by omega) h.row (by rw [h.len, hn]) (by omega) (x := (d.kind, d.n, u)) (by rw [Int.toNat_natCast]; exact g1) (fun b o hc => ?_)
  exact hk b o u (hc 0 _ rfl) (hc 1 _ rfl) (hc 2 _ rfl) g2
def fewD (ds : List Dd) : Bool := decide (ds.length ≤ 60) && ds.all (fun d => decide (d.l.length ≤ 12))
theorem few11_ret {w : World} {D : Nat → Prop} {v : Value} {ds : List Dd} (h : DL w D v ds) : Ret Try.prog 15 #[v] w (fun r w' => r = .bool (fewD ds) ∧ Keep w w' No) := by
  obtain ⟨A, c, cs, rfl, hr, hc⟩ := h
  refine ok15 _ _ _ ?_
  unfold sh15
  by_cases h60 : ds.length ≤ 60
  · (repeat (first|refine ja ?_|refine jb ?_|refine jc ?_|refine jd ?_|refine je ?_|refine jf ?_|refine jg ?_|refine jh ?_|refine ji ?_|refine jj ?_|refine jk ?_|refine jl ?_|refine jm ?_|refine jn ?_|refine jo ?_|refine jp ?_|refine jq ?_|refine jr ?_|refine js ?_|refine jt ?_|refine ju ?_|refine jv ?_|refine jw ?_|refine jx ?_|refine jy ?_|refine jz ?_|refine jA ?_|refine jB ?_|refine jC ?_|refine jD ?_|refine jE ?_|refine jF ?_|refine jG ?_|refine jH ?_|refine jI ?_|refine jJ ?_|refine jK ?_|refine jL ?_|refine jM (by assumption) ?_|refine jN (by assumption) rfl ?_|refine jO (by assumption) ?_|refine jP (by assumption) rfl ?_|refine jQ ?_|refine jR ?_|refine jS ?_|refine jT ?_|refine jU (by assumption) rfl ?_))
    refine M.loop_i (σ := Nat) (fun i vals w' => vals = [vi i] ∧ i ≤ ds.length ∧ (∀ d ∈ ds.take i, d.l.length ≤ 12) ∧ Keep w w' No) (fun i => ds.length - i) 0 ⟨rfl, by omega, by simp, Keep.refl _ _⟩ ?_
    rintro i vals w1 K ⟨rfl, hi, hok, k1⟩ hK _
    simp only [List.getD_cons_zero, List.getD_cons_succ]
    by_cases hlt : i < ds.length
    · obtain ⟨d, hd⟩ : ∃ d, ds[i]? = some d := ⟨_, List.getElem?_eq_getElem hlt⟩
      (repeat (first|refine ja ?_|refine jb ?_|refine jc ?_|refine jd ?_|refine je ?_|refine jf ?_|refine jg ?_|refine jh ?_|refine ji ?_|refine jj ?_|refine jk ?_|refine jl ?_|refine jm ?_|refine jn ?_|refine jo ?_|refine jp ?_|refine jq ?_|refine jr ?_|refine js ?_|refine jt ?_|refine ju ?_|refine jv ?_|refine jw ?_|refine jx ?_|refine jy ?_|refine jz ?_|refine jA ?_|refine jB ?_|refine jC ?_|refine jD ?_|refine jE ?_|refine jF ?_|refine jG ?_|refine jH ?_|refine jI ?_|refine jJ ?_|refine jK ?_|refine jL ?_|refine jM (by assumption) ?_|refine jN (by assumption) rfl ?_|refine jO (by assumption) ?_|refine jP (by assumption) rfl ?_|refine jQ ?_|refine jR ?_|refine jS ?_|refine jT ?_|refine jU (by assumption) rfl ?_))
      refine M.idxD_i (hr.keep k1 (fun _ _ _ h => h)) rfl hd (fun bb oo u c0 c1 c2 g => ?_)
      obtain ⟨Q, cq, rfl, _, _⟩ := g
      (repeat (first|refine ja ?_|refine jb ?_|refine jc ?_|refine jd ?_|refine je ?_|refine jf ?_|refine jg ?_|refine jh ?_|refine ji ?_|refine jj ?_|refine jk ?_|refine jl ?_|refine jm ?_|refine jn ?_|refine jo ?_|refine jp ?_|refine jq ?_|refine jr ?_|refine js ?_|refine jt ?_|refine ju ?_|refine jv ?_|refine jw ?_|refine jx ?_|refine jy ?_|refine jz ?_|refine jA ?_|refine jB ?_|refine jC ?_|refine jD ?_|refine jE ?_|refine jF ?_|refine jG ?_|refine jH ?_|refine jI ?_|refine jJ ?_|refine jK ?_|refine jL ?_|refine jM (by assumption) ?_|refine jN (by assumption) rfl ?_|refine jO (by assumption) ?_|refine jP (by assumption) rfl ?_|refine jQ ?_|refine jR ?_|refine jS ?_|refine jT ?_|refine jU (by assumption) rfl ?_))
      by_cases h12 : d.l.length ≤ 12
      · (repeat (first|refine ja ?_|refine jb ?_|refine jc ?_|refine jd ?_|refine je ?_|refine jf ?_|refine jg ?_|refine jh ?_|refine ji ?_|refine jj ?_|refine jk ?_|refine jl ?_|refine jm ?_|refine jn ?_|refine jo ?_|refine jp ?_|refine jq ?_|refine jr ?_|refine js ?_|refine jt ?_|refine ju ?_|refine jv ?_|refine jw ?_|refine jx ?_|refine jy ?_|refine jz ?_|refine jA ?_|refine jB ?_|refine jC ?_|refine jD ?_|refine jE ?_|refine jF ?_|refine jG ?_|refine jH ?_|refine jI ?_|refine jJ ?_|refine jK ?_|refine jL ?_|refine jM (by assumption) ?_|refine jN (by assumption) rfl ?_|refine jO (by assumption) ?_|refine jP (by assumption) rfl ?_|refine jQ ?_|refine jR ?_|refine jS ?_|refine jT ?_|refine jU (by assumption) rfl ?_))
        refine hK (i + 1) _ _ (by omega) ⟨rfl, by omega, fun e he => ?_, k1⟩
        rw [List.take_add_one, hd] at he
        rcases List.mem_append.1 he with he | he
        · exact hok e he
        · simp at he; subst he; exact h12
      · (repeat (first|refine ja ?_|refine jb ?_|refine jc ?_|refine jd ?_|refine je ?_|refine jf ?_|refine jg ?_|refine jh ?_|refine ji ?_|refine jj ?_|refine jk ?_|refine jl ?_|refine jm ?_|refine jn ?_|refine jo ?_|refine jp ?_|refine jq ?_|refine jr ?_|refine js ?_|refine jt ?_|refine ju ?_|refine jv ?_|refine jw ?_|refine jx ?_|refine jy ?_|refine jz ?_|refine jA ?_|refine jB ?_|refine jC ?_|refine jD ?_|refine jE ?_|refine jF ?_|refine jG ?_|refine jH ?_|refine jI ?_|refine jJ ?_|refine jK ?_|refine jL ?_|refine jM (by assumption) ?_|refine jN (by assumption) rfl ?_|refine jO (by assumption) ?_|refine jP (by assumption) rfl ?_|refine jQ ?_|refine jR ?_|refine jS ?_|refine jT ?_|refine jU (by assumption) rfl ?_))
        refine ⟨?_, k1⟩
        have : ds.all (fun d => decide (d.l.length ≤ 12)) = false := by
          rw [List.all_eq_false]
          exact ⟨d, List.mem_of_getElem? hd, by simpa using h12⟩
        unfold fewD
        rw [this, Bool.and_false]
    · have e : i = ds.length := by omega
      subst e
      rw [List.take_length] at hok
      (repeat (first|refine ja ?_|refine jb ?_|refine jc ?_|refine jd ?_|refine je ?_|refine jf ?_|refine jg ?_|refine jh ?_|refine ji ?_|refine jj ?_|refine jk ?_|refine jl ?_|refine jm ?_|refine jn ?_|refine jo ?_|refine jp ?_|refine jq ?_|refine jr ?_|refine js ?_|refine jt ?_|refine ju ?_|refine jv ?_|refine jw ?_|refine jx ?_|refine jy ?_|refine jz ?_|refine jA ?_|refine jB ?_|refine jC ?_|refine jD ?_|refine jE ?_|refine jF ?_|refine jG ?_|refine jH ?_|refine jI ?_|refine jJ ?_|refine jK ?_|refine jL ?_|refine jM (by assumption) ?_|refine jN (by assumption) rfl ?_|refine jO (by assumption) ?_|refine jP (by assumption) rfl ?_|refine jQ ?_|refine jR ?_|refine jS ?_|refine jT ?_|refine jU (by assumption) rfl ?_))
      refine ⟨?_, k1⟩
      unfold fewD
      rw [decide_eq_true h60, List.all_eq_true.2 (fun d hd => by simpa using hok d hd)]
      rfl
  · (repeat (first|refine ja ?_|refine jb ?_|refine jc ?_|refine jd ?_|refine je ?_|refine jf ?_|refine jg ?_|refine jh ?_|refine ji ?_|refine jj ?_|refine jk ?_|refine jl ?_|refine jm ?_|refine jn ?_|refine jo ?_|refine jp ?_|refine jq ?_|refine jr ?_|refine js ?_|refine jt ?_|refine ju ?_|refine jv ?_|refine jw ?_|refine jx ?_|refine jy ?_|refine jz ?_|refine jA ?_|refine jB ?_|refine jC ?_|refine jD ?_|refine jE ?_|refine jF ?_|refine jG ?_|refine jH ?_|refine jI ?_|refine jJ ?_|refine jK ?_|refine jL ?_|refine jM (by assumption) ?_|refine jN (by assumption) rfl ?_|refine jO (by assumption) ?_|refine jP (by assumption) rfl ?_|refine jQ ?_|refine jR ?_|refine jS ?_|refine jT ?_|refine jU (by assumption) rfl ?_))
    refine ⟨?_, Keep.refl _ _⟩
    unfold fewD
    rw [decide_eq_false h60, Bool.false_and]
theorem first11_ret {w : World} {D : Nat → Prop} {u : Value} {a b : Int} {l : List Int} (h : LV vi w D u l) : Ret Try.prog 38 #[.agg ⟨[vi a, vi b, u]⟩] w (fun r w' => r = vi (firstD l) ∧ Keep w w' No) := by
  obtain ⟨A, c, rfl, hr, hc⟩ := h
  refine ok38 _ _ _ ?_
  unfold sh38
  refine M.new_i (l := [vi a, vi b, .slice A l.length c]) (fun w1 b1 k1 s1 => ?_)
  cases l with
  | nil =>
    simp only [List.length_nil] at b1 ⊢
    (repeat (first|refine ja ?_|refine jb ?_|refine jc ?_|refine jd ?_|refine je ?_|refine jf ?_|refine jg ?_|refine jh ?_|refine ji ?_|refine jj ?_|refine jk ?_|refine jl ?_|refine jm ?_|refine jn ?_|refine jo ?_|refine jp ?_|refine jq ?_|refine jr ?_|refine js ?_|refine jt ?_|refine ju ?_|refine jv ?_|refine jw ?_|refine jx ?_|refine jy ?_|refine jz ?_|refine jA ?_|refine jB ?_|refine jC ?_|refine jD ?_|refine jE ?_|refine jF ?_|refine jG ?_|refine jH ?_|refine jI ?_|refine jJ ?_|refine jK ?_|refine jL ?_|refine jM (by assumption) ?_|refine jN (by assumption) rfl ?_|refine jO (by assumption) ?_|refine jP (by assumption) rfl ?_|refine jQ ?_|refine jR ?_|refine jS ?_|refine jT ?_|refine jU (by assumption) rfl ?_))
    exact ⟨rfl, k1⟩
  | cons y l =>
    have hr1 := hr.keep k1 (fun _ _ _ h => h)
    simp only [List.length_cons] at b1 ⊢
    (repeat (first|refine ja ?_|refine jb ?_|refine jc ?_|refine jd ?_|refine je ?_|refine jf ?_|refine jg ?_|refine jh ?_|refine ji ?_|refine jj ?_|refine jk ?_|refine jl ?_|refine jm ?_|refine jn ?_|refine jo ?_|refine jp ?_|refine jq ?_|refine jr ?_|refine js ?_|refine jt ?_|refine ju ?_|refine jv ?_|refine jw ?_|refine jx ?_|refine jy ?_|refine jz ?_|refine jA ?_|refine jB ?_|refine jC ?_|refine jD ?_|refine jE ?_|refine jF ?_|refine jG ?_|refine jH ?_|refine jI ?_|refine jJ ?_|refine jK ?_|refine jL ?_|refine jM (by assumption) ?_|refine jN (by assumption) rfl ?_|refine jO (by assumption) ?_|refine jP (by assumption) rfl ?_|refine jQ ?_|refine jR ?_|refine jS ?_|refine jT ?_|refine jU (by assumption) rfl ?_))
    refine M.idxLV_i hr1 (by simp) (by omega) (by omega) (x := y) rfl (fun bb oo hA hcc => ?_)
    (repeat (first|refine ja ?_|refine jb ?_|refine jc ?_|refine jd ?_|refine je ?_|refine jf ?_|refine jg ?_|refine jh ?_|refine ji ?_|refine jj ?_|refine jk ?_|refine jl ?_|refine jm ?_|refine jn ?_|refine jo ?_|refine jp ?_|refine jq ?_|refine jr ?_|refine js ?_|refine jt ?_|refine ju ?_|refine jv ?_|refine jw ?_|refine jx ?_|refine jy ?_|refine jz ?_|refine jA ?_|refine jB ?_|refine jC ?_|refine jD ?_|refine jE ?_|refine jF ?_|refine jG ?_|refine jH ?_|refine jI ?_|refine jJ ?_|refine jK ?_|refine jL ?_|refine jM (by assumption) ?_|refine jN (by assumption) rfl ?_|refine jO (by assumption) ?_|refine jP (by assumption) rfl ?_|refine jQ ?_|refine jR ?_|refine jS ?_|refine jT ?_|refine jU (by assumption) rfl ?_))
    exact ⟨rfl, k1⟩
section
variable {w w1 : World} {p q : Nat} {bk : Nat → Nat} {cv : Nat → Value} {wv : Value} {t : Tr} {s : Wt} {O : Nat → Prop} {a b : Value} {x : X11}
theorem Tr.Fine.lt (h : t.Fine) {e : Ent} (he : e ∈ t.L) : 0 ≤ e.lit ∧ e.lit < 2097152 := by
  have h1 := h.mem he
  have h2 := h.len.2.2
  omega
set_option maxHeartbeats 1000000 in
theorem used_ret (h : TWR w p q O bk cv wv t s) (n : Int) : Ret Try.prog 35 #[ptr p, vi n] w (fun r w' => r = .bool (usedB t n) ∧ Keep w w' No) := by
  have hf := h.fine
  have hlen := hf.len
  refine ok35 _ _ _ _ ?_
  unfold sh35
  refine M.call_i (lits_tw h) ?_; rintro lv w1 ⟨g1, k1⟩
  obtain ⟨A, c, rfl, hr, _⟩ := GI.lv g1
  have el : (t.L.map (·.lit)).length = t.L.length := List.length_map _
  refine M.loop_i (σ := Nat) (fun i vals w' => vals = [vi i] ∧ i ≤ t.L.length ∧ (∀ e ∈ t.L.take i, t.rea (e.lit / 2) ≠ n) ∧ Keep w1 w' No) (fun i => t.L.length - i) 0 ⟨rfl, by omega, by simp, Keep.refl _ _⟩ ?_
  rintro i vals w2 K ⟨rfl, hi, hok, k2⟩ hK _
  simp only [List.getD_cons_zero, List.getD_cons_succ]
  have k12 := k1.trans k2 (fun _ _ h => h)
  by_cases hlt : i < t.L.length
  · obtain ⟨e, he⟩ : ∃ e, t.L[i]? = some e := ⟨_, List.getElem?_eq_getElem hlt⟩
    have hb := hf.lt (List.mem_of_getElem? he)
    (repeat (first|refine ja ?_|refine jb ?_|refine jc ?_|refine jd ?_|refine je ?_|refine jf ?_|refine jg ?_|refine jh ?_|refine ji ?_|refine jj ?_|refine jk ?_|refine jl ?_|refine jm ?_|refine jn ?_|refine jo ?_|refine jp ?_|refine jq ?_|refine jr ?_|refine js ?_|refine jt ?_|refine ju ?_|refine jv ?_|refine jw ?_|refine jx ?_|refine jy ?_|refine jz ?_|refine jA ?_|refine jB ?_|refine jC ?_|refine jD ?_|refine jE ?_|refine jF ?_|refine jG ?_|refine jH ?_|refine jI ?_|refine jJ ?_|refine jK ?_|refine jL ?_|refine jM (by assumption) ?_|refine jN (by assumption) rfl ?_|refine jO (by assumption) ?_|refine jP (by assumption) rfl ?_|refine jQ ?_|refine jR ?_|refine jS ?_|refine jT ?_|refine jU (by assumption) rfl ?_))
    refine M.idxLV_i (hr.keep k2 (fun _ _ _ h => h)) rfl (by omega) (by omega) (x := e.lit) (by rw [List.getElem?_map, Int.toNat_natCast, he]; rfl) (fun bb oo hA hcc => ?_)
    (repeat (first|refine ja ?_|refine jb ?_|refine jc ?_|refine jd ?_|refine je ?_|refine jf ?_|refine jg ?_|refine jh ?_|refine ji ?_|refine jj ?_|refine jk ?_|refine jl ?_|refine jm ?_|refine jn ?_|refine jo ?_|refine jp ?_|refine jq ?_|refine jr ?_|refine js ?_|refine jt ?_|refine ju ?_|refine jv ?_|refine jw ?_|refine jx ?_|refine jy ?_|refine jz ?_|refine jA ?_|refine jB ?_|refine jC ?_|refine jD ?_|refine jE ?_|refine jF ?_|refine jG ?_|refine jH ?_|refine jI ?_|refine jJ ?_|refine jK ?_|refine jL ?_|refine jM (by assumption) ?_|refine jN (by assumption) rfl ?_|refine jO (by assumption) ?_|refine jP (by assumption) rfl ?_|refine jQ ?_|refine jR ?_|refine jS ?_|refine jT ?_|refine jU (by assumption) rfl ?_))
    refine M.quo2_i (by omega) (by omega) ?_
    refine M.call_i (rea_tw (h.keepN k12) (e.lit / 2)) ?_; rintro _ w3 ⟨rfl, k3⟩
    have k23 := k2.trans k3 (fun _ _ h => h)
    by_cases hn : t.rea (e.lit / 2) = n
    · (repeat (first|refine ja ?_|refine jb ?_|refine jc ?_|refine jd ?_|refine je ?_|refine jf ?_|refine jg ?_|refine jh ?_|refine ji ?_|refine jj ?_|refine jk ?_|refine jl ?_|refine jm ?_|refine jn ?_|refine jo ?_|refine jp ?_|refine jq ?_|refine jr ?_|refine js ?_|refine jt ?_|refine ju ?_|refine jv ?_|refine jw ?_|refine jx ?_|refine jy ?_|refine jz ?_|refine jA ?_|refine jB ?_|refine jC ?_|refine jD ?_|refine jE ?_|refine jF ?_|refine jG ?_|refine jH ?_|refine jI ?_|refine jJ ?_|refine jK ?_|refine jL ?_|refine jM (by assumption) ?_|refine jN (by assumption) rfl ?_|refine jO (by assumption) ?_|refine jP (by assumption) rfl ?_|refine jQ ?_|refine jR ?_|refine jS ?_|refine jT ?_|refine jU (by assumption) rfl ?_))
      refine ⟨?_, k1.trans k23 (fun _ _ h => h)⟩
      have : usedB t n = true := List.any_eq_true.2 ⟨e, List.mem_of_getElem? he, by simpa using hn⟩
      rw [this]
    · (repeat (first|refine ja ?_|refine jb ?_|refine jc ?_|refine jd ?_|refine je ?_|refine jf ?_|refine jg ?_|refine jh ?_|refine ji ?_|refine jj ?_|refine jk ?_|refine jl ?_|refine jm ?_|refine jn ?_|refine jo ?_|refine jp ?_|refine jq ?_|refine jr ?_|refine js ?_|refine jt ?_|refine ju ?_|refine jv ?_|refine jw ?_|refine jx ?_|refine jy ?_|refine jz ?_|refine jA ?_|refine jB ?_|refine jC ?_|refine jD ?_|refine jE ?_|refine jF ?_|refine jG ?_|refine jH ?_|refine jI ?_|refine jJ ?_|refine jK ?_|refine jL ?_|refine jM (by assumption) ?_|refine jN (by assumption) rfl ?_|refine jO (by assumption) ?_|refine jP (by assumption) rfl ?_|refine jQ ?_|refine jR ?_|refine jS ?_|refine jT ?_|refine jU (by assumption) rfl ?_))
      refine hK (i + 1) _ _ (by omega) ⟨rfl, by omega, fun f hf => ?_, k23⟩
      rw [List.take_add_one, he] at hf
      rcases List.mem_append.1 hf with hf | hf
      · exact hok f hf
      · simp at hf; subst hf; exact hn
  · have e : i = t.L.length := by omega
    subst e
    rw [List.take_length] at hok
    (repeat (first|refine ja ?_|refine jb ?_|refine jc ?_|refine jd ?_|refine je ?_|refine jf ?_|refine jg ?_|refine jh ?_|refine ji ?_|refine jj ?_|refine jk ?_|refine jl ?_|refine jm ?_|refine jn ?_|refine jo ?_|refine jp ?_|refine jq ?_|refine jr ?_|refine js ?_|refine jt ?_|refine ju ?_|refine jv ?_|refine jw ?_|refine jx ?_|refine jy ?_|refine jz ?_|refine jA ?_|refine jB ?_|refine jC ?_|refine jD ?_|refine jE ?_|refine jF ?_|refine jG ?_|refine jH ?_|refine jI ?_|refine jJ ?_|refine jK ?_|refine jL ?_|refine jM (by assumption) ?_|refine jN (by assumption) rfl ?_|refine jO (by assumption) ?_|refine jP (by assumption) rfl ?_|refine jQ ?_|refine jR ?_|refine jS ?_|refine jT ?_|refine jU (by assumption) rfl ?_))
    refine ⟨?_, k12⟩
    have : usedB t n = false := List.any_eq_false.2 (fun e he => by simpa using hok e he)
    rw [this]
def HeldP (x : X11) (t : Tr) : Prop := ∀ (i : Nat) (e : Ent), t.L[i]? = some e → 0 ≤ e.rea → ∃ l, x.P[e.rea.toNat]? = some (l, true) ∧ e.lit ∈ l ∧ ∀ y ∈ l, y ≠ e.lit → notOf y ∈ (t.L.map (·.lit)).take i
set_option maxHeartbeats 4000000 in
theorem held_ret (h : TWR w p q O bk cv wv t s) (hx : XR w O a b x) (hp : HeldP x t) (hI : ∀ p ∈ x.P, p.1.length ≤ 1000 ∧ ∀ y ∈ p.1, I64 y) : Ret Try.prog 41 #[ptr p, .agg ⟨[vi x.vars, a, b]⟩] w (fun r w' => r = .bool true ∧ Keep w w' No) := by
  have hf := h.fine
  have hlen := hf.len
  refine ok41 _ _ _ _ ?_
  unfold sh41
  refine M.new_i (l := [vi x.vars, a, b]) (fun w0 b0 k0 s0 => ?_)
  refine M.call_i (lits_tw (h.keepN k0)) ?_; rintro lv w1 ⟨g1, k1⟩
  have b1 := b0.keep k1 (fun h => h)
  have k01 := k0.trans k1 (fun _ _ h => h)
  have g1' := GI.lv g1
  obtain ⟨A, c, rfl, hr, hAc⟩ := id g1'
  have el : (t.L.map (·.lit)).length = t.L.length := List.length_map _
  refine M.loop_i (σ := Nat) (fun i vals w' => vals = [vi i] ∧ i ≤ t.L.length ∧ Keep w1 w' No) (fun i => t.L.length - i) 0 ⟨rfl, by omega, Keep.refl _ _⟩ ?_
  rintro i vals w2 K ⟨rfl, hi, k2⟩ hK _
  simp only [List.getD_cons_zero, List.getD_cons_succ]
  have k12 := k01.trans k2 (fun _ _ h => h)
  have b2 := b1.keep k2 (fun h => h)
  have hr2 := hr.keep k2 (fun _ _ _ h => h)
  by_cases hlt : i < t.L.length
  · obtain ⟨e, he⟩ : ∃ e, t.L[i]? = some e := ⟨_, List.getElem?_eq_getElem hlt⟩
    have hb := hf.lt (List.mem_of_getElem? he)
    have hei : (t.L.map (·.lit))[((i : Nat) : Int).toNat]? = some e.lit := by rw [List.getElem?_map, Int.toNat_natCast, he]; rfl
    (repeat (first|refine ja ?_|refine jb ?_|refine jc ?_|refine jd ?_|refine je ?_|refine jf ?_|refine jg ?_|refine jh ?_|refine ji ?_|refine jj ?_|refine jk ?_|refine jl ?_|refine jm ?_|refine jn ?_|refine jo ?_|refine jp ?_|refine jq ?_|refine jr ?_|refine js ?_|refine jt ?_|refine ju ?_|refine jv ?_|refine jw ?_|refine jx ?_|refine jy ?_|refine jz ?_|refine jA ?_|refine jB ?_|refine jC ?_|refine jD ?_|refine jE ?_|refine jF ?_|refine jG ?_|refine jH ?_|refine jI ?_|refine jJ ?_|refine jK ?_|refine jL ?_|refine jM (by assumption) ?_|refine jN (by assumption) rfl ?_|refine jO (by assumption) ?_|refine jP (by assumption) rfl ?_|refine jQ ?_|refine jR ?_|refine jS ?_|refine jT ?_|refine jU (by assumption) rfl ?_))
    refine M.share_j (fun vals w' => vals = [] ∧ Keep w1 w' No) ?_ ?_
    · rintro vals w3 ⟨rfl, g2⟩ _
      (repeat (first|refine ja ?_|refine jb ?_|refine jc ?_|refine jd ?_|refine je ?_|refine jf ?_|refine jg ?_|refine jh ?_|refine ji ?_|refine jj ?_|refine jk ?_|refine jl ?_|refine jm ?_|refine jn ?_|refine jo ?_|refine jp ?_|refine jq ?_|refine jr ?_|refine js ?_|refine jt ?_|refine ju ?_|refine jv ?_|refine jw ?_|refine jx ?_|refine jy ?_|refine jz ?_|refine jA ?_|refine jB ?_|refine jC ?_|refine jD ?_|refine jE ?_|refine jF ?_|refine jG ?_|refine jH ?_|refine jI ?_|refine jJ ?_|refine jK ?_|refine jL ?_|refine jM (by assumption) ?_|refine jN (by assumption) rfl ?_|refine jO (by assumption) ?_|refine jP (by assumption) rfl ?_|refine jQ ?_|refine jR ?_|refine jS ?_|refine jT ?_|refine jU (by assumption) rfl ?_))
      exact hK (i + 1) _ _ (by omega) ⟨by simp, by omega, g2⟩
    · intro K2 hK2
      refine M.idxLV_i hr2 rfl (by omega) (by omega) hei (fun bb oo hA hcc => ?_)
      (repeat (first|refine ja ?_|refine jb ?_|refine jc ?_|refine jd ?_|refine je ?_|refine jf ?_|refine jg ?_|refine jh ?_|refine ji ?_|refine jj ?_|refine jk ?_|refine jl ?_|refine jm ?_|refine jn ?_|refine jo ?_|refine jp ?_|refine jq ?_|refine jr ?_|refine js ?_|refine jt ?_|refine ju ?_|refine jv ?_|refine jw ?_|refine jx ?_|refine jy ?_|refine jz ?_|refine jA ?_|refine jB ?_|refine jC ?_|refine jD ?_|refine jE ?_|refine jF ?_|refine jG ?_|refine jH ?_|refine jI ?_|refine jJ ?_|refine jK ?_|refine jL ?_|refine jM (by assumption) ?_|refine jN (by assumption) rfl ?_|refine jO (by assumption) ?_|refine jP (by assumption) rfl ?_|refine jQ ?_|refine jR ?_|refine jS ?_|refine jT ?_|refine jU (by assumption) rfl ?_))
      refine M.quo2_i (by omega) (by omega) ?_
      refine M.call_i (rea_tw (h.keepN k12) (e.lit / 2)) ?_; rintro _ w3 ⟨rfl, k3⟩
      rw [hf.rea he]
      have k23 := k2.trans k3 (fun _ _ h => h)
      by_cases h0 : e.rea < 0
      · (repeat (first|refine ja ?_|refine jb ?_|refine jc ?_|refine jd ?_|refine je ?_|refine jf ?_|refine jg ?_|refine jh ?_|refine ji ?_|refine jj ?_|refine jk ?_|refine jl ?_|refine jm ?_|refine jn ?_|refine jo ?_|refine jp ?_|refine jq ?_|refine jr ?_|refine js ?_|refine jt ?_|refine ju ?_|refine jv ?_|refine jw ?_|refine jx ?_|refine jy ?_|refine jz ?_|refine jA ?_|refine jB ?_|refine jC ?_|refine jD ?_|refine jE ?_|refine jF ?_|refine jG ?_|refine jH ?_|refine jI ?_|refine jJ ?_|refine jK ?_|refine jL ?_|refine jM (by assumption) ?_|refine jN (by assumption) rfl ?_|refine jO (by assumption) ?_|refine jP (by assumption) rfl ?_|refine jQ ?_|refine jR ?_|refine jS ?_|refine jT ?_|refine jU (by assumption) rfl ?_))
        exact hK2 _ _ ⟨rfl, k23⟩
      · obtain ⟨l, hl, hm, hoth⟩ := hp i e he (by omega)
        have kd := k23.trans (Keep.drew w3 No) (fun _ _ h => h)
        have k0d := k01.trans kd (fun _ _ h => h)
        have b3 := b1.keep kd (fun h => h)
        have hIl := (hI _ (List.mem_of_getElem? hl)).2
        have hFl : Few l.length := by
          have := (hI _ (List.mem_of_getElem? hl)).1
          simp only at this; omega
        have his : isX x e.rea = true := by
          unfold isX
          rw [decide_eq_true (by omega), hl]; rfl
        have hxd := hx.keepN k0d
        (repeat (first|refine ja ?_|refine jb ?_|refine jc ?_|refine jd ?_|refine je ?_|refine jf ?_|refine jg ?_|refine jh ?_|refine ji ?_|refine jj ?_|refine jk ?_|refine jl ?_|refine jm ?_|refine jn ?_|refine jo ?_|refine jp ?_|refine jq ?_|refine jr ?_|refine js ?_|refine jt ?_|refine ju ?_|refine jv ?_|refine jw ?_|refine jx ?_|refine jy ?_|refine jz ?_|refine jA ?_|refine jB ?_|refine jC ?_|refine jD ?_|refine jE ?_|refine jF ?_|refine jG ?_|refine jH ?_|refine jI ?_|refine jJ ?_|refine jK ?_|refine jL ?_|refine jM (by assumption) ?_|refine jN (by assumption) rfl ?_|refine jO (by assumption) ?_|refine jP (by assumption) rfl ?_|refine jQ ?_|refine jR ?_|refine jS ?_|refine jT ?_|refine jU (by assumption) rfl ?_))
        refine M.loadAll_i b3 rfl ?_
        refine M.call_i (ris_ret hxd e.rea) ?_; rintro _ w4 ⟨rfl, k4⟩
        rw [his]
        have b4 := b3.keep k4 (fun h => h)
        have k14 := kd.trans k4 (fun _ _ h => h)
        have hx4 := hxd.keepN k4
        have hr4 := hr.keep k14 (fun _ _ _ h => h)
        obtain ⟨⟨A1, c1, vs, rfl, hll, _⟩, _⟩ := id hx4
        have hl1 : (x.P.map (·.1))[e.rea.toNat]? = some l := by rw [List.getElem?_map, hl]; rfl
        (repeat (first|refine ja ?_|refine jb ?_|refine jc ?_|refine jd ?_|refine je ?_|refine jf ?_|refine jg ?_|refine jh ?_|refine ji ?_|refine jj ?_|refine jk ?_|refine jl ?_|refine jm ?_|refine jn ?_|refine jo ?_|refine jp ?_|refine jq ?_|refine jr ?_|refine js ?_|refine jt ?_|refine ju ?_|refine jv ?_|refine jw ?_|refine jx ?_|refine jy ?_|refine jz ?_|refine jA ?_|refine jB ?_|refine jC ?_|refine jD ?_|refine jE ?_|refine jF ?_|refine jG ?_|refine jH ?_|refine jI ?_|refine jJ ?_|refine jK ?_|refine jL ?_|refine jM (by assumption) ?_|refine jN (by assumption) rfl ?_|refine jO (by assumption) ?_|refine jP (by assumption) rfl ?_|refine jQ ?_|refine jR ?_|refine jS ?_|refine jT ?_|refine jU (by assumption) rfl ?_))
        refine M.idxLL_i hll rfl (by omega) hl1 (fun bb1 oo1 u hc1 g => ?_)
        (repeat (first|refine ja ?_|refine jb ?_|refine jc ?_|refine jd ?_|refine je ?_|refine jf ?_|refine jg ?_|refine jh ?_|refine ji ?_|refine jj ?_|refine jk ?_|refine jl ?_|refine jm ?_|refine jn ?_|refine jo ?_|refine jp ?_|refine jq ?_|refine jr ?_|refine js ?_|refine jt ?_|refine ju ?_|refine jv ?_|refine jw ?_|refine jx ?_|refine jy ?_|refine jz ?_|refine jA ?_|refine jB ?_|refine jC ?_|refine jD ?_|refine jE ?_|refine jF ?_|refine jG ?_|refine jH ?_|refine jI ?_|refine jJ ?_|refine jK ?_|refine jL ?_|refine jM (by assumption) ?_|refine jN (by assumption) rfl ?_|refine jO (by assumption) ?_|refine jP (by assumption) rfl ?_|refine jQ ?_|refine jR ?_|refine jS ?_|refine jT ?_|refine jU (by assumption) rfl ?_))
        refine M.idxLV_i hr4 rfl (by omega) (by omega) hei (fun bb oo hA hcc => ?_)
        (repeat (first|refine ja ?_|refine jb ?_|refine jc ?_|refine jd ?_|refine je ?_|refine jf ?_|refine jg ?_|refine jh ?_|refine ji ?_|refine jj ?_|refine jk ?_|refine jl ?_|refine jm ?_|refine jn ?_|refine jo ?_|refine jp ?_|refine jq ?_|refine jr ?_|refine js ?_|refine jt ?_|refine ju ?_|refine jv ?_|refine jw ?_|refine jx ?_|refine jy ?_|refine jz ?_|refine jA ?_|refine jB ?_|refine jC ?_|refine jD ?_|refine jE ?_|refine jF ?_|refine jG ?_|refine jH ?_|refine jI ?_|refine jJ ?_|refine jK ?_|refine jL ?_|refine jM (by assumption) ?_|refine jN (by assumption) rfl ?_|refine jO (by assumption) ?_|refine jP (by assumption) rfl ?_|refine jQ ?_|refine jR ?_|refine jS ?_|refine jT ?_|refine jU (by assumption) rfl ?_))
        refine M.call_i (has_ret g hFl e.lit) ?_; rintro _ w5 ⟨rfl, k5⟩
        rw [decide_eq_true hm]
        have b5 := b4.keep k5 (fun h => h)
        have k15 := k14.trans k5 (fun _ _ h => h)
        (repeat (first|refine ja ?_|refine jb ?_|refine jc ?_|refine jd ?_|refine je ?_|refine jf ?_|refine jg ?_|refine jh ?_|refine ji ?_|refine jj ?_|refine jk ?_|refine jl ?_|refine jm ?_|refine jn ?_|refine jo ?_|refine jp ?_|refine jq ?_|refine jr ?_|refine js ?_|refine jt ?_|refine ju ?_|refine jv ?_|refine jw ?_|refine jx ?_|refine jy ?_|refine jz ?_|refine jA ?_|refine jB ?_|refine jC ?_|refine jD ?_|refine jE ?_|refine jF ?_|refine jG ?_|refine jH ?_|refine jI ?_|refine jJ ?_|refine jK ?_|refine jL ?_|refine jM (by assumption) ?_|refine jN (by assumption) rfl ?_|refine jO (by assumption) ?_|refine jP (by assumption) rfl ?_|refine jQ ?_|refine jR ?_|refine jS ?_|refine jT ?_|refine jU (by assumption) rfl ?_))
        refine M.loop_i (σ := Nat) (fun k vals w' => vals = [vi k] ∧ k ≤ l.length ∧ Keep w5 w' No) (fun k => l.length - k) 0 ⟨rfl, by omega, Keep.refl _ _⟩ ?_
        rintro k vals w6 K3 ⟨rfl, hk, k6⟩ hK3 _
        simp only [List.getD_cons_zero, List.getD_cons_succ]
        have b6 := b5.keep k6 (fun h => h)
        have hll6 := (hll.keep k5 (fun _ _ _ h => h)).keep k6 (fun _ _ _ h => h)
        have hr6 := (hr4.keep k5 (fun _ _ _ h => h)).keep k6 (fun _ _ _ h => h)
        (repeat (first|refine ja ?_|refine jb ?_|refine jc ?_|refine jd ?_|refine je ?_|refine jf ?_|refine jg ?_|refine jh ?_|refine ji ?_|refine jj ?_|refine jk ?_|refine jl ?_|refine jm ?_|refine jn ?_|refine jo ?_|refine jp ?_|refine jq ?_|refine jr ?_|refine js ?_|refine jt ?_|refine ju ?_|refine jv ?_|refine jw ?_|refine jx ?_|refine jy ?_|refine jz ?_|refine jA ?_|refine jB ?_|refine jC ?_|refine jD ?_|refine jE ?_|refine jF ?_|refine jG ?_|refine jH ?_|refine jI ?_|refine jJ ?_|refine jK ?_|refine jL ?_|refine jM (by assumption) ?_|refine jN (by assumption) rfl ?_|refine jO (by assumption) ?_|refine jP (by assumption) rfl ?_|refine jQ ?_|refine jR ?_|refine jS ?_|refine jT ?_|refine jU (by assumption) rfl ?_))
        refine M.idxLL_i hll6 rfl (by omega) hl1 (fun bb2 oo2 u2 hc2 g2 => ?_)
        obtain ⟨A3, c3, rfl, hr3, _⟩ := id g2
        (repeat (first|refine ja ?_|refine jb ?_|refine jc ?_|refine jd ?_|refine je ?_|refine jf ?_|refine jg ?_|refine jh ?_|refine ji ?_|refine jj ?_|refine jk ?_|refine jl ?_|refine jm ?_|refine jn ?_|refine jo ?_|refine jp ?_|refine jq ?_|refine jr ?_|refine js ?_|refine jt ?_|refine ju ?_|refine jv ?_|refine jw ?_|refine jx ?_|refine jy ?_|refine jz ?_|refine jA ?_|refine jB ?_|refine jC ?_|refine jD ?_|refine jE ?_|refine jF ?_|refine jG ?_|refine jH ?_|refine jI ?_|refine jJ ?_|refine jK ?_|refine jL ?_|refine jM (by assumption) ?_|refine jN (by assumption) rfl ?_|refine jO (by assumption) ?_|refine jP (by assumption) rfl ?_|refine jQ ?_|refine jR ?_|refine jS ?_|refine jT ?_|refine jU (by assumption) rfl ?_))
        by_cases hkl : k < l.length
        · obtain ⟨y, hy⟩ : ∃ y, l[k]? = some y := ⟨_, List.getElem?_eq_getElem hkl⟩
          have hyi : l[((k : Nat) : Int).toNat]? = some y := by rw [Int.toNat_natCast]; exact hy
          have b7 := b6.keep (Keep.drew w6 No) (fun h => h)
          have hll7 := hll6.keep (Keep.drew w6 No) (fun _ _ _ h => h)
          have hr7 := hr6.keep (Keep.drew w6 No) (fun _ _ _ h => h)
          have k67 := k6.trans (Keep.drew w6 No) (fun _ _ h => h)
          (repeat (first|refine ja ?_|refine jb ?_|refine jc ?_|refine jd ?_|refine je ?_|refine jf ?_|refine jg ?_|refine jh ?_|refine ji ?_|refine jj ?_|refine jk ?_|refine jl ?_|refine jm ?_|refine jn ?_|refine jo ?_|refine jp ?_|refine jq ?_|refine jr ?_|refine js ?_|refine jt ?_|refine ju ?_|refine jv ?_|refine jw ?_|refine jx ?_|refine jy ?_|refine jz ?_|refine jA ?_|refine jB ?_|refine jC ?_|refine jD ?_|refine jE ?_|refine jF ?_|refine jG ?_|refine jH ?_|refine jI ?_|refine jJ ?_|refine jK ?_|refine jL ?_|refine jM (by assumption) ?_|refine jN (by assumption) rfl ?_|refine jO (by assumption) ?_|refine jP (by assumption) rfl ?_|refine jQ ?_|refine jR ?_|refine jS ?_|refine jT ?_|refine jU (by assumption) rfl ?_))
          refine M.idxLL_i hll7 rfl (by omega) hl1 (fun bb2 oo2 u2 hc2 g2 => ?_)
          obtain ⟨A3, c3, rfl, hr3, _⟩ := id g2
          (repeat (first|refine ja ?_|refine jb ?_|refine jc ?_|refine jd ?_|refine je ?_|refine jf ?_|refine jg ?_|refine jh ?_|refine ji ?_|refine jj ?_|refine jk ?_|refine jl ?_|refine jm ?_|refine jn ?_|refine jo ?_|refine jp ?_|refine jq ?_|refine jr ?_|refine js ?_|refine jt ?_|refine ju ?_|refine jv ?_|refine jw ?_|refine jx ?_|refine jy ?_|refine jz ?_|refine jA ?_|refine jB ?_|refine jC ?_|refine jD ?_|refine jE ?_|refine jF ?_|refine jG ?_|refine jH ?_|refine jI ?_|refine jJ ?_|refine jK ?_|refine jL ?_|refine jM (by assumption) ?_|refine jN (by assumption) rfl ?_|refine jO (by assumption) ?_|refine jP (by assumption) rfl ?_|refine jQ ?_|refine jR ?_|refine jS ?_|refine jT ?_|refine jU (by assumption) rfl ?_))
          refine M.idxLV_i hr3 rfl (by omega) (by omega) hyi (fun bb3 oo3 hA3 hc3 => ?_)
          (repeat (first|refine ja ?_|refine jb ?_|refine jc ?_|refine jd ?_|refine je ?_|refine jf ?_|refine jg ?_|refine jh ?_|refine ji ?_|refine jj ?_|refine jk ?_|refine jl ?_|refine jm ?_|refine jn ?_|refine jo ?_|refine jp ?_|refine jq ?_|refine jr ?_|refine js ?_|refine jt ?_|refine ju ?_|refine jv ?_|refine jw ?_|refine jx ?_|refine jy ?_|refine jz ?_|refine jA ?_|refine jB ?_|refine jC ?_|refine jD ?_|refine jE ?_|refine jF ?_|refine jG ?_|refine jH ?_|refine jI ?_|refine jJ ?_|refine jK ?_|refine jL ?_|refine jM (by assumption) ?_|refine jN (by assumption) rfl ?_|refine jO (by assumption) ?_|refine jP (by assumption) rfl ?_|refine jQ ?_|refine jR ?_|refine jS ?_|refine jT ?_|refine jU (by assumption) rfl ?_))
          refine M.idxLV_i hr7 rfl (by omega) (by omega) hei (fun bb4 oo4 hA4 hc4 => ?_)
          (repeat (first|refine ja ?_|refine jb ?_|refine jc ?_|refine jd ?_|refine je ?_|refine jf ?_|refine jg ?_|refine jh ?_|refine ji ?_|refine jj ?_|refine jk ?_|refine jl ?_|refine jm ?_|refine jn ?_|refine jo ?_|refine jp ?_|refine jq ?_|refine jr ?_|refine js ?_|refine jt ?_|refine ju ?_|refine jv ?_|refine jw ?_|refine jx ?_|refine jy ?_|refine jz ?_|refine jA ?_|refine jB ?_|refine jC ?_|refine jD ?_|refine jE ?_|refine jF ?_|refine jG ?_|refine jH ?_|refine jI ?_|refine jJ ?_|refine jK ?_|refine jL ?_|refine jM (by assumption) ?_|refine jN (by assumption) rfl ?_|refine jO (by assumption) ?_|refine jP (by assumption) rfl ?_|refine jQ ?_|refine jR ?_|refine jS ?_|refine jT ?_|refine jU (by assumption) rfl ?_))
          by_cases hye : y = e.lit
          · (repeat (first|refine ja ?_|refine jb ?_|refine jc ?_|refine jd ?_|refine je ?_|refine jf ?_|refine jg ?_|refine jh ?_|refine ji ?_|refine jj ?_|refine jk ?_|refine jl ?_|refine jm ?_|refine jn ?_|refine jo ?_|refine jp ?_|refine jq ?_|refine jr ?_|refine js ?_|refine jt ?_|refine ju ?_|refine jv ?_|refine jw ?_|refine jx ?_|refine jy ?_|refine jz ?_|refine jA ?_|refine jB ?_|refine jC ?_|refine jD ?_|refine jE ?_|refine jF ?_|refine jG ?_|refine jH ?_|refine jI ?_|refine jJ ?_|refine jK ?_|refine jL ?_|refine jM (by assumption) ?_|refine jN (by assumption) rfl ?_|refine jO (by assumption) ?_|refine jP (by assumption) rfl ?_|refine jQ ?_|refine jR ?_|refine jS ?_|refine jT ?_|refine jU (by assumption) rfl ?_))
            exact hK3 (k + 1) _ _ (by omega) ⟨rfl, by omega, k67⟩
          · (repeat (first|refine ja ?_|refine jb ?_|refine jc ?_|refine jd ?_|refine je ?_|refine jf ?_|refine jg ?_|refine jh ?_|refine ji ?_|refine jj ?_|refine jk ?_|refine jl ?_|refine jm ?_|refine jn ?_|refine jo ?_|refine jp ?_|refine jq ?_|refine jr ?_|refine js ?_|refine jt ?_|refine ju ?_|refine jv ?_|refine jw ?_|refine jx ?_|refine jy ?_|refine jz ?_|refine jA ?_|refine jB ?_|refine jC ?_|refine jD ?_|refine jE ?_|refine jF ?_|refine jG ?_|refine jH ?_|refine jI ?_|refine jJ ?_|refine jK ?_|refine jL ?_|refine jM (by assumption) ?_|refine jN (by assumption) rfl ?_|refine jO (by assumption) ?_|refine jP (by assumption) rfl ?_|refine jQ ?_|refine jR ?_|refine jS ?_|refine jT ?_|refine jU (by assumption) rfl ?_))
            refine M.slice_i 0 i c (sl3_h (by omega)) ?_
            (repeat (first|refine ja ?_|refine jb ?_|refine jc ?_|refine jd ?_|refine je ?_|refine jf ?_|refine jg ?_|refine jh ?_|refine ji ?_|refine jj ?_|refine jk ?_|refine jl ?_|refine jm ?_|refine jn ?_|refine jo ?_|refine jp ?_|refine jq ?_|refine jr ?_|refine js ?_|refine jt ?_|refine ju ?_|refine jv ?_|refine jw ?_|refine jx ?_|refine jy ?_|refine jz ?_|refine jA ?_|refine jB ?_|refine jC ?_|refine jD ?_|refine jE ?_|refine jF ?_|refine jG ?_|refine jH ?_|refine jI ?_|refine jJ ?_|refine jK ?_|refine jL ?_|refine jM (by assumption) ?_|refine jN (by assumption) rfl ?_|refine jO (by assumption) ?_|refine jP (by assumption) rfl ?_|refine jQ ?_|refine jR ?_|refine jS ?_|refine jT ?_|refine jU (by assumption) rfl ?_))
            refine M.idxLL_i hll7 rfl (by omega) hl1 (fun bb5 oo5 u5 hc5 g5 => ?_)
            obtain ⟨A5, c5, rfl, hr5, _⟩ := id g5
            (repeat (first|refine ja ?_|refine jb ?_|refine jc ?_|refine jd ?_|refine je ?_|refine jf ?_|refine jg ?_|refine jh ?_|refine ji ?_|refine jj ?_|refine jk ?_|refine jl ?_|refine jm ?_|refine jn ?_|refine jo ?_|refine jp ?_|refine jq ?_|refine jr ?_|refine js ?_|refine jt ?_|refine ju ?_|refine jv ?_|refine jw ?_|refine jx ?_|refine jy ?_|refine jz ?_|refine jA ?_|refine jB ?_|refine jC ?_|refine jD ?_|refine jE ?_|refine jF ?_|refine jG ?_|refine jH ?_|refine jI ?_|refine jJ ?_|refine jK ?_|refine jL ?_|refine jM (by assumption) ?_|refine jN (by assumption) rfl ?_|refine jO (by assumption) ?_|refine jP (by assumption) rfl ?_|refine jQ ?_|refine jR ?_|refine jS ?_|refine jT ?_|refine jU (by assumption) rfl ?_))
            refine M.idxLV_i hr5 rfl (by omega) (by omega) hyi (fun bb6 oo6 hA6 hc6 => ?_)
            (repeat (first|refine ja ?_|refine jb ?_|refine jc ?_|refine jd ?_|refine je ?_|refine jf ?_|refine jg ?_|refine jh ?_|refine ji ?_|refine jj ?_|refine jk ?_|refine jl ?_|refine jm ?_|refine jn ?_|refine jo ?_|refine jp ?_|refine jq ?_|refine jr ?_|refine js ?_|refine jt ?_|refine ju ?_|refine jv ?_|refine jw ?_|refine jx ?_|refine jy ?_|refine jz ?_|refine jA ?_|refine jB ?_|refine jC ?_|refine jD ?_|refine jE ?_|refine jF ?_|refine jG ?_|refine jH ?_|refine jI ?_|refine jJ ?_|refine jK ?_|refine jL ?_|refine jM (by assumption) ?_|refine jN (by assumption) rfl ?_|refine jO (by assumption) ?_|refine jP (by assumption) rfl ?_|refine jQ ?_|refine jR ?_|refine jS ?_|refine jT ?_|refine jU (by assumption) rfl ?_))
            refine M.call_i (rnot_ret (hIl y (List.mem_of_getElem? hy)) _) ?_; rintro _ w8 ⟨rfl, k8⟩
            have b8 := b7.keep k8 (fun h => h)
            have hc2 := k8.cell (fun h => h) hc2
            have hc3 := k8.cell (fun h => h) hc3
            have hc4 := k8.cell (fun h => h) hc4
            have hc5 := k8.cell (fun h => h) hc5
            (repeat (first|refine ja ?_|refine jb ?_|refine jc ?_|refine jd ?_|refine je ?_|refine jf ?_|refine jg ?_|refine jh ?_|refine ji ?_|refine jj ?_|refine jk ?_|refine jl ?_|refine jm ?_|refine jn ?_|refine jo ?_|refine jp ?_|refine jq ?_|refine jr ?_|refine js ?_|refine jt ?_|refine ju ?_|refine jv ?_|refine jw ?_|refine jx ?_|refine jy ?_|refine jz ?_|refine jA ?_|refine jB ?_|refine jC ?_|refine jD ?_|refine jE ?_|refine jF ?_|refine jG ?_|refine jH ?_|refine jI ?_|refine jJ ?_|refine jK ?_|refine jL ?_|refine jM (by assumption) ?_|refine jN (by assumption) rfl ?_|refine jO (by assumption) ?_|refine jP (by assumption) rfl ?_|refine jQ ?_|refine jR ?_|refine jS ?_|refine jT ?_|refine jU (by assumption) rfl ?_))
            have k68 := k67.trans k8 (fun _ _ h => h)
            have gcut := ((((((GI.cut g1 (m := i) (by omega)).keep k14 (fun _ _ _ h => h)).keep k5 (fun _ _ _ h => h)).keep k68 (fun _ _ _ h => h))))
            have hti : ((t.L.map (·.lit)).take i).length = i := by rw [List.length_take]; omega
            refine M.call_i (has_ret (GI.lv gcut) (by omega) (notOf y)) ?_; rintro _ w9 ⟨rfl, k9⟩
            rw [decide_eq_true (hoth y (List.mem_of_getElem? hy) hye)]
            have b9 := b8.keep k9 (fun h => h)
            have hc2 := k9.cell (fun h => h) hc2
            have hc3 := k9.cell (fun h => h) hc3
            have hc4 := k9.cell (fun h => h) hc4
            have hc5 := k9.cell (fun h => h) hc5
            (repeat (first|refine ja ?_|refine jb ?_|refine jc ?_|refine jd ?_|refine je ?_|refine jf ?_|refine jg ?_|refine jh ?_|refine ji ?_|refine jj ?_|refine jk ?_|refine jl ?_|refine jm ?_|refine jn ?_|refine jo ?_|refine jp ?_|refine jq ?_|refine jr ?_|refine js ?_|refine jt ?_|refine ju ?_|refine jv ?_|refine jw ?_|refine jx ?_|refine jy ?_|refine jz ?_|refine jA ?_|refine jB ?_|refine jC ?_|refine jD ?_|refine jE ?_|refine jF ?_|refine jG ?_|refine jH ?_|refine jI ?_|refine jJ ?_|refine jK ?_|refine jL ?_|refine jM (by assumption) ?_|refine jN (by assumption) rfl ?_|refine jO (by assumption) ?_|refine jP (by assumption) rfl ?_|refine jQ ?_|refine jR ?_|refine jS ?_|refine jT ?_|refine jU (by assumption) rfl ?_))
            exact hK3 (k + 1) _ _ (by omega) ⟨rfl, by omega, k68.trans k9 (fun _ _ h => h)⟩
        · (repeat (first|refine ja ?_|refine jb ?_|refine jc ?_|refine jd ?_|refine je ?_|refine jf ?_|refine jg ?_|refine jh ?_|refine ji ?_|refine jj ?_|refine jk ?_|refine jl ?_|refine jm ?_|refine jn ?_|refine jo ?_|refine jp ?_|refine jq ?_|refine jr ?_|refine js ?_|refine jt ?_|refine ju ?_|refine jv ?_|refine jw ?_|refine jx ?_|refine jy ?_|refine jz ?_|refine jA ?_|refine jB ?_|refine jC ?_|refine jD ?_|refine jE ?_|refine jF ?_|refine jG ?_|refine jH ?_|refine jI ?_|refine jJ ?_|refine jK ?_|refine jL ?_|refine jM (by assumption) ?_|refine jN (by assumption) rfl ?_|refine jO (by assumption) ?_|refine jP (by assumption) rfl ?_|refine jQ ?_|refine jR ?_|refine jS ?_|refine jT ?_|refine jU (by assumption) rfl ?_))
          exact hK2 _ _ ⟨rfl, k15.trans k6 (fun _ _ h => h)⟩
  · (repeat (first|refine ja ?_|refine jb ?_|refine jc ?_|refine jd ?_|refine je ?_|refine jf ?_|refine jg ?_|refine jh ?_|refine ji ?_|refine jj ?_|refine jk ?_|refine jl ?_|refine jm ?_|refine jn ?_|refine jo ?_|refine jp ?_|refine jq ?_|refine jr ?_|refine js ?_|refine jt ?_|refine ju ?_|refine jv ?_|refine jw ?_|refine jx ?_|refine jy ?_|refine jz ?_|refine jA ?_|refine jB ?_|refine jC ?_|refine jD ?_|refine jE ?_|refine jF ?_|refine jG ?_|refine jH ?_|refine jI ?_|refine jJ ?_|refine jK ?_|refine jL ?_|refine jM (by assumption) ?_|refine jN (by assumption) rfl ?_|refine jO (by assumption) ?_|refine jP (by assumption) rfl ?_|refine jQ ?_|refine jR ?_|refine jS ?_|refine jT ?_|refine jU (by assumption) rfl ?_))
    exact ⟨by trivial, k12⟩
end
end Go.Proofs.Ytnkechekdncnlaa
