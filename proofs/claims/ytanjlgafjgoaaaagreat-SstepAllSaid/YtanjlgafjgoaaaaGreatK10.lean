import Derived.Test.YtanjlgafjgoaaaaGreatK9
namespace Go.Proofs.YtanjlgafjgoaaaaGreat
open Go.Mw
set_option linter.unusedVariables false
set_option linter.unusedSimpArgs false
set_option maxRecDepth 100000
attribute [local irreducible] M.val M.unit M.next M.pick M.new M.nilCheck M.load1 M.loadA M.store M.fieldAddr M.indexSl M.indexArr M.slice M.makeSlice M.buildSlice M.len M.lenS M.cap M.append M.extract M.conv M.not M.neg M.bin M.shift M.eqB M.eqNil M.scat M.call M.callv M.gd M.share M.cond M.loop M.draw pureW readW Ret
def sh102 (x0 x1 : Value) (R : Kt) (w : World) : Prop :=
  M.loop [(Value.int IntKind.i64 0)] (fun s1 K1 w => ∀ _ : List Value,
  M.lenS x0 (fun t8 w =>
  M.bin .lss (s1.getD 0 undef) t8 (fun t9 w =>
  M.cond t9
  (pureW Tryz.prog (Instr.index 9 x0 (s1.getD 0 undef)) (fun t14 w =>
  M.bin .eql t14 x1 (fun t16 w =>
  M.cond t16
  (R (Value.bool true) w)
  (M.bin .add (s1.getD 0 undef) (Value.int IntKind.i64 1) (fun t11 w =>
  K1 [t11] w) w)) w) w)
  (R (Value.bool false) w)) w) w) w
theorem ok102 (x0 x1 : Value) (R : Kt) (w : World) (h : sh102 x0 x1 R w) : Ret Tryz.prog 102 #[x0, x1] w R :=
  ret_mk <| calls_of_comp mixed (c := Tryz.f102.body.getD .skip) (args := [x0, x1]) (rs := [(ResultVar.tmp 4)]) (Ann.seq Ann.text (Ann.seq (Ann.seq Ann.text (Ann.block (Ann.loop [5] [4, 6, 7, 8, 9, 10, 11, 12, 13, 14, 15, 16] (Ann.seq (Ann.seq Ann.text (Ann.cond Ann.leaf Ann.leaf)) (Ann.seq (Ann.block (Ann.seq Ann.text (Ann.cond (Ann.seq Ann.text Ann.leaf) Ann.leaf))) Ann.text))))) (Ann.seq Ann.text Ann.leaf)))
    Tryz.func102 (by kernel_rfl) (by kernel_rfl)
    (Eq.mp (by kernel_rfl) h)
def sh101 (x0 : Value) (R : Kt) (w : World) : Prop :=
  M.buildSlice 9 1 #[.string ByteArray.empty] 16 [(0, (Value.string { data := #[] })), (1, (Value.string { data := #[65, 73] })), (2, (Value.string { data := #[65, 66] })), (3, (Value.string { data := #[65, 66, 67, 73] })), (4, (Value.string { data := #[65, 66, 73] })), (5, (Value.string { data := #[73] })), (6, (Value.string { data := #[65, 73] })), (7, (Value.string { data := #[65, 66] })), (8, (Value.string { data := #[65, 66] })), (9, (Value.string { data := #[65, 73] })), (10, (Value.string { data := #[65, 66] })), (11, (Value.string { data := #[65, 66] })), (12, (Value.string { data := #[] })), (13, (Value.string { data := #[] })), (14, (Value.string { data := #[65] })), (15, (Value.string { data := #[73] }))] (fun t4 w =>
  M.bin .lss x0 (Value.int IntKind.i64 0) (fun t6 w =>
  M.gd t6 false (fun k w => k x0 w) (fun t8 w =>
  M.gd t6 false (fun k w => k t4 w) (fun t9 w =>
  M.gd t6 false (fun k w => M.len t9 k w) (fun t10 w =>
  M.gd t6 false (fun k w => M.bin .geq t8 t10 k w) (fun t11 w =>
  M.pick t6 (Value.bool true) t11 (fun t12 w =>
  M.cond t12
  (R (Value.string { data := #[] }) w)
  (M.indexSl 1 t4 x0 (fun t15 w =>
  M.load1 t15 (fun t16 w =>
  R t16 w) w) w)) w) w) w) w) w) w) w
theorem ok101 (x0 : Value) (R : Kt) (w : World) (h : sh101 x0 R w) : Ret Tryz.prog 101 #[x0] w R :=
  ret_mk <| calls_of_comp mixed (c := Tryz.f101.body.getD .skip) (args := [x0]) (rs := [(ResultVar.tmp 2)]) (Ann.seq Ann.text (Ann.seq Ann.text (Ann.seq (Ann.seq Ann.text (Ann.cond (Ann.seq Ann.text Ann.leaf) Ann.leaf)) (Ann.seq Ann.text Ann.leaf))))
    Tryz.func101 (by kernel_rfl) (by kernel_rfl)
    (Eq.mp (by kernel_rfl) h)
def sh58 (x0 : Value) (R : Kt) (w : World) : Prop :=
  M.new 61 (Value.cells x0) (fun t1 w =>
  M.fieldAddr 0 t1 (fun t7 w =>
  M.load1 t7 (fun t8 w =>
  M.bin .lss t8 (Value.int IntKind.i64 1) (fun t9 w =>
  M.gd t9 false (fun k w => M.fieldAddr 0 t1 k w) (fun t11 w =>
  M.gd t9 false (fun k w => M.load1 t11 k w) (fun t12 w =>
  M.gd t9 false (fun k w => M.bin .gtr t12 (Value.int IntKind.i64 15) k w) (fun t13 w =>
  M.pick t9 (Value.bool true) t13 (fun t14 w =>
  M.cond t14
  (R (Value.int IntKind.i64 3) w)
  (M.fieldAddr 0 t1 (fun t15 w =>
  M.load1 t15 (fun t16 w =>
  M.call Tryz.prog 101 #[t16] (fun t17 w =>
  M.fieldAddr 1 t1 (fun t18 w =>
  M.load1 t18 (fun t19 w =>
  M.fieldAddr 2 t1 (fun t20 w =>
  M.load1 t20 (fun t21 w =>
  M.fieldAddr 3 t1 (fun t22 w =>
  M.load1 t22 (fun t23 w =>
  pureW Tryz.prog (Instr.build 148 #[(0, t19), (1, t21), (2, t23)]) (fun t24 w =>
  M.new 148 #[.int .i64 0, .int .i64 0, .int .i64 0] (fun t4 w =>
  M.store 3 t4 t24 (fun _ w =>
  M.loop [(Value.int IntKind.i64 0)] (fun s1 K1 w => ∀ _ : List Value,
  M.bin .lss (s1.getD 0 undef) (Value.int IntKind.i64 3) (fun t26 w =>
  M.cond t26
  (M.bin .add (Value.int IntKind.i64 65) (s1.getD 0 undef) (fun t31 w =>
  M.conv .u8 t31 (fun t32 w =>
  M.call Tryz.prog 102 #[t17, t32] (fun t33 w =>
  M.not t33 (fun t34 w =>
  M.gd t34 true (fun k w => k (s1.getD 0 undef) w) (fun t36 w =>
  M.gd t34 true (fun k w => M.indexArr 3 1 t4 t36 k w) (fun t37 w =>
  M.gd t34 true (fun k w => M.load1 t37 k w) (fun t38 w =>
  M.gd t34 true (fun k w => M.bin .neq t38 (Value.int IntKind.i64 0) k w) (fun t39 w =>
  M.pick t34 t39 (Value.bool false) (fun t40 w =>
  M.cond t40
  (R (Value.int IntKind.i64 5) w)
  (M.bin .add (s1.getD 0 undef) (Value.int IntKind.i64 1) (fun t28 w =>
  K1 [t28] w) w)) w) w) w) w) w) w) w) w) w)
  (M.call Tryz.prog 102 #[t17, (Value.int IntKind.u8 73)] (fun t42 w =>
  M.not t42 (fun t43 w =>
  M.gd t43 true (fun k w => M.fieldAddr 4 t1 k w) (fun t45 w =>
  M.gd t43 true (fun k w => M.load1 t45 k w) (fun t46 w =>
  M.gd t43 true (fun k w => M.bin .neq t46 (Value.int IntKind.u64 0) k w) (fun t47 w =>
  M.pick t43 t47 (Value.bool false) (fun t48 w =>
  M.cond t48
  (R (Value.int IntKind.i64 5) w)
  (M.loop [(Value.int IntKind.i64 0)] (fun s2 K2 w => ∀ _ : List Value,
  M.bin .lss (s2.getD 0 undef) (Value.int IntKind.i64 3) (fun t50 w =>
  M.cond t50
  (M.bin .add (Value.int IntKind.i64 65) (s2.getD 0 undef) (fun t55 w =>
  M.conv .u8 t55 (fun t56 w =>
  M.call Tryz.prog 102 #[t17, t56] (fun t57 w =>
  M.gd t57 true (fun k w => k (s2.getD 0 undef) w) (fun t59 w =>
  M.gd t57 true (fun k w => M.indexArr 3 1 t4 t59 k w) (fun t60 w =>
  M.gd t57 true (fun k w => M.load1 t60 k w) (fun t61 w =>
  M.gd t57 true (fun k w => M.bin .lss t61 (Value.int IntKind.i64 0) k w) (fun t62 w =>
  M.gd t57 true (fun k w => k t62 w) (fun t63 w =>
  M.gd t63 false (fun k w => k (s2.getD 0 undef) w) (fun t64 w =>
  M.gd t63 false (fun k w => M.indexArr 3 1 t4 t64 k w) (fun t65 w =>
  M.gd t63 false (fun k w => M.load1 t65 k w) (fun t66 w =>
  M.gd t63 false (fun k w => M.bin .gtr t66 (Value.int IntKind.i64 7) k w) (fun t67 w =>
  M.gd t57 true (fun k w => M.pick t63 (Value.bool true) t67 k w) (fun t68 w =>
  M.pick t57 t68 (Value.bool false) (fun t69 w =>
  M.cond t69
  (R (Value.int IntKind.i64 14) w)
  (M.bin .add (s2.getD 0 undef) (Value.int IntKind.i64 1) (fun t52 w =>
  K2 [t52] w) w)) w) w) w) w) w) w) w) w) w) w) w) w) w) w)
  (R (Value.int IntKind.i64 0) w)) w) w)) w) w) w) w) w) w)) w) w) w) w) w) w) w) w) w) w) w) w) w) w)) w) w) w) w) w) w) w) w
theorem ok58 (x0 : Value) (R : Kt) (w : World) (h : sh58 x0 R w) : Ret Tryz.prog 58 #[x0] w R :=
  ret_mk <| calls_of_comp mixed (c := Tryz.f58.body.getD .skip) (args := [x0]) (rs := [(ResultVar.tmp 2)]) (Ann.seq Ann.text (Ann.seq (Ann.seq Ann.text (Ann.cond (Ann.seq Ann.text Ann.leaf) Ann.leaf)) (Ann.seq Ann.text (Ann.seq Ann.text (Ann.seq (Ann.seq Ann.text (Ann.block (Ann.loop [5] [2, 25, 26, 27, 28, 29, 30, 31, 32, 33, 34, 35, 36, 37, 38, 39, 40] (Ann.seq (Ann.seq Ann.text (Ann.cond Ann.leaf Ann.leaf)) (Ann.seq (Ann.block (Ann.seq Ann.text (Ann.cond (Ann.seq Ann.text Ann.leaf) Ann.leaf))) Ann.text))))) (Ann.seq (Ann.seq Ann.text (Ann.cond (Ann.seq Ann.text Ann.leaf) Ann.leaf)) (Ann.seq (Ann.seq Ann.text (Ann.block (Ann.loop [6] [2, 49, 50, 51, 52, 53, 54, 55, 56, 57, 58, 59, 60, 61, 62, 63, 64, 65, 66, 67, 68, 69] (Ann.seq (Ann.seq Ann.text (Ann.cond Ann.leaf Ann.leaf)) (Ann.seq (Ann.block (Ann.seq Ann.text (Ann.cond (Ann.seq Ann.text Ann.leaf) Ann.leaf))) Ann.text))))) (Ann.seq Ann.text Ann.leaf))))))))
    Tryz.func58 (by kernel_rfl) (by kernel_rfl)
    (Eq.mp (by kernel_rfl) h)
def sh24 (x0 x1 x2 : Value) (R : Kt) (w : World) : Prop :=
  M.new 61 (Value.cells x0) (fun t3 w =>
  M.loadA 5 t3 (fun t8 w =>
  M.call Tryz.prog 58 #[t8] (fun t9 w =>
  M.bin .neq t9 (Value.int IntKind.i64 0) (fun t11 w =>
  M.cond t11
  (R t9 w)
  (M.fieldAddr 0 t3 (fun t13 w =>
  M.load1 t13 (fun t14 w =>
  M.share (fun K1 w =>
  M.bin .eql t14 (Value.int IntKind.i64 3) (fun t16 w =>
  M.cond t16
  (M.fieldAddr 4 t3 (fun t17 w =>
  M.load1 t17 (fun t18 w =>
  M.bin .lss t18 (Value.int IntKind.u64 1) (fun t19 w =>
  M.gd t19 false (fun k w => M.fieldAddr 4 t3 k w) (fun t21 w =>
  M.gd t19 false (fun k w => M.load1 t21 k w) (fun t22 w =>
  M.gd t19 false (fun k w => M.bin .gtr t22 (Value.int IntKind.u64 14) k w) (fun t23 w =>
  M.pick t19 (Value.bool true) t23 (fun t24 w =>
  M.cond t24
  (R (Value.int IntKind.i64 3) w)
  (K1 [] w)) w) w) w) w) w) w) w)
  (M.bin .eql t14 (Value.int IntKind.i64 4) (fun t26 w =>
  M.cond t26
  (M.fieldAddr 4 t3 (fun t27 w =>
  M.load1 t27 (fun t28 w =>
  M.bin .neq t28 (Value.int IntKind.u64 15) (fun t29 w =>
  M.gd t29 true (fun k w => M.fieldAddr 4 t3 k w) (fun t31 w =>
  M.gd t29 true (fun k w => M.load1 t31 k w) (fun t32 w =>
  M.gd t29 true (fun k w => M.bin .neq t32 (Value.int IntKind.u64 16) k w) (fun t33 w =>
  M.pick t29 t33 (Value.bool false) (fun t34 w =>
  M.cond t34
  (R (Value.int IntKind.i64 3) w)
  (K1 [] w)) w) w) w) w) w) w) w)
  (M.share (fun K2 w =>
  M.bin .eql t14 (Value.int IntKind.i64 5) (fun t36 w =>
  M.cond t36
  (K2 [t36] w)
  (M.bin .eql t14 (Value.int IntKind.i64 6) (fun t37 w =>
  K2 [t37] w) w)) w) (fun s2 w => ∀ _ : List Value,
  M.cond (s2.getD 0 undef)
  (M.bin .lss x2 (Value.int IntKind.i64 0) (fun t39 w =>
  M.gd t39 false (fun k w => M.fieldAddr 4 t3 k w) (fun t41 w =>
  M.gd t39 false (fun k w => M.load1 t41 k w) (fun t42 w =>
  M.gd t39 false (fun k w => k x2 w) (fun t43 w =>
  M.gd t39 false (fun k w => M.conv .u64 t43 k w) (fun t44 w =>
  M.gd t39 false (fun k w => M.bin .geq t42 t44 k w) (fun t45 w =>
  M.pick t39 (Value.bool true) t45 (fun t46 w =>
  M.cond t46
  (R (Value.int IntKind.i64 15) w)
  (K1 [] w)) w) w) w) w) w) w) w)
  (M.bin .eql t14 (Value.int IntKind.i64 9) (fun t48 w =>
  M.cond t48
  (M.bin .neq x1 (Value.int IntKind.i64 0) (fun t50 w =>
  M.cond t50
  (R (Value.int IntKind.i64 16) w)
  (M.fieldAddr 4 t3 (fun t51 w =>
  M.load1 t51 (fun t52 w =>
  M.bin .geq t52 (Value.int IntKind.u64 4) (fun t53 w =>
  M.cond t53
  (R (Value.int IntKind.i64 4) w)
  (K1 [] w)) w) w) w)) w)
  (M.bin .eql t14 (Value.int IntKind.i64 15) (fun t55 w =>
  M.cond t55
  (M.fieldAddr 4 t3 (fun t56 w =>
  M.load1 t56 (fun t57 w =>
  M.bin .lss t57 (Value.int IntKind.u64 1) (fun t58 w =>
  M.gd t58 false (fun k w => M.fieldAddr 4 t3 k w) (fun t60 w =>
  M.gd t58 false (fun k w => M.load1 t60 k w) (fun t61 w =>
  M.gd t58 false (fun k w => M.bin .gtr t61 (Value.int IntKind.u64 255) k w) (fun t62 w =>
  M.pick t58 (Value.bool true) t62 (fun t63 w =>
  M.cond t63
  (R (Value.int IntKind.i64 4) w)
  (K1 [] w)) w) w) w) w) w) w) w)
  (K1 [] w)) w)) w)) w)) w)) w) (fun s1 w => ∀ _ : List Value,
  R (Value.int IntKind.i64 0) w) w) w) w)) w) w) w) w
theorem ok24 (x0 x1 x2 : Value) (R : Kt) (w : World) (h : sh24 x0 x1 x2 R w) : Ret Tryz.prog 24 #[x0, x1, x2] w R :=
  ret_mk <| calls_of_comp mixed (c := Tryz.f24.body.getD .skip) (args := [x0, x1, x2]) (rs := [(ResultVar.tmp 6)]) (Ann.seq Ann.text (Ann.seq (Ann.seq Ann.text (Ann.seq Ann.text (Ann.cond (Ann.seq Ann.text Ann.leaf) Ann.leaf))) (Ann.seq (Ann.seq Ann.text (Ann.jblock [] [6, 15, 16, 17, 18, 19, 20, 21, 22, 23, 24, 25, 26, 27, 28, 29, 30, 31, 32, 33, 34, 35, 36, 37, 38, 39, 40, 41, 42, 43, 44, 45, 46, 47, 48, 49, 50, 51, 52, 53, 54, 55, 56, 57, 58, 59, 60, 61, 62, 63] (Ann.seq Ann.text (Ann.cond (Ann.seq Ann.text (Ann.cond (Ann.seq Ann.text Ann.leaf) Ann.leaf)) (Ann.seq Ann.text (Ann.cond (Ann.seq Ann.text (Ann.cond (Ann.seq Ann.text Ann.leaf) Ann.leaf)) (Ann.join [35] [36, 37] (Ann.seq Ann.text (Ann.cond Ann.leaf Ann.text)) (Ann.cond (Ann.seq Ann.text (Ann.cond (Ann.seq Ann.text Ann.leaf) Ann.leaf)) (Ann.seq Ann.text (Ann.cond (Ann.seq (Ann.seq Ann.text (Ann.cond (Ann.seq Ann.text Ann.leaf) Ann.leaf)) (Ann.seq Ann.text (Ann.cond (Ann.seq Ann.text Ann.leaf) Ann.leaf))) (Ann.seq Ann.text (Ann.cond (Ann.seq Ann.text (Ann.cond (Ann.seq Ann.text Ann.leaf) Ann.leaf)) Ann.leaf)))))))))))) (Ann.seq Ann.text Ann.leaf))))
    Tryz.func24 (by kernel_rfl) (by kernel_rfl)
    (Eq.mp (by kernel_rfl) h)
theorem M.byteAt_i {k : Kt} {w : World} {s : Tx} {i : Nat} {c : UInt8} (hc : s[i]? = some c) (h : k (.int .u8 c.toNat) w) : pureW Tryz.prog (Instr.index 9 (xs8 s) (vi i)) k w := by
  have hi := (List.getElem?_eq_some_iff.1 hc).1
  have hg := (List.getElem?_eq_some_iff.1 hc).2
  refine M.pure_i (.int .u8 c.toNat) (fun w' => ?_) h
  rw [run_index_string _ _ _ _ _ (by kernel_rfl), dif_pos ⟨by omega, by simpa [ByteArray.size] using hi⟩]
  rw [← hg]
  rfl
theorem rhas_ret (s : Tx) (hs : s.length ≤ 100) (c : UInt8) (w : World) : Ret Tryz.prog 102 #[xs8 s, .int .u8 c.toNat] w (fun r w' => r = .bool (decide (c ∈ s)) ∧ w' = w) := by
  refine ok102 _ _ _ _ ?_
  unfold sh102
  refine M.loop_i (σ := Nat) (fun i vals w' => vals = [vi i] ∧ i ≤ s.length ∧ (∀ j x, j < i → s[j]? = some x → x ≠ c) ∧ w' = w) (fun i => s.length - i) 0 ⟨rfl, by omega, fun j x h => by omega, rfl⟩ ?_
  rintro i vals w1 K ⟨rfl, hi, hn, rfl⟩ hK _
  simp only [List.getD_cons_zero, List.getD_cons_succ]
  refine M.lenS8_i ?_
  by_cases hlt : i < s.length
  · have hx : s[i]? = some s[i] := List.getElem?_eq_getElem hlt
    (repeat (first|refine jo ?_|refine jy ?_))
    refine M.byteAt_i hx ?_
    by_cases e : s[i] = c
    · rw [e]
      (repeat (first|refine jo ?_|refine jG ?_))
      exact ⟨by rw [decide_eq_true]; rw [← e]; exact List.getElem_mem hlt, rfl⟩
    · have hne : ¬ ((s[i].toNat : Int) = (c.toNat : Int)) := fun h => e (UInt8.toNat_inj.1 (by omega))
      (repeat (first|refine jp ?_|refine jH ?_|refine jK ?_))
      refine hK (i + 1) _ _ (by omega) ⟨rfl, by omega, fun j x hj hx' => ?_, rfl⟩
      by_cases e1 : j = i
      · subst e1
        rw [hx] at hx'
        rw [← Option.some.inj hx']; exact e
      · exact hn j x (by omega) hx'
  · (repeat (first|refine jp ?_|refine jz ?_))
    refine ⟨?_, rfl⟩
    rw [decide_eq_false]
    intro h
    obtain ⟨j, hj, e⟩ := List.mem_iff_getElem.1 h
    exact hn j c (by omega) (by rw [List.getElem?_eq_getElem hj, e]) rfl
abbrev shpL : List Value := [xs8 [], xs8 ([65, 73] : List UInt8), xs8 ([65, 66] : List UInt8), xs8 ([65, 66, 67, 73] : List UInt8), xs8 ([65, 66, 73] : List UInt8), xs8 ([73] : List UInt8), xs8 ([65, 73] : List UInt8), xs8 ([65, 66] : List UInt8), xs8 ([65, 66] : List UInt8), xs8 ([65, 73] : List UInt8), xs8 ([65, 66] : List UInt8), xs8 ([65, 66] : List UInt8), xs8 [], xs8 [], xs8 ([65] : List UInt8), xs8 ([73] : List UInt8)]
theorem shpL_at {op : Nat} (h : 1 ≤ op ∧ op ≤ 15) : shpL[op]? = some (xs8 (shpB (op : Int))) := by
  have hc : op = 1 ∨ op = 2 ∨ op = 3 ∨ op = 4 ∨ op = 5 ∨ op = 6 ∨ op = 7 ∨ op = 8 ∨ op = 9 ∨ op = 10 ∨ op = 11 ∨ op = 12 ∨ op = 13 ∨ op = 14 ∨ op = 15 := by omega
  rcases hc with rfl | rfl | rfl | rfl | rfl | rfl | rfl | rfl | rfl | rfl | rfl | rfl | rfl | rfl | rfl <;> rfl
theorem rshape_ret {op : Int} (h : 1 ≤ op ∧ op ≤ 15) (w : World) : Ret Tryz.prog 101 #[vi op] w (fun r w' => r = xs8 (shpB op) ∧ Keep w w' No) := by
  obtain ⟨m, rfl⟩ := Int.eq_ofNat_of_zero_le (show 0 ≤ op by omega)
  have hm : 1 ≤ m ∧ m ≤ 15 := by omega
  refine ok101 _ _ _ ?_
  unfold sh101
  refine M.buildSlice_i shpL (by kernel_rfl) (fun w1 b1 k1 s1 => ?_)
  (repeat (first|refine ja ?_|refine jg ?_|refine jl ?_|refine jp ?_|refine jz ?_|refine jF ?_))
  refine M.idx_i (by omega) (by omega) ?_
  have e2 : 0 + (m : Int).toNat * 1 = m := by omega
  rw [e2]
  refine M.loadB_i b1 (shpL_at hm) ?_
  exact ⟨rfl, k1⟩
theorem mem_shp (op : Int) : decide ((65 : UInt8) ∈ shpB op) = hasA op ∧ decide ((66 : UInt8) ∈ shpB op) = hasB op ∧ decide ((67 : UInt8) ∈ shpB op) = hasC op ∧ decide ((73 : UInt8) ∈ shpB op) = hasI op := by
  unfold shpB
  generalize hasA op = a
  generalize hasB op = b
  generalize hasC op = c
  generalize hasI op = i
  cases a <;> cases b <;> cases c <;> cases i <;> decide
theorem shp_len (op : Int) : (shpB op).length ≤ 100 := by
  unfold shpB
  generalize hasA op = a
  generalize hasB op = b
  generalize hasC op = c
  generalize hasI op = i
  cases a <;> cases b <;> cases c <;> cases i <;> decide
theorem rhasK_ret (op : Int) {k : Nat} (hk : k < 3) (w : World) : Ret Tryz.prog 102 #[xs8 (shpB op), .int .u8 (65 + (k : Int))] w (fun r w' => r = .bool (if k = 0 then hasA op else if k = 1 then hasB op else hasC op) ∧ w' = w) := by
  obtain ⟨h1, h2, h3, _⟩ := mem_shp op
  match k, hk with
  | 0, _ => exact (rhas_ret (shpB op) (shp_len op) 65 w).mono (fun r w' h => ⟨by rw [h.1, h1]; rfl, h.2⟩)
  | 1, _ => exact (rhas_ret (shpB op) (shp_len op) 66 w).mono (fun r w' h => ⟨by rw [h.1, h2]; rfl, h.2⟩)
  | 2, _ => exact (rhas_ret (shpB op) (shp_len op) 67 w).mono (fun r w' h => ⟨by rw [h.1, h3]; rfl, h.2⟩)
theorem rhasI_ret (op : Int) (w : World) : Ret Tryz.prog 102 #[xs8 (shpB op), .int .u8 73] w (fun r w' => r = .bool (hasI op) ∧ w' = w) := by
  obtain ⟨_, _, _, h4⟩ := mem_shp op
  exact (rhas_ret (shpB op) (shp_len op) 73 w).mono (fun r w' h => ⟨by rw [h.1, h4], h.2⟩)
theorem regs_at (i : Ins) {k : Nat} (hk : k < 3) : ([vi i.a, vi i.b, vi i.c] : List Value)[k]? = some (vi (fldOf i k).2) := by
  match k, hk with
  | 0, _ => rfl
  | 1, _ => rfl
  | 2, _ => rfl
theorem fldOf_fst (i : Ins) (k : Nat) : (if k = 0 then hasA i.op else if k = 1 then hasB i.op else hasC i.op) = (fldOf i k).1 := by
  unfold fldOf
  split
  · rfl
  · split <;> rfl
theorem three_one (a b c : Int) : ∀ v ∈ [vi a, vi b, vi c], v.oneCell' = true := by
  simp only [List.mem_cons, List.not_mem_nil, or_false, forall_eq_or_imp, forall_eq]; exact ⟨rfl, rfl, rfl⟩
set_option maxHeartbeats 2000000 in
theorem rfields_ret (i : Ins) (w : World) : Ret Tryz.prog 58 #[encI i] w (fun r w' => ∃ e, r = vi e ∧ (e = 0 ↔ ((1 ≤ i.op ∧ i.op ≤ 15) ∧ (∀ k, k < 3 → regOk (fldOf i k).1 (fldOf i k).2 = true) ∧ (hasI i.op = true ∨ i.imm.toNat = 0))) ∧ Keep w w' No) := by
  refine ok58 _ _ _ ?_
  unfold sh58
  refine M.new_i (l := i.cells) (fun w1 b1 k1 s1 => ?_)
  have b1 : Blk w1 w.heap.size [vi i.op, vi i.a, vi i.b, vi i.c, vw i.imm] := b1
  by_cases o1 : i.op < 1
  · (repeat (first|refine jc ?_|refine ji ?_|refine jk ?_|refine jo ?_|refine jy ?_|refine jN (by assumption) rfl ?_))
    exact ⟨3, rfl, ⟨fun h => absurd h (by decide), fun h => by omega⟩, k1⟩
  by_cases o2 : 15 < i.op
  · (repeat (first|refine jc ?_|refine jg ?_|refine jl ?_|refine jo ?_|refine jz ?_|refine jC ?_|refine jN (by assumption) rfl ?_))
    exact ⟨3, rfl, ⟨fun h => absurd h (by decide), fun h => by omega⟩, k1⟩
  have hop : 1 ≤ i.op ∧ i.op ≤ 15 := by omega
  (repeat (first|refine jc ?_|refine jg ?_|refine jl ?_|refine jp ?_|refine jz ?_|refine jD ?_|refine jN (by assumption) rfl ?_))
  refine M.call_i (rshape_ret hop w1) ?_; rintro _ w2 ⟨rfl, k2⟩
  have b2 := b1.keep k2 (fun h => h)
  (repeat (first|refine jc ?_|refine jN (by assumption) rfl ?_))
  refine M.pure_i (.agg ⟨[vi i.a, vi i.b, vi i.c]⟩) (fun _ => by kernel_rfl) ?_
  refine M.new_i (l := [vi 0, vi 0, vi 0]) (fun w3 b3 k3 s3 => ?_)
  have b33 := b2.keep k3 (fun h => h)
  have hb2 := b2.lt
  refine M.storeAll_i (vs := [vi i.a, vi i.b, vi i.c]) b3 rfl rfl (three_one _ _ _) (fun w4 b4 k4 s4 => ?_)
  have b44 := b33.keep k4 (fun h => by have h : w.heap.size = w2.heap.size := h; omega)
  have k04 : Keep w w4 No := ((k1.trans k2 (fun _ _ h => h)).trans k3 (fun _ _ h => h)).trans k4 (fun b hb h => by have h : b = w2.heap.size := h; have := k1.size; have := k2.size; omega)
  refine M.loop_i (σ := Nat) (fun k vals w' => vals = [vi k] ∧ k ≤ 3 ∧ (∀ j, j < k → (fldOf i j).1 = false → (fldOf i j).2 = 0) ∧ w4 = w') (fun k => 3 - k) 0 ⟨rfl, by omega, fun j h => by omega, rfl⟩ ?_
  rintro k vals w5 K ⟨rfl, hk, hbad, rfl⟩ hK _
  simp only [List.getD_cons_zero, List.getD_cons_succ]
  by_cases hlt : k < 3
  · (repeat (first|refine jo ?_|refine jy ?_|refine jK ?_))
    refine M.byte_i ?_
    rw [Int.emod_eq_of_lt (by omega) (by omega)]
    refine M.call_i (rhasK_ret i.op hlt w4) ?_; rintro _ w6 ⟨rfl, rfl⟩
    rw [fldOf_fst]
    have nextk : ((fldOf i k).1 = false → (fldOf i k).2 = 0) → ∀ j, j < k + 1 → (fldOf i j).1 = false → (fldOf i j).2 = 0 := fun h j hj => by
      by_cases e : j = k
      · subst e; exact h
      · exact hbad j (by omega)
    cases hh : (fldOf i k).1 with
    | true =>
      rw [hh] at nextk
      (repeat (first|refine jh ?_|refine jl ?_|refine jm ?_|refine jp ?_|refine jK ?_))
      exact hK (k + 1) _ _ (by omega) ⟨rfl, by omega, nextk (fun h => by cases h), rfl⟩
    | false =>
      rw [hh] at nextk
      refine M.not_i ?_
      refine M.gd_tt ?_
      refine M.gd_tt ?_
      refine M.arr_i (by omega) (by omega) ?_
      have e2 : 0 + (k : Int).toNat * 1 = k := by omega
      rw [e2]
      refine M.gd_tt ?_
      refine M.loadB_i b4 (regs_at i hlt) ?_
      by_cases h0 : (fldOf i k).2 = 0
      · (repeat (first|refine jf ?_|refine jk ?_|refine jp ?_|refine jJ ?_|refine jK ?_))
        exact hK (k + 1) _ _ (by omega) ⟨rfl, by omega, nextk (fun _ => h0), rfl⟩
      · (repeat (first|refine jf ?_|refine jk ?_|refine jo ?_|refine jI ?_))
        refine ⟨5, rfl, ⟨fun h => absurd h (by decide), fun h => ?_⟩, k04⟩
        have := h.2.1 k hlt
        unfold regOk at this
        rw [hh] at this
        simp at this
        exact absurd this h0
  have e : k = 3 := by omega
  subst e
  clear hK
  (repeat (first|refine jp ?_|refine jz ?_))
  refine M.call_i (rhasI_ret i.op w4) ?_; rintro _ w6 ⟨rfl, rfl⟩
  by_cases hI : hasI i.op = true ∨ i.imm.toNat = 0
  case neg =>
    have h1 : hasI i.op = false := by cases h : hasI i.op with | true => exact absurd (.inl h) hI | false => rfl
    have h2 : ¬ i.imm.toNat = 0 := fun h => hI (.inr h)
    rw [h1]
    (repeat (first|refine jc ?_|refine jf ?_|refine jk ?_|refine jn ?_|refine jo ?_|refine jI ?_|refine jN (by assumption) rfl ?_))
    exact ⟨5, rfl, ⟨fun h => absurd h (by decide), fun h => absurd h.2.2 (by rw [h1] at hI; exact hI)⟩, k04⟩
  have hcase : hasI i.op = true ∨ (hasI i.op = false ∧ i.imm.toNat = 0) := by
    cases h : hasI i.op with
    | true => exact .inl rfl
    | false => rw [h] at hI; exact .inr ⟨rfl, by rcases hI with h | h; cases h; exact h⟩
  have loop2 : ∀ (body : List Value → (List Value → World → Prop) → World → Prop), (∀ (k : Nat) (K : List Value → World → Prop), k ≤ 3 → (∀ j, j < k → (fldOf i j).1 = true → 0 ≤ (fldOf i j).2 ∧ (fldOf i j).2 ≤ 7) →
      (k < 3 → ((fldOf i k).1 = true → 0 ≤ (fldOf i k).2 ∧ (fldOf i k).2 ≤ 7) → K [vi ((k : Int) + 1)] w6) → body [vi k] K w6) → M.loop [vi 0] body w6 := fun body hb => by
    refine M.loop_i (σ := Nat) (fun k vals w' => vals = [vi k] ∧ k ≤ 3 ∧ (∀ j, j < k → (fldOf i j).1 = true → 0 ≤ (fldOf i j).2 ∧ (fldOf i j).2 ≤ 7) ∧ w6 = w') (fun k => 3 - k) 0 ⟨rfl, by omega, fun j h => by omega, rfl⟩ ?_
    rintro k vals w5 K ⟨rfl, hk, hb2, rfl⟩ hK
    refine hb k K hk hb2 (fun hlt h => hK (k + 1) _ _ (by omega) ⟨rfl, by omega, fun j hj => ?_, rfl⟩)
    by_cases e : j = k
    · subst e; exact h
    · exact hb2 j (by omega)
  rcases hcase with h1 | ⟨h1, h2⟩
  all_goals
    rw [h1]
    (repeat (first|refine jc ?_|refine jf ?_|refine jh ?_|refine jk ?_|refine jl ?_|refine jm ?_|refine jn ?_|refine jp ?_|refine jJ ?_|refine jN (by assumption) rfl ?_))
    refine loop2 _ (fun k K hk hb2 hK _ => ?_)
    simp only [List.getD_cons_zero, List.getD_cons_succ]
    by_cases hlt : k < 3
    · (repeat (first|refine jo ?_|refine jy ?_|refine jK ?_))
      refine M.byte_i ?_
      rw [Int.emod_eq_of_lt (by omega) (by omega)]
      refine M.call_i (rhasK_ret i.op hlt w6) ?_; rintro _ w7 ⟨rfl, hw7⟩
      obtain rfl : w6 = w7 := hw7.symm
      rw [fldOf_fst]
      cases hh : (fldOf i k).1 with
      | false =>
        rw [hh] at hK
        (repeat (first|refine jh ?_|refine jj ?_|refine jl ?_|refine jp ?_|refine jK ?_))
        exact hK hlt (fun h => by cases h)
      | true =>
        rw [hh] at hK
        refine M.gd_tt ?_
        refine M.gd_tt ?_
        refine M.arr_i (by omega) (by omega) ?_
        have e2 : 0 + (k : Int).toNat * 1 = k := by omega
        rw [e2]
        refine M.gd_tt ?_
        refine M.loadB_i b4 (regs_at i hlt) ?_
        have bad : ¬ (0 ≤ (fldOf i k).2 ∧ (fldOf i k).2 ≤ 7) → ∃ e, vi 14 = vi e ∧ (e = 0 ↔ ((1 ≤ i.op ∧ i.op ≤ 15) ∧ (∀ k, k < 3 → regOk (fldOf i k).1 (fldOf i k).2 = true) ∧ (hasI i.op = true ∨ i.imm.toNat = 0))) ∧ Keep w w6 No := fun hn => by
          refine ⟨14, rfl, ⟨fun h => absurd h (by decide), fun h => ?_⟩, k04⟩
          have := h.2.1 k hlt
          unfold regOk at this
          rw [hh] at this
          simp at this
          exact absurd this hn
        by_cases h0 : (fldOf i k).2 < 0
        · (repeat (first|refine jf ?_|refine ji ?_|refine jk ?_|refine jo ?_|refine jy ?_))
          have q := bad (by omega)
          rw [h1] at q
          simpa using q
        · refine M.gd_tt ?_
          refine M.lss_f h0 ?_
          refine M.gd_tt ?_
          refine M.gd_ff ?_
          refine M.gd_ff ?_
          refine M.arr_i (by omega) (by omega) ?_
          rw [e2]
          refine M.gd_ff ?_
          refine M.loadB_i b4 (regs_at i hlt) ?_
          by_cases h7 : 7 < (fldOf i k).2
          · (repeat (first|refine jf ?_|refine jg ?_|refine jk ?_|refine jl ?_|refine jo ?_|refine jC ?_))
            have q := bad (by omega)
            rw [h1] at q
            simpa using q
          · (repeat (first|refine jf ?_|refine jg ?_|refine jk ?_|refine jl ?_|refine jp ?_|refine jD ?_|refine jK ?_))
            exact hK hlt (fun _ => by omega)
    · have e : k = 3 := by omega
      subst e
      (repeat (first|refine jp ?_|refine jz ?_))
      refine ⟨0, rfl, ⟨fun _ => ⟨hop, fun j hj => ?_, by first | exact .inl trivial | exact .inl rfl | exact .inr h2⟩, fun _ => rfl⟩, k04⟩
      unfold regOk
      cases hh : (fldOf i j).1 with
      | true => simpa using hb2 j hj hh
      | false => simpa using hbad j hj hh
set_option maxHeartbeats 4000000 in
theorem rcheck_ret (i : Ins) {len : Nat} (hlen : len ≤ 1000000) (w : World) : Ret Tryz.prog 24 #[encI i, vi 0, vi len] w (fun r w' => ∃ e, r = vi e ∧ (e = 0 ↔ okI i len = true) ∧ Keep w w' No) := by
  refine ok24 _ _ _ _ _ ?_
  unfold sh24
  refine M.new_i (l := i.cells) (fun w1 b1 k1 s1 => ?_)
  have b1 : Blk w1 w.heap.size [vi i.op, vi i.a, vi i.b, vi i.c, vw i.imm] := b1
  refine M.loadAll_i b1 rfl ?_
  refine M.call_i (rfields_ret i w1) ?_
  rintro _ w2 ⟨e, rfl, he, k2⟩
  have b2 := b1.keep k2 (fun h => h)
  have k := k1.trans k2 (fun _ _ h => h)
  rw [okI_iff]
  by_cases h0 : e = 0
  case neg =>
    (repeat (first|refine jo ?_|refine jI ?_))
    exact ⟨e, rfl, ⟨fun h => absurd h h0, fun h => absurd (he.2 h.1) h0⟩, k⟩
  have hf := he.1 h0
  have hop := hf.1
  have fin : ∀ (r : Int), (r = 0 ↔ immOk i len = true) → ∃ e, vi r = vi e ∧ (e = 0 ↔ ((1 ≤ i.op ∧ i.op ≤ 15) ∧ (∀ k, k < 3 → regOk (fldOf i k).1 (fldOf i k).2 = true) ∧ (hasI i.op = true ∨ i.imm.toNat = 0)) ∧ immOk i len = true) ∧ Keep w w2 No := fun r h => ⟨r, rfl, by rw [h]; exact ⟨fun h => ⟨hf, h⟩, fun h => h.2⟩, k⟩
  (repeat (first|refine jc ?_|refine jp ?_|refine jJ ?_|refine jN (by assumption) rfl ?_))
  refine M.share_j (fun vals w' => immOk i len = true ∧ w2 = w') ?_ ?_
  · rintro vals w' ⟨h, rfl⟩ _
    exact fin 0 ⟨fun _ => h, fun _ => rfl⟩
  intro K hK
  have hK : immOk i len = true → K [] w2 := fun h => hK _ _ ⟨h, rfl⟩
  by_cases o3 : i.op = 3
  · have hi : immOk i len = true ↔ (1 ≤ i.imm.toNat ∧ i.imm.toNat ≤ 14) := by unfold immOk; rw [if_pos o3]; simp
    by_cases h1 : i.imm.toNat < 1
    · (repeat (first|refine jc ?_|refine ji ?_|refine jk ?_|refine jo ?_|refine jy ?_|refine jG ?_|refine jN (by assumption) rfl ?_))
      exact fin 3 ⟨fun h => absurd h (by decide), fun h => by have := hi.1 h; omega⟩
    · by_cases h2 : 14 < i.imm.toNat
      · (repeat (first|refine jc ?_|refine jg ?_|refine jl ?_|refine jo ?_|refine jz ?_|refine jC ?_|refine jG ?_|refine jN (by assumption) rfl ?_))
        exact fin 3 ⟨fun h => absurd h (by decide), fun h => by have := hi.1 h; omega⟩
      · (repeat (first|refine jc ?_|refine jg ?_|refine jl ?_|refine jo ?_|refine jp ?_|refine jz ?_|refine jD ?_|refine jG ?_|refine jN (by assumption) rfl ?_))
        exact hK (hi.2 (by omega))
  by_cases o4 : i.op = 4
  · have hi : immOk i len = true ↔ (i.imm.toNat = 15 ∨ i.imm.toNat = 16) := by unfold immOk; rw [if_neg o3, if_pos o4]; simp
    by_cases h1 : i.imm.toNat = 15
    · (repeat (first|refine jc ?_|refine jh ?_|refine jl ?_|refine jo ?_|refine jp ?_|refine jG ?_|refine jH ?_|refine jJ ?_|refine jN (by assumption) rfl ?_))
      exact hK (hi.2 (by omega))
    · by_cases h2 : i.imm.toNat = 16
      · (repeat (first|refine jc ?_|refine jf ?_|refine jk ?_|refine jo ?_|refine jp ?_|refine jG ?_|refine jH ?_|refine jI ?_|refine jJ ?_|refine jN (by assumption) rfl ?_))
        exact hK (hi.2 (by omega))
      · (repeat (first|refine jc ?_|refine jf ?_|refine jk ?_|refine jo ?_|refine jp ?_|refine jG ?_|refine jH ?_|refine jI ?_|refine jN (by assumption) rfl ?_))
        exact fin 3 ⟨fun h => absurd h (by decide), fun h => by have := hi.1 h; omega⟩
  (repeat (first|refine jp ?_|refine jH ?_))
  by_cases o5 : i.op = 5 ∨ i.op = 6
  · have hi : immOk i len = true ↔ (0 ≤ (len : Int) ∧ (i.imm.toNat : Int) < len) := by unfold immOk; rw [if_neg o3, if_neg o4, if_pos o5]; simp
    refine M.share_j (fun vals w' => vals = [.bool true] ∧ w2 = w') ?_ ?_
    · rintro vals w' ⟨rfl, rfl⟩ _
      simp only [List.getD_cons_zero, List.getD_cons_succ]
      by_cases h1 : (len : Int) ≤ i.imm.toNat
      · (repeat (first|refine jc ?_|refine jg ?_|refine jo ?_|refine jz ?_|refine jN (by assumption) rfl ?_))
        refine M.u64_i (by omega) ?_
        (repeat (first|refine jg ?_|refine jl ?_|refine jo ?_|refine jE ?_))
        exact fin 15 ⟨fun h => absurd h (by decide), fun h => by have := hi.1 h; omega⟩
      · (repeat (first|refine jc ?_|refine jg ?_|refine jo ?_|refine jz ?_|refine jN (by assumption) rfl ?_))
        refine M.u64_i (by omega) ?_
        (repeat (first|refine jg ?_|refine jl ?_|refine jp ?_|refine jF ?_))
        exact hK (hi.2 (by omega))
    · intro K2 hK2
      have hK2 := hK2 _ _ ⟨rfl, rfl⟩
      rcases o5 with o | o
      all_goals
        (repeat (first|refine jo ?_|refine jp ?_|refine jG ?_|refine jH ?_))
        exact hK2
  refine M.share_j (fun vals w' => vals = [.bool false] ∧ w2 = w') ?_ ?_
  case refine_2 =>
    intro K2 hK2
    have hK2 := hK2 _ _ ⟨rfl, rfl⟩
    (repeat (first|refine jp ?_|refine jH ?_))
    exact hK2
  rintro vals w' ⟨rfl, rfl⟩ _
  simp only [List.getD_cons_zero, List.getD_cons_succ]
  (repeat (refine jp ?_))
  by_cases o9 : i.op = 9
  · have hi : immOk i len = true ↔ i.imm.toNat < 4 := by unfold immOk; rw [if_neg o3, if_neg o4, if_neg o5, if_pos o9]; simp
    by_cases h1 : 4 ≤ i.imm.toNat
    · (repeat (first|refine jc ?_|refine jo ?_|refine jp ?_|refine jE ?_|refine jG ?_|refine jJ ?_|refine jN (by assumption) rfl ?_))
      exact fin 4 ⟨fun h => absurd h (by decide), fun h => by have := hi.1 h; omega⟩
    · (repeat (first|refine jc ?_|refine jo ?_|refine jp ?_|refine jF ?_|refine jG ?_|refine jJ ?_|refine jN (by assumption) rfl ?_))
      exact hK (hi.2 (by omega))
  by_cases o15 : i.op = 15
  · have hi : immOk i len = true ↔ (1 ≤ i.imm.toNat ∧ i.imm.toNat ≤ 255) := by unfold immOk; rw [if_neg o3, if_neg o4, if_neg o5, if_neg o9, if_pos o15]; simp
    by_cases h1 : i.imm.toNat < 1
    · (repeat (first|refine jc ?_|refine ji ?_|refine jk ?_|refine jo ?_|refine jp ?_|refine jy ?_|refine jG ?_|refine jH ?_|refine jN (by assumption) rfl ?_))
      exact fin 4 ⟨fun h => absurd h (by decide), fun h => by have := hi.1 h; omega⟩
    · by_cases h2 : 255 < i.imm.toNat
      · (repeat (first|refine jc ?_|refine jg ?_|refine jl ?_|refine jo ?_|refine jp ?_|refine jz ?_|refine jC ?_|refine jG ?_|refine jH ?_|refine jN (by assumption) rfl ?_))
        exact fin 4 ⟨fun h => absurd h (by decide), fun h => by have := hi.1 h; omega⟩
      · (repeat (first|refine jc ?_|refine jg ?_|refine jl ?_|refine jo ?_|refine jp ?_|refine jz ?_|refine jD ?_|refine jG ?_|refine jH ?_|refine jN (by assumption) rfl ?_))
        exact hK (hi.2 (by omega))
  · have hi : immOk i len = true := by unfold immOk; rw [if_neg o3, if_neg o4, if_neg o5, if_neg o9, if_neg o15]
    (repeat (first|refine jp ?_|refine jH ?_))
    exact hK hi
end Go.Proofs.YtanjlgafjgoaaaaGreat
namespace Go.Proofs.YtanjlgafjgoaaaaGreat
open Go.Mw
set_option linter.unusedVariables false
set_option linter.unusedSimpArgs false
set_option maxRecDepth 100000
attribute [local irreducible] M.val M.unit M.next M.pick M.new M.nilCheck M.load1 M.loadA M.store M.fieldAddr M.indexSl M.indexArr M.slice M.makeSlice M.buildSlice M.len M.lenS M.cap M.append M.extract M.conv M.not M.neg M.bin M.shift M.eqB M.eqNil M.scat M.call M.callv M.gd M.share M.cond M.loop M.draw pureW readW Ret
def sh66 (x0 x1 : Value) (R : Kt) (w : World) : Prop :=
  M.new 46 (Value.cells x0) (fun t2 w =>
  M.fieldAddr 0 t2 (fun t8 w =>
  M.load1 t8 (fun t9 w =>
  M.len t9 (fun t10 w =>
  M.conv .u64 t10 (fun t11 w =>
  M.bin .geq x1 t11 (fun t12 w =>
  M.cond t12
  (R (.tuple #[(Value.int IntKind.u64 0), (Value.bool false)]) w)
  (M.fieldAddr 1 t2 (fun t13 w =>
  M.load1 t13 (fun t14 w =>
  M.len t14 (fun t15 w =>
  M.bin .sub t15 (Value.int IntKind.i64 1) (fun t16 w =>
  M.loop [t16] (fun s1 K1 w => ∀ _ : List Value,
  M.bin .geq (s1.getD 0 undef) (Value.int IntKind.i64 0) (fun t18 w =>
  M.cond t18
  (M.fieldAddr 1 t2 (fun t21 w =>
  M.load1 t21 (fun t22 w =>
  M.indexSl 3 t22 (s1.getD 0 undef) (fun t24 w =>
  M.fieldAddr 0 t24 (fun t25 w =>
  M.load1 t25 (fun t26 w =>
  M.conv .i64 x1 (fun t28 w =>
  M.bin .eql t26 t28 (fun t29 w =>
  M.cond t29
  (M.fieldAddr 1 t2 (fun t30 w =>
  M.load1 t30 (fun t31 w =>
  M.indexSl 3 t31 (s1.getD 0 undef) (fun t33 w =>
  M.fieldAddr 1 t33 (fun t34 w =>
  M.load1 t34 (fun t35 w =>
  R (.tuple #[t35, (Value.bool true)]) w) w) w) w) w) w)
  (M.bin .sub (s1.getD 0 undef) (Value.int IntKind.i64 1) (fun t20 w =>
  K1 [t20] w) w)) w) w) w) w) w) w) w)
  (M.fieldAddr 0 t2 (fun t36 w =>
  M.load1 t36 (fun t37 w =>
  M.indexSl 1 t37 x1 (fun t39 w =>
  M.load1 t39 (fun t40 w =>
  R (.tuple #[t40, (Value.bool true)]) w) w) w) w) w)) w) w) w) w) w) w)) w) w) w) w) w) w
theorem ok66 (x0 x1 : Value) (R : Kt) (w : World) (h : sh66 x0 x1 R w) : Ret Tryz.prog 66 #[x0, x1] w R :=
  ret_mk <| calls_of_comp mixed (c := Tryz.f66.body.getD .skip) (args := [x0, x1]) (rs := [(ResultVar.tmp 4), (ResultVar.tmp 5)]) (Ann.seq Ann.text (Ann.seq (Ann.seq Ann.text (Ann.cond (Ann.seq Ann.text Ann.leaf) Ann.leaf)) (Ann.seq (Ann.seq Ann.text (Ann.block (Ann.loop [6] [4, 5, 17, 18, 19, 20, 21, 22, 23, 24, 25, 26, 27, 28, 29, 30, 31, 32, 33, 34, 35] (Ann.seq (Ann.seq Ann.text (Ann.cond Ann.leaf Ann.leaf)) (Ann.seq (Ann.block (Ann.seq Ann.text (Ann.cond (Ann.seq Ann.text Ann.leaf) Ann.leaf))) Ann.text))))) (Ann.seq Ann.text Ann.leaf))))
    Tryz.func66 (by kernel_rfl) (by kernel_rfl)
    (Eq.mp (by kernel_rfl) h)
def sh67 (x0 x1 x2 x3 : Value) (R : Kt) (w : World) : Prop :=
  M.new 46 (Value.cells x0) (fun t4 w =>
  M.new 46 #[.slice none 0 0, .slice none 0 0, .int .i64 0] (fun t8 w =>
  M.fieldAddr 0 t4 (fun t12 w =>
  M.load1 t12 (fun t13 w =>
  M.len t13 (fun t14 w =>
  M.conv .u64 t14 (fun t15 w =>
  M.bin .geq x1 t15 (fun t16 w =>
  M.cond t16
  (M.loadA 3 t4 (fun t17 w =>
  M.store 3 t8 t17 (fun _ w =>
  M.loadA 3 t8 (fun r0 w => R (.tuple #[r0, (Value.int IntKind.i64 258)]) w) w) w) w)
  (M.fieldAddr 1 t4 (fun t18 w =>
  M.load1 t18 (fun t19 w =>
  M.len t19 (fun t20 w =>
  M.bin .geq t20 x3 (fun t22 w =>
  M.cond t22
  (M.loadA 3 t4 (fun t23 w =>
  M.store 3 t8 t23 (fun _ w =>
  M.loadA 3 t8 (fun r0 w => R (.tuple #[r0, (Value.int IntKind.i64 259)]) w) w) w) w)
  (M.fieldAddr 1 t4 (fun t24 w =>
  M.load1 t24 (fun t25 w =>
  M.append 99 3 24 #[.int .i64 0, .int .u64 0, .int .i64 0] (Value.slice none 0 0) t25 (fun t26 w =>
  M.conv .i64 x1 (fun t29 w =>
  M.fieldAddr 2 t4 (fun t31 w =>
  M.load1 t31 (fun t32 w =>
  pureW Tryz.prog (Instr.build 99 #[(0, t29), (1, x2), (2, t32)]) (fun t33 w =>
  M.buildSlice 99 3 #[.int .i64 0, .int .u64 0, .int .i64 0] 1 [(0, t33)] (fun t34 w =>
  M.append 99 3 24 #[.int .i64 0, .int .u64 0, .int .i64 0] t26 t34 (fun t35 w =>
  M.fieldAddr 1 t4 (fun t37 w =>
  M.store 1 t37 t35 (fun _ w =>
  M.loadA 3 t4 (fun t38 w =>
  M.store 3 t8 t38 (fun _ w =>
  M.loadA 3 t8 (fun r0 w => R (.tuple #[r0, (Value.int IntKind.i64 0)]) w) w) w) w) w) w) w) w) w) w) w) w) w) w) w)) w) w) w) w)) w) w) w) w) w) w) w
theorem ok67 (x0 x1 x2 x3 : Value) (R : Kt) (w : World) (h : sh67 x0 x1 x2 x3 R w) : Ret Tryz.prog 67 #[x0, x1, x2, x3] w R :=
  ret_mk <| calls_of_comp mixed (c := Tryz.f67.body.getD .skip) (args := [x0, x1, x2, x3]) (rs := [(ResultVar.cell 8 46), (ResultVar.tmp 9)]) (Ann.seq Ann.text (Ann.seq (Ann.seq Ann.text (Ann.cond (Ann.seq Ann.text Ann.leaf) Ann.leaf)) (Ann.seq (Ann.seq Ann.text (Ann.cond (Ann.seq Ann.text Ann.leaf) Ann.leaf)) (Ann.seq Ann.text (Ann.seq Ann.text (Ann.seq Ann.text (Ann.seq Ann.text Ann.leaf)))))))
    Tryz.func67 (by kernel_rfl) (by kernel_rfl)
    (Eq.mp (by kernel_rfl) h)
def sh105 (x0 x1 : Value) (R : Kt) (w : World) : Prop :=
  M.append 42 1 8 #[.int .u64 0] (Value.slice none 0 0) x0 (fun t8 w =>
  M.loop [(Value.int IntKind.i64 0)] (fun s1 K1 w => ∀ _ : List Value,
  M.len x1 (fun t11 w =>
  M.bin .lss (s1.getD 0 undef) t11 (fun t12 w =>
  M.cond t12
  (M.share (fun K2 w =>
  M.indexSl 3 x1 (s1.getD 0 undef) (fun t17 w =>
  M.fieldAddr 0 t17 (fun t18 w =>
  M.load1 t18 (fun t19 w =>
  M.bin .geq t19 (Value.int IntKind.i64 0) (fun t20 w =>
  M.gd t20 true (fun k w => k x1 w) (fun t22 w =>
  M.gd t20 true (fun k w => k (s1.getD 0 undef) w) (fun t23 w =>
  M.gd t20 true (fun k w => M.indexSl 3 t22 t23 k w) (fun t24 w =>
  M.gd t20 true (fun k w => M.fieldAddr 0 t24 k w) (fun t25 w =>
  M.gd t20 true (fun k w => M.load1 t25 k w) (fun t26 w =>
  M.gd t20 true (fun k w => k t8 w) (fun t27 w =>
  M.gd t20 true (fun k w => M.len t27 k w) (fun t28 w =>
  M.gd t20 true (fun k w => M.bin .lss t26 t28 k w) (fun t29 w =>
  M.pick t20 t29 (Value.bool false) (fun t30 w =>
  M.cond t30
  (M.draw (fun w =>
  M.indexSl 3 x1 (s1.getD 0 undef) (fun t34 w =>
  M.fieldAddr 0 t34 (fun t35 w =>
  M.load1 t35 (fun t36 w =>
  M.indexSl 3 x1 (s1.getD 0 undef) (fun t39 w =>
  M.fieldAddr 1 t39 (fun t40 w =>
  M.load1 t40 (fun t41 w =>
  M.indexSl 1 t8 t36 (fun t42 w =>
  M.store 1 t42 t41 (fun _ w =>
  K2 [] w) w) w) w) w) w) w) w) w) w)
  (K2 [] w)) w) w) w) w) w) w) w) w) w) w) w) w) w) (fun s2 w => ∀ _ : List Value,
  M.bin .add (s1.getD 0 undef) (Value.int IntKind.i64 1) (fun t14 w =>
  K1 [t14] w) w) w)
  (R t8 w)) w) w) w) w
theorem ok105 (x0 x1 : Value) (R : Kt) (w : World) (h : sh105 x0 x1 R w) : Ret Tryz.prog 105 #[x0, x1] w R :=
  ret_mk <| calls_of_comp mixed (c := Tryz.f105.body.getD .skip) (args := [x0, x1]) (rs := [(ResultVar.tmp 4)]) (Ann.seq Ann.text (Ann.seq Ann.text (Ann.seq (Ann.seq Ann.text (Ann.block (Ann.loop [6] [9, 10, 11, 12, 13, 14, 15, 16, 17, 18, 19, 20, 21, 22, 23, 24, 25, 26, 27, 28, 29, 30, 31, 32, 33, 34, 35, 36, 37, 38, 39, 40, 41, 42] (Ann.seq (Ann.seq Ann.text (Ann.cond Ann.leaf Ann.leaf)) (Ann.seq (Ann.jblock [] [15, 16, 17, 18, 19, 20, 21, 22, 23, 24, 25, 26, 27, 28, 29, 30, 31, 32, 33, 34, 35, 36, 37, 38, 39, 40, 41, 42] (Ann.seq Ann.text (Ann.cond (Ann.draw (Sch.take 0 (Sch.take 1 (Sch.take 2 (Sch.take 3 (Sch.take 4 (Sch.take 5 (Sch.take 6 (Sch.take 7 (Sch.take 8 (Sch.take 9 (Sch.take 10 (Sch.take 11 (Sch.one 12 Sch.done)))))))))))))) Ann.leaf))) Ann.text))))) (Ann.seq Ann.text Ann.leaf))))
    Tryz.func105 (by kernel_rfl) (by kernel_rfl)
    (Eq.mp (by kernel_rfl) h)
def sh68 (x0 : Value) (R : Kt) (w : World) : Prop :=
  M.new 46 (Value.cells x0) (fun t1 w =>
  M.new 46 #[.slice none 0 0, .slice none 0 0, .int .i64 0] (fun t2 w =>
  M.fieldAddr 0 t1 (fun t3 w =>
  M.load1 t3 (fun t4 w =>
  M.fieldAddr 1 t1 (fun t5 w =>
  M.load1 t5 (fun t6 w =>
  M.call Tryz.prog 105 #[t4, t6] (fun t7 w =>
  pureW Tryz.prog (Instr.build 46 #[(0, t7)]) (fun t8 w =>
  M.store 3 t2 t8 (fun _ w =>
  M.loadA 3 t2 (fun r0 w => R r0 w) w) w) w) w) w) w) w) w) w) w
theorem ok68 (x0 : Value) (R : Kt) (w : World) (h : sh68 x0 R w) : Ret Tryz.prog 68 #[x0] w R :=
  ret_mk <| calls_of_comp mixed (c := Tryz.f68.body.getD .skip) (args := [x0]) (rs := [(ResultVar.cell 2 46)]) (Ann.seq Ann.text (Ann.seq Ann.text Ann.leaf))
    Tryz.func68 (by kernel_rfl) (by kernel_rfl)
    (Eq.mp (by kernel_rfl) h)
def sh69 (x0 : Value) (R : Kt) (w : World) : Prop :=
  M.new 46 (Value.cells x0) (fun t1 w =>
  M.new 46 #[.slice none 0 0, .slice none 0 0, .int .i64 0] (fun t2 w =>
  M.loop [(Value.int IntKind.i64 0)] (fun s1 K1 w => ∀ _ : List Value,
  M.fieldAddr 1 t1 (fun t5 w =>
  M.load1 t5 (fun t6 w =>
  M.len t6 (fun t7 w =>
  M.bin .lss (s1.getD 0 undef) t7 (fun t8 w =>
  M.cond t8
  (M.draw (fun w =>
  M.fieldAddr 1 t1 (fun t11 w =>
  M.load1 t11 (fun t12 w =>
  M.indexSl 3 t12 (s1.getD 0 undef) (fun t14 w =>
  M.fieldAddr 2 t14 (fun t15 w =>
  M.load1 t15 (fun t16 w =>
  M.fieldAddr 2 t1 (fun t17 w =>
  M.load1 t17 (fun t18 w =>
  M.bin .eql t16 t18 (fun t19 w =>
  M.cond t19
  (M.fieldAddr 2 t1 (fun t20 w =>
  M.load1 t20 (fun t21 w =>
  M.bin .add t21 (Value.int IntKind.i64 1) (fun t22 w =>
  M.fieldAddr 2 t1 (fun t23 w =>
  M.store 1 t23 t22 (fun _ w =>
  M.loadA 3 t1 (fun t24 w =>
  M.store 3 t2 t24 (fun _ w =>
  M.loadA 3 t2 (fun r0 w => R r0 w) w) w) w) w) w) w) w) w)
  (M.bin .add (s1.getD 0 undef) (Value.int IntKind.i64 1) (fun t10 w =>
  K1 [t10] w) w)) w) w) w) w) w) w) w) w) w)
  (M.loadA 3 t1 (fun t25 w =>
  M.store 3 t2 t25 (fun _ w =>
  M.loadA 3 t2 (fun r0 w => R r0 w) w) w) w)) w) w) w) w) w) w) w
theorem ok69 (x0 : Value) (R : Kt) (w : World) (h : sh69 x0 R w) : Ret Tryz.prog 69 #[x0] w R :=
  ret_mk <| calls_of_comp mixed (c := Tryz.f69.body.getD .skip) (args := [x0]) (rs := [(ResultVar.cell 2 46)]) (Ann.seq Ann.text (Ann.seq (Ann.seq Ann.text (Ann.block (Ann.loop [3] [4, 5, 6, 7, 8, 9, 10, 11, 12, 13, 14, 15, 16, 17, 18, 19, 20, 21, 22, 23, 24] (Ann.seq (Ann.seq Ann.text (Ann.cond Ann.leaf Ann.leaf)) (Ann.seq (Ann.block (Ann.seq (Ann.draw (Sch.take 0 (Sch.take 1 (Sch.take 2 (Sch.take 3 (Sch.take 4 (Sch.take 5 (Sch.take 6 (Sch.take 7 (Sch.take 8 Sch.done)))))))))) (Ann.cond (Ann.seq Ann.text (Ann.seq Ann.text Ann.leaf)) Ann.leaf))) Ann.text))))) (Ann.seq Ann.text Ann.leaf)))
    Tryz.func69 (by kernel_rfl) (by kernel_rfl)
    (Eq.mp (by kernel_rfl) h)
theorem pd_one (x : PD) : ∀ y ∈ x.cells, y.oneCell' = true := by
  intro y hy
  simp only [PD.cells, List.mem_cons, List.not_mem_nil, or_false] at hy
  rcases hy with rfl | rfl | rfl <;> rfl
theorem pds_one (l : List PD) : ∀ y ∈ l.flatMap PD.cells, y.oneCell' = true := by
  intro y hy
  obtain ⟨x, _, hx⟩ := List.mem_flatMap.1 hy
  exact pd_one x y hx
theorem foldl_none {k : Nat} : ∀ (l : List PD) (x : W64), (∀ q ∈ l, q.b ≠ (k : Int)) → l.foldl (fun x w => if w.b = (k : Int) then w.v else x) x = x
  | [], _, _ => rfl
  | q :: l, x, h => by
    rw [List.foldl_cons, if_neg (h q (by simp))]
    exact foldl_none l x (fun q hq => h q (by simp [hq]))
theorem readC_none {d : Dv} {k : Nat} (h : ∀ q ∈ d.pend, q.b ≠ (k : Int)) : readC d k = d.disk.getD k 0 := foldl_none _ _ h
theorem readC_last {d : Dv} {k j : Nat} {p : PD} (hp : d.pend[j]? = some p) (hb : p.b = (k : Int)) (h : ∀ i q, j < i → d.pend[i]? = some q → q.b ≠ (k : Int)) : readC d k = p.v := by
  obtain ⟨hj, hg⟩ := List.getElem?_eq_some_iff.1 hp
  have e : d.pend = d.pend.take j ++ p :: d.pend.drop (j + 1) := by
    rw [← hg, List.getElem_cons_drop, List.take_append_drop]
  unfold readC
  rw [e, List.foldl_append, List.foldl_cons, if_pos hb]
  refine foldl_none _ _ (fun q hq => ?_)
  obtain ⟨i, hi, hq⟩ := List.mem_iff_getElem.1 hq
  rw [List.getElem_drop] at hq
  rw [List.length_drop] at hi
  exact h (j + 1 + i) q (by omega) (by rw [List.getElem?_eq_getElem (by omega), hq])
section
variable {w : World} {D : Nat → Prop} {a b : Value} {d : Dv}
theorem rread_ret (h : DvO w D a b d) (hf1 : d.disk.length ≤ 1000000) (hf2 : d.pend.length ≤ 1000000) (x : W64) :
    Ret Tryz.prog 66 #[.agg ⟨[a, b, vi d.ep]⟩, vw x] w (fun r w' => r = .tuple #[vw (if x.toNat < d.disk.length then readC d x.toNat else 0), .bool (decide (x.toNat < d.disk.length))] ∧ Keep w w' No) := by
  obtain ⟨⟨A, c, rfl, hr, hc⟩, B, cb, rfl, hrb, hcb⟩ := h
  refine ok66 _ _ _ _ ?_
  unfold sh66
  refine M.new_i (l := [.slice A d.disk.length c, .slice B d.pend.length cb, vi d.ep]) (fun w1 b1 k1 s1 => ?_)
  have hr := hr.keep k1 (fun _ _ _ h => h)
  have hrb := hrb.keep k1 (fun _ _ _ h => h)
  (repeat (first|refine ja ?_|refine jc ?_|refine jN (by assumption) rfl ?_))
  refine M.u64_i (by omega) ?_
  by_cases hx : x.toNat < d.disk.length
  rotate_left
  · rw [if_neg hx, decide_eq_false hx]
    (repeat (first|refine jo ?_|refine jE ?_))
    exact ⟨rfl, k1⟩
  rw [if_pos hx, decide_eq_true hx]
  (repeat (first|refine ja ?_|refine jc ?_|refine jp ?_|refine jF ?_|refine jL ?_|refine jN (by assumption) rfl ?_))
  refine M.loop_i (σ := Nat) (fun i vals w' => vals = [vi ((i : Int) - 1)] ∧ i ≤ d.pend.length ∧ (∀ j q, i ≤ j → d.pend[j]? = some q → q.b ≠ (x.toNat : Int)) ∧ w1 = w') id d.pend.length ⟨rfl, by omega, fun j q hj hq => by have := (List.getElem?_eq_some_iff.1 hq).1; omega, rfl⟩ ?_
  rintro i vals w2 K ⟨rfl, hi, hn, rfl⟩ hK _
  simp only [List.getD_cons_zero, List.getD_cons_succ]
  by_cases h0 : i = 0
  · subst h0
    clear hK
    (repeat (first|refine jc ?_|refine jp ?_|refine jF ?_|refine jN (by assumption) rfl ?_))
    refine M.idxLV_i hr rfl (by omega) (by omega) (x := d.disk[x.toNat]) (by rw [Int.toNat_natCast]; exact List.getElem?_eq_getElem hx) (fun bb oo hA hcc => ?_)
    refine M.load_i hcc ?_
    rw [readC_none (fun q hq => by
      obtain ⟨j, hj, e⟩ := List.mem_iff_getElem.1 hq
      exact hn j q (by omega) (by rw [List.getElem?_eq_getElem hj, e])), List.getD_eq_getElem?_getD, List.getElem?_eq_getElem hx]
    exact ⟨rfl, k1⟩
  · obtain ⟨m, rfl⟩ : ∃ m, i = m + 1 := ⟨i - 1, by omega⟩
    have e1 : ((m + 1 : Nat) : Int) - 1 = (m : Int) := by omega
    rw [e1]
    have hm : d.pend[m]? = some d.pend[m] := List.getElem?_eq_getElem (by omega)
    (repeat (first|refine jc ?_|refine jo ?_|refine jE ?_|refine jN (by assumption) rfl ?_))
    refine M.idxF_i pd_len (by omega) hrb rfl (by omega) (x := d.pend[m]) (by rw [Int.toNat_natCast]; exact hm) (fun bb oo hcc => ?_)
    refine M.field_i ?_
    refine M.load_i (hcc 0 _ rfl) ?_
    refine M.int8_i (by omega) (by omega) ?_
    by_cases hb : d.pend[m].b = (x.toNat : Int)
    · (repeat (first|refine jc ?_|refine jo ?_|refine jG ?_|refine jN (by assumption) rfl ?_))
      refine M.idxF_i pd_len (by omega) hrb rfl (by omega) (x := d.pend[m]) (by rw [Int.toNat_natCast]; exact hm) (fun b2 o2 hc2 => ?_)
      refine M.field_i ?_
      refine M.load_i (hc2 1 _ rfl) ?_
      rw [readC_last hm hb (fun i q hi hq => hn i q (by omega) hq)]
      exact ⟨rfl, k1⟩
    · (repeat (first|refine jp ?_|refine jH ?_|refine jL ?_))
      refine hK m _ _ (by show m < m + 1; omega) ⟨rfl, by omega, fun j q hj hq => ?_, rfl⟩
      by_cases e : j = m
      · subst e
        rw [hm] at hq
        rw [← Option.some.inj hq]; exact hb
      · exact hn j q (by omega) hq
def wrC (d : Dv) (x v : W64) (mw : Int) : Int := if d.disk.length ≤ x.toNat then 258 else if mw ≤ (d.pend.length : Int) then 259 else 0
def wrD (d : Dv) (x v : W64) (mw : Int) : Dv := if d.disk.length ≤ x.toNat then d else if mw ≤ (d.pend.length : Int) then d else { d with pend := d.pend ++ [⟨(x.toNat : Int), v, d.ep⟩] }
theorem dv3_one {A B : Option Addr} {n m c cb : Nat} {e : Int} : ∀ y ∈ ([.slice A n c, .slice B m cb, vi e] : List Value), y.oneCell' = true := by
  simp only [List.mem_cons, List.not_mem_nil, or_false, forall_eq_or_imp, forall_eq]; exact ⟨rfl, rfl, rfl⟩
theorem rwrite_ret (h : DvO w D a b d) (hf1 : d.disk.length ≤ 1000000) (hf2 : d.pend.length ≤ 1000000) (x v : W64) (mw : Int) :
    Ret Tryz.prog 67 #[.agg ⟨[a, b, vi d.ep]⟩, vw x, vw v, vi mw] w (fun r w' => ∃ a' b', r = .tuple #[.agg ⟨[a', b', vi d.ep]⟩, vi (wrC d x v mw)] ∧ DvO w' (fun q => D q ∨ w.heap.size ≤ q) a' b' (wrD d x v mw) ∧ Keep w w' No) := by
  have hsv := h
  obtain ⟨⟨A, c, rfl, hr, hc⟩, B, cb, rfl, hrb, hcb⟩ := h
  refine ok67 _ _ _ _ _ _ ?_
  unfold sh67
  refine M.new_i (l := [.slice A d.disk.length c, .slice B d.pend.length cb, vi d.ep]) (fun w1 b1 k1 s1 => ?_)
  refine M.new_i (l := [.slice none 0 0, .slice none 0 0, vi 0]) (fun w2 b2 k2 s2 => ?_)
  have b12 := b1.keep k2 (fun h => h)
  have k02 := k1.trans k2 (fun _ _ h => h)
  (repeat (first|refine ja ?_|refine jc ?_|refine jN (by assumption) rfl ?_))
  refine M.u64_i (by omega) ?_
  by_cases hx : d.disk.length ≤ x.toNat
  · unfold wrC wrD
    rw [if_pos hx, if_pos hx]
    (repeat (first|refine jo ?_|refine jE ?_))
    refine M.loadAll_i b12 rfl ?_
    refine M.storeAll_i b2 rfl rfl dv3_one (fun w3 b3 k3 s3 => ?_)
    refine M.loadAll_i b3 rfl ?_
    have k03 : Keep w w3 No := k02.trans k3 (fun q hq e => by have e : q = w1.heap.size := e; omega)
    exact ⟨_, _, rfl, (hsv.keep k03 (fun _ _ _ h => h)).mono (fun _ _ h => .inl h), k03⟩
  (repeat (first|refine ja ?_|refine jc ?_|refine jp ?_|refine jF ?_|refine jN (by assumption) rfl ?_))
  by_cases hm : mw ≤ (d.pend.length : Int)
  · unfold wrC wrD
    rw [if_neg hx, if_neg hx, if_pos hm, if_pos hm]
    (repeat (first|refine jo ?_|refine jE ?_))
    refine M.loadAll_i b12 rfl ?_
    refine M.storeAll_i b2 rfl rfl dv3_one (fun w3 b3 k3 s3 => ?_)
    refine M.loadAll_i b3 rfl ?_
    have k03 : Keep w w3 No := k02.trans k3 (fun q hq e => by have e : q = w1.heap.size := e; omega)
    exact ⟨_, _, rfl, (hsv.keep k03 (fun _ _ _ h => h)).mono (fun _ _ h => .inl h), k03⟩
  unfold wrC wrD
  rw [if_neg hx, if_neg hx, if_neg hm, if_neg hm]
  (repeat (first|refine jc ?_|refine jp ?_|refine jF ?_|refine jN (by assumption) rfl ?_))
  have hrb2 := hrb.keep k02 (fun _ _ _ h => h)
  have fl := flat_len pd_len d.pend
  refine M.append_i (L := (w2.heap.size ≤ ·)) (GC.nil w2 _ 3) hrb2 fl (pds_one _) rfl (by omega) (by omega) (fun v3 w3 g3 k3 => ?_)
  have q02 := k02.size
  have b33 := b12.keep k3 (fun h => by have h : w2.heap.size ≤ w.heap.size := h; omega)
  have b34 := b2.keep k3 (fun h => by have h : w2.heap.size ≤ w1.heap.size := h; omega)
  refine M.int8_i (by omega) (by omega) ?_
  (repeat (first|refine jc ?_|refine jN (by assumption) rfl ?_))
  refine M.pure_i (.agg ⟨[vi (x.toNat : Int), vw v, vi d.ep]⟩) (fun _ => by kernel_rfl) ?_
  refine M.buildSlice_i [vi (x.toNat : Int), vw v, vi d.ep] (by kernel_rfl) (fun w4 b4 k4 s4 => ?_)
  have g4 := g3.keep k4 (fun _ _ _ h => h)
  refine M.append_i g4 (Row.of_blk' (D := fun _ => True) b4 trivial) rfl (pd_one ⟨x.toNat, v, d.ep⟩) rfl (by omega) (by omega) (fun v5 w5 g5 k5 => ?_)
  have q3 := k3.size
  have q4 := k4.size
  have q5 := k5.size
  have b53 := (b33.keep k4 (fun h => h)).keep k5 (fun h => by rcases h with h | h <;> (have h : w2.heap.size ≤ w.heap.size := h; omega))
  have b54 := (b34.keep k4 (fun h => h)).keep k5 (fun h => by rcases h with h | h <;> (have h : w2.heap.size ≤ w1.heap.size := h; omega))
  have hv5 : v5.oneCell' = true := by
    obtain ⟨X, cx, rfl, _⟩ := GC.row2 g5 (by omega)
    rfl
  refine M.field_i ?_
  refine M.store_i b53 (by simp) hv5 (fun w6 b6 k6 s6 => ?_)
  have b64 := b54.keep k6 (fun h => by omega)
  refine M.loadAll_i b6 rfl ?_
  have g6 := g5.keep k6 (fun q hq h e => by
    have e : q = w.heap.size := e
    rcases h with (h | h) | h <;> (have h : w2.heap.size ≤ q := (by omega); omega))
  have hone : ∀ y ∈ ([.slice A d.disk.length c, v5, vi d.ep] : List Value), y.oneCell' = true := by
    simp only [List.mem_cons, List.not_mem_nil, or_false, forall_eq_or_imp, forall_eq]; exact ⟨rfl, hv5, rfl⟩
  refine M.storeAll_i (vs := [.slice A d.disk.length c, v5, vi d.ep]) b64 rfl rfl hone (fun w7 b7 k7 s7 => ?_)
  refine M.loadAll_i b7 rfl ?_
  have g7 := g6.keep k7 (fun q hq h e => by
    have e : q = w1.heap.size := e
    rcases h with (h | h) | h <;> (have h : w2.heap.size ≤ q := (by omega); omega))
  have k07 : Keep w w7 No := ((((k02.trans k3 (fun q hq h => by have h : w2.heap.size ≤ q := h; omega)).trans k4 (fun _ _ h => h)).trans k5 (fun q hq h => by rcases h with h | h <;> (have h : w2.heap.size ≤ q := (by omega); omega))).trans k6 (fun q hq e => by have e : q = w.heap.size := e; omega)).trans k7 (fun q hq e => by have e : q = w1.heap.size := e; omega)
  refine ⟨_, _, rfl, ⟨(hsv.1.keep k07 (fun _ _ _ h => h)).mono (fun _ _ h => .inl h), ?_⟩, k07⟩
  refine gc_ln (n := d.pend.length + 1) (by simp) ?_
  have e : (d.pend ++ [(⟨(x.toNat : Int), v, d.ep⟩ : PD)]).flatMap PD.cells = [] ++ d.pend.flatMap PD.cells ++ [vi (x.toNat : Int), vw v, vi d.ep] := by
    rw [List.flatMap_append, List.nil_append]; rfl
  rw [e]
  have := g7.mono (L' := fun q => D q ∨ w.heap.size ≤ q) (fun q hq h => by
    rcases h with (h | h) | h <;> (right; have h : w2.heap.size ≤ q := (by omega); omega))
  have e2 : 0 + d.pend.length + 1 = d.pend.length + 1 := by omega
  rw [e2] at this
  exact this
theorem putC_snoc (disk : List W64) (l : List PD) (x : PD) : putC disk (l ++ [x]) = if 0 ≤ x.b ∧ x.b < ((putC disk l).length : Int) then (putC disk l).set x.b.toNat x.v else putC disk l := by
  unfold putC; rw [List.foldl_append]; rfl
theorem putC_len : ∀ (l : List PD) (disk : List W64), (putC disk l).length = disk.length
  | [], _ => rfl
  | x :: l, disk => by
    have e : putC disk (x :: l) = putC (if 0 ≤ x.b ∧ x.b < (disk.length : Int) then disk.set x.b.toNat x.v else disk) l := rfl
    rw [e, putC_len l]
    split
    · rw [List.length_set]
    · rfl
theorem M.idxWSt_i {k : Kt} {w : World} {L : Nat → Prop} {v : Value} {xs : List W64} {i : Int} {x : W64} {dk : IntKind} (h : GW w L v xs) (h0 : 0 ≤ i) (h1 : i < xs.length)
    (hk : ∀ w', GW w' L v (xs.set i.toNat x) → Keep w w' L → w'.heap.size = w.heap.size → k undef w') :
    M.indexSl 1 v (.int dk i) (fun t w => M.store 1 t (vw x) k w) w := by
  obtain ⟨b, c, rest, rfl, hL, hB, hl⟩ := h.pos (by omega)
  refine M.idx_i h0 h1 ?_
  simp only [Nat.zero_add, Nat.mul_one]
  have hlt : i.toNat < (xs.map vw).length := by simp; omega
  refine M.store_i hB (by simp; simp at hlt; omega) rfl fun w' hB' hk' hs => ?_
  refine hk w' ?_ (hk'.mono fun j _ hj => hj ▸ hL) hs
  rw [List.set_append_left _ _ hlt] at hB'
  have e : (xs.set i.toNat x).map vw = (xs.map vw).set i.toNat (vw x) := by rw [List.map_set]
  refine ⟨by simp, .inr ⟨b, c, rest, by simp, hL, by rw [e]; exact hB', by simpa using hl⟩⟩
theorem M.idxPD2_i {k : Kt} {w : World} {D : Nat → Prop} {A : Option Addr} {l : List PD} {c i : Nat} {x : PD} (hr : Row w D A (l.flatMap PD.cells)) (hx : l[i]? = some x)
    (h : ∀ b o, (∀ (j : Nat) v, x.cells[j]? = some v → w.cell? ⟨b, o + j, none⟩ = some v) → k (.pointer (some ⟨b, o, none⟩)) w) : M.indexSl 3 (.slice A l.length c) (vi i) k w :=
  M.idxF_i pd_len (by omega) hr rfl (by omega) (by rw [Int.toNat_natCast]; exact hx) h
theorem rput_ret {u v : Value} {disk : List W64} {l : List PD} (h1 : LV vw w D u disk) (h2 : LN PD.cells w D v l) (hf1 : disk.length ≤ 1000000) (hf2 : l.length ≤ 1000000) :
    Ret Tryz.prog 105 #[u, v] w (fun r w' => GW w' (w.heap.size ≤ ·) r (putC disk l) ∧ Keep w w' No) := by
  have h2 := h2.mono (D' := (· < w.heap.size)) (fun b hb _ => hb)
  obtain ⟨A, c, rfl, hr1, hc1⟩ := h1
  obtain ⟨B, c', rfl, hr2, hc2⟩ := h2
  refine ok105 _ _ _ _ ?_
  unfold sh105
  refine M.append_i (L := (w.heap.size ≤ ·)) (GC.nil w _ 1) hr1 (by simp) (vw_one _) rfl (by omega) (by omega) (fun v1 w1 g1 k1 => ?_)
  have g1 : GW w1 (w.heap.size ≤ ·) v1 disk := by
    have := g1.mono (L' := (w.heap.size ≤ ·)) (fun b hb h => by rcases h with h | h <;> exact h)
    simpa [GW] using this
  have hr2 := hr2.keep k1 (fun b hb h1 h2 => by have h1 : b < w.heap.size := h1; have h2 : w.heap.size ≤ b := h2; omega)
  have k01 : Keep w w1 No := k1.mono (fun b hb h => by have h : w.heap.size ≤ b := h; omega)
  have q1 := k1.size
  refine M.loop_i (σ := Nat) (fun i vals w' => vals = [vi i] ∧ i ≤ l.length ∧ GW w' (w.heap.size ≤ ·) v1 (putC disk (l.take i)) ∧ Keep w1 w' (w.heap.size ≤ ·)) (fun i => l.length - i) 0 ⟨rfl, by omega, g1, Keep.refl _ _⟩ ?_
  rintro i vals w2 K ⟨rfl, hi, g2, k2⟩ hK _
  simp only [List.getD_cons_zero, List.getD_cons_succ]
  have hpl : (putC disk (l.take i)).length = disk.length := putC_len _ _
  by_cases hlt : i < l.length
  · obtain ⟨x, hx⟩ : ∃ x, l[i]? = some x := ⟨_, List.getElem?_eq_getElem hlt⟩
    have et : putC disk (l.take (i + 1)) = if 0 ≤ x.b ∧ x.b < (disk.length : Int) then (putC disk (l.take i)).set x.b.toNat x.v else putC disk (l.take i) := by
      rw [List.take_add_one, hx]
      have := putC_snoc disk (l.take i) x
      rw [hpl] at this
      exact this
    have hr3 := hr2.keep k2 (fun b hb h1 h2 => by have h1 : b < w.heap.size := h1; have h2 : w.heap.size ≤ b := h2; omega)
    (repeat (first|refine ja ?_|refine jo ?_|refine jy ?_))
    refine M.share_j (fun vals w' => GW w' (w.heap.size ≤ ·) v1 (putC disk (l.take (i + 1))) ∧ Keep w1 w' (w.heap.size ≤ ·)) ?_ ?_
    · rintro vals w3 ⟨a1, a2⟩ _
      (repeat (refine jK ?_))
      exact hK (i + 1) _ _ (by omega) ⟨rfl, by omega, a1, a2⟩
    · intro K2 hK2
      refine M.idxPD2_i hr3 hx (fun b2 o2 hc2 => ?_)
      refine M.field_i ?_
      refine M.load_i (hc2 0 _ rfl) ?_
      obtain ⟨A1, c1, rfl, _, _⟩ := GC.row2 g2 (by omega)
      rw [hpl]
      by_cases h0 : 0 ≤ x.b
      rotate_left
      · rw [if_neg (fun h => h0 h.1)] at et
        (repeat (first|refine jh ?_|refine jl ?_|refine jp ?_|refine jF ?_))
        exact hK2 _ _ ⟨by rw [et]; exact g2, k2⟩
      (repeat (first|refine jf ?_|refine jE ?_))
      refine M.idxPD2_i hr3 hx (fun b3 o3 hc3 => ?_)
      refine M.gd_tt ?_
      refine M.field_i ?_
      refine M.gd_tt ?_
      refine M.load_i (hc3 0 _ rfl) ?_
      by_cases hb : x.b < (disk.length : Int)
      rotate_left
      · rw [if_neg (fun h => hb h.2)] at et
        (repeat (first|refine ja ?_|refine jf ?_|refine jk ?_|refine jp ?_|refine jz ?_))
        exact hK2 _ _ ⟨by rw [et]; exact g2, k2⟩
      rw [if_pos ⟨h0, hb⟩] at et
      have kd := Keep.drew w2 No
      have hrd := hr3.keep kd (fun _ _ _ h => h)
      (repeat (first|refine ja ?_|refine jd ?_|refine jf ?_|refine jk ?_|refine jo ?_|refine jy ?_))
      refine M.idxPD2_i hrd hx (fun b4 o4 hc4 => ?_)
      refine M.field_i ?_
      refine M.load_i (hc4 0 _ rfl) ?_
      refine M.idxPD2_i hrd hx (fun b5 o5 hc5 => ?_)
      refine M.field_i ?_
      refine M.load_i (hc5 1 _ rfl) ?_
      have gd := g2.keep kd (fun _ _ _ h => h)
      rw [hpl] at gd
      refine M.idxWSt_i (xs := putC disk (l.take i)) (by rw [GW, hpl]; exact gd) h0 (by rw [hpl]; exact hb) (fun w3 g3 k3 s3 => ?_)
      exact hK2 _ _ ⟨by rw [et, hpl]; exact g3, (k2.trans kd (fun _ _ h => h.elim)).trans k3 (fun _ _ h => h)⟩
  · have e : i = l.length := by omega
    subst e
    rw [List.take_length] at g2
    (repeat (first|refine ja ?_|refine jp ?_|refine jz ?_))
    exact ⟨g2, k01.trans k2 (fun b hb h => by have h : w.heap.size ≤ b := h; omega)⟩
theorem rflush_ret (h : DvO w D a b d) (hf1 : d.disk.length ≤ 1000000) (hf2 : d.pend.length ≤ 1000000) :
    Ret Tryz.prog 68 #[.agg ⟨[a, b, vi d.ep]⟩] w (fun r w' => ∃ a', r = .agg ⟨[a', .slice none 0 0, vi 0]⟩ ∧ LV vw w' (w.heap.size ≤ ·) a' (putC d.disk d.pend) ∧ Keep w w' No) := by
  obtain ⟨h1, h2⟩ := h
  obtain ⟨A, c, rfl, _, _⟩ := id h1
  obtain ⟨B, cb, rfl, _, _⟩ := id h2
  refine ok68 _ _ _ ?_
  unfold sh68
  refine M.new_i (l := [.slice A d.disk.length c, .slice B d.pend.length cb, vi d.ep]) (fun w1 b1 k1 s1 => ?_)
  refine M.new_i (l := [.slice none 0 0, .slice none 0 0, vi 0]) (fun w2 b2 k2 s2 => ?_)
  have b12 := b1.keep k2 (fun h => h)
  have k02 := k1.trans k2 (fun _ _ h => h)
  (repeat (first|refine jc ?_|refine jN (by assumption) rfl ?_))
  refine M.call_i (rput_ret (h1.keep k02 (fun _ _ _ h => h)) (h2.keep k02 (fun _ _ _ h => h)) hf1 hf2) ?_; rintro r w3 ⟨g3, k3⟩
  obtain ⟨X, cx, rfl, _⟩ := GC.row2 g3 (by omega)
  have hl := GW.lv g3
  refine M.pure_i (.agg ⟨[.slice X (putC d.disk d.pend).length cx, .slice none 0 0, vi 0]⟩) (fun _ => by kernel_rfl) ?_
  have b3 := b2.keep k3 (fun h => h)
  refine M.storeAll_i (vs := [.slice X (putC d.disk d.pend).length cx, .slice none 0 0, vi 0]) b3 rfl rfl (by simp only [List.mem_cons, List.not_mem_nil, or_false, forall_eq_or_imp, forall_eq]; exact ⟨rfl, rfl, rfl⟩) (fun w4 b4 k4 s4 => ?_)
  refine M.loadAll_i b4 rfl ?_
  have q := k02.size
  exact ⟨_, rfl, (hl.keep k4 (fun q hq h e => by have h : w2.heap.size ≤ q := h; have e : q = w1.heap.size := e; omega)).mono (fun x hx h => by have h : w2.heap.size ≤ x := h; show w.heap.size ≤ x; omega), (k02.trans k3 (fun _ _ h => h)).trans k4 (fun q hq e => by have e : q = w1.heap.size := e; have := k1.size; omega)⟩
theorem barC_ep (d : Dv) : (barC d).ep = if d.pend.any (fun w => decide (w.e = d.ep)) then d.ep + 1 else d.ep := by
  unfold barC; split <;> rfl
theorem rbar_ret (h : DvO w D a b d) (hf2 : d.pend.length ≤ 1000000) (he : -1000000 ≤ d.ep ∧ d.ep ≤ 1000000) :
    Ret Tryz.prog 69 #[.agg ⟨[a, b, vi d.ep]⟩] w (fun r w' => r = .agg ⟨[a, b, vi (barC d).ep]⟩ ∧ Keep w w' No) := by
  rw [barC_ep]
  obtain ⟨⟨A, c, rfl, hr, hc⟩, B, cb, rfl, hrb, hcb⟩ := h
  refine ok69 _ _ _ ?_
  unfold sh69
  refine M.new_i (l := [.slice A d.disk.length c, .slice B d.pend.length cb, vi d.ep]) (fun w1 b1 k1 s1 => ?_)
  refine M.new_i (l := [.slice none 0 0, .slice none 0 0, vi 0]) (fun w2 b2 k2 s2 => ?_)
  have b12 := b1.keep k2 (fun h => h)
  have k02 := k1.trans k2 (fun _ _ h => h)
  refine M.loop_i (σ := Nat) (fun i vals w' => vals = [vi i] ∧ i ≤ d.pend.length ∧ (d.pend.take i).any (fun w => decide (w.e = d.ep)) = false ∧ Keep w2 w' No) (fun i => d.pend.length - i) 0 ⟨rfl, by omega, by simp, Keep.refl _ _⟩ ?_
  rintro i vals w3 K ⟨rfl, hi, hn, k3⟩ hK _
  simp only [List.getD_cons_zero, List.getD_cons_succ]
  have kd : Keep w2 w3.drew No := k3.trans (Keep.drew w3 No) (fun _ _ h => h)
  have b13 := b12.keep k3 (fun h => h)
  have b23 := b2.keep k3 (fun h => h)
  by_cases hlt : i < d.pend.length
  · have b1d := b12.keep kd (fun h => h)
    have b2d := b2.keep kd (fun h => h)
    have hm : d.pend[i]? = some d.pend[i] := List.getElem?_eq_getElem hlt
    have et : (d.pend.take (i + 1)).any (fun w => decide (w.e = d.ep)) = decide (d.pend[i].e = d.ep) := by
      rw [List.take_succ_eq_append_getElem hlt, List.any_append, hn]
      simp
    have hrd := hrb.keep (k02.trans kd (fun _ _ h => h)) (fun _ _ _ h => h)
    clear b13 b23
    (repeat (first|refine ja ?_|refine jc ?_|refine jd ?_|refine jo ?_|refine jy ?_|refine jN (by assumption) rfl ?_))
    refine M.idxPD2_i hrd hm (fun b4 o4 hc4 => ?_)
    refine M.field_i ?_
    refine M.load_i (hc4 2 _ rfl) ?_
    (repeat (first|refine jc ?_|refine jN (by assumption) rfl ?_))
    by_cases he2 : d.pend[i].e = d.ep
    · have hany : d.pend.any (fun w => decide (w.e = d.ep)) = true := List.any_eq_true.2 ⟨d.pend[i], List.getElem_mem hlt, by simpa using he2⟩
      rw [hany, if_pos rfl]
      (repeat (first|refine jc ?_|refine jo ?_|refine jG ?_|refine jK ?_|refine jN (by assumption) rfl ?_))
      refine M.store_i b1d (by simp) rfl (fun w5 b5 k5 s5 => ?_)
      have b25 := b2d.keep k5 (fun h => by omega)
      refine M.loadAll_i b5 rfl ?_
      refine M.storeAll_i (vs := [.slice A d.disk.length c, .slice B d.pend.length cb, vi (d.ep + 1)]) b25 rfl rfl dv3_one (fun w6 b6 k6 s6 => ?_)
      refine M.loadAll_i b6 rfl ?_
      exact ⟨rfl, ((k02.trans kd (fun _ _ h => h)).trans k5 (fun q hq e => by have e : q = w.heap.size := e; omega)).trans k6 (fun q hq e => by have e : q = w1.heap.size := e; omega)⟩
    · (repeat (first|refine jp ?_|refine jH ?_|refine jK ?_))
      refine hK (i + 1) _ _ (by omega) ⟨rfl, by omega, by rw [et, decide_eq_false he2], kd⟩
  · have e : i = d.pend.length := by omega
    subst e
    rw [List.take_length] at hn
    rw [hn, if_neg (by decide)]
    (repeat (first|refine ja ?_|refine jc ?_|refine jp ?_|refine jz ?_|refine jN (by assumption) rfl ?_))
    refine M.loadAll_i b13 rfl ?_
    refine M.storeAll_i (vs := [.slice A d.disk.length c, .slice B d.pend.length cb, vi d.ep]) b23 rfl rfl dv3_one (fun w6 b6 k6 s6 => ?_)
    refine M.loadAll_i b6 rfl ?_
    exact ⟨rfl, (k02.trans k3 (fun _ _ h => h)).trans k6 (fun q hq e => by have e : q = w1.heap.size := e; omega)⟩
end
end Go.Proofs.YtanjlgafjgoaaaaGreat
namespace Go.Proofs.YtanjlgafjgoaaaaGreat
open Go.Mw
set_option linter.unusedVariables false
set_option linter.unusedSimpArgs false
set_option maxRecDepth 100000
attribute [local irreducible] M.val M.unit M.next M.pick M.new M.nilCheck M.load1 M.loadA M.store M.fieldAddr M.indexSl M.indexArr M.slice M.makeSlice M.buildSlice M.len M.lenS M.cap M.append M.extract M.conv M.not M.neg M.bin M.shift M.eqB M.eqNil M.scat M.call M.callv M.gd M.share M.cond M.loop M.draw pureW readW Ret
def sh65 (x0 x1 : Value) (R : Kt) (w : World) : Prop :=
  M.new 48 (Value.cells x0) (fun t2 w =>
  M.fieldAddr 8 t2 (fun t7 w =>
  M.load1 t7 (fun t8 w =>
  M.len t8 (fun t9 w =>
  M.conv .u64 t9 (fun t10 w =>
  M.bin .geq x1 t10 (fun t11 w =>
  M.cond t11
  (R (.tuple #[(Value.int IntKind.u64 0), (Value.bool false)]) w)
  (M.fieldAddr 8 t2 (fun t12 w =>
  M.load1 t12 (fun t13 w =>
  M.indexSl 1 t13 x1 (fun t15 w =>
  M.load1 t15 (fun t16 w =>
  R (.tuple #[t16, (Value.bool true)]) w) w) w) w) w)) w) w) w) w) w) w
theorem ok65 (x0 x1 : Value) (R : Kt) (w : World) (h : sh65 x0 x1 R w) : Ret Tryz.prog 65 #[x0, x1] w R :=
  ret_mk <| calls_of_comp mixed (c := Tryz.f65.body.getD .skip) (args := [x0, x1]) (rs := [(ResultVar.tmp 4), (ResultVar.tmp 5)]) (Ann.seq Ann.text (Ann.seq (Ann.seq Ann.text (Ann.cond (Ann.seq Ann.text Ann.leaf) Ann.leaf)) (Ann.seq Ann.text Ann.leaf)))
    Tryz.func65 (by kernel_rfl) (by kernel_rfl)
    (Eq.mp (by kernel_rfl) h)
def sh25 (x0 x1 : Value) (R : Kt) (w : World) : Prop :=
  M.new 48 (Value.cells x0) (fun t2 w =>
  M.new 48 #[.int .u64 0, .int .u64 0, .int .u64 0, .int .u64 0, .int .u64 0, .int .u64 0, .int .u64 0, .int .u64 0, .slice none 0 0, .int .i64 0, .int .i64 0, .int .i64 0, .int .i64 0, .int .i64 0, .int .u64 0, .slice none 0 0, .slice none 0 0, .int .i64 0] (fun t4 w =>
  M.fieldAddr 12 t2 (fun t5 w =>
  M.store 1 t5 (Value.int IntKind.i64 2) (fun _ w =>
  M.fieldAddr 13 t2 (fun t7 w =>
  M.store 1 t7 x1 (fun _ w =>
  M.loadA 18 t2 (fun t8 w =>
  M.store 18 t4 t8 (fun _ w =>
  M.loadA 18 t4 (fun r0 w => R r0 w) w) w) w) w) w) w) w) w) w
theorem ok25 (x0 x1 : Value) (R : Kt) (w : World) (h : sh25 x0 x1 R w) : Ret Tryz.prog 25 #[x0, x1] w R :=
  ret_mk <| calls_of_comp mixed (c := Tryz.f25.body.getD .skip) (args := [x0, x1]) (rs := [(ResultVar.cell 4 48)]) (Ann.seq Ann.text (Ann.seq Ann.text (Ann.seq Ann.text (Ann.seq Ann.text Ann.leaf))))
    Tryz.func25 (by kernel_rfl) (by kernel_rfl)
    (Eq.mp (by kernel_rfl) h)
def sh28 (x0 x1 : Value) (R : Kt) (w : World) : Prop :=
  M.new 48 (Value.cells x0) (fun t2 w =>
  M.new 61 (Value.cells x1) (fun t3 w =>
  M.new 48 #[.int .u64 0, .int .u64 0, .int .u64 0, .int .u64 0, .int .u64 0, .int .u64 0, .int .u64 0, .int .u64 0, .slice none 0 0, .int .i64 0, .int .i64 0, .int .i64 0, .int .i64 0, .int .i64 0, .int .u64 0, .slice none 0 0, .slice none 0 0, .int .i64 0] (fun t4 w =>
  M.fieldAddr 2 t3 (fun t9 w =>
  M.load1 t9 (fun t10 w =>
  M.fieldAddr 0 t2 (fun t11 w =>
  M.indexArr 8 1 t11 t10 (fun t12 w =>
  M.load1 t12 (fun t13 w =>
  M.share (fun K1 w =>
  M.fieldAddr 0 t3 (fun t14 w =>
  M.load1 t14 (fun t15 w =>
  M.bin .eql t15 (Value.int IntKind.i64 8) (fun t16 w =>
  M.cond t16
  (M.fieldAddr 1 t3 (fun t17 w =>
  M.load1 t17 (fun t18 w =>
  M.fieldAddr 0 t2 (fun t19 w =>
  M.indexArr 8 1 t19 t18 (fun t20 w =>
  M.load1 t20 (fun t21 w =>
  K1 [t21] w) w) w) w) w) w)
  (K1 [t13] w)) w) w) w) (fun s1 w => ∀ _ : List Value,
  M.loadA 18 t2 (fun t23 w =>
  M.call Tryz.prog 65 #[t23, (s1.getD 0 undef)] (fun t25 w =>
  M.extract 0 t25 (fun t26 w =>
  M.extract 1 t25 (fun t27 w =>
  M.not t27 (fun t29 w =>
  M.cond t29
  (M.loadA 18 t2 (fun t30 w =>
  M.call Tryz.prog 25 #[t30, (Value.int IntKind.i64 257)] (fun t31 w =>
  M.store 18 t4 t31 (fun _ w =>
  M.loadA 18 t4 (fun r0 w => R r0 w) w) w) w) w)
  (M.fieldAddr 9 t2 (fun t32 w =>
  M.load1 t32 (fun t33 w =>
  M.bin .add t33 (Value.int IntKind.i64 1) (fun t34 w =>
  M.fieldAddr 9 t2 (fun t35 w =>
  M.store 1 t35 t34 (fun _ w =>
  M.fieldAddr 0 t3 (fun t36 w =>
  M.load1 t36 (fun t37 w =>
  M.bin .eql t37 (Value.int IntKind.i64 7) (fun t38 w =>
  M.cond t38
  (M.fieldAddr 1 t3 (fun t39 w =>
  M.load1 t39 (fun t40 w =>
  M.fieldAddr 0 t2 (fun t42 w =>
  M.indexArr 8 1 t42 t40 (fun t43 w =>
  M.store 1 t43 t26 (fun _ w =>
  M.loadA 18 t2 (fun t44 w =>
  M.store 18 t4 t44 (fun _ w =>
  M.loadA 18 t4 (fun r0 w => R r0 w) w) w) w) w) w) w) w) w)
  (M.fieldAddr 8 t2 (fun t45 w =>
  M.load1 t45 (fun t46 w =>
  M.append 42 1 8 #[.int .u64 0] (Value.slice none 0 0) t46 (fun t47 w =>
  M.fieldAddr 2 t3 (fun t50 w =>
  M.load1 t50 (fun t51 w =>
  M.fieldAddr 0 t2 (fun t52 w =>
  M.indexArr 8 1 t52 t51 (fun t53 w =>
  M.load1 t53 (fun t54 w =>
  M.indexSl 1 t47 (s1.getD 0 undef) (fun t55 w =>
  M.store 1 t55 t54 (fun _ w =>
  M.fieldAddr 8 t2 (fun t57 w =>
  M.store 1 t57 t47 (fun _ w =>
  M.loadA 18 t2 (fun t58 w =>
  M.store 18 t4 t58 (fun _ w =>
  M.loadA 18 t4 (fun r0 w => R r0 w) w) w) w) w) w) w) w) w) w) w) w) w) w) w) w)) w) w) w) w) w) w) w) w)) w) w) w) w) w) w) w) w) w) w) w) w) w) w
theorem ok28 (x0 x1 : Value) (R : Kt) (w : World) (h : sh28 x0 x1 R w) : Ret Tryz.prog 28 #[x0, x1] w R :=
  ret_mk <| calls_of_comp mixed (c := Tryz.f28.body.getD .skip) (args := [x0, x1]) (rs := [(ResultVar.cell 4 48)]) (Ann.seq Ann.text (Ann.seq Ann.text (Ann.join [5] [14, 15, 16, 17, 18, 19, 20, 21] (Ann.seq Ann.text (Ann.cond Ann.text Ann.leaf)) (Ann.seq Ann.text (Ann.seq (Ann.seq Ann.text (Ann.cond (Ann.seq Ann.text Ann.leaf) Ann.leaf)) (Ann.seq Ann.text (Ann.seq (Ann.seq Ann.text (Ann.cond (Ann.seq Ann.text (Ann.seq Ann.text Ann.leaf)) Ann.leaf)) (Ann.seq Ann.text (Ann.seq Ann.text (Ann.seq Ann.text (Ann.seq Ann.text Ann.leaf)))))))))))
    Tryz.func28 (by kernel_rfl) (by kernel_rfl)
    (Eq.mp (by kernel_rfl) h)
abbrev svT (s : St) (c a b : Value) : List Value := [c, vi s.pc, vi s.steps, vi s.calls, vi s.en, vi s.code, vw s.value, a, b, vi s.dev.ep]
section
variable {w : World} {D : Nat → Prop} {s : St} {c a b : Value}
theorem sv_len (h8 : s.regs.length = 8) : (s.vals c a b).length = 18 := by simp [St.vals, h8]
theorem sv_lt (h8 : s.regs.length = 8) {o : Nat} (ho : o < 18) : o < (s.vals c a b).length := by rw [sv_len h8]; exact ho
theorem sv_one (h1 : c.oneCell' = true) (h2 : a.oneCell' = true) (h3 : b.oneCell' = true) : ∀ y ∈ s.vals c a b, y.oneCell' = true := by
  intro y hy
  unfold St.vals at hy
  rcases List.mem_append.1 hy with hy | hy
  · exact vw_one _ y hy
  · simp only [List.mem_cons, List.not_mem_nil, or_false] at hy
    rcases hy with h | h | h | h | h | h | h | h | h | h <;> subst h
    · exact h1
    all_goals first | rfl | exact h2 | exact h3
theorem sv_reg (h8 : s.regs.length = 8) {r : Int} (hr : 0 ≤ r ∧ r ≤ 7) : (s.vals c a b)[0 + 0 + r.toNat * 1]? = some (vw (s.reg r)) := by
  have e : 0 + 0 + r.toNat * 1 = r.toNat := by omega
  rw [e]
  unfold St.vals St.reg
  rw [List.getElem?_append_left (by simp [h8]; omega), List.getElem?_map, List.getElem?_eq_getElem (by omega), List.getD_eq_getElem?_getD, List.getElem?_eq_getElem (by omega)]; rfl
theorem sv_at (h8 : s.regs.length = 8) (j : Nat) : (s.vals c a b)[0 + (8 + j)]? = (svT s c a b)[j]? := by
  unfold St.vals
  rw [Nat.zero_add, List.getElem?_append_right (by simp [h8])]
  simp [h8]
theorem Blk.sset {x o j : Nat} {v : Value} {t : St} {c' a' b' : Value} (h8 : s.regs.length = 8) (hb : Blk w x ((s.vals c a b).set o v)) (ho : o = 8 + j) (ht : s.regs.map vw ++ (svT s c a b).set j v = t.vals c' a' b') : Blk w x (t.vals c' a' b') := by
  subst ho
  have : (s.vals c a b).set (8 + j) v = s.regs.map vw ++ (svT s c a b).set j v := by
    unfold St.vals
    rw [List.set_append_right _ _ (by simp [h8])]
    simp [h8]
  rw [this, ht] at hb
  exact hb
theorem Blk.sreg {x o : Nat} {y : W64} {r : Int} (h8 : s.regs.length = 8) (hb : Blk w x ((s.vals c a b).set o (vw y))) (ho : o = r.toNat) (hr : 0 ≤ r ∧ r ≤ 7) : Blk w x (St.vals { s with regs := s.regs.set r.toNat y } c a b) := by
  subst ho
  have : (s.vals c a b).set r.toNat (vw y) = St.vals { s with regs := s.regs.set r.toNat y } c a b := by
    unfold St.vals
    rw [List.set_append_left _ _ (by simp; omega), ← List.map_set]
  rwa [this] at hb
theorem sv_dev (h8 : s.regs.length = 8) : ((s.vals c a b).drop (0 + 15)).take 3 = [a, b, vi s.dev.ep] := by
  obtain ⟨regs, cells, pc, steps, calls, en, code, value, dev⟩ := s
  obtain ⟨r0, r1, r2, r3, r4, r5, r6, r7, rfl⟩ := eight h8
  rfl
theorem sv_splice (h8 : s.regs.length = 8) {d : Dv} {a' b' : Value} : splice (s.vals c a b) (0 + 15) [a', b', vi d.ep] = St.vals { s with dev := d } c a' b' := by
  obtain ⟨regs, cells, pc, steps, calls, en, code, value, dev⟩ := s
  obtain ⟨r0, r1, r2, r3, r4, r5, r6, r7, rfl⟩ := eight h8
  rfl
theorem StO.of_vals (h8 : s.regs.length = 8) (hc : LV vw w D c s.cells) (hd : DvO w D a b s.dev) : StO w D (.agg ⟨s.vals c a b⟩) s := ⟨h8, c, a, b, rfl, hc, hd⟩
theorem rcell_ret {v : Value} (hs : StO w D v s) (hf : s.cells.length ≤ 1000000) (x : W64) :
    Ret Tryz.prog 65 #[v, vw x] w (fun r w' => r = .tuple #[vw (if x.toNat < s.cells.length then s.cells.getD x.toNat 0 else 0), .bool (decide (x.toNat < s.cells.length))] ∧ Keep w w' No) := by
  obtain ⟨h8, c, a, b, rfl, hc, hd⟩ := hs
  obtain ⟨C, cc, rfl, hr, hcc⟩ := hc
  refine ok65 _ _ _ _ ?_
  unfold sh65
  refine M.new_i (l := s.vals (.slice C s.cells.length cc) a b) (fun w1 b1 k1 s1 => ?_)
  have hr := hr.keep k1 (fun _ _ _ h => h)
  refine M.field_i ?_
  refine M.loadB_i b1 (sv_at h8 0) ?_
  (repeat (refine ja ?_))
  refine M.u64_i (by omega) ?_
  by_cases hx : x.toNat < s.cells.length
  · rw [if_pos hx, decide_eq_true hx]
    (repeat (first|refine jc ?_|refine jp ?_|refine jF ?_))
    refine M.loadB_i b1 (sv_at h8 0) ?_
    refine M.idxLV_i hr rfl (by omega) (by omega) (x := s.cells[x.toNat]) (by rw [Int.toNat_natCast]; exact List.getElem?_eq_getElem hx) (fun bb oo hA hcc => ?_)
    refine M.load_i hcc ?_
    rw [List.getD_eq_getElem?_getD, List.getElem?_eq_getElem hx]
    exact ⟨rfl, k1⟩
  · rw [if_neg hx, decide_eq_false hx]
    (repeat (first|refine jo ?_|refine jE ?_))
    exact ⟨rfl, k1⟩
theorem rtrap_ret {v : Value} (hs : StO w D v s) (n : Int) : Ret Tryz.prog 25 #[v, vi n] w (fun r w' => StO w' D r (s.trap n) ∧ Keep w w' No) := by
  obtain ⟨h8, c, a, b, rfl, hc, hd⟩ := hs
  refine ok25 _ _ _ _ ?_
  unfold sh25
  refine M.new_i (l := s.vals c a b) (fun w1 b1 k1 s1 => ?_)
  refine M.new_i (l := zSt) (fun w2 b2 k2 s2 => ?_)
  have b1 := b1.keep k2 (fun h => h)
  refine M.field_i ?_
  refine M.store_i b1 (sv_lt h8 (by omega)) rfl (fun w3 b3 k3 s3 => ?_)
  have b3 := Blk.sset (j := 4) (t := { s with en := 2 }) h8 b3 (by omega) rfl
  have b23 := b2.keep k3 (fun h => by omega)
  refine M.field_i ?_
  refine M.store_i b3 (sv_lt (s := { s with en := 2 }) h8 (by omega)) rfl (fun w4 b4 k4 s4 => ?_)
  have b4 := Blk.sset (s := { s with en := 2 }) (j := 5) (t := s.trap n) h8 b4 (by omega) rfl
  have b24 := b23.keep k4 (fun h => by omega)
  refine M.loadAll_i b4 (sv_len h8) ?_
  refine M.storeAll_i b24 (sv_len h8) rfl (sv_one (LV.one hc) (LV.one hd.1) (LN.one hd.2)) (fun w5 b5 k5 s5 => ?_)
  refine M.loadAll_i b5 (sv_len h8) ?_
  have k : Keep w w5 No := (((k1.trans k2 (fun _ _ h => h)).trans k3 (fun q hq e => by have e : q = w.heap.size := e; omega)).trans k4 (fun q hq e => by have e : q = w.heap.size := e; omega)).trans k5 (fun q hq e => by have e : q = w1.heap.size := e; omega)
  exact ⟨StO.of_vals (s := s.trap n) h8 (hc.keep k (fun _ _ _ h => h)) (hd.keep k (fun _ _ _ h => h)), k⟩
set_option maxHeartbeats 2000000 in
theorem rmem_ret {v : Value} {i : Ins} (hs : StO w D v s) (hf : s.cells.length ≤ 1000000) (hpc : 0 ≤ s.pc ∧ s.pc ≤ 1000000) (ha : 0 ≤ i.a ∧ i.a ≤ 7) (hb : 0 ≤ i.b ∧ i.b ≤ 7) (ho : i.op = 7 ∨ i.op = 8) :
    Ret Tryz.prog 28 #[v, encI i] w (fun r w' => StO w' (fun q => D q ∨ w.heap.size ≤ q) r (if i.op = 7 then eachC s (s.reg i.b) s.cells.length 257 (s.load i) else eachC s (s.reg i.a) s.cells.length 257 (s.store i)) ∧ Keep w w' No) := by
  have hs0 := hs.mono (D' := fun q => D q ∧ q < w.heap.size) (fun q hq h => ⟨h, hq⟩)
  obtain ⟨h8, c, a, b, rfl, hc, hd⟩ := id hs0
  refine ok28 _ _ _ _ ?_
  unfold sh28
  refine M.new_i (l := s.vals c a b) (fun w1 b1 k1 s1 => ?_)
  refine M.new_i (l := [vi i.op, vi i.a, vi i.b, vi i.c, vw i.imm]) (fun w2 b2 k2 s2 => ?_)
  have b1 := b1.keep k2 (fun h => h)
  refine M.new_i (l := zSt) (fun w3 b3 k3 s3 => ?_)
  have b1 := b1.keep k3 (fun h => h)
  have b2 := b2.keep k3 (fun h => h)
  have k03 := (k1.trans k2 (fun _ _ h => h)).trans k3 (fun _ _ h => h)
  refine M.field_i ?_
  refine M.loadB_i b2 rfl ?_
  refine M.field_i ?_
  refine M.arr_i hb.1 (by omega) ?_
  refine M.loadB_i b1 (sv_reg h8 hb) ?_
  refine M.share_j (fun vals w' => vals = [vw (if i.op = 7 then s.reg i.b else s.reg i.a)] ∧ w3 = w') ?_ ?_
  case refine_2 =>
    intro K hK
    refine M.field_i ?_
    refine M.loadB_i b2 rfl ?_
    rcases ho with o | o
    · (repeat (first|refine jp ?_|refine jH ?_))
      exact hK _ _ ⟨by rw [if_pos o], rfl⟩
    · (repeat (first|refine jc ?_|refine jo ?_|refine jG ?_|refine jN (by assumption) rfl ?_))
      refine M.arr_i ha.1 (by omega) ?_
      refine M.loadB_i b1 (sv_reg h8 ha) ?_
      have h7 : ¬ i.op = 7 := by omega
      exact hK _ _ ⟨by rw [if_neg h7], rfl⟩
  rintro vals w' ⟨rfl, rfl⟩ _
  simp only [List.getD_cons_zero, List.getD_cons_succ]
  have hs3 := hs0.keep k03 (fun _ _ _ h => h)
  have at_ : (if i.op = 7 then eachC s (s.reg i.b) s.cells.length 257 (s.load i) else eachC s (s.reg i.a) s.cells.length 257 (s.store i)) = (if (if i.op = 7 then s.reg i.b else s.reg i.a).toNat < s.cells.length then (if i.op = 7 then s.load i (s.reg i.b).toNat else s.store i (s.reg i.a).toNat) else s.trap 257) := by
    unfold eachC
    rcases ho with o | o
    · rw [if_pos o, if_pos o, if_pos o]
    · have h7 : ¬ i.op = 7 := by omega
      rw [if_neg h7, if_neg h7, if_neg h7]
  rw [at_]
  refine M.loadAll_i b1 (sv_len h8) ?_
  generalize hx : (if i.op = 7 then s.reg i.b else s.reg i.a) = x
  refine M.call_i (rcell_ret hs3 hf x) ?_; rintro _ w4 ⟨rfl, k4⟩
  have b1 := b1.keep k4 (fun h => h)
  have b2 := b2.keep k4 (fun h => h)
  have b3 := b3.keep k4 (fun h => h)
  have k04 := k03.trans k4 (fun _ _ h => h)
  refine M.extract_i rfl ?_
  refine M.extract_i rfl ?_
  by_cases hlt : x.toNat < s.cells.length
  rotate_left
  · rw [if_neg hlt, decide_eq_false hlt, if_neg hlt]
    (repeat (first|refine jn ?_|refine jo ?_))
    refine M.loadAll_i b1 (sv_len h8) ?_
    refine M.call_i (rtrap_ret (hs3.keep k4 (fun _ _ _ h => h)) 257) ?_; rintro r w5 ⟨hs5, k5⟩
    obtain ⟨_, c5, a5, b5', rfl, hc5, hd5⟩ := id hs5
    have b3 := b3.keep k5 (fun h => h)
    refine M.storeAll_i b3 (sv_len h8) rfl (sv_one (LV.one hc5) (LV.one hd5.1) (LN.one hd5.2)) (fun w6 b6 k6 s6 => ?_)
    refine M.loadAll_i b6 (sv_len h8) ?_
    have k46 : Keep w w6 No := (k04.trans k5 (fun _ _ h => h)).trans k6 (fun q hq e => by have e : q = w2.heap.size := e; omega)
    exact ⟨(hs5.keep k6 (fun q hq h e => by have := h.2; have e : q = w2.heap.size := e; omega)).mono (fun q _ h => .inl h.1), k46⟩
  rw [if_pos hlt, decide_eq_true hlt, if_pos hlt]
  refine M.not_i ?_
  refine M.cond_f ?_
  refine M.field_i ?_
  refine M.loadB_i b1 (sv_at h8 1) ?_
  refine M.add_i (by omega) (by omega) ?_
  refine M.field_i ?_
  refine M.store_i b1 (sv_lt h8 (by omega)) rfl (fun w5 b5 k5 s5 => ?_)
  have b5 := Blk.sset (j := 1) (t := s.next) h8 b5 (by omega) rfl
  have b25 := b2.keep k5 (fun h => by omega)
  have b35 := b3.keep k5 (fun h => by omega)
  have hs5 := (hs3.keep k4 (fun _ _ _ h => h)).keep k5 (fun q hq h e => by have := h.2; have e : q = w.heap.size := e; omega)
  have k05 : Keep w w5 No := k04.trans k5 (fun q hq e => by have e : q = w.heap.size := e; omega)
  have q4 := k4.size
  refine M.field_i ?_
  refine M.loadB_i b25 rfl ?_
  rcases ho with o | o
  · rw [if_pos o] at hx
    rw [if_pos o, hx]
    (repeat (first|refine jc ?_|refine jo ?_|refine jG ?_|refine jN (by assumption) rfl ?_))
    refine M.arr_i ha.1 (by omega) ?_
    refine M.store_i b5 (sv_lt (s := s.next) h8 (by omega)) rfl (fun w6 b6 k6 s6 => ?_)
    have b6 := Blk.sreg (s := s.next) (r := i.a) h8 b6 (by omega) ha
    have b36 := b35.keep k6 (fun h => by omega)
    have h8' : (s.load i x.toNat).regs.length = 8 := by simp [St.load, St.set, h8]
    refine M.loadAll_i b6 (sv_len (s := s.load i x.toNat) h8') ?_
    refine M.storeAll_i b36 (sv_len (s := s.load i x.toNat) h8') rfl (sv_one (s := s.load i x.toNat) (LV.one hc) (LV.one hd.1) (LN.one hd.2)) (fun w7 b7 k7 s7 => ?_)
    refine M.loadAll_i b7 (sv_len (s := s.load i x.toNat) h8') ?_
    have k57 : Keep w5 w7 (fun q => q = w.heap.size ∨ q = w2.heap.size) := (k6.mono (fun q _ e => .inl e)).trans k7 (fun q hq e => .inr e)
    have k07 : Keep w w7 No := k05.trans k57 (fun q hq e => by rcases e with e | e <;> omega)
    obtain ⟨_, c5, a5, b5', e5, hc5, hd5⟩ := (hs5.keep k57 (fun q hq h e => by have := h.2; rcases e with e | e <;> omega)).mono (D' := fun q => D q ∨ w.heap.size ≤ q) (fun q _ h => .inl h.1)
    have hc7 := ((hc.keep k07 (fun _ _ _ h => h)).mono (D' := fun q => D q ∨ w.heap.size ≤ q) (fun q _ h => .inl h.1))
    have hd7 := ((hd.keep k07 (fun _ _ _ h => h)).mono (D' := fun q => D q ∨ w.heap.size ≤ q) (fun q _ h => .inl h.1))
    exact ⟨StO.of_vals (s := s.load i x.toNat) h8' hc7 hd7, k07⟩
  · have h7 : ¬ i.op = 7 := by omega
    rw [if_neg h7] at hx
    rw [if_neg h7, hx]
    (repeat (first|refine jc ?_|refine jp ?_|refine jH ?_))
    refine M.loadB_i b5 (sv_at (s := s.next) h8 0) ?_
    obtain ⟨C, cc, rfl, hr, hcc⟩ := id hc
    have hr5 := hr.keep k05 (fun _ _ _ h => h)
    refine M.append_i (L := (w5.heap.size ≤ ·)) (GC.nil w5 _ 1) hr5 (by simp) (vw_one _) rfl (by omega) (by omega) (fun v6 w6 g6 k6 => ?_)
    have g6 : GW w6 (w5.heap.size ≤ ·) v6 s.cells := by
      have := g6.mono (L' := (w5.heap.size ≤ ·)) (fun b hb h => by rcases h with h | h <;> exact h)
      simpa [GW] using this
    have b6 := b5.keep k6 (fun h => by have h : w5.heap.size ≤ w.heap.size := h; omega)
    have b26 := b25.keep k6 (fun h => by have h : w5.heap.size ≤ w1.heap.size := h; omega)
    have b36 := b35.keep k6 (fun h => by have h : w5.heap.size ≤ w2.heap.size := h; omega)
    (repeat (first|refine jc ?_|refine jN (by assumption) rfl ?_))
    refine M.arr_i hb.1 (by omega) ?_
    refine M.loadB_i b6 (sv_reg (s := s.next) h8 hb) ?_
    refine M.idxWSt_i g6 (by omega) (by omega) (fun w7 g7 k7 s7 => ?_)
    have b7 := b6.keep k7 (fun h => by have h : w5.heap.size ≤ w.heap.size := h; omega)
    have b37 := b36.keep k7 (fun h => by have h : w5.heap.size ≤ w2.heap.size := h; omega)
    obtain ⟨X, cx, rfl, _⟩ := GC.row2 g7 (by omega)
    refine M.field_i ?_
    refine M.store_i b7 (sv_lt (s := s.next) h8 (by omega)) rfl (fun w8 b8 k8 s8 => ?_)
    have b8 := Blk.sset (s := s.next) (j := 0) (t := s.store i x.toNat) h8 b8 (by omega) rfl
    have q6 := k6.size
    have q7 := k7.size
    have b38 := b37.keep k8 (fun h => by omega)
    have g8 := g7.keep k8 (fun q hq h e => by have h : w5.heap.size ≤ q := h; have e : q = w.heap.size := e; omega)
    refine M.loadAll_i b8 (sv_len (s := s.store i x.toNat) h8) ?_
    refine M.storeAll_i b38 (sv_len (s := s.store i x.toNat) h8) rfl (sv_one (s := s.store i x.toNat) rfl (LV.one hd.1) (LN.one hd.2)) (fun w9 b9 k9 s9 => ?_)
    refine M.loadAll_i b9 (sv_len (s := s.store i x.toNat) h8) ?_
    have g9 := g8.keep k9 (fun q hq h e => by have h : w5.heap.size ≤ q := h; have e : q = w2.heap.size := e; omega)
    have k09 : Keep w w9 No := (((k05.trans k6 (fun q hq h => by have h : w5.heap.size ≤ q := h; omega)).trans k7 (fun q hq h => by have h : w5.heap.size ≤ q := h; omega)).trans k8 (fun q hq e => by have e : q = w.heap.size := e; omega)).trans k9 (fun q hq e => by have e : q = w2.heap.size := e; omega)
    have hc9 := (GW.lv g9).mono (D' := fun q => D q ∨ w.heap.size ≤ q) (fun q _ h => by right; have h : w5.heap.size ≤ q := h; omega)
    have hd9 := ((hd.keep k09 (fun _ _ _ h => h)).mono (D' := fun q => D q ∨ w.heap.size ≤ q) (fun q _ h => .inl h.1))
    exact ⟨StO.of_vals (s := s.store i x.toNat) h8 hc9 hd9, k09⟩
end
end Go.Proofs.YtanjlgafjgoaaaaGreat
