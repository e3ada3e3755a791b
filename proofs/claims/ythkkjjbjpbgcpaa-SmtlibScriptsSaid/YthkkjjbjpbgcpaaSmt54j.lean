import Derived.Test.YthkkjjbjpbgcpaaSmt54i
import Derived.Test.YthkkjjbjpbgcpaaSmt54s
namespace Go.Proofs.Ythkkjjbjpbgcpaa
open Go.Mw Go.Lib
set_option linter.unusedVariables false
set_option linter.unusedSimpArgs false
set_option maxRecDepth 100000
attribute [local irreducible] M.val M.unit M.next M.pick M.new M.nilCheck M.load1 M.loadA M.store M.fieldAddr M.indexSl M.indexArr M.slice M.makeSlice M.buildSlice M.len M.lenS M.cap M.append M.extract M.conv M.not M.neg M.bin M.shift M.eqB M.eqNil M.scat M.call M.callv M.gd M.share M.cond M.loop M.draw pureW readW Ret
/-! breakwater/smtlib.Script: function 9 -/
def sh9 (x0 x1 : Value) (R : Kt) (w : World) : Prop :=
  M.new 61 #[.pointer none, .slice none 0 0] (fun t6 w =>
  M.new 76 #[.int .i64 0, .int .i64 0, .int .i64 0, .int .i64 0, .int .i64 0, .int .i64 0, .int .i64 0, .int .i64 0, .int .i64 0, .int .i64 0, .int .i64 0, .int .i64 0, .int .i64 0, .int .i64 0, .int .i64 0, .int .i64 0, .int .i64 0, .int .i64 0, .int .i64 0, .int .i64 0, .int .i64 0, .int .i64 0, .int .i64 0, .int .i64 0, .int .i64 0, .int .i64 0, .int .i64 0, .int .i64 0, .int .i64 0, .int .i64 0, .int .i64 0, .int .i64 0, .int .i64 0, .int .i64 0, .int .i64 0, .int .i64 0, .int .i64 0, .int .i64 0, .int .i64 0, .int .i64 0, .int .i64 0, .int .i64 0, .int .i64 0, .int .i64 0, .int .i64 0, .int .i64 0, .int .i64 0, .int .i64 0, .int .i64 0, .int .i64 0, .int .i64 0, .int .i64 0, .int .i64 0, .int .i64 0, .int .i64 0, .int .i64 0, .int .i64 0, .int .i64 0, .int .i64 0, .int .i64 0, .int .i64 0, .int .i64 0, .int .i64 0, .int .i64 0, .int .i64 0, .int .i64 0, .int .i64 0, .int .i64 0, .int .i64 0, .int .i64 0, .int .i64 0, .int .i64 0, .int .i64 0, .int .i64 0, .int .i64 0, .int .i64 0, .int .i64 0, .int .i64 0, .int .i64 0, .int .i64 0, .int .i64 0, .int .i64 0, .int .i64 0, .int .i64 0, .int .i64 0, .int .i64 0, .int .i64 0, .int .i64 0, .int .i64 0, .int .i64 0, .int .i64 0, .int .i64 0, .int .i64 0, .int .i64 0, .int .i64 0, .int .i64 0, .int .i64 0, .int .i64 0, .int .i64 0, .int .i64 0, .int .i64 0, .int .i64 0, .int .i64 0, .int .i64 0, .int .i64 0, .int .i64 0, .int .i64 0, .int .i64 0, .int .i64 0, .int .i64 0, .int .i64 0, .int .i64 0, .int .i64 0, .int .i64 0, .int .i64 0, .int .i64 0, .int .i64 0, .int .i64 0, .int .i64 0, .int .i64 0, .int .i64 0, .int .i64 0, .int .i64 0, .int .i64 0, .int .i64 0, .int .i64 0, .int .i64 0, .int .i64 0, .int .i64 0, .int .i64 0, .int .i64 0, .int .i64 0, .int .i64 0, .int .i64 0, .int .i64 0, .int .i64 0, .int .i64 0, .int .i64 0, .int .i64 0, .int .i64 0, .int .i64 0, .int .i64 0, .int .i64 0, .int .i64 0, .int .i64 0, .int .i64 0, .int .i64 0, .int .i64 0, .int .i64 0, .int .i64 0, .int .i64 0, .int .i64 0, .int .i64 0, .int .i64 0, .int .i64 0, .int .i64 0, .int .i64 0, .int .i64 0, .int .i64 0, .int .i64 0, .int .i64 0, .int .i64 0, .int .i64 0, .int .i64 0, .int .i64 0, .int .i64 0, .int .i64 0, .int .i64 0, .int .i64 0, .int .i64 0, .int .i64 0, .int .i64 0, .int .i64 0, .int .i64 0, .int .i64 0, .int .i64 0, .int .i64 0, .int .i64 0, .int .i64 0, .int .i64 0, .int .i64 0, .int .i64 0, .int .i64 0, .int .i64 0, .int .i64 0, .int .i64 0, .int .i64 0, .int .i64 0, .int .i64 0, .int .i64 0, .int .i64 0, .int .i64 0, .int .i64 0, .int .i64 0, .int .i64 0, .int .i64 0, .int .i64 0, .int .i64 0, .int .i64 0, .int .i64 0, .int .i64 0, .int .i64 0, .int .i64 0, .int .i64 0, .int .i64 0, .int .i64 0, .int .i64 0, .int .i64 0, .int .i64 0, .int .i64 0, .int .i64 0, .int .i64 0, .int .i64 0, .int .i64 0, .int .i64 0, .int .i64 0, .int .i64 0, .int .i64 0, .int .i64 0, .int .i64 0, .int .i64 0, .int .i64 0, .int .i64 0, .int .i64 0, .int .i64 0, .int .i64 0, .int .i64 0, .int .i64 0, .int .i64 0, .int .i64 0, .int .i64 0, .int .i64 0, .int .i64 0, .int .i64 0, .int .i64 0, .int .i64 0, .int .i64 0, .int .i64 0, .int .i64 0, .int .i64 0, .int .i64 0, .int .i64 0, .int .i64 0, .int .i64 0, .int .i64 0, .int .i64 0, .int .i64 0, .int .i64 0, .int .i64 0, .int .i64 0, .int .i64 0, .int .i64 0, .int .i64 0, .int .i64 0, .int .i64 0, .int .i64 0] (fun t7 w =>
  M.len x1 (fun t22 w =>
  M.loop [(Value.int IntKind.i64 0)] (fun s1 K1 w => ∀ _ : List Value,
  M.bin .lss (s1.getD 0 undef) t22 (fun t24 w =>
  M.cond t24
  (M.indexSl 1 x1 (s1.getD 0 undef) (fun t25 w =>
  M.load1 t25 (fun t26 w =>
  M.call Try.prog 7 #[x0, t26] (fun t30 w =>
  M.extract 0 t30 (fun t31 w =>
  M.extract 1 t30 (fun t32 w =>
  M.bin .eql t32 (Value.int IntKind.i64 11) (fun t35 w =>
  M.cond t35
  (R (.tuple #[(Value.string { data := #[] }), t32]) w)
  (M.call Try.prog 28 #[x0, t26] (fun t40 w =>
  M.bin .neq t40 (Value.int IntKind.i64 1) (fun t41 w =>
  M.cond t41
  (R (.tuple #[(Value.string { data := #[] }), (Value.int IntKind.i64 2)]) w)
  (M.bin .neq t32 (Value.int IntKind.i64 0) (fun t44 w =>
  M.cond t44
  (R (.tuple #[(Value.string { data := #[] }), t32]) w)
  (M.scat (Value.string { data := #[40, 97, 115, 115, 101, 114, 116, 32, 40, 61, 32] }) t31 (fun t47 w =>
  M.scat t47 (Value.string { data := #[32] }) (fun t48 w =>
  M.scat t48 (Value.string { data := #[40, 95, 32, 98, 118, 49, 32, 49, 41] }) (fun t49 w =>
  M.scat t49 (Value.string { data := #[41, 41, 10] }) (fun t50 w =>
  M.call Try.prog 22 #[t6, t50] (fun t51 w =>
  M.call Try.prog 29 #[x0, t26] (fun t54 w =>
  M.len t54 (fun t55 w =>
  M.loop [(Value.int IntKind.i64 0)] (fun s2 K2 w => ∀ _ : List Value,
  M.bin .lss (s2.getD 0 undef) t55 (fun t57 w =>
  M.cond t57
  (M.indexSl 1 t54 (s2.getD 0 undef) (fun t58 w =>
  M.load1 t58 (fun t59 w =>
  M.indexArr 256 1 t7 t59 (fun t61 w =>
  M.store 1 t61 (Value.int IntKind.i64 1) (fun _ w =>
  M.bin .add (s2.getD 0 undef) (Value.int IntKind.i64 1) (fun t62 w =>
  K2 [t62] w) w) w) w) w) w)
  (M.bin .add (s1.getD 0 undef) (Value.int IntKind.i64 1) (fun t63 w =>
  K1 [t63] w) w)) w) w) w) w) w) w) w) w) w)) w)) w) w)) w) w) w) w) w) w)
  (M.loadA 256 t7 (fun t64 w =>
  M.loop [(Value.string { data := #[40, 115, 101, 116, 45, 108, 111, 103, 105, 99, 32, 81, 70, 95, 66, 86, 41, 10] }), (Value.int IntKind.i64 0)] (fun s3 K3 w => ∀ _ : List Value,
  M.bin .lss (s3.getD 1 undef) (Value.int IntKind.i64 256) (fun t66 w =>
  M.cond t66
  (M.share (fun K4 w =>
  pureW Try.prog (Instr.index 76 t64 (s3.getD 1 undef)) (fun t68 w =>
  M.bin .eql t68 (Value.int IntKind.i64 0) (fun t70 w =>
  M.cond t70
  (K4 [(s3.getD 0 undef)] w)
  (M.loop [(Value.int IntKind.i64 0), (Value.int IntKind.i64 0)] (fun s5 K5 w => ∀ _ : List Value,
  M.bin .eql (s5.getD 0 undef) (Value.int IntKind.i64 0) (fun t72 w =>
  M.cond t72
  (M.share (fun K6 w =>
  M.call Try.prog 20 #[x0, (s5.getD 1 undef)] (fun t78 w =>
  M.extract 0 t78 (fun t79 w =>
  M.extract 1 t78 (fun t80 w =>
  M.new 55 #[.int .i64 0, .int .i64 0, .int .i64 0, .int .i64 0, .int .i64 0, .int .u64 0] (fun t19 w =>
  M.store 6 t19 t79 (fun _ w =>
  M.fieldAddr 0 t19 (fun t81 w =>
  M.load1 t81 (fun t82 w =>
  M.bin .eql t82 (Value.int IntKind.i64 21) (fun t83 w =>
  M.gd t83 true (fun k w => M.fieldAddr 2 t19 k w) (fun t85 w =>
  M.gd t83 true (fun k w => M.load1 t85 k w) (fun t86 w =>
  M.gd t83 true (fun k w => k (s3.getD 1 undef) w) (fun t87 w =>
  M.gd t83 true (fun k w => M.bin .eql t86 t87 k w) (fun t88 w =>
  M.pick t83 t88 (Value.bool false) (fun t89 w =>
  M.cond t89
  (M.fieldAddr 1 t19 (fun t90 w =>
  M.load1 t90 (fun t91 w =>
  K6 [t91] w) w) w)
  (K6 [(s5.getD 0 undef)] w)) w) w) w) w) w) w) w) w) w) w) w) w) w) (fun s6 w => ∀ _ : List Value,
  M.bin .add (s5.getD 1 undef) (Value.int IntKind.i64 1) (fun t74 w =>
  K5 [(s6.getD 0 undef), t74] w) w) w)
  (M.call Try.prog 30 #[(s3.getD 1 undef)] (fun t94 w =>
  M.scat (Value.string { data := #[40, 100, 101, 99, 108, 97, 114, 101, 45, 102, 117, 110, 32, 120] }) t94 (fun t95 w =>
  M.scat t95 (Value.string { data := #[32, 40, 41, 32, 40, 95, 32, 66, 105, 116, 86, 101, 99, 32] }) (fun t96 w =>
  M.call Try.prog 30 #[(s5.getD 0 undef)] (fun t98 w =>
  M.scat t96 t98 (fun t99 w =>
  M.scat t99 (Value.string { data := #[41, 41, 10] }) (fun t100 w =>
  M.scat (s3.getD 0 undef) t100 (fun t101 w =>
  K4 [t101] w) w) w) w) w) w) w) w)) w) w)) w) w) (fun s4 w => ∀ _ : List Value,
  M.bin .add (s3.getD 1 undef) (Value.int IntKind.i64 1) (fun t102 w =>
  K3 [(s4.getD 0 undef), t102] w) w) w)
  (M.call Try.prog 24 #[t6] (fun t104 w =>
  M.scat (s3.getD 0 undef) t104 (fun t105 w =>
  M.scat t105 (Value.string { data := #[40, 99, 104, 101, 99, 107, 45, 115, 97, 116, 41, 10] }) (fun t106 w =>
  R (.tuple #[t106, (Value.int IntKind.i64 0)]) w) w) w) w)) w) w) w)) w) w) w) w) w
theorem ok9 (x0 x1 : Value) (R : Kt) (w : World) (h : sh9 x0 x1 R w) : Ret Try.prog 9 #[x0, x1] w R :=
  ret_mk <| calls_of_comp mixed (c := Try.f9.body.getD .skip) (args := [x0, x1]) (rs := [(ResultVar.tmp 4), (ResultVar.tmp 5)]) (Ann.seq Ann.text (Ann.seq Ann.text (Ann.seq Ann.text (Ann.seq (Ann.seq Ann.text (Ann.block (Ann.loop [23] [4, 5, 9, 10, 11, 13, 24, 25, 26, 27, 28, 29, 30, 31, 32, 33, 34, 35, 36, 37, 38, 39, 40, 41, 42, 43, 44, 45, 46, 47, 48, 49, 50, 51, 52, 53, 54, 55, 56, 57, 58, 59, 60, 61, 62, 63] (Ann.seq Ann.text (Ann.seq (Ann.cond Ann.leaf Ann.leaf) (Ann.seq (Ann.block (Ann.seq Ann.text (Ann.seq Ann.text (Ann.seq (Ann.block (Ann.seq Ann.text (Ann.cond (Ann.seq Ann.text Ann.leaf) (Ann.seq Ann.text (Ann.cond (Ann.seq Ann.text Ann.leaf) (Ann.seq Ann.text (Ann.cond (Ann.seq Ann.text Ann.leaf) Ann.leaf))))))) (Ann.seq Ann.text (Ann.seq Ann.text (Ann.block (Ann.loop [56] [13, 57, 58, 59, 60, 61, 62] (Ann.seq Ann.text (Ann.seq (Ann.cond Ann.leaf Ann.leaf) (Ann.seq (Ann.block (Ann.seq Ann.text Ann.text)) Ann.text))))))))))) Ann.text)))))) (Ann.seq Ann.text (Ann.seq (Ann.seq Ann.text (Ann.block (Ann.loop [14, 65] [15, 16, 17, 18, 19, 20, 66, 67, 68, 69, 70, 71, 72, 73, 74, 75, 76, 77, 78, 79, 80, 81, 82, 83, 84, 85, 86, 87, 88, 89, 90, 91, 92, 93, 94, 95, 96, 97, 98, 99, 100, 101, 102] (Ann.seq Ann.text (Ann.seq (Ann.cond Ann.leaf Ann.leaf) (Ann.seq (Ann.jblock [14] [15, 16, 17, 18, 19, 20, 67, 68, 69, 70, 71, 72, 73, 74, 75, 76, 77, 78, 79, 80, 81, 82, 83, 84, 85, 86, 87, 88, 89, 90, 91, 92, 93, 94, 95, 96, 97, 98, 99, 100, 101] (Ann.seq Ann.text (Ann.seq (Ann.seq Ann.text (Ann.cond Ann.leaf Ann.leaf)) (Ann.seq Ann.text (Ann.seq (Ann.seq Ann.text (Ann.block (Ann.loop [17, 18] [19, 20, 71, 72, 73, 74, 75, 76, 77, 78, 79, 80, 81, 82, 83, 84, 85, 86, 87, 88, 89, 90, 91] (Ann.seq (Ann.seq Ann.text (Ann.cond Ann.leaf Ann.leaf)) (Ann.seq (Ann.jblock [17] [19, 20, 75, 76, 77, 78, 79, 80, 81, 82, 83, 84, 85, 86, 87, 88, 89, 90, 91] (Ann.seq Ann.text (Ann.seq Ann.text (Ann.cond Ann.text Ann.leaf)))) Ann.text))))) Ann.text))))) Ann.text)))))) (Ann.seq Ann.text Ann.leaf)))))))
    Try.func9 (by kernel_rfl) (by kernel_rfl)
    (Eq.mp (by kernel_rfl) h)

theorem M.newT_i {k : Kt} {w : World} {T : TypeId} {l : List Value} (h : ∀ w', BlkT T w' w.heap.size l → Keep w w' No → w'.heap.size = w.heap.size + 1 → k (.pointer (some ⟨w.heap.size, 0, none⟩)) w') :
    M.new T ⟨l⟩ k w := by
  unfold M.new
  exact h (w.alloc (.cells ⟨l⟩ T)) (alloc_new w _) (Keep.alloc w _ _) (by simp)
theorem M.idxA_i {k : Kt} {w : World} {t e : TypeId} {n : Nat} {d : IntKind} {i : Int} {l : List Value} {v : Value} (hu : Try.prog.underlying t = some (.array n e)) (hs : ∀ w, (sizeOf e).run Try.prog w = .ok 1 w) (ha : ∀ w, (isAgg e).run Try.prog w = .ok false w) (hl : l.length = n) (h0 : 0 ≤ i) (hx : l[i.toNat]? = some v) (hk : k v w) :
    pureW Try.prog (Instr.index t (.agg ⟨l⟩) (.int d i)) k w := by
  have hlt := (List.getElem?_eq_some_iff.1 hx).1
  have h1 : 0 ≤ i ∧ i < (n : Int) := by omega
  refine M.pure_i v (fun w' => ?_) hk
  simp [Instr.index, run_underlying hu, asIntOf, h1, hx, hs, ha, go_sem]
theorem isU8_not {w : World} {T : TypeId} {b : Nat} {l : List Value} (h : BlkT T w b l) (hT : T ≠ 5) : ¬ isU8 w b := by
  rintro ⟨cs, fz, hu⟩
  unfold BlkT at h
  rw [h] at hu
  simp only [Option.some.injEq, Obj.cells.injEq] at hu
  exact hT hu.2.1
set_option maxHeartbeats 16000000 in
theorem script_ret {w : World} {F D : Nat → Prop} {p : Nat} {N : List Nd} {most : Int} {cv : Value} {cs : List Int} (hd : DagO w F p N most) (hc : LV vi w D cv cs) (hcs : cs.length ≤ 1000) :
    Ret Try.prog 9 #[ptr p, cv] w (fun r w' => r = .tuple #[vs (scrN N cs).1, vi (scrN N cs).2] ∧ Keep w w' No) := by
  have hc := hc.mono (D' := fun b => b < w.heap.size) (fun b hb _ => hb)
  obtain ⟨A, cp, rfl, hr, _⟩ := hc
  have hG := hd.good
  have hNl := hd.len
  refine ok9 _ _ _ _ ?_
  unfold sh9
  refine bld_new (fun w1 hb1 k1 s1 => ?_)
  refine M.newT_i (l := List.replicate 256 (vi 0)) (fun w2 a2 k2 s2 => ?_)
  rw [← marks_nil] at a2
  have hb2 := hb1.keepN k2
  have k02 := k1.trans k2 (fun _ _ h => h)
  have q1 := k1.size
  (repeat (first|refine ja ?_|refine jb ?_|refine jc ?_|refine jd ?_|refine je ?_|refine jf ?_|refine jg ?_|refine jh ?_|refine ji ?_|refine jj ?_|refine jk ?_|refine jl ?_|refine jm ?_|refine jn ?_|refine jo ?_|refine jp ?_|refine jq ?_|refine jr ?_|refine js ?_|refine jt ?_|refine ju ?_|refine jv ?_|refine jw ?_|refine jx ?_|refine jy ?_|refine jz ?_|refine jA ?_|refine jB ?_|refine jC ?_|refine jD ?_|refine jE ?_|refine jF ?_|refine jG ?_|refine jH ?_|refine jI ?_|refine jJ ?_|refine jK ?_|refine jL ?_|refine jM (by assumption) ?_|refine jN (by assumption) rfl ?_|refine jO (by assumption) ?_|refine jP (by assumption) rfl ?_|refine jQ ?_|refine jR ?_|refine jS ?_|refine jT ?_|refine jU (by assumption) rfl ?_))
  refine M.loop_i (σ := Nat) (fun i vals w' => vals = [vi i] ∧ i ≤ cs.length ∧ Bld w' w.heap.size (asrtsN N (cs.take i)) ∧ BlkT 76 w' w1.heap.size (marks (varsS N (cs.take i))) ∧ (∀ x ∈ cs.take i, scrE N x = 0) ∧ Keep w w' No) (fun i => cs.length - i) 0
    ⟨rfl, by omega, hb2, a2, fun x hx => by simp at hx, k02⟩ ?_
  clear hb1 a2 hb2 k02 k2 s2
  rintro i vals w3 K ⟨rfl, hi, hb3, a3, he3, k3⟩ hK _
  simp only [List.getD_cons_zero, List.getD_cons_succ]
  have hd3 := hd.keepN k3
  have hr3 := hr.keep k3 (fun _ _ _ h => h)
  by_cases hlt : i < cs.length
  · obtain ⟨c, hc⟩ : ∃ c, cs[i]? = some c := ⟨_, List.getElem?_eq_getElem hlt⟩
    have et : cs.take (i + 1) = cs.take i ++ [c] := by rw [List.take_add_one, hc]; rfl
    (repeat (first|refine ja ?_|refine jb ?_|refine jc ?_|refine jd ?_|refine je ?_|refine jf ?_|refine jg ?_|refine jh ?_|refine ji ?_|refine jj ?_|refine jk ?_|refine jl ?_|refine jm ?_|refine jn ?_|refine jo ?_|refine jp ?_|refine jq ?_|refine jr ?_|refine js ?_|refine jt ?_|refine ju ?_|refine jv ?_|refine jw ?_|refine jx ?_|refine jy ?_|refine jz ?_|refine jA ?_|refine jB ?_|refine jC ?_|refine jD ?_|refine jE ?_|refine jF ?_|refine jG ?_|refine jH ?_|refine jI ?_|refine jJ ?_|refine jK ?_|refine jL ?_|refine jM (by assumption) ?_|refine jN (by assumption) rfl ?_|refine jO (by assumption) ?_|refine jP (by assumption) rfl ?_|refine jQ ?_|refine jR ?_|refine jS ?_|refine jT ?_|refine jU (by assumption) rfl ?_))
    refine M.idxLV_i hr3 rfl (by omega) (by omega) (x := c) (by rw [Int.toNat_natCast]; exact hc) (fun bb oo hA hcc => ?_)
    (repeat (first|refine ja ?_|refine jb ?_|refine jc ?_|refine jd ?_|refine je ?_|refine jf ?_|refine jg ?_|refine jh ?_|refine ji ?_|refine jj ?_|refine jk ?_|refine jl ?_|refine jm ?_|refine jn ?_|refine jo ?_|refine jp ?_|refine jq ?_|refine jr ?_|refine js ?_|refine jt ?_|refine ju ?_|refine jv ?_|refine jw ?_|refine jx ?_|refine jy ?_|refine jz ?_|refine jA ?_|refine jB ?_|refine jC ?_|refine jD ?_|refine jE ?_|refine jF ?_|refine jG ?_|refine jH ?_|refine jI ?_|refine jJ ?_|refine jK ?_|refine jL ?_|refine jM (by assumption) ?_|refine jN (by assumption) rfl ?_|refine jO (by assumption) ?_|refine jP (by assumption) rfl ?_|refine jQ ?_|refine jR ?_|refine jS ?_|refine jT ?_|refine jU (by assumption) rfl ?_))
    refine M.call_i (term_ret hd3 c) ?_; rintro _ w4 ⟨rfl, k4⟩
    refine M.extract_i (v := vs (smtN N c).1) rfl ?_
    refine M.extract_i (v := vi (smtN N c).2) rfl ?_
    have k04 := k3.trans k4 (fun _ _ h => h)
    have hd4 := hd3.keepN k4
    have hb4 := hb3.keepN k4
    have a4 := a3.keep k4 (fun h => h)
    have hr4 := hr3.keep k4 (fun _ _ _ h => h)
    cases hid : isN N c with
    | false =>
      have e : smtN N c = ([], 11) := by unfold smtN; rw [if_pos hid]
      have e2 : scrE N c = 11 := by unfold scrE; rw [if_pos hid]
      rw [e]
      (repeat (first|refine ja ?_|refine jb ?_|refine jc ?_|refine jd ?_|refine je ?_|refine jf ?_|refine jg ?_|refine jh ?_|refine ji ?_|refine jj ?_|refine jk ?_|refine jl ?_|refine jm ?_|refine jn ?_|refine jo ?_|refine jp ?_|refine jq ?_|refine jr ?_|refine js ?_|refine jt ?_|refine ju ?_|refine jv ?_|refine jw ?_|refine jx ?_|refine jy ?_|refine jz ?_|refine jA ?_|refine jB ?_|refine jC ?_|refine jD ?_|refine jE ?_|refine jF ?_|refine jG ?_|refine jH ?_|refine jI ?_|refine jJ ?_|refine jK ?_|refine jL ?_|refine jM (by assumption) ?_|refine jN (by assumption) rfl ?_|refine jO (by assumption) ?_|refine jP (by assumption) rfl ?_|refine jQ ?_|refine jR ?_|refine jS ?_|refine jT ?_|refine jU (by assumption) rfl ?_))
      refine ⟨?_, k04⟩
      rw [find_take hc he3 (by rw [e2]; decide), e2]
    | true =>
      have e11 : (smtN N c).2 = 0 ∨ (smtN N c).2 = 8 := by
        unfold smtN
        rw [hid, if_neg (by decide)]
        split
        · exact .inl rfl
        · exact .inr rfl
      have e2 : scrE N c = if wdN N c ≠ 1 then 2 else (smtN N c).2 := by unfold scrE; rw [hid, if_neg (by decide)]
      have hl := smtN_len N c
      (repeat (first|refine ja ?_|refine jb ?_|refine jc ?_|refine jd ?_|refine je ?_|refine jf ?_|refine jg ?_|refine jh ?_|refine ji ?_|refine jj ?_|refine jk ?_|refine jl ?_|refine jm ?_|refine jn ?_|refine jo ?_|refine jp ?_|refine jq ?_|refine jr ?_|refine js ?_|refine jt ?_|refine ju ?_|refine jv ?_|refine jw ?_|refine jx ?_|refine jy ?_|refine jz ?_|refine jA ?_|refine jB ?_|refine jC ?_|refine jD ?_|refine jE ?_|refine jF ?_|refine jG ?_|refine jH ?_|refine jI ?_|refine jJ ?_|refine jK ?_|refine jL ?_|refine jM (by assumption) ?_|refine jN (by assumption) rfl ?_|refine jO (by assumption) ?_|refine jP (by assumption) rfl ?_|refine jQ ?_|refine jR ?_|refine jS ?_|refine jT ?_|refine jU (by assumption) rfl ?_))
      refine M.call_i (hd4.width c) ?_; rintro _ w5 ⟨rfl, k5⟩
      have k05 := k04.trans k5 (fun _ _ h => h)
      have hd5 := hd4.keepN k5
      have hb5 := hb4.keepN k5
      have a5 := a4.keep k5 (fun h => h)
      by_cases hw : wdN N c = 1
      · rw [if_neg (by omega)] at e2
        rcases e11 with e11 | e11
        · rw [e11] at e2
          have hal := asrtsN_len N (cs.take i)
          have htl : (cs.take i).length ≤ 1000 := by rw [List.length_take]; omega
          have hB := asrtB_len hl
          (repeat (first|refine ja ?_|refine jb ?_|refine jc ?_|refine jd ?_|refine je ?_|refine jf ?_|refine jg ?_|refine jh ?_|refine ji ?_|refine jj ?_|refine jk ?_|refine jl ?_|refine jm ?_|refine jn ?_|refine jo ?_|refine jp ?_|refine jq ?_|refine jr ?_|refine js ?_|refine jt ?_|refine ju ?_|refine jv ?_|refine jw ?_|refine jx ?_|refine jy ?_|refine jz ?_|refine jA ?_|refine jB ?_|refine jC ?_|refine jD ?_|refine jE ?_|refine jF ?_|refine jG ?_|refine jH ?_|refine jI ?_|refine jJ ?_|refine jK ?_|refine jL ?_|refine jM (by assumption) ?_|refine jN (by assumption) rfl ?_|refine jO (by assumption) ?_|refine jP (by assumption) rfl ?_|refine jQ ?_|refine jR ?_|refine jS ?_|refine jT ?_|refine jU (by assumption) rfl ?_))
          refine M.str_i (by simp only [List.length_append, List.length_cons, List.length_nil]; omega) ?_
          refine M.str_i (by simp only [List.length_append, List.length_cons, List.length_nil]; omega) ?_
          refine M.str_i (by simp only [List.length_append, List.length_cons, List.length_nil]; omega) ?_
          refine M.str_i (by simp only [List.length_append, List.length_cons, List.length_nil]; omega) ?_
          refine M.call_i (bld_write hb5 (asrtB (smtN N c).1) (by omega)) ?_; rintro _ w6 ⟨rfl, hb6, k6⟩
          have q5 := hb5.lt
          have a6 := a5.keep k6 (fun h => by
            rcases h with h | ⟨_, h⟩
            · omega
            · exact isU8_not a5 (by decide) h)
          have k06 : Keep w w6 No := k05.trans k6 (fun b hb h => by rcases h with h | ⟨h, _⟩ <;> omega)
          have a6lt := a6.blk.lt
          refine M.call_i (vars_ret (hd.keepN k06) c) ?_; rintro vv w7 ⟨g7, k7⟩
          have hb7 := hb6.keepN k7
          have a7 := a6.keep k7 (fun h => h)
          have k07 := k06.trans k7 (fun _ _ h => h)
          obtain ⟨B, cb, rfl, hrv, _⟩ := GI.lv g7
          have hrng : ∀ v ∈ varsN N c, 0 ≤ v ∧ v < 256 := fun v hv => varsN_rng hG hv
          generalize hvl : varsN N c = vl at hrv hrng
          have hvN : vl.length ≤ N.length := by rw [← hvl]; exact varsN_len
          (repeat (first|refine ja ?_|refine jb ?_|refine jc ?_|refine jd ?_|refine je ?_|refine jf ?_|refine jg ?_|refine jh ?_|refine ji ?_|refine jj ?_|refine jk ?_|refine jl ?_|refine jm ?_|refine jn ?_|refine jo ?_|refine jp ?_|refine jq ?_|refine jr ?_|refine js ?_|refine jt ?_|refine ju ?_|refine jv ?_|refine jw ?_|refine jx ?_|refine jy ?_|refine jz ?_|refine jA ?_|refine jB ?_|refine jC ?_|refine jD ?_|refine jE ?_|refine jF ?_|refine jG ?_|refine jH ?_|refine jI ?_|refine jJ ?_|refine jK ?_|refine jL ?_|refine jM (by assumption) ?_|refine jN (by assumption) rfl ?_|refine jO (by assumption) ?_|refine jP (by assumption) rfl ?_|refine jQ ?_|refine jR ?_|refine jS ?_|refine jT ?_|refine jU (by assumption) rfl ?_))
          refine M.loop_i (σ := Nat) (fun j vals w' => vals = [vi j] ∧ j ≤ vl.length ∧ BlkT 76 w' w1.heap.size (marks (varsS N (cs.take i) ++ vl.take j)) ∧ Keep w7 w' (· = w1.heap.size)) (fun j => vl.length - j) 0 ⟨rfl, by omega, by simpa using a7, Keep.refl _ _⟩ ?_
          rintro j vals w8 K2 ⟨rfl, hj, a8, k8⟩ hK2 _
          simp only [List.getD_cons_zero, List.getD_cons_succ]
          have hrv8 := hrv.keep k8 (fun b hb h1 h2 => by have h1 : w6.heap.size ≤ b := h1; have h2 : b = w1.heap.size := h2; omega)
          by_cases hjl : j < vl.length
          · obtain ⟨v, hv⟩ : ∃ v, vl[j]? = some v := ⟨_, List.getElem?_eq_getElem hjl⟩
            have hvr := hrng v (List.mem_of_getElem? hv)
            (repeat (first|refine ja ?_|refine jb ?_|refine jc ?_|refine jd ?_|refine je ?_|refine jf ?_|refine jg ?_|refine jh ?_|refine ji ?_|refine jj ?_|refine jk ?_|refine jl ?_|refine jm ?_|refine jn ?_|refine jo ?_|refine jp ?_|refine jq ?_|refine jr ?_|refine js ?_|refine jt ?_|refine ju ?_|refine jv ?_|refine jw ?_|refine jx ?_|refine jy ?_|refine jz ?_|refine jA ?_|refine jB ?_|refine jC ?_|refine jD ?_|refine jE ?_|refine jF ?_|refine jG ?_|refine jH ?_|refine jI ?_|refine jJ ?_|refine jK ?_|refine jL ?_|refine jM (by assumption) ?_|refine jN (by assumption) rfl ?_|refine jO (by assumption) ?_|refine jP (by assumption) rfl ?_|refine jQ ?_|refine jR ?_|refine jS ?_|refine jT ?_|refine jU (by assumption) rfl ?_))
            refine M.idxLV_i hrv8 rfl (by omega) (by omega) (x := v) (by rw [Int.toNat_natCast]; exact hv) (fun bb2 oo2 hA2 hcc2 => ?_)
            (repeat (first|refine ja ?_|refine jb ?_|refine jc ?_|refine jd ?_|refine je ?_|refine jf ?_|refine jg ?_|refine jh ?_|refine ji ?_|refine jj ?_|refine jk ?_|refine jl ?_|refine jm ?_|refine jn ?_|refine jo ?_|refine jp ?_|refine jq ?_|refine jr ?_|refine js ?_|refine jt ?_|refine ju ?_|refine jv ?_|refine jw ?_|refine jx ?_|refine jy ?_|refine jz ?_|refine jA ?_|refine jB ?_|refine jC ?_|refine jD ?_|refine jE ?_|refine jF ?_|refine jG ?_|refine jH ?_|refine jI ?_|refine jJ ?_|refine jK ?_|refine jL ?_|refine jM (by assumption) ?_|refine jN (by assumption) rfl ?_|refine jO (by assumption) ?_|refine jP (by assumption) rfl ?_|refine jQ ?_|refine jR ?_|refine jS ?_|refine jT ?_|refine jU (by assumption) rfl ?_))
            refine M.arrS_i hvr.1 (by omega) ?_
            rw [Nat.zero_add, Nat.mul_one]
            refine M.storeT_i a8 (by rw [marks_len]; omega) rfl (fun w9 a9 k9 s9 => ?_)
            rw [marks_set _ hvr.1 hvr.2, List.append_assoc] at a9
            (repeat (first|refine ja ?_|refine jb ?_|refine jc ?_|refine jd ?_|refine je ?_|refine jf ?_|refine jg ?_|refine jh ?_|refine ji ?_|refine jj ?_|refine jk ?_|refine jl ?_|refine jm ?_|refine jn ?_|refine jo ?_|refine jp ?_|refine jq ?_|refine jr ?_|refine js ?_|refine jt ?_|refine ju ?_|refine jv ?_|refine jw ?_|refine jx ?_|refine jy ?_|refine jz ?_|refine jA ?_|refine jB ?_|refine jC ?_|refine jD ?_|refine jE ?_|refine jF ?_|refine jG ?_|refine jH ?_|refine jI ?_|refine jJ ?_|refine jK ?_|refine jL ?_|refine jM (by assumption) ?_|refine jN (by assumption) rfl ?_|refine jO (by assumption) ?_|refine jP (by assumption) rfl ?_|refine jQ ?_|refine jR ?_|refine jS ?_|refine jT ?_|refine jU (by assumption) rfl ?_))
            refine hK2 (j + 1) _ _ (by omega) ⟨rfl, by omega, ?_, k8.trans k9 (fun _ _ h => h)⟩
            rw [List.take_add_one, hv]; exact a9
          · have e : j = vl.length := by omega
            subst e
            rw [List.take_length] at a8
            (repeat (first|refine ja ?_|refine jb ?_|refine jc ?_|refine jd ?_|refine je ?_|refine jf ?_|refine jg ?_|refine jh ?_|refine ji ?_|refine jj ?_|refine jk ?_|refine jl ?_|refine jm ?_|refine jn ?_|refine jo ?_|refine jp ?_|refine jq ?_|refine jr ?_|refine js ?_|refine jt ?_|refine ju ?_|refine jv ?_|refine jw ?_|refine jx ?_|refine jy ?_|refine jz ?_|refine jA ?_|refine jB ?_|refine jC ?_|refine jD ?_|refine jE ?_|refine jF ?_|refine jG ?_|refine jH ?_|refine jI ?_|refine jJ ?_|refine jK ?_|refine jL ?_|refine jM (by assumption) ?_|refine jN (by assumption) rfl ?_|refine jO (by assumption) ?_|refine jP (by assumption) rfl ?_|refine jQ ?_|refine jR ?_|refine jS ?_|refine jT ?_|refine jU (by assumption) rfl ?_))
            refine hK (i + 1) _ _ (by omega) ⟨rfl, by omega, ?_, ?_, ?_, k07.trans k8 (fun b hb h => by have h : b = w1.heap.size := h; omega)⟩
            · rw [et, asrtsN_snoc]
              refine hb7.keep k8 (fun b h1 h2 => ?_)
              have h2 : b = w1.heap.size := h2
              subst h2
              rcases h1 with h | ⟨_, h⟩
              · omega
              · exact isU8_not a7 (by decide) h
            · rw [et, varsS_snoc, hvl]; exact a8
            · intro x hx
              rw [et] at hx
              rcases List.mem_append.1 hx with hx | hx
              · exact he3 x hx
              · simp only [List.mem_singleton] at hx
                subst hx; exact e2
        · rw [e11] at e2
          (repeat (first|refine ja ?_|refine jb ?_|refine jc ?_|refine jd ?_|refine je ?_|refine jf ?_|refine jg ?_|refine jh ?_|refine ji ?_|refine jj ?_|refine jk ?_|refine jl ?_|refine jm ?_|refine jn ?_|refine jo ?_|refine jp ?_|refine jq ?_|refine jr ?_|refine js ?_|refine jt ?_|refine ju ?_|refine jv ?_|refine jw ?_|refine jx ?_|refine jy ?_|refine jz ?_|refine jA ?_|refine jB ?_|refine jC ?_|refine jD ?_|refine jE ?_|refine jF ?_|refine jG ?_|refine jH ?_|refine jI ?_|refine jJ ?_|refine jK ?_|refine jL ?_|refine jM (by assumption) ?_|refine jN (by assumption) rfl ?_|refine jO (by assumption) ?_|refine jP (by assumption) rfl ?_|refine jQ ?_|refine jR ?_|refine jS ?_|refine jT ?_|refine jU (by assumption) rfl ?_))
          refine ⟨?_, k05⟩
          rw [find_take hc he3 (by rw [e2]; decide), e2, e11]
      · rw [if_pos hw] at e2
        (repeat (first|refine ja ?_|refine jb ?_|refine jc ?_|refine jd ?_|refine je ?_|refine jf ?_|refine jg ?_|refine jh ?_|refine ji ?_|refine jj ?_|refine jk ?_|refine jl ?_|refine jm ?_|refine jn ?_|refine jo ?_|refine jp ?_|refine jq ?_|refine jr ?_|refine js ?_|refine jt ?_|refine ju ?_|refine jv ?_|refine jw ?_|refine jx ?_|refine jy ?_|refine jz ?_|refine jA ?_|refine jB ?_|refine jC ?_|refine jD ?_|refine jE ?_|refine jF ?_|refine jG ?_|refine jH ?_|refine jI ?_|refine jJ ?_|refine jK ?_|refine jL ?_|refine jM (by assumption) ?_|refine jN (by assumption) rfl ?_|refine jO (by assumption) ?_|refine jP (by assumption) rfl ?_|refine jQ ?_|refine jR ?_|refine jS ?_|refine jT ?_|refine jU (by assumption) rfl ?_))
        refine ⟨?_, k05⟩
        rw [find_take hc he3 (by rw [e2]; decide), e2]
  · have e : i = cs.length := by omega
    subst e
    rw [List.take_length] at hb3 a3 he3
    have hrng : ∀ v ∈ varsS N cs, 0 ≤ v ∧ v < 256 := fun v hv => varsS_rng hG hv
    have hnode : ∀ v ∈ varsS N cs, ∃ (i : Nat) (n : Nd), N[i]? = some n ∧ n.op = 21 ∧ n.a = v := fun v hv => varsS_node hv
    have hfin := find_all he3
    generalize varsS N cs = l at a3 hrng hnode hfin
    have hal := asrtsN_len N cs
    have hblt := hb3.lt
    (repeat (first|refine ja ?_|refine jb ?_|refine jc ?_|refine jd ?_|refine je ?_|refine jf ?_|refine jg ?_|refine jh ?_|refine ji ?_|refine jj ?_|refine jk ?_|refine jl ?_|refine jm ?_|refine jn ?_|refine jo ?_|refine jp ?_|refine jq ?_|refine jr ?_|refine js ?_|refine jt ?_|refine ju ?_|refine jv ?_|refine jw ?_|refine jx ?_|refine jy ?_|refine jz ?_|refine jA ?_|refine jB ?_|refine jC ?_|refine jD ?_|refine jE ?_|refine jF ?_|refine jG ?_|refine jH ?_|refine jI ?_|refine jJ ?_|refine jK ?_|refine jL ?_|refine jM (by assumption) ?_|refine jN (by assumption) rfl ?_|refine jO (by assumption) ?_|refine jP (by assumption) rfl ?_|refine jQ ?_|refine jR ?_|refine jS ?_|refine jT ?_|refine jU (by assumption) rfl ?_))
    refine M.loadAll_i a3.blk (marks_len _) ?_
    refine M.loop_i (σ := Nat) (fun v vals w' => vals = [vs (([40, 115, 101, 116, 45, 108, 111, 103, 105, 99, 32, 81, 70, 95, 66, 86, 41, 10] : List UInt8) ++ (upto l v).flatMap (declB N)), vi v] ∧ v ≤ 256 ∧ Keep w3 w' No) (fun v => 256 - v) 0 ⟨rfl, by omega, Keep.refl _ _⟩ ?_
    rintro v vals w4 K2 ⟨rfl, hv, k4⟩ hK2 _
    simp only [List.getD_cons_zero, List.getD_cons_succ]
    have hul : ((upto l v).flatMap (declB N)).length ≤ 25600 := by
      have h1 := flatB_len (f := declB N) (m := 100) (l := upto l v) (fun x _ => declB_len N x)
      have h2 := upto_len l v
      omega
    by_cases hv2 : v < 256
    · (repeat (first|refine ja ?_|refine jb ?_|refine jc ?_|refine jd ?_|refine je ?_|refine jf ?_|refine jg ?_|refine jh ?_|refine ji ?_|refine jj ?_|refine jk ?_|refine jl ?_|refine jm ?_|refine jn ?_|refine jo ?_|refine jp ?_|refine jq ?_|refine jr ?_|refine js ?_|refine jt ?_|refine ju ?_|refine jv ?_|refine jw ?_|refine jx ?_|refine jy ?_|refine jz ?_|refine jA ?_|refine jB ?_|refine jC ?_|refine jD ?_|refine jE ?_|refine jF ?_|refine jG ?_|refine jH ?_|refine jI ?_|refine jJ ?_|refine jK ?_|refine jL ?_|refine jM (by assumption) ?_|refine jN (by assumption) rfl ?_|refine jO (by assumption) ?_|refine jP (by assumption) rfl ?_|refine jQ ?_|refine jR ?_|refine jS ?_|refine jT ?_|refine jU (by assumption) rfl ?_))
      refine M.share_j (fun vals w' => vals = [vs (([40, 115, 101, 116, 45, 108, 111, 103, 105, 99, 32, 81, 70, 95, 66, 86, 41, 10] : List UInt8) ++ (upto l (v + 1)).flatMap (declB N))] ∧ Keep w3 w' No) ?_ ?_
      · rintro vals w5 ⟨rfl, k5⟩ _
        simp only [List.getD_cons_zero, List.getD_cons_succ]
        (repeat (first|refine ja ?_|refine jb ?_|refine jc ?_|refine jd ?_|refine je ?_|refine jf ?_|refine jg ?_|refine jh ?_|refine ji ?_|refine jj ?_|refine jk ?_|refine jl ?_|refine jm ?_|refine jn ?_|refine jo ?_|refine jp ?_|refine jq ?_|refine jr ?_|refine js ?_|refine jt ?_|refine ju ?_|refine jv ?_|refine jw ?_|refine jx ?_|refine jy ?_|refine jz ?_|refine jA ?_|refine jB ?_|refine jC ?_|refine jD ?_|refine jE ?_|refine jF ?_|refine jG ?_|refine jH ?_|refine jI ?_|refine jJ ?_|refine jK ?_|refine jL ?_|refine jM (by assumption) ?_|refine jN (by assumption) rfl ?_|refine jO (by assumption) ?_|refine jP (by assumption) rfl ?_|refine jQ ?_|refine jR ?_|refine jS ?_|refine jT ?_|refine jU (by assumption) rfl ?_))
        exact hK2 (v + 1) _ _ (by omega) ⟨rfl, by omega, k5⟩
      · intro K3 hK3
        refine M.idxA_i (e := 3) (n := 256) (by kernel_rfl) (fun _ => by kernel_rfl) (fun _ => by kernel_rfl) (marks_len _) (by omega) (by rw [Int.toNat_natCast]; exact marks_get _ hv2) ?_
        cases hm : mkB l v with
        | false =>
          rw [if_neg (by decide)]
          (repeat (first|refine ja ?_|refine jb ?_|refine jc ?_|refine jd ?_|refine je ?_|refine jf ?_|refine jg ?_|refine jh ?_|refine ji ?_|refine jj ?_|refine jk ?_|refine jl ?_|refine jm ?_|refine jn ?_|refine jo ?_|refine jp ?_|refine jq ?_|refine jr ?_|refine js ?_|refine jt ?_|refine ju ?_|refine jv ?_|refine jw ?_|refine jx ?_|refine jy ?_|refine jz ?_|refine jA ?_|refine jB ?_|refine jC ?_|refine jD ?_|refine jE ?_|refine jF ?_|refine jG ?_|refine jH ?_|refine jI ?_|refine jJ ?_|refine jK ?_|refine jL ?_|refine jM (by assumption) ?_|refine jN (by assumption) rfl ?_|refine jO (by assumption) ?_|refine jP (by assumption) rfl ?_|refine jQ ?_|refine jR ?_|refine jS ?_|refine jT ?_|refine jU (by assumption) rfl ?_))
          exact hK3 _ _ ⟨by rw [upto_snoc, hm]; simp, k4⟩
        | true =>
          rw [if_pos rfl]
          have hmem : (v : Int) ∈ l := by simpa [mkB] using hm
          obtain ⟨i0, n0, hn0, h0, hfirst⟩ := first_at (hnode _ hmem)
          have hwv := wdV_at hn0 h0 hfirst
          have hw0 := (hG i0 n0 hn0).1
          have hi0 := (List.getElem?_eq_some_iff.1 hn0).1
          rw [← hwv] at hw0
          (repeat (first|refine ja ?_|refine jb ?_|refine jc ?_|refine jd ?_|refine je ?_|refine jf ?_|refine jg ?_|refine jh ?_|refine ji ?_|refine jj ?_|refine jk ?_|refine jl ?_|refine jm ?_|refine jn ?_|refine jo ?_|refine jp ?_|refine jq ?_|refine jr ?_|refine js ?_|refine jt ?_|refine ju ?_|refine jv ?_|refine jw ?_|refine jx ?_|refine jy ?_|refine jz ?_|refine jA ?_|refine jB ?_|refine jC ?_|refine jD ?_|refine jE ?_|refine jF ?_|refine jG ?_|refine jH ?_|refine jI ?_|refine jJ ?_|refine jK ?_|refine jL ?_|refine jM (by assumption) ?_|refine jN (by assumption) rfl ?_|refine jO (by assumption) ?_|refine jP (by assumption) rfl ?_|refine jQ ?_|refine jR ?_|refine jS ?_|refine jT ?_|refine jU (by assumption) rfl ?_))
          refine M.loop_i (σ := Nat) (fun m vals w' => ∃ (id : Nat) (wd : Int), vals = [vi wd, vi id] ∧ ((wd = 0 ∧ id ≤ i0 ∧ m = i0 + 1 - id) ∨ (wd = wdV N v ∧ m = 0)) ∧ id ≤ N.length ∧ Keep w3 w' No) (fun m => m) (i0 + 1) ⟨0, 0, rfl, .inl ⟨rfl, by omega, by omega⟩, by omega, k4⟩ ?_
          rintro m vals w5 K4 ⟨id, wd, rfl, hcs, hidN, k5⟩ hK4 _
          simp only [List.getD_cons_zero, List.getD_cons_succ]
          rcases hcs with ⟨rfl, hle, rfl⟩ | ⟨rfl, rfl⟩
          · obtain ⟨n, hn⟩ : ∃ n, N[id]? = some n := ⟨_, List.getElem?_eq_getElem (by omega)⟩
            have hat : nodeAt N (id : Int) = n := by
              unfold nodeAt
              rw [if_pos (isN_iff.2 ⟨by omega, by omega⟩), Int.toNat_natCast, hn]; rfl
            (repeat (first|refine ja ?_|refine jb ?_|refine jc ?_|refine jd ?_|refine je ?_|refine jf ?_|refine jg ?_|refine jh ?_|refine ji ?_|refine jj ?_|refine jk ?_|refine jl ?_|refine jm ?_|refine jn ?_|refine jo ?_|refine jp ?_|refine jq ?_|refine jr ?_|refine js ?_|refine jt ?_|refine ju ?_|refine jv ?_|refine jw ?_|refine jx ?_|refine jy ?_|refine jz ?_|refine jA ?_|refine jB ?_|refine jC ?_|refine jD ?_|refine jE ?_|refine jF ?_|refine jG ?_|refine jH ?_|refine jI ?_|refine jJ ?_|refine jK ?_|refine jL ?_|refine jM (by assumption) ?_|refine jN (by assumption) rfl ?_|refine jO (by assumption) ?_|refine jP (by assumption) rfl ?_|refine jQ ?_|refine jR ?_|refine jS ?_|refine jT ?_|refine jU (by assumption) rfl ?_))
            refine M.share_j (fun vals w' => vals = [vi (if n.op = 21 ∧ n.a = v then n.wd else 0)] ∧ Keep w3 w' No) ?_ ?_
            · rintro vals w6 ⟨rfl, k6⟩ _
              simp only [List.getD_cons_zero, List.getD_cons_succ]
              (repeat (first|refine ja ?_|refine jb ?_|refine jc ?_|refine jd ?_|refine je ?_|refine jf ?_|refine jg ?_|refine jh ?_|refine ji ?_|refine jj ?_|refine jk ?_|refine jl ?_|refine jm ?_|refine jn ?_|refine jo ?_|refine jp ?_|refine jq ?_|refine jr ?_|refine js ?_|refine jt ?_|refine ju ?_|refine jv ?_|refine jw ?_|refine jx ?_|refine jy ?_|refine jz ?_|refine jA ?_|refine jB ?_|refine jC ?_|refine jD ?_|refine jE ?_|refine jF ?_|refine jG ?_|refine jH ?_|refine jI ?_|refine jJ ?_|refine jK ?_|refine jL ?_|refine jM (by assumption) ?_|refine jN (by assumption) rfl ?_|refine jO (by assumption) ?_|refine jP (by assumption) rfl ?_|refine jQ ?_|refine jR ?_|refine jS ?_|refine jT ?_|refine jU (by assumption) rfl ?_))
              by_cases hh : n.op = 21 ∧ n.a = v
              · have e : id = i0 := by
                  apply Classical.byContradiction
                  intro hne
                  exact hfirst id n (by omega) hn hh
                subst e
                rw [hn] at hn0
                cases hn0
                rw [if_pos hh]
                exact hK4 0 _ _ (by omega) ⟨id + 1, _, rfl, .inr ⟨hwv.symm, rfl⟩, by omega, k6⟩
              · have e : id ≠ i0 := fun e => by
                  subst e
                  rw [hn] at hn0
                  cases hn0
                  exact hh h0
                rw [if_neg hh]
                exact hK4 (i0 + 1 - (id + 1)) _ _ (by omega) ⟨id + 1, 0, rfl, .inl ⟨rfl, by omega, rfl⟩, by omega, k6⟩
            · intro K5 hK5
              refine M.call_i ((hd3.keepN k5).node (id : Int)) ?_; rintro _ w6 ⟨rfl, k6⟩
              refine M.extract_i (v := encN (nodeAt N id)) rfl ?_
              refine M.extract_i (v := .bool (isN N id)) rfl ?_
              rw [hat]
              refine M.new_i (l := zeroNd.cells) (fun w7 b7 k7 s7 => ?_)
              refine M.storeAll_i b7 rfl rfl (cells_one _) (fun w8 b8 k8 s8 => ?_)
              have b8 : Blk w8 w6.heap.size [vi n.op, vi n.wd, vi n.a, vi n.b, vi n.c, vw n.val] := b8
              have k38 : Keep w3 w8 No := k5.trans (keepTrans1 (k6.trans k7 (fun _ _ h => h)) k8 k6.size) (fun _ _ h => h)
              (repeat (first|refine ja ?_|refine jb ?_|refine jc ?_|refine jd ?_|refine je ?_|refine jf ?_|refine jg ?_|refine jh ?_|refine ji ?_|refine jj ?_|refine jk ?_|refine jl ?_|refine jm ?_|refine jn ?_|refine jo ?_|refine jp ?_|refine jq ?_|refine jr ?_|refine js ?_|refine jt ?_|refine ju ?_|refine jv ?_|refine jw ?_|refine jx ?_|refine jy ?_|refine jz ?_|refine jA ?_|refine jB ?_|refine jC ?_|refine jD ?_|refine jE ?_|refine jF ?_|refine jG ?_|refine jH ?_|refine jI ?_|refine jJ ?_|refine jK ?_|refine jL ?_|refine jM (by assumption) ?_|refine jN (by assumption) rfl ?_|refine jO (by assumption) ?_|refine jP (by assumption) rfl ?_|refine jQ ?_|refine jR ?_|refine jS ?_|refine jT ?_|refine jU (by assumption) rfl ?_))
              by_cases h21 : n.op = 21
              · by_cases ha : n.a = v
                · (repeat (first|refine ja ?_|refine jb ?_|refine jc ?_|refine jd ?_|refine je ?_|refine jf ?_|refine jg ?_|refine jh ?_|refine ji ?_|refine jj ?_|refine jk ?_|refine jl ?_|refine jm ?_|refine jn ?_|refine jo ?_|refine jp ?_|refine jq ?_|refine jr ?_|refine js ?_|refine jt ?_|refine ju ?_|refine jv ?_|refine jw ?_|refine jx ?_|refine jy ?_|refine jz ?_|refine jA ?_|refine jB ?_|refine jC ?_|refine jD ?_|refine jE ?_|refine jF ?_|refine jG ?_|refine jH ?_|refine jI ?_|refine jJ ?_|refine jK ?_|refine jL ?_|refine jM (by assumption) ?_|refine jN (by assumption) rfl ?_|refine jO (by assumption) ?_|refine jP (by assumption) rfl ?_|refine jQ ?_|refine jR ?_|refine jS ?_|refine jT ?_|refine jU (by assumption) rfl ?_))
                  exact hK5 _ _ ⟨by rw [if_pos ⟨h21, ha⟩], k38⟩
                · (repeat (first|refine ja ?_|refine jb ?_|refine jc ?_|refine jd ?_|refine je ?_|refine jf ?_|refine jg ?_|refine jh ?_|refine ji ?_|refine jj ?_|refine jk ?_|refine jl ?_|refine jm ?_|refine jn ?_|refine jo ?_|refine jp ?_|refine jq ?_|refine jr ?_|refine js ?_|refine jt ?_|refine ju ?_|refine jv ?_|refine jw ?_|refine jx ?_|refine jy ?_|refine jz ?_|refine jA ?_|refine jB ?_|refine jC ?_|refine jD ?_|refine jE ?_|refine jF ?_|refine jG ?_|refine jH ?_|refine jI ?_|refine jJ ?_|refine jK ?_|refine jL ?_|refine jM (by assumption) ?_|refine jN (by assumption) rfl ?_|refine jO (by assumption) ?_|refine jP (by assumption) rfl ?_|refine jQ ?_|refine jR ?_|refine jS ?_|refine jT ?_|refine jU (by assumption) rfl ?_))
                  exact hK5 _ _ ⟨by rw [if_neg (fun h => ha h.2)], k38⟩
              · (repeat (first|refine ja ?_|refine jb ?_|refine jc ?_|refine jd ?_|refine je ?_|refine jf ?_|refine jg ?_|refine jh ?_|refine ji ?_|refine jj ?_|refine jk ?_|refine jl ?_|refine jm ?_|refine jn ?_|refine jo ?_|refine jp ?_|refine jq ?_|refine jr ?_|refine js ?_|refine jt ?_|refine ju ?_|refine jv ?_|refine jw ?_|refine jx ?_|refine jy ?_|refine jz ?_|refine jA ?_|refine jB ?_|refine jC ?_|refine jD ?_|refine jE ?_|refine jF ?_|refine jG ?_|refine jH ?_|refine jI ?_|refine jJ ?_|refine jK ?_|refine jL ?_|refine jM (by assumption) ?_|refine jN (by assumption) rfl ?_|refine jO (by assumption) ?_|refine jP (by assumption) rfl ?_|refine jQ ?_|refine jR ?_|refine jS ?_|refine jT ?_|refine jU (by assumption) rfl ?_))
                exact hK5 _ _ ⟨by rw [if_neg (fun h => h21 h.1)], k38⟩
          · have hn1 := numB_len (v : Int)
            have hn2 := numB_len (wdV N v)
            (repeat (first|refine ja ?_|refine jb ?_|refine jc ?_|refine jd ?_|refine je ?_|refine jf ?_|refine jg ?_|refine jh ?_|refine ji ?_|refine jj ?_|refine jk ?_|refine jl ?_|refine jm ?_|refine jn ?_|refine jo ?_|refine jp ?_|refine jq ?_|refine jr ?_|refine js ?_|refine jt ?_|refine ju ?_|refine jv ?_|refine jw ?_|refine jx ?_|refine jy ?_|refine jz ?_|refine jA ?_|refine jB ?_|refine jC ?_|refine jD ?_|refine jE ?_|refine jF ?_|refine jG ?_|refine jH ?_|refine jI ?_|refine jJ ?_|refine jK ?_|refine jL ?_|refine jM (by assumption) ?_|refine jN (by assumption) rfl ?_|refine jO (by assumption) ?_|refine jP (by assumption) rfl ?_|refine jQ ?_|refine jR ?_|refine jS ?_|refine jT ?_|refine jU (by assumption) rfl ?_))
            refine M.call_i (number_ret (v : Int) w5) ?_; rintro _ w6 ⟨rfl, k6⟩
            refine M.str_i (by simp only [List.length_append, List.length_cons, List.length_nil]; omega) ?_
            refine M.str_i (by simp only [List.length_append, List.length_cons, List.length_nil]; omega) ?_
            refine M.call_i (number_ret (wdV N v) w6) ?_; rintro _ w7 ⟨rfl, k7⟩
            refine M.str_i (by simp only [List.length_append, List.length_cons, List.length_nil]; omega) ?_
            refine M.str_i (by simp only [List.length_append, List.length_cons, List.length_nil]; omega) ?_
            refine M.str_i (by simp only [List.length_append, List.length_cons, List.length_nil]; omega) ?_
            refine hK3 _ _ ⟨?_, (k5.trans k6 (fun _ _ h => h)).trans k7 (fun _ _ h => h)⟩
            rw [upto_snoc, hm, if_pos rfl, List.flatMap_append, List.flatMap_singleton]
            unfold declB
            simp only [List.append_assoc]
    · have e : v = 256 := by omega
      subst e
      (repeat (first|refine ja ?_|refine jb ?_|refine jc ?_|refine jd ?_|refine je ?_|refine jf ?_|refine jg ?_|refine jh ?_|refine ji ?_|refine jj ?_|refine jk ?_|refine jl ?_|refine jm ?_|refine jn ?_|refine jo ?_|refine jp ?_|refine jq ?_|refine jr ?_|refine js ?_|refine jt ?_|refine ju ?_|refine jv ?_|refine jw ?_|refine jx ?_|refine jy ?_|refine jz ?_|refine jA ?_|refine jB ?_|refine jC ?_|refine jD ?_|refine jE ?_|refine jF ?_|refine jG ?_|refine jH ?_|refine jI ?_|refine jJ ?_|refine jK ?_|refine jL ?_|refine jM (by assumption) ?_|refine jN (by assumption) rfl ?_|refine jO (by assumption) ?_|refine jP (by assumption) rfl ?_|refine jQ ?_|refine jR ?_|refine jS ?_|refine jT ?_|refine jU (by assumption) rfl ?_))
      refine M.call_i (bld_string (hb3.keepN k4) (by omega)) ?_; rintro _ w5 ⟨rfl, k5⟩
      refine M.str_i (by simp only [List.length_append, List.length_cons, List.length_nil]; omega) ?_
      refine M.str_i (by simp only [List.length_append, List.length_cons, List.length_nil]; omega) ?_
      refine ⟨?_, (k3.trans k4 (fun _ _ h => h)).trans k5 (fun b hb h => by rcases h with h | ⟨h, _⟩ <;> omega)⟩
      rw [hfin, ← upto_srt hrng]
end Go.Proofs.Ythkkjjbjpbgcpaa
