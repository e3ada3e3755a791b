import Derived.Test.YtnmbgfonlpjicaaAn12c
import Derived.Test.YtnmbgfonlpjicaaMapI
import Derived.Test.YtnmbgfonlpjicaaSort
import Derived.Shelf.SlSortCmp.NoneTotal
import Derived.Shelf.Lay
import Derived.Ground.SlsfProg
namespace Go.Proofs.Ytnmbgfonlpjicaa
open Go.Mw Go.Shelf
set_option linter.unusedVariables false
set_option linter.unusedSimpArgs false
set_option maxRecDepth 100000
attribute [local irreducible] M.val M.unit M.next M.pick M.new M.nilCheck M.load1 M.loadA M.store M.fieldAddr M.indexSl M.indexArr M.slice M.makeSlice M.buildSlice M.len M.lenS M.cap M.append M.extract M.conv M.not M.neg M.bin M.shift M.eqB M.eqNil M.call M.callv M.gd M.share M.cond M.loop M.draw pureW readW Ret
shelf_lay_g SlLaysF.n6 Slsf 6 at Try 23 as Try.sortF
theorem sortF_none (p : Option Addr) (c : Nat) (fv : Value) (w : World) : Ret Try.prog 23 #[.slice p 0 c, fv] w (fun r w' => r = .tuple #[] ∧ w' = w) := by
  have h := AnyF.slices_SortFunc_none (P := Try.prog) (ρ := Try.sortF_ren) { Try.sortF with } p c fv w
  refine ret_mk (h.mono ?_)
  rintro e w' ⟨rfl, rfl⟩
  exact ⟨_, rfl, rfl, rfl⟩
/-! breakwater/analyze.Learn: function 7 -/
def sh7 (x0 x1 x2 : Value) (R : Kt) (w : World) : Prop :=
  M.new 30 (Value.cells x0) (fun t3 w =>
  M.load1 t3 (fun t15 w =>
  M.call Try.prog 14 #[t15] (fun t16 w =>
  M.bin .eql t16 (Value.int IntKind.i64 0) (fun t17 w =>
  M.gd t17 false (fun k w => k x2 w) (fun t19 w =>
  M.gd t17 false (fun k w => M.bin .lss t19 (Value.int IntKind.i64 0) k w) (fun t20 w =>
  M.pick t17 (Value.bool true) t20 (fun t21 w =>
  M.gd t21 false (fun k w => k x2 w) (fun t23 w =>
  M.gd t21 false (fun k w => k x1 w) (fun t24 w =>
  M.gd t21 false (fun k w => M.len t24 k w) (fun t25 w =>
  M.gd t21 false (fun k w => M.bin .geq t23 t25 k w) (fun t26 w =>
  M.pick t21 (Value.bool true) t26 (fun t27 w =>
  M.cond t27
  (R (.tuple #[(Value.slice none 0 0), (Value.int IntKind.i64 0), (Value.slice none 0 0), (Value.bool false)]) w)
  (M.load1 t3 (fun t28 w =>
  M.val Try.prog (Instr.makeMap 46 none) (fun t30 w =>
  pureW Try.prog (Instr.build 49 #[(1, t30)]) (fun t31 w =>
  pureW Try.prog (Instr.build 51 #[(0, t28), (1, x1), (2, t31)]) (fun t32 w =>
  M.new 51 (Value.cells t32) (fun t33 w =>
  M.indexSl 1 x1 x2 (fun t37 w =>
  M.load1 t37 (fun t38 w =>
  M.call Try.prog 18 #[t33, t38, (Value.int IntKind.i64 (-1))] (fun t39 w =>
  M.not t39 (fun t40 w =>
  M.gd t40 false (fun k w => k t33 w) (fun t42 w =>
  M.gd t40 false (fun k w => M.nilCheck t42 k w) (fun t43 w =>
  M.gd t40 false (fun k w => M.fieldAddr 69 t43 k w) (fun t44 w =>
  M.gd t40 false (fun k w => M.load1 t44 k w) (fun t45 w =>
  M.gd t40 false (fun k w => M.bin .eql t45 (Value.int IntKind.i64 0) k w) (fun t46 w =>
  M.pick t40 (Value.bool true) t46 (fun t47 w =>
  M.cond t47
  (R (.tuple #[(Value.slice none 0 0), (Value.int IntKind.i64 0), (Value.slice none 0 0), (Value.bool false)]) w)
  (M.call Try.prog 19 #[t33] (fun t50 w =>
  M.extract 0 t50 (fun t51 w =>
  M.extract 1 t50 (fun t52 w =>
  M.not t52 (fun t54 w =>
  M.cond t54
  (R (.tuple #[(Value.slice none 0 0), (Value.int IntKind.i64 0), (Value.slice none 0 0), (Value.bool false)]) w)
  (M.new 54 #[.nilFunc] (fun t13 w =>
  M.store 1 t13 (.func (Fn.func 20) #[] #[t3]) (fun _ w =>
  M.nilCheck t33 (fun t57 w =>
  M.fieldAddr 68 t57 (fun t58 w =>
  M.load1 t58 (fun t59 w =>
  M.call Try.prog 23 #[t59, (.func (Fn.func 24) #[] #[t13])] (fun t61 w =>
  M.share (fun K1 w =>
  M.nilCheck t33 (fun t63 w =>
  M.fieldAddr 68 t63 (fun t64 w =>
  M.load1 t64 (fun t65 w =>
  M.len t65 (fun t66 w =>
  M.bin .gtr t66 (Value.int IntKind.i64 0) (fun t67 w =>
  M.cond t67
  (M.draw (fun w =>
  M.load1 t13 (fun t68 w =>
  M.nilCheck t33 (fun t70 w =>
  M.fieldAddr 68 t70 (fun t71 w =>
  M.load1 t71 (fun t72 w =>
  M.indexSl 1 t72 (Value.int IntKind.i64 0) (fun t73 w =>
  M.load1 t73 (fun t74 w =>
  M.callv Try.prog t68 #[t74] (fun t75 w =>
  ((M.load1 t71 (fun v' _ => v' = t72) w) ∧ K1 [t75] w)) w) w) w) w) w) w) w) w)
  (K1 [(Value.int IntKind.i64 0)] w)) w) w) w) w) w) (fun s1 w => ∀ _ : List Value,
  M.nilCheck t33 (fun t77 w =>
  M.fieldAddr 67 t77 (fun t78 w =>
  M.load1 t78 (fun t79 w =>
  M.call Try.prog 27 #[t79] (fun t80 w =>
  M.draw (fun w =>
  M.nilCheck t33 (fun t85 w =>
  M.fieldAddr 68 t85 (fun t86 w =>
  M.load1 t86 (fun t87 w =>
  M.nilCheck t33 (fun t91 w =>
  M.fieldAddr 67 t91 (fun t92 w =>
  M.load1 t92 (fun t93 w =>
  M.call Try.prog 28 #[t51] (fun t82 w =>
  ((M.load1 t92 (fun v' _ => v' = t93) w) ∧ ((M.load1 t86 (fun v' _ => v' = t87) w) ∧ M.buildSlice 3 1 #[.int .i64 0] 1 [(0, t82)] (fun t83 w =>
  ((M.load1 t92 (fun v' _ => v' = t93) w) ∧ ((M.load1 t86 (fun v' _ => v' = t87) w) ∧ M.append 3 1 8 #[.int .i64 0] t83 t87 (fun t88 w =>
  ((M.load1 t92 (fun v' _ => v' = t93) w) ∧ R (.tuple #[t88, (s1.getD 0 undef), t93, (Value.bool true)]) w)) w))) w))) w) w) w) w) w) w) w) w) w) w) w) w) w) w) w) w) w) w) w)) w) w) w) w)) w) w) w) w) w) w) w) w) w) w) w) w) w) w) w)) w) w) w) w) w) w) w) w) w) w) w) w
theorem ok7 (x0 x1 x2 : Value) (R : Kt) (w : World) (h : sh7 x0 x1 x2 R w) : Ret Try.prog 7 #[x0, x1, x2] w R :=
  ret_mk <| calls_of_comp mixed (c := Try.f7.body.getD .skip) (args := [x0, x1, x2]) (rs := [(ResultVar.tmp 6), (ResultVar.tmp 7), (ResultVar.tmp 8), (ResultVar.tmp 9)]) (Ann.seq Ann.text (Ann.seq (Ann.seq Ann.text (Ann.cond (Ann.seq Ann.text Ann.leaf) Ann.leaf)) (Ann.seq Ann.text (Ann.seq (Ann.seq Ann.text (Ann.cond (Ann.seq Ann.text Ann.leaf) Ann.leaf)) (Ann.seq Ann.text (Ann.seq (Ann.seq Ann.text (Ann.cond (Ann.seq Ann.text Ann.leaf) Ann.leaf)) (Ann.seq Ann.text (Ann.seq Ann.text (Ann.seq Ann.text (Ann.join [14] [62, 63, 64, 65, 66, 67, 68, 69, 70, 71, 72, 73, 74, 75] (Ann.seq Ann.text (Ann.cond (Ann.draw (Sch.take 0 (Sch.take 1 (Sch.take 2 (Sch.take 3 (Sch.take 4 (Sch.take 5 (Sch.take 6 (Sch.one 7 (Sch.take 8 Sch.done)))))))))) Ann.leaf)) (Ann.seq Ann.text (Ann.seq (Ann.draw (Sch.take 0 (Sch.take 3 (Sch.take 4 (Sch.take 5 (Sch.take 6 (Sch.take 8 (Sch.take 9 (Sch.take 10 (Sch.take 11 (Sch.take 12 (Sch.one 1 (Sch.one 2 (Sch.one 7 (Sch.take 13 (Sch.take 14 (Sch.take 15 (Sch.take 16 Sch.done)))))))))))))))))) Ann.leaf))))))))))))
    Try.func7 (by kernel_rfl) (by kernel_rfl)
    (Eq.mp (by kernel_rfl) h)

theorem get_marks (k : Nat) (hk : k < 64) (a b c d e f : Value) : ([a, b] ++ (List.replicate 64 (Value.bool false) ++ [c, d, e, f]))[2 + k]? = some (Value.bool false) := by
  rw [List.getElem?_append_right (by simp), List.getElem?_append_left (by rw [List.length_replicate]; simp; omega)]
  show (List.replicate 64 _)[2 + k - 2]? = _
  rw [Nat.add_sub_cancel_left, List.getElem?_replicate, if_pos hk]
theorem LLr.mono {w : World} {D D' : Nat → Prop} {A : Option Addr} {vs : List Value} {l : List (List Int)} (h : LLr w D A vs l) (hd : ∀ b, b < w.heap.size → D b → D' b) : LLr w D' A vs l :=
  ⟨h.row.mono hd, h.len, fun i c hc => by obtain ⟨u, g1, g2⟩ := h.all i c hc; exact ⟨u, g1, g2.mono hd⟩⟩
theorem LL.mono {w : World} {D D' : Nat → Prop} {v : Value} {l : List (List Int)} (h : LL w D v l) (hd : ∀ b, b < w.heap.size → D b → D' b) : LL w D' v l := by
  obtain ⟨A, c, vs, h1, h2, h3⟩ := h
  exact ⟨A, c, vs, h1, h2.mono hd, h3⟩
theorem lc_new (p : Nat) (lv mp : Value) : LC ([ptr p, lv] ++ (List.replicate 64 (Value.bool false) ++ [mp, .slice none 0 0, .slice none 0 0, vi 0])) p lv mp (.slice none 0 0) (.slice none 0 0) ⟨[], [], 0⟩ :=
  ⟨rfl, rfl, rfl, rfl, rfl, rfl, rfl, fun v hv => by rw [get_marks v hv]; simp⟩
theorem no_blk {y : Nat} (h : blkOf (.slice none 0 0) y) : False := by
  obtain ⟨_, _, h⟩ := h
  cases h
theorem LSok.lastL {t : Tr} (hf : t.Fine) (hv : t.vars ≤ 64) (l : List (List Int)) : ∀ (es : List Int) (m : LS), LSok m → 1 ≤ m.left → LSok (lastL t l es m).1
  | [], m, h, _ => h
  | x :: es, m, h, h1 => by
    have hs : m.left ≠ 1 → LSok ⟨m.met, m.others, m.left - 1⟩ := fun hn => ⟨h.rng, h.nod, ⟨by show 0 ≤ m.left - 1; omega, by have := h.left; show m.left - 1 ≤ (m.met.length : Int); omega⟩, h.oth⟩
    rw [lastL_cons]
    split
    · exact LSok.lastL hf hv l es m h h1
    · split
      · exact h
      · rename_i hn
        split
        · exact hs hn
        · rename_i c _
          have hm := (hs hn).meetL hf hv (but := x) (c := c)
          have hl := meetL_left t x c ⟨m.met, m.others, m.left - 1⟩
          split
          · exact LSok.lastL hf hv l es _ hm (by have hl : m.left - 1 ≤ _ := hl; omega)
          · exact hm
def LearnR (w : World) (res : Option (List Int × Int × List Int)) (r : Value) (w' : World) : Prop :=
  (match res with
    | none => r = .tuple #[.slice none 0 0, vi 0, .slice none 0 0, .bool false]
    | some (c, n, vs) => ∃ a b, r = .tuple #[a, vi n, b, .bool true] ∧ GI w' (w.heap.size ≤ ·) a c ∧ GI w' (w.heap.size ≤ ·) b vs) ∧ Keep w w' No
section
variable {p : Nat} {w : World} {lv : Value} {t : Tr} {lab : Nat → Nat}
set_option maxHeartbeats 4000000 in
theorem learn12_ret (hT : TRep w p lab t) (hf : t.Fine) (hv : t.vars ≤ 64) {l : List (List Int)} {D : Nat → Prop} (hl : LL w D lv l) (hlc : ∀ c ∈ l, c.length ≤ 1000) (hll : l.length ≤ 1000000) (conflict : Int)
    (hO : ∀ m x, lastL t l (t.L.map (·.lit)).reverse (meetL t (-1) (l.getD conflict.toNat []) ⟨[], [], 0⟩).1 = (m, some x) → m.others = [] ∧ I64 x) :
    Ret Try.prog 7 #[ptr p, lv, vi conflict] w (LearnR w (learnL t l conflict)) := by
  have hl := hl.mono (D' := (· < w.heap.size)) (fun b hb _ => hb)
  have hlab : ∀ x, lab x ≠ 0 → x < w.heap.size := fun x hx => tr_lt hT hx
  obtain ⟨Al, cl, us, rfl, hll0, _⟩ := id hl
  have fl := hf.len
  have hbl : t.begins.length ≤ 65 := by
    obtain ⟨_, _, _, ok⟩ := hf
    have := ok.lbeg
    have := ok.llen
    omega
  refine ok7 _ _ _ _ _ ?_
  unfold sh7
  refine M.new_i (l := [ptr p]) (fun w1 b3 k1 s1 => ?_)
  (repeat (first|refine ja ?_|refine jb ?_|refine jc ?_|refine jd ?_|refine je ?_|refine jf ?_|refine jg ?_|refine jh ?_|refine ji ?_|refine jj ?_|refine jk ?_|refine jl ?_|refine jm ?_|refine jn ?_|refine jo ?_|refine jp ?_|refine jq ?_|refine jr ?_|refine js ?_|refine jt ?_|refine ju ?_|refine jv ?_|refine jw ?_|refine jx ?_|refine jy ?_|refine jz ?_|refine jA ?_|refine jB ?_|refine jC ?_|refine jD ?_|refine jE ?_|refine jF ?_|refine jG ?_|refine jH ?_|refine jI ?_|refine jJ ?_|refine jK ?_|refine jL ?_|refine jM (by assumption) ?_|refine jN (by assumption) rfl ?_|refine jO (by assumption) ?_|refine jP (by assumption) rfl ?_|refine jQ ?_|refine jR ?_|refine jS ?_|refine jT ?_|refine jU (by assumption) rfl ?_))
  refine M.call_i (levels_ret (hT.keep k1 (fun _ _ _ h => h))) ?_; rintro _ w2 ⟨rfl, k2⟩
  have k02 := k1.trans k2 (fun _ _ h => h)
  have b3 := b3.keep k2 (fun h => h)
  have none_of : ∀ w', learnL t l conflict = none → Keep w w' No → LearnR w (learnL t l conflict) (.tuple #[.slice none 0 0, vi 0, .slice none 0 0, .bool false]) w' := fun w' e k => by
    rw [e]; exact ⟨rfl, k⟩
  by_cases h0 : t.begins.length = 0
  · (repeat (first|refine ja ?_|refine jb ?_|refine jc ?_|refine jd ?_|refine je ?_|refine jf ?_|refine jg ?_|refine jh ?_|refine ji ?_|refine jj ?_|refine jk ?_|refine jl ?_|refine jm ?_|refine jn ?_|refine jo ?_|refine jp ?_|refine jq ?_|refine jr ?_|refine js ?_|refine jt ?_|refine ju ?_|refine jv ?_|refine jw ?_|refine jx ?_|refine jy ?_|refine jz ?_|refine jA ?_|refine jB ?_|refine jC ?_|refine jD ?_|refine jE ?_|refine jF ?_|refine jG ?_|refine jH ?_|refine jI ?_|refine jJ ?_|refine jK ?_|refine jL ?_|refine jM (by assumption) ?_|refine jN (by assumption) rfl ?_|refine jO (by assumption) ?_|refine jP (by assumption) rfl ?_|refine jQ ?_|refine jR ?_|refine jS ?_|refine jT ?_|refine jU (by assumption) rfl ?_))
    exact none_of _ (by unfold learnL; rw [if_pos (.inl h0)]) k02
  by_cases h1 : conflict < 0
  · (repeat (first|refine ja ?_|refine jb ?_|refine jc ?_|refine jd ?_|refine je ?_|refine jf ?_|refine jg ?_|refine jh ?_|refine ji ?_|refine jj ?_|refine jk ?_|refine jl ?_|refine jm ?_|refine jn ?_|refine jo ?_|refine jp ?_|refine jq ?_|refine jr ?_|refine js ?_|refine jt ?_|refine ju ?_|refine jv ?_|refine jw ?_|refine jx ?_|refine jy ?_|refine jz ?_|refine jA ?_|refine jB ?_|refine jC ?_|refine jD ?_|refine jE ?_|refine jF ?_|refine jG ?_|refine jH ?_|refine jI ?_|refine jJ ?_|refine jK ?_|refine jL ?_|refine jM (by assumption) ?_|refine jN (by assumption) rfl ?_|refine jO (by assumption) ?_|refine jP (by assumption) rfl ?_|refine jQ ?_|refine jR ?_|refine jS ?_|refine jT ?_|refine jU (by assumption) rfl ?_))
    exact none_of _ (by unfold learnL; rw [if_pos (.inr (.inl h1))]) k02
  by_cases h2 : (l.length : Int) ≤ conflict
  · (repeat (first|refine ja ?_|refine jb ?_|refine jc ?_|refine jd ?_|refine je ?_|refine jf ?_|refine jg ?_|refine jh ?_|refine ji ?_|refine jj ?_|refine jk ?_|refine jl ?_|refine jm ?_|refine jn ?_|refine jo ?_|refine jp ?_|refine jq ?_|refine jr ?_|refine js ?_|refine jt ?_|refine ju ?_|refine jv ?_|refine jw ?_|refine jx ?_|refine jy ?_|refine jz ?_|refine jA ?_|refine jB ?_|refine jC ?_|refine jD ?_|refine jE ?_|refine jF ?_|refine jG ?_|refine jH ?_|refine jI ?_|refine jJ ?_|refine jK ?_|refine jL ?_|refine jM (by assumption) ?_|refine jN (by assumption) rfl ?_|refine jO (by assumption) ?_|refine jP (by assumption) rfl ?_|refine jQ ?_|refine jR ?_|refine jS ?_|refine jT ?_|refine jU (by assumption) rfl ?_))
    exact none_of _ (by unfold learnL; rw [if_pos (.inr (.inr h2))]) k02
  have hcond : ¬ (t.begins.length = 0 ∨ conflict < 0 ∨ (l.length : Int) ≤ conflict) := by omega
  obtain ⟨c, hc⟩ : ∃ c, l[conflict.toNat]? = some c := ⟨_, List.getElem?_eq_getElem (by omega)⟩
  have hgd : l.getD conflict.toNat [] = c := by rw [List.getD_eq_getElem?_getD, hc]; rfl
  rw [hgd] at hO
  have hlearn : learnL t l conflict = if (meetL t (-1) c ⟨[], [], 0⟩).2 = false ∨ (meetL t (-1) c ⟨[], [], 0⟩).1.left = 0 then none else
      match lastL t l (t.L.map (·.lit)).reverse (meetL t (-1) c ⟨[], [], 0⟩).1 with
      | (_, none) => none
      | (m, some x) => some (notOf x :: sortO t m.others, (match sortO t m.others with | [] => 0 | y :: _ => t.lev (varOf y)), m.met.mergeSort (fun a b => decide (a ≤ b))) := by
    unfold learnL
    rw [if_neg hcond, hgd]
    rfl
  (repeat (first|refine ja ?_|refine jb ?_|refine jc ?_|refine jd ?_|refine je ?_|refine jf ?_|refine jg ?_|refine jh ?_|refine ji ?_|refine jj ?_|refine jk ?_|refine jl ?_|refine jm ?_|refine jn ?_|refine jo ?_|refine jp ?_|refine jq ?_|refine jr ?_|refine js ?_|refine jt ?_|refine ju ?_|refine jv ?_|refine jw ?_|refine jx ?_|refine jy ?_|refine jz ?_|refine jA ?_|refine jB ?_|refine jC ?_|refine jD ?_|refine jE ?_|refine jF ?_|refine jG ?_|refine jH ?_|refine jI ?_|refine jJ ?_|refine jK ?_|refine jL ?_|refine jM (by assumption) ?_|refine jN (by assumption) rfl ?_|refine jO (by assumption) ?_|refine jP (by assumption) rfl ?_|refine jQ ?_|refine jR ?_|refine jS ?_|refine jT ?_|refine jU (by assumption) rfl ?_))
  refine M.makeMap_i (fun w3 m3 k3 s3 => ?_)
  have k03 := k02.trans k3 (fun _ _ h => h)
  have b3 := b3.keep k3 (fun h => h)
  refine M.pure_i (.agg ⟨List.replicate 64 (Value.bool false) ++ [.map (some w2.heap.size)]⟩) (fun _ => by kernel_rfl) ?_
  refine M.pure_i (.agg ⟨[ptr p, .slice Al l.length cl] ++ (List.replicate 64 (Value.bool false) ++ [.map (some w2.heap.size), .slice none 0 0, .slice none 0 0, vi 0])⟩) (fun _ => by kernel_rfl) ?_
  refine M.new_i (l := [ptr p, .slice Al l.length cl] ++ (List.replicate 64 (Value.bool false) ++ [.map (some w2.heap.size), .slice none 0 0, .slice none 0 0, vi 0])) (fun w4 b4 k4 s4 => ?_)
  have k04 := k03.trans k4 (fun _ _ h => h)
  have b3 := b3.keep k4 (fun h => h)
  have q3 := k03.size
  have R4 : LRn w.heap.size w4 w3.heap.size _ p (.slice Al l.length cl) (.map (some w2.heap.size)) (.slice none 0 0) (.slice none 0 0) ⟨[], [], 0⟩ :=
    ⟨b4, lc_new _ _ _, GC.nil _ _ _, GC.nil _ _ _, fun y h => (no_blk h).elim, fun y h => (no_blk h).elim, q3⟩
  clear b4
  refine M.idxLL_i (hll0.keep k04 (fun _ _ _ h => h)) rfl (by omega) hc (fun bb oo u hcc g => ?_)
  (repeat (first|refine ja ?_|refine jb ?_|refine jc ?_|refine jd ?_|refine je ?_|refine jf ?_|refine jg ?_|refine jh ?_|refine ji ?_|refine jj ?_|refine jk ?_|refine jl ?_|refine jm ?_|refine jn ?_|refine jo ?_|refine jp ?_|refine jq ?_|refine jr ?_|refine js ?_|refine jt ?_|refine ju ?_|refine jv ?_|refine jw ?_|refine jx ?_|refine jy ?_|refine jz ?_|refine jA ?_|refine jB ?_|refine jC ?_|refine jD ?_|refine jE ?_|refine jF ?_|refine jG ?_|refine jH ?_|refine jI ?_|refine jJ ?_|refine jK ?_|refine jL ?_|refine jM (by assumption) ?_|refine jN (by assumption) rfl ?_|refine jO (by assumption) ?_|refine jP (by assumption) rfl ?_|refine jQ ?_|refine jR ?_|refine jS ?_|refine jT ?_|refine jU (by assumption) rfl ?_))
  refine M.call_i (meet12_ret (hT.keep k04 (fun _ _ _ h => h)) hlab hf hv R4 (LSok.ne (m := ⟨[], [], 0⟩)) g (hlc c (List.mem_of_getElem? hc)) (-1)) ?_; rintro _ w5 ⟨rfl, cs5, vs5, os5, R5, M5⟩
  have hm5 := (LSok.ne (m := ⟨[], [], 0⟩)).meetL hf hv (but := -1) (c := c)
  generalize hmm : meetL t (-1) c ⟨[], [], 0⟩ = mm at *
  obtain ⟨m5, ok5⟩ := mm
  simp only at R5 hm5 hO hlearn
  have k45 : Keep w4 w5 (w.heap.size ≤ ·) := M5.keep R4
  have k05 : Keep w w5 No := k04.trans k45 (fun y hy e => by have e : w.heap.size ≤ y := e; omega)
  have hT5 := hT.keep k05 (fun _ _ _ h => h)
  refine M.not_i ?_
  cases ok5 with
  | false =>
    (repeat (first|refine ja ?_|refine jb ?_|refine jc ?_|refine jd ?_|refine je ?_|refine jf ?_|refine jg ?_|refine jh ?_|refine ji ?_|refine jj ?_|refine jk ?_|refine jl ?_|refine jm ?_|refine jn ?_|refine jo ?_|refine jp ?_|refine jq ?_|refine jr ?_|refine js ?_|refine jt ?_|refine ju ?_|refine jv ?_|refine jw ?_|refine jx ?_|refine jy ?_|refine jz ?_|refine jA ?_|refine jB ?_|refine jC ?_|refine jD ?_|refine jE ?_|refine jF ?_|refine jG ?_|refine jH ?_|refine jI ?_|refine jJ ?_|refine jK ?_|refine jL ?_|refine jM (by assumption) ?_|refine jN (by assumption) rfl ?_|refine jO (by assumption) ?_|refine jP (by assumption) rfl ?_|refine jQ ?_|refine jR ?_|refine jS ?_|refine jT ?_|refine jU (by assumption) rfl ?_))
    exact none_of _ (by rw [hlearn, if_pos (.inl rfl)]) k05
  | true =>
    have c69 : w5.cell? ⟨w3.heap.size, 69, none⟩ = some (vi m5.left) := R5.blk.cell R5.lc.c69
    (repeat (first|refine ja ?_|refine jb ?_|refine jc ?_|refine jd ?_|refine je ?_|refine jf ?_|refine jg ?_|refine jh ?_|refine ji ?_|refine jj ?_|refine jk ?_|refine jl ?_|refine jm ?_|refine jn ?_|refine jo ?_|refine jp ?_|refine jq ?_|refine jr ?_|refine js ?_|refine jt ?_|refine ju ?_|refine jv ?_|refine jw ?_|refine jx ?_|refine jy ?_|refine jz ?_|refine jA ?_|refine jB ?_|refine jC ?_|refine jD ?_|refine jE ?_|refine jF ?_|refine jG ?_|refine jH ?_|refine jI ?_|refine jJ ?_|refine jK ?_|refine jL ?_|refine jM (by assumption) ?_|refine jN (by assumption) rfl ?_|refine jO (by assumption) ?_|refine jP (by assumption) rfl ?_|refine jQ ?_|refine jR ?_|refine jS ?_|refine jT ?_|refine jU (by assumption) rfl ?_))
    by_cases hz : m5.left = 0
    · (repeat (first|refine ja ?_|refine jb ?_|refine jc ?_|refine jd ?_|refine je ?_|refine jf ?_|refine jg ?_|refine jh ?_|refine ji ?_|refine jj ?_|refine jk ?_|refine jl ?_|refine jm ?_|refine jn ?_|refine jo ?_|refine jp ?_|refine jq ?_|refine jr ?_|refine js ?_|refine jt ?_|refine ju ?_|refine jv ?_|refine jw ?_|refine jx ?_|refine jy ?_|refine jz ?_|refine jA ?_|refine jB ?_|refine jC ?_|refine jD ?_|refine jE ?_|refine jF ?_|refine jG ?_|refine jH ?_|refine jI ?_|refine jJ ?_|refine jK ?_|refine jL ?_|refine jM (by assumption) ?_|refine jN (by assumption) rfl ?_|refine jO (by assumption) ?_|refine jP (by assumption) rfl ?_|refine jQ ?_|refine jR ?_|refine jS ?_|refine jT ?_|refine jU (by assumption) rfl ?_))
      exact none_of _ (by rw [hlearn, if_pos (.inr hz)]) k05
    have hml := hm5.left
    (repeat (first|refine ja ?_|refine jb ?_|refine jc ?_|refine jd ?_|refine je ?_|refine jf ?_|refine jg ?_|refine jh ?_|refine ji ?_|refine jj ?_|refine jk ?_|refine jl ?_|refine jm ?_|refine jn ?_|refine jo ?_|refine jp ?_|refine jq ?_|refine jr ?_|refine js ?_|refine jt ?_|refine ju ?_|refine jv ?_|refine jw ?_|refine jx ?_|refine jy ?_|refine jz ?_|refine jA ?_|refine jB ?_|refine jC ?_|refine jD ?_|refine jE ?_|refine jF ?_|refine jG ?_|refine jH ?_|refine jI ?_|refine jJ ?_|refine jK ?_|refine jL ?_|refine jM (by assumption) ?_|refine jN (by assumption) rfl ?_|refine jO (by assumption) ?_|refine jP (by assumption) rfl ?_|refine jQ ?_|refine jR ?_|refine jS ?_|refine jT ?_|refine jU (by assumption) rfl ?_))
    refine M.call_i (last12_ret hT5 hlab hf hv R5 hm5 (by omega) (hl.keep k05 (fun _ _ _ h => h)) hlc) ?_; rintro _ w6 ⟨cs6, vs6, os6, R6, M6, rfl⟩
    have k56 : Keep w5 w6 (w.heap.size ≤ ·) := M6.keep R5
    have k06 : Keep w w6 No := k05.trans k56 (fun y hy e => by have e : w.heap.size ≤ y := e; omega)
    rw [if_neg (by simp [hz])] at hlearn
    generalize hLL : lastL t l (t.L.map (·.lit)).reverse m5 = LR at *
    obtain ⟨m6, res⟩ := LR
    simp only at R6
    have hm6 := LSok.lastL hf hv l (t.L.map (·.lit)).reverse m5 hm5 (by omega)
    rw [hLL] at hm6
    have hm6 : LSok m6 := hm6
    refine M.extract_i rfl ?_
    refine M.extract_i rfl ?_
    cases res with
    | none =>
      refine M.not_i ?_
      simp only [Option.isSome_none, Bool.not_false]
      (repeat (first|refine ja ?_|refine jb ?_|refine jc ?_|refine jd ?_|refine je ?_|refine jf ?_|refine jg ?_|refine jh ?_|refine ji ?_|refine jj ?_|refine jk ?_|refine jl ?_|refine jm ?_|refine jn ?_|refine jo ?_|refine jp ?_|refine jq ?_|refine jr ?_|refine js ?_|refine jt ?_|refine ju ?_|refine jv ?_|refine jw ?_|refine jx ?_|refine jy ?_|refine jz ?_|refine jA ?_|refine jB ?_|refine jC ?_|refine jD ?_|refine jE ?_|refine jF ?_|refine jG ?_|refine jH ?_|refine jI ?_|refine jJ ?_|refine jK ?_|refine jL ?_|refine jM (by assumption) ?_|refine jN (by assumption) rfl ?_|refine jO (by assumption) ?_|refine jP (by assumption) rfl ?_|refine jQ ?_|refine jR ?_|refine jS ?_|refine jT ?_|refine jU (by assumption) rfl ?_))
      exact none_of _ hlearn k06
    | some x =>
      obtain ⟨ho, hx64⟩ := hO m6 x rfl
      refine M.not_i ?_
      simp only [Option.isSome_some, Bool.not_true]
      have hlearn : learnL t l conflict = some ([notOf x], 0, m6.met.mergeSort (fun a b => decide (a ≤ b))) := by
        rw [hlearn]
        show some (notOf x :: sortO t m6.others, (match sortO t m6.others with | [] => 0 | y :: _ => t.lev (varOf y)), _) = _
        rw [ho]
        simp [sortO]
      (repeat (first|refine ja ?_|refine jb ?_|refine jc ?_|refine jd ?_|refine je ?_|refine jf ?_|refine jg ?_|refine jh ?_|refine ji ?_|refine jj ?_|refine jk ?_|refine jl ?_|refine jm ?_|refine jn ?_|refine jo ?_|refine jp ?_|refine jq ?_|refine jr ?_|refine js ?_|refine jt ?_|refine ju ?_|refine jv ?_|refine jw ?_|refine jx ?_|refine jy ?_|refine jz ?_|refine jA ?_|refine jB ?_|refine jC ?_|refine jD ?_|refine jE ?_|refine jF ?_|refine jG ?_|refine jH ?_|refine jI ?_|refine jJ ?_|refine jK ?_|refine jL ?_|refine jM (by assumption) ?_|refine jN (by assumption) rfl ?_|refine jO (by assumption) ?_|refine jP (by assumption) rfl ?_|refine jQ ?_|refine jR ?_|refine jS ?_|refine jT ?_|refine jU (by assumption) rfl ?_))
      refine M.new_i (l := [.nilFunc]) (fun w7 b7 k7 s7 => ?_)
      refine M.store_i b7 (by simp) rfl (fun w8 b8 k8 s8 => ?_)
      have R7 := R6.keep k7
      have q6 := R6.blk.lt
      have R8 := R7.keepS k8 (fun y e e2 => by
        have e2 : y = w6.heap.size := e2
        rcases e with e | e | e
        · omega
        · have := (GC.blkOf R6.gv e).2; omega
        · have := (GC.blkOf R6.go e).2; omega)
      have c68 : w8.cell? ⟨w3.heap.size, 68, none⟩ = some os6 := R8.blk.cell R8.lc.c68
      have hos : ∃ pa cap, os6 = .slice pa 0 cap := by
        obtain ⟨A, c, e, _, _⟩ := GC.row2 R8.go (by omega)
        rw [ho] at e
        exact ⟨A, c, e⟩
      obtain ⟨pa, cap, rfl⟩ := hos
      have k08 : Keep w w8 No := (k06.trans k7 (fun _ _ h => h)).trans k8 (fun y hy e => by have e : y = w6.heap.size := e; have := k06.size; omega)
      (repeat (first|refine ja ?_|refine jb ?_|refine jc ?_|refine jd ?_|refine je ?_|refine jf ?_|refine jg ?_|refine jh ?_|refine ji ?_|refine jj ?_|refine jk ?_|refine jl ?_|refine jm ?_|refine jn ?_|refine jo ?_|refine jp ?_|refine jq ?_|refine jr ?_|refine js ?_|refine jt ?_|refine ju ?_|refine jv ?_|refine jw ?_|refine jx ?_|refine jy ?_|refine jz ?_|refine jA ?_|refine jB ?_|refine jC ?_|refine jD ?_|refine jE ?_|refine jF ?_|refine jG ?_|refine jH ?_|refine jI ?_|refine jJ ?_|refine jK ?_|refine jL ?_|refine jM (by assumption) ?_|refine jN (by assumption) rfl ?_|refine jO (by assumption) ?_|refine jP (by assumption) rfl ?_|refine jQ ?_|refine jR ?_|refine jS ?_|refine jT ?_|refine jU (by assumption) rfl ?_))
      refine M.call_i (sortF_none pa cap _ w8) ?_; rintro _ w9 ⟨rfl, rfl⟩
      refine M.share_j (fun vals w' => vals = [vi 0] ∧ w' = w9) ?_ ?_
      · rintro vals w' ⟨rfl, rfl⟩ _
        simp only [List.getD_cons_zero, List.getD_cons_succ]
        have c67 : w'.cell? ⟨w3.heap.size, 67, none⟩ = some vs6 := R8.blk.cell R8.lc.c67
        (repeat (first|refine ja ?_|refine jb ?_|refine jc ?_|refine jd ?_|refine je ?_|refine jf ?_|refine jg ?_|refine jh ?_|refine ji ?_|refine jj ?_|refine jk ?_|refine jl ?_|refine jm ?_|refine jn ?_|refine jo ?_|refine jp ?_|refine jq ?_|refine jr ?_|refine js ?_|refine jt ?_|refine ju ?_|refine jv ?_|refine jw ?_|refine jx ?_|refine jy ?_|refine jz ?_|refine jA ?_|refine jB ?_|refine jC ?_|refine jD ?_|refine jE ?_|refine jF ?_|refine jG ?_|refine jH ?_|refine jI ?_|refine jJ ?_|refine jK ?_|refine jL ?_|refine jM (by assumption) ?_|refine jN (by assumption) rfl ?_|refine jO (by assumption) ?_|refine jP (by assumption) rfl ?_|refine jQ ?_|refine jR ?_|refine jS ?_|refine jT ?_|refine jU (by assumption) rfl ?_))
        have hml6 : m6.met.length ≤ 64 := hm6.len
        refine M.call_i (sort_ret R8.gv (by omega)) ?_; rintro _ w10 ⟨rfl, g10, k10⟩
        have k10' := k10.to_drew
        have b10 := R8.blk.keep k10' (fun e => (R8.dv _ e).2.1 rfl)
        have c67 : w10.drew.cell? ⟨w3.heap.size, 67, none⟩ = some vs6 := b10.cell R8.lc.c67
        have c68 : w10.drew.cell? ⟨w3.heap.size, 68, none⟩ = some (.slice pa 0 cap) := b10.cell R8.lc.c68
        have k0d : Keep w w10.drew No := k08.trans k10' (fun y hy e => by have := (R8.dv y e).1; omega)
        have gd : GI w10.drew (blkOf vs6) vs6 (m6.met.mergeSort leI) := g10
        (repeat (first|refine ja ?_|refine jb ?_|refine jc ?_|refine jd ?_|refine je ?_|refine jf ?_|refine jg ?_|refine jh ?_|refine ji ?_|refine jj ?_|refine jk ?_|refine jl ?_|refine jm ?_|refine jn ?_|refine jo ?_|refine jp ?_|refine jq ?_|refine jr ?_|refine js ?_|refine jt ?_|refine ju ?_|refine jv ?_|refine jw ?_|refine jx ?_|refine jy ?_|refine jz ?_|refine jA ?_|refine jB ?_|refine jC ?_|refine jD ?_|refine jE ?_|refine jF ?_|refine jG ?_|refine jH ?_|refine jI ?_|refine jJ ?_|refine jK ?_|refine jL ?_|refine jM (by assumption) ?_|refine jN (by assumption) rfl ?_|refine jO (by assumption) ?_|refine jP (by assumption) rfl ?_|refine jQ ?_|refine jR ?_|refine jS ?_|refine jT ?_|refine jU (by assumption) rfl ?_))
        refine M.call_i (not_ret hx64 w10.drew) ?_; rintro _ w11 ⟨rfl, k11⟩
        have b11 := b10.keep k11 (fun h => h)
        have g11 := gd.keep k11 (fun _ _ _ h => h)
        have c67 : w11.cell? ⟨w3.heap.size, 67, none⟩ = some vs6 := b11.cell R8.lc.c67
        have c68 : w11.cell? ⟨w3.heap.size, 68, none⟩ = some (.slice pa 0 cap) := b11.cell R8.lc.c68
        (repeat (first|refine ja ?_|refine jb ?_|refine jc ?_|refine jd ?_|refine je ?_|refine jf ?_|refine jg ?_|refine jh ?_|refine ji ?_|refine jj ?_|refine jk ?_|refine jl ?_|refine jm ?_|refine jn ?_|refine jo ?_|refine jp ?_|refine jq ?_|refine jr ?_|refine js ?_|refine jt ?_|refine ju ?_|refine jv ?_|refine jw ?_|refine jx ?_|refine jy ?_|refine jz ?_|refine jA ?_|refine jB ?_|refine jC ?_|refine jD ?_|refine jE ?_|refine jF ?_|refine jG ?_|refine jH ?_|refine jI ?_|refine jJ ?_|refine jK ?_|refine jL ?_|refine jM (by assumption) ?_|refine jN (by assumption) rfl ?_|refine jO (by assumption) ?_|refine jP (by assumption) rfl ?_|refine jQ ?_|refine jR ?_|refine jS ?_|refine jT ?_|refine jU (by assumption) rfl ?_))
        refine M.buildSlice_i [vi (notOf x)] (by kernel_rfl) (fun w12 b12 k12 s12 => ?_)
        have b13 := b11.keep k12 (fun h => h)
        have g12 := g11.keep k12 (fun _ _ _ h => h)
        have c67 : w12.cell? ⟨w3.heap.size, 67, none⟩ = some vs6 := b13.cell R8.lc.c67
        have c68 : w12.cell? ⟨w3.heap.size, 68, none⟩ = some (.slice pa 0 cap) := b13.cell R8.lc.c68
        (repeat (first|refine ja ?_|refine jb ?_|refine jc ?_|refine jd ?_|refine je ?_|refine jf ?_|refine jg ?_|refine jh ?_|refine ji ?_|refine jj ?_|refine jk ?_|refine jl ?_|refine jm ?_|refine jn ?_|refine jo ?_|refine jp ?_|refine jq ?_|refine jr ?_|refine js ?_|refine jt ?_|refine ju ?_|refine jv ?_|refine jw ?_|refine jx ?_|refine jy ?_|refine jz ?_|refine jA ?_|refine jB ?_|refine jC ?_|refine jD ?_|refine jE ?_|refine jF ?_|refine jG ?_|refine jH ?_|refine jI ?_|refine jJ ?_|refine jK ?_|refine jL ?_|refine jM (by assumption) ?_|refine jN (by assumption) rfl ?_|refine jO (by assumption) ?_|refine jP (by assumption) rfl ?_|refine jQ ?_|refine jR ?_|refine jS ?_|refine jT ?_|refine jU (by assumption) rfl ?_))
        have gb : GC w12 (· = w11.heap.size) 1 (.slice (some ⟨w11.heap.size, 0, none⟩) 1 1) 1 [vi (notOf x)] := GC.of_blk b12 rfl rfl
        refine M.append_i gb (Row.nil _ (fun _ => True) _) rfl (by simp) rfl (by omega) (by omega) (fun v13 w13 g13 k13 => ?_)
        have q11 := k11.size
        have q08 := k0d.size
        have b14 := b13.keep k13 (fun e => by have := b11.lt; omega)
        have g14 := g12.keep k13 (fun y hy e e2 => by
          have e2 : y = w11.heap.size := e2
          have := (GC.blkOf g11 e).2
          omega)
        have c67 : w13.cell? ⟨w3.heap.size, 67, none⟩ = some vs6 := b14.cell R8.lc.c67
        (repeat (first|refine ja ?_|refine jb ?_|refine jc ?_|refine jd ?_|refine je ?_|refine jf ?_|refine jg ?_|refine jh ?_|refine ji ?_|refine jj ?_|refine jk ?_|refine jl ?_|refine jm ?_|refine jn ?_|refine jo ?_|refine jp ?_|refine jq ?_|refine jr ?_|refine js ?_|refine jt ?_|refine ju ?_|refine jv ?_|refine jw ?_|refine jx ?_|refine jy ?_|refine jz ?_|refine jA ?_|refine jB ?_|refine jC ?_|refine jD ?_|refine jE ?_|refine jF ?_|refine jG ?_|refine jH ?_|refine jI ?_|refine jJ ?_|refine jK ?_|refine jL ?_|refine jM (by assumption) ?_|refine jN (by assumption) rfl ?_|refine jO (by assumption) ?_|refine jP (by assumption) rfl ?_|refine jQ ?_|refine jR ?_|refine jS ?_|refine jT ?_|refine jU (by assumption) rfl ?_))
        refine ⟨?_, ((k0d.trans k11 (fun _ _ h => h)).trans k12 (fun _ _ h => h)).trans k13 (fun y hy e => by have e : y = w11.heap.size := e; omega)⟩
        rw [hlearn]
        refine ⟨v13, vs6, rfl, ?_, ?_⟩
        · have g13' : GC w13 (w.heap.size ≤ ·) 1 v13 [notOf x].length ([notOf x].map vi) := by
            have := g13.mono (L' := (w.heap.size ≤ ·)) (fun y hy e => by
              rcases e with e | e
              · have e : y = w11.heap.size := e; omega
              · omega)
            simpa using this
          exact g13'
        · exact g14.mono (fun y hy e => (R8.dv y e).1)
      · intro K hK
        (repeat (first|refine ja ?_|refine jb ?_|refine jc ?_|refine jd ?_|refine je ?_|refine jf ?_|refine jg ?_|refine jh ?_|refine ji ?_|refine jj ?_|refine jk ?_|refine jl ?_|refine jm ?_|refine jn ?_|refine jo ?_|refine jp ?_|refine jq ?_|refine jr ?_|refine js ?_|refine jt ?_|refine ju ?_|refine jv ?_|refine jw ?_|refine jx ?_|refine jy ?_|refine jz ?_|refine jA ?_|refine jB ?_|refine jC ?_|refine jD ?_|refine jE ?_|refine jF ?_|refine jG ?_|refine jH ?_|refine jI ?_|refine jJ ?_|refine jK ?_|refine jL ?_|refine jM (by assumption) ?_|refine jN (by assumption) rfl ?_|refine jO (by assumption) ?_|refine jP (by assumption) rfl ?_|refine jQ ?_|refine jR ?_|refine jS ?_|refine jT ?_|refine jU (by assumption) rfl ?_))
        exact hK _ _ ⟨rfl, rfl⟩
end
end Go.Proofs.Ytnmbgfonlpjicaa
