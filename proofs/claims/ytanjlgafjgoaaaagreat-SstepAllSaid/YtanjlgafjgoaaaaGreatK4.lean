import Derived.Test.YtanjlgafjgoaaaaGreatK3
import Derived.ChangeKeysEq
import Derived.Laws.StructEq
import Derived.Tactics
namespace Go.Proofs.YtanjlgafjgoaaaaGreat
open Go.Mw Go.Maps Go.MapKept
set_option linter.unusedVariables false
set_option linter.unusedSimpArgs false
set_option maxRecDepth 100000
attribute [local irreducible] M.val M.unit M.next M.pick M.new M.nilCheck M.load1 M.loadA M.store M.fieldAddr M.indexSl M.indexArr M.slice M.makeSlice M.buildSlice M.len M.lenS M.cap M.append M.extract M.conv M.not M.neg M.bin M.shift M.eqB M.eqNil M.scat M.call M.callv M.gd M.share M.cond M.loop M.draw pureW readW Ret
def valW (N : List Nd) (env : List W64) (id : Int) : W64 := if isN N id then wordAt N env id else 0
theorem of_F {F De : Nat → Prop} {p pe pd : Nat} {N : List Nd} {most : Int} {ev : Value} {env : List W64} (hG : GoodN N) (hel : env.length ≤ 1000000) :
    OfF (.func (.func 73) #[] #[ptr pe, ptr pd]) N (fun w => DagO w F p N most ∧ Blk w pe [ev] ∧ Blk w pd [ptr p] ∧ LV vw w De ev env) (wordAt N env) := by
  rintro i n w I kt gv hn ⟨hd, be, bd, he⟩ hI hIk hg hkt
  refine M.callv_i (fun a w => rfl) (Q := fun x w' => x = vw (wordAt N env i) ∧ Keep w w' No) ?_ ?_
  · show Ret Tryz.prog 73 #[encN n, gv, ptr pe, ptr pd] w _
    refine (val1_ret (hG i n hn) hg hI hIk hd (fun k hk => ?_) be bd he hel).mono ?_
    · have := kids_lt hG hn hk
      have hl := (List.getElem?_eq_some_iff.1 hn).1
      exact hG.wd (isN_iff.2 ⟨by omega, by omega⟩)
    · rintro x w' ⟨rfl, k⟩
      exact ⟨by rw [wordAt_one hG hn], k⟩
  · rintro x w1 ⟨rfl, k1⟩
    exact hkt w1 (hIk _ _ hI k1) k1
theorem value_ret {w : World} {F De : Nat → Prop} {p : Nat} {N : List Nd} {most : Int} {ev : Value} {env : List W64} (hd : DagO w F p N most) (he : LV vw w De ev env) (hel : env.length ≤ 1000000) (it : Int) :
    Ret Tryz.prog 35 #[ptr p, vi it, ev] w (fun r w' => r = .tuple #[vw (valW N env it), vi (if isN N it then 0 else 11)] ∧ Keep w w' No) := by
  obtain ⟨E, ce, rfl, _, _⟩ := id he
  refine ok35 _ _ _ _ _ ?_
  unfold sh35
  refine M.new_i (l := [ptr p]) (fun w1 b1 k1 s1 => ?_)
  refine M.new_i (l := [.slice E env.length ce]) (fun w2 b2 k2 s2 => ?_)
  have b1 := b1.keep k2 (fun h => h)
  have k12 := k1.trans k2 (fun _ _ h => h)
  (repeat (refine jN (by assumption) rfl ?_))
  refine M.call_i ((hd.keepN k12).node it) ?_; rintro _ w3 ⟨rfl, k3⟩
  refine M.extract_i rfl ?_
  refine M.extract_i rfl ?_
  refine M.new_i (l := zeroNd.cells) (fun w4 b4 k4 s4 => ?_)
  refine M.storeAll_i b4 rfl rfl (cells_one _) (fun w5 b5 k5 s5 => ?_)
  have q12 := k12.size; have q3 := k3.size
  have k35 : Keep w2 w5 No := (k3.trans k4 (fun _ _ h => h)).trans k5 (fun b hb h => by omega)
  have b1 := b1.keep k35 (fun h => h)
  have b2 := b2.keep k35 (fun h => h)
  have k05 := k12.trans k35 (fun _ _ h => h)
  refine M.not_i ?_
  unfold valW
  cases hi : isN N it with
  | false =>
    (repeat (refine jo ?_))
    exact ⟨rfl, k05⟩
  | true =>
    (repeat (refine jp ?_))
    refine M.makeMap_i (fun w6 m6 k6 s6 => ?_)
    have b1 := b1.keep k6 (fun h => h)
    have b2 := b2.keep k6 (fun h => h)
    have k06 := k05.trans k6 (fun _ _ h => h)
    (repeat (refine jN (by assumption) rfl ?_))
    have hd6 := hd.keepN k06
    have he6 := (he.mono (D' := fun b => De b ∧ b < w.heap.size) (fun b hb h => ⟨h, hb⟩)).keep k06 (fun _ _ _ h => h)
    have q5 := k05.size
    have hF : ¬ F w5.heap.size := fun h => by have := hd.lt h; omega
    refine M.call_i (once_ret (r := w5.heap.size) (f := wordAt N env) (J := fun w' => DagO w' F p N most ∧ Blk w' w1.heap.size [.slice E env.length ce] ∧ Blk w' w.heap.size [ptr p] ∧ LV vw w' (fun b => De b ∧ b < w.heap.size) (.slice E env.length ce) env) hd6 hi m6 hF ⟨hd6, b2, b1, he6⟩ (fun w' k => ⟨hd6.keep k (fun b hb h => hF (h ▸ hb)), b2.keep k (fun h => by omega), b1.keep k (fun h => by omega), he6.keep k (fun b _ h1 h2 => by omega)⟩) (of_F hd.good hel)) ?_
    rintro _ w7 ⟨rfl, k7⟩
    exact ⟨rfl, k06.trans k7 (fun b hb h => by omega)⟩
end Go.Proofs.YtanjlgafjgoaaaaGreat
namespace Go.Proofs.YtanjlgafjgoaaaaGreat
open Go.Mw Go.Maps Go.MapKept
set_option linter.unusedVariables false
set_option linter.unusedSimpArgs false
set_option maxRecDepth 100000
attribute [local irreducible] M.val M.unit M.next M.pick M.new M.nilCheck M.load1 M.loadA M.store M.fieldAddr M.indexSl M.indexArr M.slice M.makeSlice M.buildSlice M.len M.lenS M.cap M.append M.extract M.conv M.not M.neg M.bin M.shift M.eqB M.eqNil M.scat M.call M.callv M.gd M.share M.cond M.loop M.draw pureW readW Ret
def sh18 (x0 x1 : Value) (R : Kt) (w : World) : Prop :=
  M.draw (fun w =>
  M.nilCheck x0 (fun t9 w =>
  M.fieldAddr 0 t9 (fun t10 w =>
  M.load1 t10 (fun t11 w =>
  M.nilCheck x0 (fun t14 w =>
  M.fieldAddr 1 t14 (fun t15 w =>
  M.load1 t15 (fun t16 w =>
  M.call Tryz.prog 35 #[t11, x1, t16] (fun t17 w =>
  M.extract 0 t17 (fun t18 w =>
  M.extract 1 t17 (fun t19 w =>
  M.nilCheck x0 (fun t22 w =>
  M.fieldAddr 2 t22 (fun t23 w =>
  M.load1 t23 (fun t24 w =>
  M.gd t24 false (fun k w => k t19 w) (fun t26 w =>
  M.gd t24 false (fun k w => M.bin .neq t26 (Value.int IntKind.i64 0) k w) (fun t27 w =>
  M.pick t24 (Value.bool true) t27 (fun t28 w =>
  M.nilCheck x0 (fun t29 w =>
  M.fieldAddr 2 t29 (fun t30 w =>
  M.store 1 t30 t28 (fun _ w =>
  R t18 w) w) w) w) w) w) w) w) w) w) w) w) w) w) w) w) w) w) w) w
theorem ok18 (x0 x1 : Value) (R : Kt) (w : World) (h : sh18 x0 x1 R w) : Ret Tryz.prog 18 #[x0, x1] w R :=
  ret_mk <| calls_of_comp mixed (c := Tryz.f18.body.getD .skip) (args := [x0, x1]) (rs := [(ResultVar.tmp 4)]) (Ann.seq Ann.text (Ann.seq (Ann.draw (Sch.take 0 (Sch.take 1 (Sch.take 2 (Sch.take 3 (Sch.take 4 (Sch.take 5 (Sch.take 6 (Sch.take 7 (Sch.take 8 (Sch.one 9 (Sch.take 10 (Sch.take 11 (Sch.take 12 (Sch.take 13 (Sch.take 14 Sch.done)))))))))))))))) (Ann.seq Ann.text (Ann.seq Ann.text Ann.leaf))))
    Tryz.func18 (by kernel_rfl) (by kernel_rfl)
    (Eq.mp (by kernel_rfl) h)
def sh17 (x0 x1 : Value) (R : Kt) (w : World) : Prop :=
  M.len x0 (fun t9 w =>
  M.loop [(Value.slice none 0 0), (Value.int IntKind.i64 0)] (fun s1 K1 w => ∀ _ : List Value,
  M.bin .lss (s1.getD 1 undef) t9 (fun t11 w =>
  M.cond t11
  (M.indexSl 1 x0 (s1.getD 1 undef) (fun t12 w =>
  M.load1 t12 (fun t13 w =>
  M.callv Tryz.prog x1 #[t13] (fun t17 w =>
  M.buildSlice 42 1 #[.int .u64 0] 1 [(0, t17)] (fun t18 w =>
  M.append 42 1 8 #[.int .u64 0] (s1.getD 0 undef) t18 (fun t19 w =>
  M.bin .add (s1.getD 1 undef) (Value.int IntKind.i64 1) (fun t20 w =>
  K1 [t19, t20] w) w) w) w) w) w) w)
  (R (s1.getD 0 undef) w)) w) w) w
theorem ok17 (x0 x1 : Value) (R : Kt) (w : World) (h : sh17 x0 x1 R w) : Ret Tryz.prog 17 #[x0, x1] w R :=
  ret_mk <| calls_of_comp mixed (c := Tryz.f17.body.getD .skip) (args := [x0, x1]) (rs := [(ResultVar.tmp 4)]) (Ann.seq Ann.text (Ann.seq Ann.text (Ann.seq (Ann.seq Ann.text (Ann.block (Ann.loop [5, 10] [7, 11, 12, 13, 14, 15, 16, 17, 18, 19, 20] (Ann.seq Ann.text (Ann.seq (Ann.cond Ann.leaf Ann.leaf) (Ann.seq (Ann.block (Ann.seq Ann.text Ann.text)) Ann.text)))))) (Ann.seq Ann.text Ann.leaf))))
    Tryz.func17 (by kernel_rfl) (by kernel_rfl)
    (Eq.mp (by kernel_rfl) h)
def sh37 (x0 x1 : Value) (R : Kt) (w : World) : Prop :=
  M.len x0 (fun t9 w =>
  M.loop [(Value.slice none 0 0), (Value.int IntKind.i64 0)] (fun s1 K1 w => ∀ _ : List Value,
  M.bin .lss (s1.getD 1 undef) t9 (fun t11 w =>
  M.cond t11
  (M.indexSl 3 x0 (s1.getD 1 undef) (fun t12 w =>
  M.loadA 3 t12 (fun t13 w =>
  M.new 97 #[.int .i64 0, .int .i64 0, .int .i64 0] (fun t7 w =>
  M.store 3 t7 t13 (fun _ w =>
  M.loadA 3 t7 (fun t16 w =>
  M.callv Tryz.prog x1 #[t16] (fun t17 w =>
  M.buildSlice 99 3 #[.int .i64 0, .int .u64 0, .int .i64 0] 1 [(0, t17)] (fun t18 w =>
  M.append 99 3 24 #[.int .i64 0, .int .u64 0, .int .i64 0] (s1.getD 0 undef) t18 (fun t19 w =>
  M.bin .add (s1.getD 1 undef) (Value.int IntKind.i64 1) (fun t20 w =>
  K1 [t19, t20] w) w) w) w) w) w) w) w) w) w)
  (R (s1.getD 0 undef) w)) w) w) w
theorem ok37 (x0 x1 : Value) (R : Kt) (w : World) (h : sh37 x0 x1 R w) : Ret Tryz.prog 37 #[x0, x1] w R :=
  ret_mk <| calls_of_comp mixed (c := Tryz.f37.body.getD .skip) (args := [x0, x1]) (rs := [(ResultVar.tmp 4)]) (Ann.seq Ann.text (Ann.seq Ann.text (Ann.seq (Ann.seq Ann.text (Ann.block (Ann.loop [5, 10] [7, 11, 12, 13, 14, 15, 16, 17, 18, 19, 20] (Ann.seq Ann.text (Ann.seq (Ann.cond Ann.leaf Ann.leaf) (Ann.seq (Ann.block (Ann.seq Ann.text Ann.text)) Ann.text)))))) (Ann.seq Ann.text Ann.leaf))))
    Tryz.func37 (by kernel_rfl) (by kernel_rfl)
    (Eq.mp (by kernel_rfl) h)
def sh19 (x0 x1 : Value) (R : Kt) (w : World) : Prop :=
  M.new 69 (Value.cells x0) (fun t2 w =>
  M.new 33 (Value.cells x1) (fun t3 w =>
  M.new 46 #[.slice none 0 0, .slice none 0 0, .int .i64 0] (fun t4 w =>
  M.draw (fun w =>
  M.fieldAddr 0 t3 (fun t7 w =>
  M.load1 t7 (fun t8 w =>
  M.load1 t2 (fun t9 w =>
  M.fieldAddr 1 t3 (fun t12 w =>
  M.load1 t12 (fun t13 w =>
  M.fieldAddr 2 t3 (fun t16 w =>
  M.load1 t16 (fun t17 w =>
  M.call Tryz.prog 17 #[t8, (.func (Fn.func 18) #[t9] #[])] (fun t11 w =>
  ((M.load1 t16 (fun v' _ => v' = t17) w) ∧ ((M.load1 t12 (fun v' _ => v' = t13) w) ∧ ((M.load1 t2 (fun v' _ => v' = t9) w) ∧ M.call Tryz.prog 37 #[t13, (.func (Fn.func 36) #[] #[t2])] (fun t15 w =>
  ((M.load1 t16 (fun v' _ => v' = t17) w) ∧ ((M.load1 t2 (fun v' _ => v' = t9) w) ∧ pureW Tryz.prog (Instr.build 46 #[(0, t11), (1, t15), (2, t17)]) (fun t18 w =>
  M.store 3 t4 t18 (fun _ w =>
  M.loadA 3 t4 (fun r0 w => R r0 w) w) w) w))) w)))) w) w) w) w) w) w) w) w) w) w) w) w
theorem ok19 (x0 x1 : Value) (R : Kt) (w : World) (h : sh19 x0 x1 R w) : Ret Tryz.prog 19 #[x0, x1] w R :=
  ret_mk <| calls_of_comp mixed (c := Tryz.f19.body.getD .skip) (args := [x0, x1]) (rs := [(ResultVar.cell 4 46)]) (Ann.seq Ann.text (Ann.seq Ann.text (Ann.seq (Ann.draw (Sch.take 0 (Sch.take 1 (Sch.take 2 (Sch.take 3 (Sch.take 5 (Sch.take 6 (Sch.take 7 (Sch.take 9 (Sch.take 10 (Sch.one 4 (Sch.one 8 (Sch.take 11 (Sch.one 12 Sch.done)))))))))))))) Ann.leaf)))
    Tryz.func19 (by kernel_rfl) (by kernel_rfl)
    (Eq.mp (by kernel_rfl) h)
def sh36 (x0 x1 : Value) (R : Kt) (w : World) : Prop :=
  M.new 97 (Value.cells x0) (fun t2 w =>
  M.new 99 #[.int .i64 0, .int .u64 0, .int .i64 0] (fun t3 w =>
  M.draw (fun w =>
  M.fieldAddr 0 t2 (fun t4 w =>
  M.load1 t4 (fun t5 w =>
  M.load1 x1 (fun t6 w =>
  M.fieldAddr 1 t2 (fun t7 w =>
  M.load1 t7 (fun t8 w =>
  M.fieldAddr 2 t2 (fun t10 w =>
  M.load1 t10 (fun t11 w =>
  M.call Tryz.prog 18 #[t6, t8] (fun t9 w =>
  ((M.load1 t10 (fun v' _ => v' = t11) w) ∧ ((M.load1 t4 (fun v' _ => v' = t5) w) ∧ pureW Tryz.prog (Instr.build 99 #[(0, t5), (1, t9), (2, t11)]) (fun t12 w =>
  M.store 3 t3 t12 (fun _ w =>
  M.loadA 3 t3 (fun r0 w => R r0 w) w) w) w))) w) w) w) w) w) w) w) w) w) w) w
theorem ok36 (x0 x1 : Value) (R : Kt) (w : World) (h : sh36 x0 x1 R w) : Ret Tryz.prog 36 #[x0, x1] w R :=
  ret_mk <| calls_of_comp mixed (c := Tryz.f36.body.getD .skip) (args := [x0, x1]) (rs := [(ResultVar.cell 3 99)]) (Ann.seq Ann.text (Ann.seq (Ann.draw (Sch.take 0 (Sch.take 1 (Sch.take 2 (Sch.take 3 (Sch.take 4 (Sch.take 6 (Sch.take 7 (Sch.one 5 (Sch.take 8 (Sch.one 9 Sch.done))))))))))) Ann.leaf))
    Tryz.func36 (by kernel_rfl) (by kernel_rfl)
    (Eq.mp (by kernel_rfl) h)
structure Rdr (w : World) (F : Nat → Prop) (p : Nat) (N : List Nd) (most : Int) (De : Nat → Prop) (ev : Value) (env : List W64) (rb : Nat) (bad : Bool) : Prop where
  dag : DagO w F p N most
  words : LV vw w De ev env
  blk : Blk w rb [ptr p, ev, .bool bad]
  nF : ¬ F rb
  nD : ¬ De rb
  small : env.length ≤ 1000000
theorem Rdr.keep {w w' : World} {F De : Nat → Prop} {p rb : Nat} {N : List Nd} {most : Int} {ev : Value} {env : List W64} {bad : Bool} (h : Rdr w F p N most De ev env rb bad) (k : Keep w w' No) : Rdr w' F p N most De ev env rb bad :=
  ⟨h.dag.keepN k, h.words.keep k (fun _ _ _ h => h), h.blk.keep k (fun h => h), h.nF, h.nD, h.small⟩
theorem Rdr.set {w w' : World} {F De : Nat → Prop} {p rb : Nat} {N : List Nd} {most : Int} {ev : Value} {env : List W64} {bad bad' : Bool} (h : Rdr w F p N most De ev env rb bad) (k : Keep w w' (· = rb)) (b : Blk w' rb [ptr p, ev, .bool bad']) : Rdr w' F p N most De ev env rb bad' :=
  ⟨h.dag.keep k (fun b hb h' => h.nF (h' ▸ hb)), h.words.keep k (fun b _ hb h' => h.nD (h' ▸ hb)), b, h.nF, h.nD, h.small⟩
section
variable {w : World} {F De : Nat → Prop} {p rb : Nat} {N : List Nd} {most : Int} {ev : Value} {env : List W64} {bad : Bool}
theorem word_ret (h : Rdr w F p N most De ev env rb bad) (id : Int) :
    Ret Tryz.prog 18 #[ptr rb, vi id] w (fun r w' => r = vw (valW N env id) ∧ Rdr w' F p N most De ev env rb (bad || !isN N id) ∧ Keep w w' (· = rb)) := by
  refine ok18 _ _ _ _ ?_
  unfold sh18
  have hb := h.blk
  refine M.draw_i ?_
  have k0 := Keep.drew w No
  have h := h.keep k0
  have hb := h.blk
  (repeat (first|refine jb ?_|refine jc ?_|refine jN (by assumption) rfl ?_))
  refine M.call_i (value_ret h.dag h.words h.small id) ?_; rintro _ w1 ⟨rfl, k1⟩
  have h1 := h.keep k1
  have hb := h1.blk
  refine M.extract_i rfl ?_
  refine M.extract_i rfl ?_
  have fin : ∀ w2, Blk w2 rb [ptr p, ev, .bool (bad || !isN N id)] → Keep w1 w2 (· = rb) → Rdr w2 F p N most De ev env rb (bad || !isN N id) ∧ Keep w w2 (· = rb) := fun w2 b2 k2 =>
    ⟨h1.set k2 b2, ((k0.trans k1 (fun _ _ h => h)).mono (fun _ _ h => h.elim)).trans k2 (fun _ _ h => h)⟩
  cases bad with
  | true =>
    (repeat (first|refine jb ?_|refine jc ?_|refine ji ?_|refine jk ?_|refine jN (by assumption) rfl ?_))
    refine M.store_i hb (by simp) rfl (fun w2 b2 k2 s2 => ?_)
    exact ⟨rfl, fin w2 b2 k2⟩
  | false =>
    cases hi : isN N id with
    | true =>
      rw [hi] at fin
      simp only [if_true]
      (repeat (first|refine jb ?_|refine jc ?_|refine jg ?_|refine jl ?_|refine jJ ?_|refine jN (by assumption) rfl ?_))
      refine M.store_i hb (by simp) rfl (fun w2 b2 k2 s2 => ?_)
      exact ⟨rfl, fin w2 b2 k2⟩
    | false =>
      rw [hi] at fin
      simp only [Bool.false_eq_true, if_false]
      (repeat (first|refine jb ?_|refine jc ?_|refine jg ?_|refine jl ?_|refine jI ?_|refine jN (by assumption) rfl ?_))
      refine M.store_i hb (by simp) rfl (fun w2 b2 k2 s2 => ?_)
      exact ⟨rfl, fin w2 b2 k2⟩
theorem callword {kt : Kt} (h : Rdr w F p N most De ev env rb bad) (id : Int) (hk : ∀ w', Rdr w' F p N most De ev env rb (bad || !isN N id) → Keep w w' (· = rb) → kt (vw (valW N env id)) w') :
    M.callv Tryz.prog (.func (.func 18) #[ptr rb] #[]) #[vi id] kt w := by
  refine M.callv_i (fun a w => rfl) (Q := fun x w' => x = vw (valW N env id) ∧ Rdr w' F p N most De ev env rb (bad || !isN N id) ∧ Keep w w' (· = rb)) ?_ ?_
  · show Ret Tryz.prog 18 #[ptr rb, vi id] w _
    exact word_ret h id
  · rintro x w' ⟨rfl, h1, h2⟩
    exact hk w' h1 h2
theorem each_ret {D : Nat → Prop} {v : Value} {xs : List Int} (h : Rdr w F p N most De ev env rb bad) (hl : LV vi w D v xs) (hf : xs.length ≤ 1000000) (hD : ¬ D rb) :
    Ret Tryz.prog 17 #[v, .func (.func 18) #[ptr rb] #[]] w (fun r w' => GW w' (w.heap.size ≤ ·) r (xs.map (valW N env)) ∧ Rdr w' F p N most De ev env rb (bad || xs.any (fun i => !isN N i)) ∧ Keep w w' (· = rb)) := by
  refine ok17 _ _ _ _ ?_
  unfold sh17
  obtain ⟨A, c, rfl, hr, hc⟩ := hl
  (repeat (refine ja ?_))
  refine M.loop_i (σ := Nat) (fun n vals w' => ∃ (i : Nat) (sv : Value), n = xs.length - i ∧ i ≤ xs.length ∧ vals = [sv, vi i] ∧ GW w' (w.heap.size ≤ ·) sv ((xs.take i).map (valW N env)) ∧ Rdr w' F p N most De ev env rb (bad || (xs.take i).any (fun i => !isN N i)) ∧ Keep w w' (· = rb)) id xs.length
    ⟨0, _, by omega, by omega, rfl, GC.nil _ _ _, by simpa using h, Keep.refl _ _⟩ ?_
  rintro n vals w1 K ⟨i, sv, rfl, hi, rfl, hg, h1, k1⟩ hK _
  simp only [List.getD_cons_zero, List.getD_cons_succ]
  have hr1 := hr.keep k1 (fun b _ hb e => hD (e ▸ hb))
  by_cases hlt : i < xs.length
  · (repeat (first|refine jo ?_|refine jy ?_))
    refine M.idxLV_i hr1 rfl (by omega) (by omega) (x := xs[i]) (by rw [Int.toNat_natCast]; exact List.getElem?_eq_getElem hlt) (fun bb oo hA hcc => ?_)
    (repeat (refine jM (by assumption) ?_))
    refine callword h1 _ (fun w2 h2 k2 => ?_)
    have hrb := h.blk.lt
    have hg2 := hg.keep k2 (fun b hb h e => by have h : w.heap.size ≤ b := h; omega)
    refine M.appendW_i hg2 (by simp; omega) (fun v3 w3 g3 k3 => ?_)
    have q1 := k1.size; have q2 := k2.size
    have k03 : Keep w w3 (· = rb) := (k1.trans k2 (fun _ _ h => h)).trans k3 (fun b hb h => by have h : w.heap.size ≤ b := h; omega)
    (repeat (refine jK ?_))
    have et : xs.take (i + 1) = xs.take i ++ [xs[i]] := List.take_succ_eq_append_getElem hlt
    refine hK (xs.length - (i + 1)) _ _ (by show xs.length - (i + 1) < xs.length - i; omega) ⟨i + 1, _, rfl, by omega, rfl, ?_, ?_, k03⟩
    · rw [et, List.map_append]
      have := g3.mono (L' := (w.heap.size ≤ ·)) (fun b hb h => by rcases h with h | h; exact h; (show w.heap.size ≤ b); omega)
      exact this
    · have e : (bad || (xs.take (i + 1)).any (fun i => !isN N i)) = ((bad || (xs.take i).any (fun i => !isN N i)) || !isN N xs[i]) := by rw [et, List.any_append, List.any_cons, List.any_nil, Bool.or_false, Bool.or_assoc]
      rw [e]
      exact h.set k03 (h2.blk.keep k3 (fun h => by have h : w.heap.size ≤ rb := h; omega))
  · have e : i = xs.length := by omega
    subst e
    (repeat (first|refine jp ?_|refine jz ?_))
    rw [List.take_length] at hg h1
    exact ⟨hg, h1, k1⟩
def pdOf (N : List Nd) (env : List W64) (x : SP) : PD := ⟨x.b, valW N env x.v, x.e⟩
theorem pend1_ret {t2 : Nat} (h : Rdr w F p N most De ev env rb bad) (b2 : Blk w t2 [ptr rb]) (hne : t2 ≠ rb) (x : SP) :
    Ret Tryz.prog 36 #[.agg ⟨x.cells⟩, ptr t2] w (fun r w' => r = .agg ⟨(pdOf N env x).cells⟩ ∧ Rdr w' F p N most De ev env rb (bad || !isN N x.v) ∧ Keep w w' (· = rb)) := by
  refine ok36 _ _ _ _ ?_
  unfold sh36
  refine M.new_i (l := x.cells) (fun w1 b1 k1 s1 => ?_)
  refine M.new_i (l := [vi 0, vw 0, vi 0]) (fun w3 b3 k3 s3 => ?_)
  refine M.draw_i ?_
  have k0 := (k1.trans k3 (fun _ _ h => h)).trans (Keep.drew w3 No) (fun _ _ h => h)
  have b1 : Blk w3.drew w.heap.size [vi x.b, vi x.v, vi x.e] := (b1.keep k3 (fun h => h) : Blk w3 _ _)
  have b2 := b2.keep k0 (fun h => h)
  have b3 : Blk w3.drew w1.heap.size [vi 0, vw 0, vi 0] := b3
  have h0 := h.keep k0
  have q := h.blk.lt
  (repeat (first|refine jc ?_|refine jN (by assumption) rfl ?_))
  refine M.call_i (word_ret h0 x.v) ?_; rintro _ w4 ⟨rfl, h4, k4⟩
  have b1 := b1.keep k4 (fun h => by omega)
  have b3 := b3.keep k4 (fun h => by omega)
  (repeat (refine jP (by assumption) rfl ?_))
  refine M.pure_i (.agg ⟨(pdOf N env x).cells⟩) (fun _ => by kernel_rfl) ?_
  refine M.storeAll_i b3 rfl rfl (by intro y hy; simp [PD.cells] at hy; rcases hy with rfl | rfl | rfl <;> rfl) (fun w5 b5 k5 s5 => ?_)
  refine M.loadAll_i b5 rfl ?_
  have k05 : Keep w w5 (· = rb) := ((k0.mono (fun _ _ h => h.elim)).trans k4 (fun _ _ h => h)).trans k5 (fun b hb h => by omega)
  exact ⟨rfl, h.set k05 (h4.blk.keep k5 (fun h => by omega)), k05⟩
theorem pends_ret {D : Nat → Prop} {t2 : Nat} {v : Value} {xs : List SP} (h : Rdr w F p N most De ev env rb bad) (b2 : Blk w t2 [ptr rb]) (hne : t2 ≠ rb) (hl : LN SP.cells w D v xs) (hf : xs.length ≤ 1000000) (hD : ¬ D rb) :
    Ret Tryz.prog 37 #[v, .func (.func 36) #[] #[ptr t2]] w (fun r w' => GC w' (w.heap.size ≤ ·) 3 r xs.length ((xs.map (pdOf N env)).flatMap PD.cells) ∧ Rdr w' F p N most De ev env rb (bad || xs.any (fun i => !isN N i.v)) ∧ Keep w w' (· = rb)) := by
  refine ok37 _ _ _ _ ?_
  unfold sh37
  obtain ⟨A, c, rfl, hr, hc⟩ := hl
  have hrb := h.blk.lt
  have ht2 := b2.lt
  (repeat (refine ja ?_))
  refine M.loop_i (σ := Nat) (fun n vals w' => ∃ (i : Nat) (sv : Value), n = xs.length - i ∧ i ≤ xs.length ∧ vals = [sv, vi i] ∧ GC w' (w.heap.size ≤ ·) 3 sv i (((xs.take i).map (pdOf N env)).flatMap PD.cells) ∧ Rdr w' F p N most De ev env rb (bad || (xs.take i).any (fun i => !isN N i.v)) ∧ Keep w w' (· = rb)) id xs.length
    ⟨0, _, by omega, by omega, rfl, GC.nil _ _ _, by simpa using h, Keep.refl _ _⟩ ?_
  rintro n vals w1 K ⟨i, sv, rfl, hi, rfl, hg, h1, k1⟩ hK _
  simp only [List.getD_cons_zero, List.getD_cons_succ]
  have hr1 := hr.keep k1 (fun b _ hb e => hD (e ▸ hb))
  have b2 := b2.keep k1 hne
  by_cases hlt : i < xs.length
  · (repeat (first|refine jo ?_|refine jy ?_))
    refine M.idxF_i sp_len (by omega) hr1 rfl (by omega) (x := xs[i]) (by rw [Int.toNat_natCast]; exact List.getElem?_eq_getElem hlt) (fun bb oo hcc => ?_)
    refine M.load3_i (hcc 0 (vi xs[i].b) rfl) (hcc 1 (vi xs[i].v) rfl) (hcc 2 (vi xs[i].e) rfl) ?_
    refine M.new_i (l := [vi 0, vi 0, vi 0]) (fun w2 b7 k2 s2 => ?_)
    refine M.storeAll_i (vs := xs[i].cells) b7 rfl rfl (by intro y hy; simp [SP.cells] at hy; rcases hy with rfl | rfl | rfl <;> rfl) (fun w3 b3 k3 s3 => ?_)
    refine M.loadAll_i b3 rfl ?_
    have k13 : Keep w1 w3 No := k2.trans k3 (fun b hb h => by omega)
    have q1 := k1.size
    refine M.callv_i (fun a w => rfl) (Q := fun x w' => x = .agg ⟨(pdOf N env xs[i]).cells⟩ ∧ Rdr w' F p N most De ev env rb ((bad || (xs.take i).any (fun i => !isN N i.v)) || !isN N xs[i].v) ∧ Keep w3 w' (· = rb)) ?_ ?_
    · show Ret Tryz.prog 36 #[.agg ⟨xs[i].cells⟩, ptr t2] w3 _
      exact pend1_ret (h1.keep k13) (b2.keep k13 (fun h => h)) hne xs[i]
    rintro _ w4 ⟨rfl, h4, k4⟩
    refine M.buildSlice_i (pdOf N env xs[i]).cells (by kernel_rfl) (fun w5 b5 k5 s5 => ?_)
    have q3 := k13.size; have q4 := k4.size; have q5 := k5.size
    have hg5 := ((hg.keep k13 (fun _ _ _ h => h)).keep k4 (fun b hb h e => by have h : w.heap.size ≤ b := h; omega)).keep k5 (fun _ _ _ h => h)
    refine M.append_i (m := 1) hg5 (Row.of_blk' (D := fun _ => True) b5 trivial) rfl (by intro y hy; simp [PD.cells, pdOf] at hy; rcases hy with rfl | rfl | rfl <;> rfl) rfl (by omega) (by omega) (fun v6 w6 g6 k6 => ?_)
    have k06 : Keep w w6 (· = rb) := (((k1.trans k13 (fun _ _ h => h.elim)).trans k4 (fun _ _ h => h)).trans k5 (fun _ _ h => h.elim)).trans k6 (fun b hb h => by have h : w.heap.size ≤ b := h; omega)
    (repeat (refine jK ?_))
    have et : xs.take (i + 1) = xs.take i ++ [xs[i]] := List.take_succ_eq_append_getElem hlt
    refine hK (xs.length - (i + 1)) _ _ (by show xs.length - (i + 1) < xs.length - i; omega) ⟨i + 1, _, rfl, by omega, rfl, ?_, ?_, k06⟩
    · rw [et, List.map_append, List.flatMap_append]
      have := g6.mono (L' := (w.heap.size ≤ ·)) (fun b hb h => by rcases h with h | h; exact h; (show w.heap.size ≤ b); omega)
      simpa using this
    · have e : (bad || (xs.take (i + 1)).any (fun i => !isN N i.v)) = ((bad || (xs.take i).any (fun i => !isN N i.v)) || !isN N xs[i].v) := by rw [et, List.any_append, List.any_cons, List.any_nil, Bool.or_false, Bool.or_assoc]
      rw [e]
      exact h.set k06 ((h4.blk.keep k5 (fun h => h)).keep k6 (fun h => by have h : w.heap.size ≤ rb := h; omega))
  · have e : i = xs.length := by omega
    subst e
    (repeat (first|refine jp ?_|refine jz ?_))
    rw [List.take_length] at hg h1
    exact ⟨hg, h1, k1⟩
def devOf (N : List Nd) (env : List W64) (d : SDv) : Dv := ⟨d.disk.map (valW N env), d.pend.map (pdOf N env), d.ep⟩
def devBad (N : List Nd) (d : SDv) : Bool := d.disk.any (fun i => !isN N i) || d.pend.any (fun i => !isN N i.v)
theorem dev_ret {D : Nat → Prop} {a b : Value} {d : SDv} (h : Rdr w F p N most De ev env rb bad) (hd : SDvO w D a b d) (hf : d.few) (hD : ¬ D rb) :
    Ret Tryz.prog 19 #[ptr rb, .agg ⟨[a, b, vi d.ep]⟩] w (fun r w' => ∃ a' b', r = .agg ⟨[a', b', vi d.ep]⟩ ∧ DvO w' (w.heap.size ≤ ·) a' b' (devOf N env d) ∧ Rdr w' F p N most De ev env rb (bad || devBad N d) ∧ Keep w w' (· = rb)) := by
  obtain ⟨hf1, hf2⟩ := hf
  refine ok19 _ _ _ _ ?_
  unfold sh19
  have hrb := h.blk.lt
  refine M.new_i (l := [ptr rb]) (fun w1 b1 k1 s1 => ?_)
  refine M.new_i (l := [a, b, vi d.ep]) (fun w2 b2 k2 s2 => ?_)
  refine M.new_i (l := [.slice none 0 0, .slice none 0 0, vi 0]) (fun w3 b3 k3 s3 => ?_)
  refine M.draw_i ?_
  have k0 := ((k1.trans k2 (fun _ _ h => h)).trans k3 (fun _ _ h => h)).trans (Keep.drew w3 No) (fun _ _ h => h)
  have b1 : Blk w3.drew w.heap.size [ptr rb] := ((b1.keep k2 (fun h => h)).keep k3 (fun h => h) : Blk w3 _ _)
  have b2 : Blk w3.drew w1.heap.size [a, b, vi d.ep] := (b2.keep k3 (fun h => h) : Blk w3 _ _)
  have b3 : Blk w3.drew w2.heap.size [.slice none 0 0, .slice none 0 0, vi 0] := b3
  have s3' : w3.drew.heap.size = w.heap.size + 3 := by show w3.heap.size = _; omega
  have h0 := h.keep k0
  have hd0 := hd.keep k0 (fun _ _ _ h => h)
  (repeat (first|refine jc ?_|refine jN (by assumption) rfl ?_))
  refine M.call_i (each_ret h0 hd0.1 hf1 hD) ?_; rintro av w4 ⟨g4, h4, k4⟩
  have b1 := b1.keep k4 (fun h => by omega)
  have b2 := b2.keep k4 (fun h => by omega)
  have b3 := b3.keep k4 (fun h => by omega)
  have hd4 := hd0.keep k4 (fun b _ hb e => hD (e ▸ hb))
  have q4 := k4.size
  (repeat (refine jP (by assumption) rfl ?_))
  refine M.call_i (pends_ret h4 b1 (by omega) hd4.2 hf2 hD) ?_; rintro bv w5 ⟨g5, h5, k5⟩
  have b1 := b1.keep k5 (fun h => by omega)
  have b2 := b2.keep k5 (fun h => by omega)
  have b3 := b3.keep k5 (fun h => by omega)
  have g4 := g4.keep k5 (fun b _ hb e => by have hb : w3.drew.heap.size ≤ b := hb; omega)
  (repeat (refine jP (by assumption) rfl ?_))
  have g5 := gc_ln (by simp) g5
  have g4 := GW.lv g4
  obtain ⟨A4, c4, rfl, _, _⟩ := id g4
  obtain ⟨A5, c5, rfl, _, _⟩ := id g5
  refine M.pure_i (.agg ⟨[.slice A4 (d.disk.map (valW N env)).length c4, .slice A5 (d.pend.map (pdOf N env)).length c5, vi d.ep]⟩) (fun _ => by kernel_rfl) ?_
  refine M.storeAll_i b3 rfl rfl (by intro y hy; simp at hy; rcases hy with rfl | rfl | rfl <;> rfl) (fun w6 b6 k6 s6 => ?_)
  refine M.loadAll_i b6 rfl ?_
  have k06 : Keep w w6 (· = rb) := (((k0.mono (fun _ _ h => h.elim)).trans k4 (fun _ _ h => h)).trans k5 (fun _ _ h => h)).trans k6 (fun b hb h => by omega)
  have e : (bad || devBad N d) = ((bad || d.disk.any (fun i => !isN N i)) || d.pend.any (fun i => !isN N i.v)) := by unfold devBad; rw [Bool.or_assoc]
  rw [e]
  refine ⟨_, _, rfl, ?_, h.set k06 (h5.blk.keep k6 (fun h => by omega)), k06⟩
  have t4 : LV vw w6 (w.heap.size ≤ ·) _ (d.disk.map (valW N env)) := (g4.keep k6 (fun b _ hb e => by have hb : w3.drew.heap.size ≤ b := hb; omega)).mono (fun b _ hb => by have hb : w3.drew.heap.size ≤ b := hb; show w.heap.size ≤ b; omega)
  have t5 : LN PD.cells w6 (w.heap.size ≤ ·) _ (d.pend.map (pdOf N env)) := (g5.keep k6 (fun b _ hb e => by have hb : w4.heap.size ≤ b := hb; omega)).mono (fun b _ hb => by have hb : w4.heap.size ≤ b := hb; show w.heap.size ≤ b; omega)
  exact ⟨t4, t5⟩
end
end Go.Proofs.YtanjlgafjgoaaaaGreat
namespace Go.Proofs.YtanjlgafjgoaaaaGreat
open Go.Mw Go.Maps Go.MapKept
set_option linter.unusedVariables false
set_option linter.unusedSimpArgs false
set_option maxRecDepth 100000
attribute [local irreducible] M.val M.unit M.next M.pick M.new M.nilCheck M.load1 M.loadA M.store M.fieldAddr M.indexSl M.indexArr M.slice M.makeSlice M.buildSlice M.len M.lenS M.cap M.append M.extract M.conv M.not M.neg M.bin M.shift M.eqB M.eqNil M.scat M.call M.callv M.gd M.share M.cond M.loop M.draw pureW readW Ret
def sh30 (x0 x1 : Value) (R : Kt) (w : World) : Prop :=
  M.len x0 (fun t7 w =>
  M.len x1 (fun t9 w =>
  M.bin .neq t7 t9 (fun t10 w =>
  M.cond t10
  (R (Value.bool false) w)
  (M.loop [(Value.int IntKind.i64 0)] (fun s1 K1 w => ∀ _ : List Value,
  M.len x0 (fun t13 w =>
  M.bin .lss (s1.getD 0 undef) t13 (fun t14 w =>
  M.cond t14
  (M.draw (fun w =>
  M.indexSl 1 x0 (s1.getD 0 undef) (fun t19 w =>
  M.load1 t19 (fun t20 w =>
  M.indexSl 1 x1 (s1.getD 0 undef) (fun t23 w =>
  M.load1 t23 (fun t24 w =>
  M.bin .neq t20 t24 (fun t25 w =>
  M.cond t25
  (R (Value.bool false) w)
  (M.bin .add (s1.getD 0 undef) (Value.int IntKind.i64 1) (fun t16 w =>
  K1 [t16] w) w)) w) w) w) w) w) w)
  (R (Value.bool true) w)) w) w) w)) w) w) w
theorem ok30 (x0 x1 : Value) (R : Kt) (w : World) (h : sh30 x0 x1 R w) : Ret Tryz.prog 30 #[x0, x1] w R :=
  ret_mk <| calls_of_comp mixed (c := Tryz.f30.body.getD .skip) (args := [x0, x1]) (rs := [(ResultVar.tmp 4)]) (Ann.seq Ann.text (Ann.seq (Ann.seq Ann.text (Ann.cond (Ann.seq Ann.text Ann.leaf) Ann.leaf)) (Ann.seq (Ann.seq Ann.text (Ann.block (Ann.loop [5] [4, 11, 12, 13, 14, 15, 16, 17, 18, 19, 20, 21, 22, 23, 24, 25] (Ann.seq (Ann.seq Ann.text (Ann.cond Ann.leaf Ann.leaf)) (Ann.seq (Ann.block (Ann.seq (Ann.draw (Sch.take 0 (Sch.take 1 (Sch.take 2 (Sch.take 3 (Sch.take 4 (Sch.take 5 (Sch.take 6 (Sch.take 7 (Sch.take 8 Sch.done)))))))))) (Ann.cond (Ann.seq Ann.text Ann.leaf) Ann.leaf))) Ann.text))))) (Ann.seq Ann.text Ann.leaf))))
    Tryz.func30 (by kernel_rfl) (by kernel_rfl)
    (Eq.mp (by kernel_rfl) h)
def sh31 (x0 x1 : Value) (R : Kt) (w : World) : Prop :=
  M.new 46 (Value.cells x0) (fun t2 w =>
  M.new 46 (Value.cells x1) (fun t3 w =>
  M.fieldAddr 2 t2 (fun t6 w =>
  M.load1 t6 (fun t7 w =>
  M.fieldAddr 2 t3 (fun t8 w =>
  M.load1 t8 (fun t9 w =>
  M.bin .neq t7 t9 (fun t10 w =>
  M.gd t10 false (fun k w => M.fieldAddr 0 t2 k w) (fun t12 w =>
  M.gd t10 false (fun k w => M.load1 t12 k w) (fun t13 w =>
  M.gd t10 false (fun k w => M.fieldAddr 0 t3 k w) (fun t14 w =>
  M.gd t10 false (fun k w => M.load1 t14 k w) (fun t15 w =>
  M.gd t10 false (fun k w => M.call Tryz.prog 30 #[t13, t15] k w) (fun t16 w =>
  M.gd t10 false (fun k w => M.not t16 k w) (fun t17 w =>
  M.pick t10 (Value.bool true) t17 (fun t18 w =>
  M.gd t18 false (fun k w => M.fieldAddr 1 t2 k w) (fun t20 w =>
  M.gd t18 false (fun k w => M.load1 t20 k w) (fun t21 w =>
  M.gd t18 false (fun k w => M.len t21 k w) (fun t22 w =>
  M.gd t18 false (fun k w => M.fieldAddr 1 t3 k w) (fun t23 w =>
  M.gd t18 false (fun k w => M.load1 t23 k w) (fun t24 w =>
  M.gd t18 false (fun k w => M.len t24 k w) (fun t25 w =>
  M.gd t18 false (fun k w => M.bin .neq t22 t25 k w) (fun t26 w =>
  M.pick t18 (Value.bool true) t26 (fun t27 w =>
  M.cond t27
  (R (Value.bool false) w)
  (M.loop [(Value.int IntKind.i64 0)] (fun s1 K1 w => ∀ _ : List Value,
  M.fieldAddr 1 t2 (fun t29 w =>
  M.load1 t29 (fun t30 w =>
  M.len t30 (fun t31 w =>
  M.bin .lss (s1.getD 0 undef) t31 (fun t32 w =>
  M.cond t32
  (M.draw (fun w =>
  M.fieldAddr 1 t2 (fun t35 w =>
  M.load1 t35 (fun t36 w =>
  M.indexSl 3 t36 (s1.getD 0 undef) (fun t38 w =>
  M.loadA 3 t38 (fun t39 w =>
  M.fieldAddr 1 t3 (fun t40 w =>
  M.load1 t40 (fun t41 w =>
  M.indexSl 3 t41 (s1.getD 0 undef) (fun t43 w =>
  M.loadA 3 t43 (fun t44 w =>
  M.val Tryz.prog (do eqGuard .neq 99 (Operand.tmp 39) (Operand.tmp 44) t39 t44; binOp .neq 99 t39 t44) (fun t45 w =>
  ((M.load1 t40 (fun v' _ => v' = t41) w) ∧ ((M.load1 t35 (fun v' _ => v' = t36) w) ∧ M.cond t45
  (R (Value.bool false) w)
  (M.bin .add (s1.getD 0 undef) (Value.int IntKind.i64 1) (fun t34 w =>
  K1 [t34] w) w)))) w) w) w) w) w) w) w) w) w) w)
  (R (Value.bool true) w)) w) w) w) w) w)) w) w) w) w) w) w) w) w) w) w) w) w) w) w) w) w) w) w) w) w) w) w
theorem ok31 (x0 x1 : Value) (R : Kt) (w : World) (h : sh31 x0 x1 R w) : Ret Tryz.prog 31 #[x0, x1] w R :=
  ret_mk <| calls_of_comp mixed (c := Tryz.f31.body.getD .skip) (args := [x0, x1]) (rs := [(ResultVar.tmp 4)]) (Ann.seq Ann.text (Ann.seq (Ann.seq Ann.text (Ann.cond (Ann.seq Ann.text Ann.leaf) Ann.leaf)) (Ann.seq (Ann.seq Ann.text (Ann.block (Ann.loop [5] [4, 28, 29, 30, 31, 32, 33, 34, 35, 36, 37, 38, 39, 40, 41, 42, 43, 44, 45] (Ann.seq (Ann.seq Ann.text (Ann.cond Ann.leaf Ann.leaf)) (Ann.seq (Ann.block (Ann.seq (Ann.draw (Sch.take 0 (Sch.take 1 (Sch.take 2 (Sch.take 3 (Sch.take 4 (Sch.take 5 (Sch.take 6 (Sch.take 7 (Sch.take 8 (Sch.take 9 (Sch.one 10 Sch.done)))))))))))) (Ann.cond (Ann.seq Ann.text Ann.leaf) Ann.leaf))) Ann.text))))) (Ann.seq Ann.text Ann.leaf))))
    Tryz.func31 (by kernel_rfl) (by kernel_rfl)
    (Eq.mp (by kernel_rfl) h)
def sh15 (x0 x1 : Value) (R : Kt) (w : World) : Prop :=
  M.new 48 (Value.cells x0) (fun t2 w =>
  M.new 48 (Value.cells x1) (fun t3 w =>
  M.fieldAddr 0 t2 (fun t5 w =>
  M.loadA 8 t5 (fun t6 w =>
  M.fieldAddr 0 t3 (fun t7 w =>
  M.loadA 8 t7 (fun t8 w =>
  M.val Tryz.prog (do eqGuard .eql 43 (Operand.tmp 6) (Operand.tmp 8) t6 t8; binOp .eql 43 t6 t8) (fun t9 w =>
  M.gd t9 true (fun k w => M.fieldAddr 8 t2 k w) (fun t11 w =>
  M.gd t9 true (fun k w => M.load1 t11 k w) (fun t12 w =>
  M.gd t9 true (fun k w => M.fieldAddr 8 t3 k w) (fun t13 w =>
  M.gd t9 true (fun k w => M.load1 t13 k w) (fun t14 w =>
  M.gd t9 true (fun k w => M.call Tryz.prog 30 #[t12, t14] k w) (fun t15 w =>
  M.pick t9 t15 (Value.bool false) (fun t16 w =>
  M.gd t16 true (fun k w => M.fieldAddr 9 t2 k w) (fun t18 w =>
  M.gd t16 true (fun k w => M.load1 t18 k w) (fun t19 w =>
  M.gd t16 true (fun k w => M.fieldAddr 9 t3 k w) (fun t20 w =>
  M.gd t16 true (fun k w => M.load1 t20 k w) (fun t21 w =>
  M.gd t16 true (fun k w => M.bin .eql t19 t21 k w) (fun t22 w =>
  M.pick t16 t22 (Value.bool false) (fun t23 w =>
  M.gd t23 true (fun k w => M.fieldAddr 10 t2 k w) (fun t25 w =>
  M.gd t23 true (fun k w => M.load1 t25 k w) (fun t26 w =>
  M.gd t23 true (fun k w => M.fieldAddr 10 t3 k w) (fun t27 w =>
  M.gd t23 true (fun k w => M.load1 t27 k w) (fun t28 w =>
  M.gd t23 true (fun k w => M.bin .eql t26 t28 k w) (fun t29 w =>
  M.pick t23 t29 (Value.bool false) (fun t30 w =>
  M.gd t30 true (fun k w => M.fieldAddr 11 t2 k w) (fun t32 w =>
  M.gd t30 true (fun k w => M.load1 t32 k w) (fun t33 w =>
  M.gd t30 true (fun k w => M.fieldAddr 11 t3 k w) (fun t34 w =>
  M.gd t30 true (fun k w => M.load1 t34 k w) (fun t35 w =>
  M.gd t30 true (fun k w => M.bin .eql t33 t35 k w) (fun t36 w =>
  M.pick t30 t36 (Value.bool false) (fun t37 w =>
  M.gd t37 true (fun k w => M.fieldAddr 12 t2 k w) (fun t39 w =>
  M.gd t37 true (fun k w => M.load1 t39 k w) (fun t40 w =>
  M.gd t37 true (fun k w => M.fieldAddr 12 t3 k w) (fun t41 w =>
  M.gd t37 true (fun k w => M.load1 t41 k w) (fun t42 w =>
  M.gd t37 true (fun k w => M.bin .eql t40 t42 k w) (fun t43 w =>
  M.pick t37 t43 (Value.bool false) (fun t44 w =>
  M.gd t44 true (fun k w => M.fieldAddr 13 t2 k w) (fun t46 w =>
  M.gd t44 true (fun k w => M.load1 t46 k w) (fun t47 w =>
  M.gd t44 true (fun k w => M.fieldAddr 13 t3 k w) (fun t48 w =>
  M.gd t44 true (fun k w => M.load1 t48 k w) (fun t49 w =>
  M.gd t44 true (fun k w => M.bin .eql t47 t49 k w) (fun t50 w =>
  M.pick t44 t50 (Value.bool false) (fun t51 w =>
  M.gd t51 true (fun k w => M.fieldAddr 14 t2 k w) (fun t53 w =>
  M.gd t51 true (fun k w => M.load1 t53 k w) (fun t54 w =>
  M.gd t51 true (fun k w => M.fieldAddr 14 t3 k w) (fun t55 w =>
  M.gd t51 true (fun k w => M.load1 t55 k w) (fun t56 w =>
  M.gd t51 true (fun k w => M.bin .eql t54 t56 k w) (fun t57 w =>
  M.pick t51 t57 (Value.bool false) (fun t58 w =>
  M.gd t58 true (fun k w => M.fieldAddr 15 t2 k w) (fun t60 w =>
  M.gd t58 true (fun k w => M.loadA 3 t60 k w) (fun t61 w =>
  M.gd t58 true (fun k w => M.fieldAddr 15 t3 k w) (fun t62 w =>
  M.gd t58 true (fun k w => M.loadA 3 t62 k w) (fun t63 w =>
  M.gd t58 true (fun k w => M.call Tryz.prog 31 #[t61, t63] k w) (fun t64 w =>
  M.pick t58 t64 (Value.bool false) (fun t65 w =>
  R t65 w) w) w) w) w) w) w) w) w) w) w) w) w) w) w) w) w) w) w) w) w) w) w) w) w) w) w) w) w) w) w) w) w) w) w) w) w) w) w) w) w) w) w) w) w) w) w) w) w) w) w) w) w) w) w) w
theorem ok15 (x0 x1 : Value) (R : Kt) (w : World) (h : sh15 x0 x1 R w) : Ret Tryz.prog 15 #[x0, x1] w R :=
  ret_mk <| calls_of_comp mixed (c := Tryz.f15.body.getD .skip) (args := [x0, x1]) (rs := [(ResultVar.tmp 4)]) (Ann.seq Ann.text (Ann.seq Ann.text Ann.leaf))
    Tryz.func15 (by kernel_rfl) (by kernel_rfl)
    (Eq.mp (by kernel_rfl) h)
structure St where
  regs : List W64
  cells : List W64
  pc : Int
  steps : Int
  calls : Int
  en : Int
  code : Int
  value : W64
  dev : Dv
structure Sy where
  regs : List Int
  cells : List Int
  pc : Int
  steps : Int
  calls : Int
  en : Int
  code : Int
  value : Int
  dev : SDv
  conds : List Int
def St.vals (s : St) (c a b : Value) : List Value := s.regs.map vw ++ [c, vi s.pc, vi s.steps, vi s.calls, vi s.en, vi s.code, vw s.value, a, b, vi s.dev.ep]
def Sy.vals (s : Sy) (c a b d : Value) : List Value := s.regs.map vi ++ [c, vi s.pc, vi s.steps, vi s.calls, vi s.en, vi s.code, vi s.value, a, b, vi s.dev.ep, d]
def StO (w : World) (D : Nat → Prop) (v : Value) (s : St) : Prop := s.regs.length = 8 ∧ ∃ c a b, v = .agg ⟨s.vals c a b⟩ ∧ LV vw w D c s.cells ∧ DvO w D a b s.dev
def SyO (w : World) (D : Nat → Prop) (v : Value) (s : Sy) : Prop := s.regs.length = 8 ∧ ∃ c a b d, v = .agg ⟨s.vals c a b d⟩ ∧ LV vi w D c s.cells ∧ SDvO w D a b s.dev ∧ LV vi w D d s.conds
theorem StO.keep {w w' : World} {D S : Nat → Prop} {v : Value} {s : St} (h : StO w D v s) (k : Keep w w' S) (hs : ∀ b, b < w.heap.size → D b → ¬ S b) : StO w' D v s := by
  obtain ⟨h1, c, a, b, h2, h3, h4⟩ := h
  exact ⟨h1, c, a, b, h2, h3.keep k hs, h4.keep k hs⟩
theorem StO.mono {w : World} {D D' : Nat → Prop} {v : Value} {s : St} (h : StO w D v s) (hd : ∀ b, b < w.heap.size → D b → D' b) : StO w D' v s := by
  obtain ⟨h1, c, a, b, h2, h3, h4⟩ := h
  exact ⟨h1, c, a, b, h2, h3.mono hd, h4.mono hd⟩
theorem SyO.keep {w w' : World} {D S : Nat → Prop} {v : Value} {s : Sy} (h : SyO w D v s) (k : Keep w w' S) (hs : ∀ b, b < w.heap.size → D b → ¬ S b) : SyO w' D v s := by
  obtain ⟨h1, c, a, b, d, h2, h3, h4, h5⟩ := h
  exact ⟨h1, c, a, b, d, h2, h3.keep k hs, h4.keep k hs, h5.keep k hs⟩
theorem SyO.mono {w : World} {D D' : Nat → Prop} {v : Value} {s : Sy} (h : SyO w D v s) (hd : ∀ b, b < w.heap.size → D b → D' b) : SyO w D' v s := by
  obtain ⟨h1, c, a, b, d, h2, h3, h4, h5⟩ := h
  exact ⟨h1, c, a, b, d, h2, h3.mono hd, h4.mono hd, h5.mono hd⟩
theorem eight {α : Type} {l : List α} (h : l.length = 8) : ∃ a0 a1 a2 a3 a4 a5 a6 a7, l = [a0, a1, a2, a3, a4, a5, a6, a7] := by
  match l, h with
  | [a0, a1, a2, a3, a4, a5, a6, a7], _ => exact ⟨_, _, _, _, _, _, _, _, rfl⟩
theorem eq8 (a0 a1 a2 a3 a4 a5 a6 a7 : W64) (w : World) : (binOp .eql 43 (.agg #[vw a0, vw a1, vw a2, vw a3, vw a4, vw a5, vw a6, vw a7]) (.agg #[vw a0, vw a1, vw a2, vw a3, vw a4, vw a5, vw a6, vw a7])).run Tryz.prog w = .ok (.bool true) w := by
  have u9 := Tryz.underlying42
  have a9 := Tryz.isAgg42
  have z9 := Tryz.sizeOf42
  have hu : Tryz.prog.underlying 43 = some (.array 8 42) := by kernel_rfl
  have hi : ∃ i, Tryz.prog.info? 42 = some i := Option.isSome_iff_exists.1 (by kernel_rfl)
  have hc : Tryz.prog.cellsOf 42 = 1 := by kernel_rfl
  obtain ⟨i, hi⟩ := hi
  rw [run_eql_struct, show (10000 : Nat) = 9999 + 1 from rfl, run_equalIn_array w 9999 _ _ hu hi]
  have hr : List.range 8 = [0, 1, 2, 3, 4, 5, 6, 7] := rfl
  rw [hr, hc]
  simp only [Op.eqItems]
  go_simp
theorem neqPd (x : PD) (w : World) : (binOp .neq 99 (.agg ⟨x.cells⟩) (.agg ⟨x.cells⟩)).run Tryz.prog w = .ok (.bool false) w := by
  have u3 := Tryz.underlying3
  have a3 := Tryz.isAgg3
  have z3 := Tryz.sizeOf3
  have u9 := Tryz.underlying42
  have a9 := Tryz.isAgg42
  have z9 := Tryz.sizeOf42
  have hS : Tryz.prog.underlying 99 = some (.struct (Tryz.prog.fieldsOf 99)) := by kernel_rfl
  have hp : Tryz.prog.stoodInHeld 99 = false := by kernel_rfl
  rw [run_neq_struct, show (10000 : Nat) = 9999 + 1 from rfl, run_equalIn_agg w 9999 99 _ _ hS hp]
  simp only [Program.fieldsOf, Tryz.underlying99, PD.cells]
  obtain ⟨x1, x2, x3⟩ := x
  go_simp
theorem words_ret {w : World} {D D' : Nat → Prop} {u v : Value} {xs : List W64} (hu : LV vw w D u xs) (hv : LV vw w D' v xs) (hf : xs.length ≤ 1000000) :
    Ret Tryz.prog 30 #[u, v] w (fun r w' => r = .bool true ∧ Keep w w' No) := by
  obtain ⟨A, c, rfl, hr, _⟩ := hu
  obtain ⟨B, c', rfl, hr', _⟩ := hv
  refine ok30 _ _ _ _ ?_
  unfold sh30
  (repeat (first|refine ja ?_|refine jp ?_|refine jJ ?_))
  refine M.loop_i (σ := Nat) (fun i vals w' => vals = [vi i] ∧ i ≤ xs.length ∧ Keep w w' No) (fun i => xs.length - i) 0 ⟨rfl, by omega, Keep.refl _ _⟩ ?_
  rintro i vals w1 K ⟨rfl, hi, k1⟩ hK _
  simp only [List.getD_cons_zero, List.getD_cons_succ]
  by_cases hlt : i < xs.length
  · (repeat (first|refine ja ?_|refine jd ?_|refine jo ?_|refine jy ?_))
    have k2 := k1.trans (Keep.drew w1 No) (fun _ _ h => h)
    refine M.idxLV_i (hr.keep k2 (fun _ _ _ h => h)) rfl (by omega) (by omega) (x := xs[i]) (by rw [Int.toNat_natCast]; exact List.getElem?_eq_getElem hlt) (fun bb oo hA hcc => ?_)
    (repeat (refine jM (by assumption) ?_))
    refine M.idxLV_i (hr'.keep k2 (fun _ _ _ h => h)) rfl (by omega) (by omega) (x := xs[i]) (by rw [Int.toNat_natCast]; exact List.getElem?_eq_getElem hlt) (fun bb' oo' hA' hcc' => ?_)
    (repeat (first|refine jp ?_|refine jJ ?_|refine jK ?_|refine jM (by assumption) ?_))
    exact hK (i + 1) _ _ (by omega) ⟨by simp, by omega, k2⟩
  · (repeat (first|refine ja ?_|refine jp ?_|refine jz ?_))
    exact ⟨by simp, k1⟩
def Dv.few (d : Dv) : Prop := d.disk.length ≤ 1000000 ∧ d.pend.length ≤ 1000000
theorem M.neqPd_i {k : Kt} {w : World} {o1 o2 : Operand} {x : PD} (h : k (.bool false) w) :
    M.val Tryz.prog (do eqGuard .neq 99 o1 o2 (.agg ⟨x.cells⟩) (.agg ⟨x.cells⟩); binOp .neq 99 (.agg ⟨x.cells⟩) (.agg ⟨x.cells⟩)) k w := by
  refine M.val_i (v := .bool false) (w' := w) ?_ h
  have hm : Tryz.prog.eqGuardType Tryz.prog.depth 99 = false := by kernel_rfl
  rw [Sem.run_bind, run_eqGuard_agg w .neq _ o1 o2 _ _ hm]
  exact neqPd x w
theorem same31_ret {w : World} {D D' : Nat → Prop} {a b a' b' : Value} {d : Dv} (hu : DvO w D a b d) (hv : DvO w D' a' b' d) (hf : d.few) :
    Ret Tryz.prog 31 #[.agg ⟨[a, b, vi d.ep]⟩, .agg ⟨[a', b', vi d.ep]⟩] w (fun r w' => r = .bool true ∧ Keep w w' No) := by
  obtain ⟨hf1, hf2⟩ := hf
  refine ok31 _ _ _ _ ?_
  unfold sh31
  refine M.new_i (l := [a, b, vi d.ep]) (fun w1 b1 k1 s1 => ?_)
  refine M.new_i (l := [a', b', vi d.ep]) (fun w2 b2 k2 s2 => ?_)
  have b1 := b1.keep k2 (fun h => h)
  have k12 := k1.trans k2 (fun _ _ h => h)
  have hu := hu.keep k12 (fun _ _ _ h => h)
  have hv := hv.keep k12 (fun _ _ _ h => h)
  (repeat (first|refine jc ?_|refine jg ?_|refine jJ ?_|refine jN (by assumption) rfl ?_))
  refine M.call_i (words_ret hu.1 hv.1 hf1) ?_; rintro _ w3 ⟨rfl, k3⟩
  have b1 := b1.keep k3 (fun h => h)
  have b2 := b2.keep k3 (fun h => h)
  have k13 := k12.trans k3 (fun _ _ h => h)
  obtain ⟨_, A, c, rfl, hr, _⟩ := hu.keep k3 (fun _ _ _ h => h)
  obtain ⟨_, A', c', rfl, hr', _⟩ := hv.keep k3 (fun _ _ _ h => h)
  (repeat (first|refine ja ?_|refine jc ?_|refine jg ?_|refine jl ?_|refine jm ?_|refine jp ?_|refine jJ ?_|refine jN (by assumption) rfl ?_))
  refine M.loop_i (σ := Nat) (fun i vals w' => vals = [vi i] ∧ i ≤ d.pend.length ∧ Keep w3 w' No) (fun i => d.pend.length - i) 0 ⟨rfl, by omega, Keep.refl _ _⟩ ?_
  rintro i vals w4 K ⟨rfl, hi, k4⟩ hK _
  simp only [List.getD_cons_zero, List.getD_cons_succ]
  have b1 := b1.keep k4 (fun h => h)
  have b2 := b2.keep k4 (fun h => h)
  by_cases hlt : i < d.pend.length
  · (repeat (first|refine ja ?_|refine jc ?_|refine jd ?_|refine jo ?_|refine jy ?_|refine jN (by assumption) rfl ?_))
    have k5 := k4.trans (Keep.drew w4 No) (fun _ _ h => h)
    have b1 := b1.keep (Keep.drew w4 No) (fun h => h)
    have b2 := b2.keep (Keep.drew w4 No) (fun h => h)
    (repeat fail)
    refine M.idxF_i pd_len (by omega) (hr.keep k5 (fun _ _ _ h => h)) rfl (by omega) (x := d.pend[i]) (by rw [Int.toNat_natCast]; exact List.getElem?_eq_getElem hlt) (fun bb oo hcc => ?_)
    refine M.load3_i (hcc 0 (vi d.pend[i].b) rfl) (hcc 1 (vw d.pend[i].v) rfl) (hcc 2 (vi d.pend[i].e) rfl) ?_
    (repeat (first|refine jc ?_|refine jN (by assumption) rfl ?_))
    refine M.idxF_i pd_len (by omega) (hr'.keep k5 (fun _ _ _ h => h)) rfl (by omega) (x := d.pend[i]) (by rw [Int.toNat_natCast]; exact List.getElem?_eq_getElem hlt) (fun bb' oo' hcc' => ?_)
    refine M.load3_i (hcc' 0 (vi d.pend[i].b) rfl) (hcc' 1 (vw d.pend[i].v) rfl) (hcc' 2 (vi d.pend[i].e) rfl) ?_
    refine M.neqPd_i (x := d.pend[i]) ?_
    (repeat (first|refine jp ?_|refine jK ?_|refine jP (by assumption) rfl ?_))
    exact hK (i + 1) _ _ (by omega) ⟨by simp, by omega, k5⟩
  · (repeat (first|refine ja ?_|refine jc ?_|refine jp ?_|refine jz ?_|refine jN (by assumption) rfl ?_))
    exact ⟨by simp, k13.trans k4 (fun _ _ h => h)⟩
def St.few (s : St) : Prop := s.cells.length ≤ 1000000 ∧ s.dev.few
theorem M.eq8_i {k : Kt} {w : World} {o1 o2 : Operand} {a0 a1 a2 a3 a4 a5 a6 a7 : W64} (h : k (.bool true) w) :
    M.val Tryz.prog (do eqGuard .eql 43 o1 o2 (.agg #[vw a0, vw a1, vw a2, vw a3, vw a4, vw a5, vw a6, vw a7]) (.agg #[vw a0, vw a1, vw a2, vw a3, vw a4, vw a5, vw a6, vw a7]); binOp .eql 43 (.agg #[vw a0, vw a1, vw a2, vw a3, vw a4, vw a5, vw a6, vw a7]) (.agg #[vw a0, vw a1, vw a2, vw a3, vw a4, vw a5, vw a6, vw a7])) k w := by
  refine M.val_i (v := .bool true) (w' := w) ?_ h
  have hm : Tryz.prog.eqGuardType Tryz.prog.depth 43 = false := by kernel_rfl
  rw [Sem.run_bind, run_eqGuard_agg w .eql _ o1 o2 _ _ hm]
  exact eq8 _ _ _ _ _ _ _ _ w
theorem same33_ret {w : World} {D D' : Nat → Prop} {u v : Value} {s : St} (hu : StO w D u s) (hv : StO w D' v s) (hf : s.few) :
    Ret Tryz.prog 15 #[u, v] w (fun r w' => r = .bool true ∧ Keep w w' No) := by
  obtain ⟨hf1, hf2⟩ := hf
  obtain ⟨h8, c, a, b, rfl, hc, hd⟩ := hu
  obtain ⟨_, c', a', b', rfl, hc', hd'⟩ := hv
  obtain ⟨regs, cells, pc, steps, calls, en, code, value, dev⟩ := s
  obtain ⟨r0, r1, r2, r3, r4, r5, r6, r7, rfl⟩ := eight h8
  simp only at hc hd hc' hd' hf1 hf2
  refine ok15 _ _ _ _ ?_
  unfold sh15
  refine M.new_i (l := [vw r0, vw r1, vw r2, vw r3, vw r4, vw r5, vw r6, vw r7, c, vi pc, vi steps, vi calls, vi en, vi code, vw value, a, b, vi dev.ep]) (fun w1 b1 k1 s1 => ?_)
  refine M.new_i (l := [vw r0, vw r1, vw r2, vw r3, vw r4, vw r5, vw r6, vw r7, c', vi pc, vi steps, vi calls, vi en, vi code, vw value, a', b', vi dev.ep]) (fun w2 b2 k2 s2 => ?_)
  have b1 := b1.keep k2 (fun h => h)
  have k12 := k1.trans k2 (fun _ _ h => h)
  refine M.field_i ?_
  refine M.loadA_i b1 (by simp) ?_
  refine M.field_i ?_
  refine M.loadA_i b2 (by simp) ?_
  refine M.eq8_i ?_
  (repeat (first|refine jc ?_|refine jf ?_|refine jN (by assumption) rfl ?_))
  refine M.call_i (words_ret (hc.keep k12 (fun _ _ _ h => h)) (hc'.keep k12 (fun _ _ _ h => h)) hf1) ?_; rintro _ w3 ⟨rfl, k3⟩
  have b1 := b1.keep k3 (fun h => h)
  have b2 := b2.keep k3 (fun h => h)
  have k13 := k12.trans k3 (fun _ _ h => h)
  (repeat (first|refine jc ?_|refine jf ?_|refine jk ?_|refine jG ?_|refine jN (by assumption) rfl ?_))
  refine M.loadA_i b1 (by simp) ?_
  (repeat (first|refine jc ?_|refine jf ?_))
  refine M.loadA_i b2 (by simp) ?_
  (repeat (refine jf ?_))
  refine M.call_i (same31_ret (hd.keep k13 (fun _ _ _ h => h)) (hd'.keep k13 (fun _ _ _ h => h)) hf2) ?_; rintro _ w4 ⟨rfl, k4⟩
  (repeat (refine jk ?_))
  exact ⟨rfl, k13.trans k4 (fun _ _ h => h)⟩
def cellsOk (n : Int) : Nat := if n < 0 ∨ 255 < n then 0 else n.toNat
end Go.Proofs.YtanjlgafjgoaaaaGreat
namespace Go.Proofs.YtanjlgafjgoaaaaGreat
open Go.Mw
set_option linter.unusedVariables false
set_option linter.unusedSimpArgs false
set_option maxRecDepth 100000
attribute [local irreducible] M.val M.unit M.next M.pick M.new M.nilCheck M.load1 M.loadA M.store M.fieldAddr M.indexSl M.indexArr M.slice M.makeSlice M.buildSlice M.len M.lenS M.cap M.append M.extract M.conv M.not M.neg M.bin M.shift M.eqB M.eqNil M.scat M.call M.callv M.gd M.share M.cond M.loop M.draw pureW readW Ret
structure Ins where
  op : Int
  a : Int
  b : Int
  c : Int
  imm : W64
def Ins.cells (i : Ins) : List Value := [vi i.op, vi i.a, vi i.b, vi i.c, vw i.imm]
abbrev encI (i : Ins) : Value := .agg ⟨i.cells⟩
def hasA (op : Int) : Bool := decide (op = 1 ∨ op = 2 ∨ op = 3 ∨ op = 4 ∨ op = 6 ∨ op = 7 ∨ op = 8 ∨ op = 9 ∨ op = 10 ∨ op = 11 ∨ op = 14)
def hasB (op : Int) : Bool := decide (op = 2 ∨ op = 3 ∨ op = 4 ∨ op = 7 ∨ op = 8 ∨ op = 10 ∨ op = 11)
def hasC (op : Int) : Bool := decide (op = 3)
def hasI (op : Int) : Bool := decide (op = 1 ∨ op = 3 ∨ op = 4 ∨ op = 5 ∨ op = 6 ∨ op = 9 ∨ op = 15)
def regOk (has : Bool) (n : Int) : Bool := if has then decide (0 ≤ n ∧ n ≤ 7) else decide (n = 0)
def immOk (i : Ins) (len : Int) : Bool :=
  if i.op = 3 then decide (1 ≤ i.imm.toNat ∧ i.imm.toNat ≤ 14)
  else if i.op = 4 then decide (i.imm.toNat = 15 ∨ i.imm.toNat = 16)
  else if i.op = 5 ∨ i.op = 6 then decide (0 ≤ len ∧ (i.imm.toNat : Int) < len)
  else if i.op = 9 then decide (i.imm.toNat < 4)
  else if i.op = 15 then decide (1 ≤ i.imm.toNat ∧ i.imm.toNat ≤ 255)
  else true
def okI (i : Ins) (len : Int) : Bool :=
  decide (1 ≤ i.op ∧ i.op ≤ 15) && (regOk (hasA i.op) i.a && (regOk (hasB i.op) i.b && (regOk (hasC i.op) i.c && ((hasI i.op || decide (i.imm.toNat = 0)) && immOk i len))))
def kp (e : Int) (r : Rs) : Rs := (r.1, r.2.1, if e = 0 then r.2.2 else e)
def wordP (most : Int) (N : List Nd) (e : Int) (x : W64) : Rs := kp e (constN most N 64 x)
def isP (most : Int) (N : List Nd) (e id : Int) (x : W64) : Rs :=
  kp (wordP most N e x).2.2 (foldBin most (wordP most N e x).1 12 id (wordP most N e x).2.1)
def notP (most : Int) (N : List Nd) (e c : Int) : Rs := kp e (foldUn most N 15 c)
def addP (N : List Nd) (e : Int) (out : List Sy) (s : Sy) (c : Int) : List Sy :=
  if e ≠ 0 then out
  else if 0 ≤ c then match knownN N c with
    | some x => if x = 0 then out else out ++ [s]
    | none => out ++ [{ s with conds := s.conds ++ [c] }]
  else out ++ [s]
def Sy.next (s : Sy) : Sy := { s with pc := s.pc + 1 }
def Sy.set (s : Sy) (i : Ins) (id : Int) : Sy := { s.next with regs := s.regs.set i.a.toNat id }
def Sy.trap (s : Sy) (code : Int) : Sy := { s with en := 2, code := code }
def Sy.at (s : Sy) (i : Ins) : Sy := { s with pc := i.imm.toNat }
def Sy.call (s : Sy) (v : SDv) : Sy := { s.next with dev := v, calls := s.calls + 1 }
def Sy.reg (s : Sy) (r : Int) : Int := s.regs.getD r.toNat 0
abbrev Rp := List Nd × Int × List Sy
def addR (r : Rs) (out : List Sy) (s : Sy) : Rp := (r.1, r.2.2, addP r.1 r.2.2 out s r.2.1)
def plainR (N : List Nd) (e : Int) (s : Sy) : Rp := (N, e, addP N e [] s (-1))
def eachK (most : Int) (id : Int) (f : Nat → Sy) : Nat → Rp → Rp
  | 0, r => r
  | k + 1, r =>
    let r1 := eachK most id f k r
    addR (isP most r1.1 r1.2.1 id (BitVec.ofNat 64 k)) r1.2.2 (f k)
def eachP (most : Int) (N : List Nd) (e : Int) (s : Sy) (id : Int) (n : Nat) (code : Int) (f : Nat → Sy) : Rp :=
  match knownN N id with
  | some x => if x.toNat < n then plainR N e (f x.toNat) else plainR N e (s.trap code)
  | none =>
    let r := eachK most id f n (N, e, [])
    let w := wordP most r.1 r.2.1 (BitVec.ofNat 64 n)
    let l := kp w.2.2 (foldBin most w.1 13 id w.2.1)
    addR (notP most l.1 l.2.2 l.2.1) r.2.2 (s.trap code)
def Sy.load (s : Sy) (i : Ins) (k : Nat) : Sy := s.set i (s.cells.getD k 0)
def Sy.store (s : Sy) (i : Ins) (k : Nat) : Sy := { s.next with cells := s.cells.set k (s.reg i.b) }
def readN (s : Sy) (k : Nat) : Int := s.dev.pend.foldl (fun id w => if w.b = (k : Int) then w.v else id) (s.dev.disk.getD k 0)
def Sy.read (s : Sy) (i : Ins) (k : Nat) : Sy := s.set i (readN s k)
def Sy.write (s : Sy) (i : Ins) (mw : Int) (k : Nat) : Sy :=
  if mw ≤ (s.dev.pend.length : Int) then s.trap 259 else s.call { s.dev with pend := s.dev.pend ++ [⟨(k : Int), s.reg i.b, s.dev.ep⟩] }
def putN (disk : List Int) (pend : List SP) : List Int := pend.foldl (fun l w => if 0 ≤ w.b ∧ w.b < (l.length : Int) then l.set w.b.toNat w.v else l) disk
def Sy.flush (s : Sy) : Sy := s.call ⟨putN s.dev.disk s.dev.pend, [], 0⟩
def barN (d : SDv) : SDv := if d.pend.any (fun w => decide (w.e = d.ep)) then { d with ep := d.ep + 1 } else d
def inputP (most : Int) (N : List Nd) (e : Int) (i : Ins) (inputs : Int) : Rs :=
  if inputs < 0 ∨ inputs ≤ (i.imm.toNat : Int) then wordP most N e 0
  else
    let x := kp e (varN most N 8 (i.imm.toNat : Int))
    if x.2.2 ≠ 0 then (x.1, 0, x.2.2) else kp x.2.2 (foldExt most x.1 x.2.1 64)
def binP (most : Int) (N : List Nd) (e : Int) (s : Sy) (i : Ins) : Rs :=
  let x := kp e (foldBin most N (i.imm.toNat : Int) (s.reg i.b) (s.reg i.c))
  if x.2.2 = 0 ∧ (i.imm.toNat = 12 ∨ i.imm.toNat = 13 ∨ i.imm.toNat = 14) then kp x.2.2 (foldExt most x.1 x.2.1 64) else x
def setR (r : Rs) (s : Sy) (i : Ins) : Rp := plainR r.1 r.2.2 (s.set i r.2.1)
def branchP (most : Int) (N : List Nd) (e : Int) (s : Sy) (i : Ins) : Rp :=
  let z := isP most N e (s.reg i.a) 0
  let t := notP most z.1 z.2.2 z.2.1
  (t.1, t.2.2, addP t.1 t.2.2 (addP t.1 t.2.2 [] (s.at i) t.2.1) s.next z.2.1)
def stepI (most : Int) (N : List Nd) (s : Sy) (i : Ins) (inputs mw : Int) : Rp :=
  if i.op = 1 then setR (wordP most N 0 i.imm) s i
  else if i.op = 2 then plainR N 0 (s.set i (s.reg i.b))
  else if i.op = 3 then setR (binP most N 0 s i) s i
  else if i.op = 4 then setR (kp 0 (foldUn most N (i.imm.toNat : Int) (s.reg i.b))) s i
  else if i.op = 5 then plainR N 0 (s.at i)
  else if i.op = 6 then branchP most N 0 s i
  else if i.op = 7 then eachP most N 0 s (s.reg i.b) s.cells.length 257 (s.load i)
  else if i.op = 8 then eachP most N 0 s (s.reg i.a) s.cells.length 257 (s.store i)
  else if i.op = 9 then setR (inputP most N 0 i inputs) s i
  else if i.op = 10 then eachP most N 0 s (s.reg i.b) s.dev.disk.length 258 (s.read i)
  else if i.op = 11 then eachP most N 0 s (s.reg i.a) s.dev.disk.length 258 (s.write i mw)
  else if i.op = 12 then plainR N 0 s.flush
  else if i.op = 13 then plainR N 0 (s.call (barN s.dev))
  else if i.op = 14 then plainR N 0 { s with en := 1, value := s.reg i.a }
  else plainR N 0 (s.trap i.imm.toNat)
def fineN (N : List Nd) (s : Sy) : Bool := (s.regs ++ s.cells ++ s.dev.disk ++ s.dev.pend.map SP.v).all (fun id => decide (wdN N id = 64))
def insAt (code : List Ins) (pc : Int) : Option Ins := if 0 ≤ pc ∧ pc < (code.length : Int) then (match code[pc.toNat]? with
  | some i => if okI i code.length then some i else none
  | none => none) else none
def stepN (most : Int) (N : List Nd) (code : List Ins) (s : Sy) (inputs mw : Int) : Rp :=
  if s.en ≠ 0 then (N, 0, [])
  else if fineN N s = false then (N, 11, [])
  else match insAt code s.pc with
    | none => (N, 0, [({ s with steps := s.steps + 1 } : Sy).trap 256])
    | some i =>
      let r := stepI most N { s with steps := s.steps + 1 } i inputs mw
      if r.2.1 = 0 then r else (r.1, r.2.1, [])
end Go.Proofs.YtanjlgafjgoaaaaGreat
namespace Go.Proofs.YtanjlgafjgoaaaaGreat
open Go.Mw Go.Maps Go.MapKept
set_option linter.unusedVariables false
set_option linter.unusedSimpArgs false
set_option maxRecDepth 100000
attribute [local irreducible] M.val M.unit M.next M.pick M.new M.nilCheck M.load1 M.loadA M.store M.fieldAddr M.indexSl M.indexArr M.slice M.makeSlice M.buildSlice M.len M.lenS M.cap M.append M.extract M.conv M.not M.neg M.bin M.shift M.eqB M.eqNil M.scat M.call M.callv M.gd M.share M.cond M.loop M.draw pureW readW Ret
def sh10 (x0 x1 x2 : Value) (R : Kt) (w : World) : Prop :=
  M.new 39 (Value.cells x1) (fun t4 w =>
  M.new 48 #[.int .u64 0, .int .u64 0, .int .u64 0, .int .u64 0, .int .u64 0, .int .u64 0, .int .u64 0, .int .u64 0, .slice none 0 0, .int .i64 0, .int .i64 0, .int .i64 0, .int .i64 0, .int .i64 0, .int .u64 0, .slice none 0 0, .slice none 0 0, .int .i64 0] (fun t6 w =>
  pureW Tryz.prog (Instr.build 71 #[(0, x0), (1, x2)]) (fun t18 w =>
  M.new 71 (Value.cells t18) (fun t19 w =>
  M.share (fun K1 w =>
  M.draw (fun w =>
  M.fieldAddr 8 t4 (fun t20 w =>
  M.load1 t20 (fun t21 w =>
  M.fieldAddr 9 t4 (fun t25 w =>
  M.load1 t25 (fun t26 w =>
  M.fieldAddr 10 t4 (fun t27 w =>
  M.load1 t27 (fun t28 w =>
  M.fieldAddr 11 t4 (fun t29 w =>
  M.load1 t29 (fun t30 w =>
  M.fieldAddr 12 t4 (fun t31 w =>
  M.load1 t31 (fun t32 w =>
  M.fieldAddr 13 t4 (fun t33 w =>
  M.load1 t33 (fun t34 w =>
  M.fieldAddr 15 t4 (fun t36 w =>
  M.loadA 3 t36 (fun t37 w =>
  ((M.call Tryz.prog 17 #[t21, (.func (Fn.func 18) #[t19] #[])] (fun t24 w =>
  ((M.loadA 3 t36 (fun v' _ => v' = t37) w) ∧ ((M.load1 t33 (fun v' _ => v' = t34) w) ∧ ((M.load1 t31 (fun v' _ => v' = t32) w) ∧ ((M.load1 t29 (fun v' _ => v' = t30) w) ∧ ((M.load1 t27 (fun v' _ => v' = t28) w) ∧ ((M.load1 t25 (fun v' _ => v' = t26) w) ∧ ((M.call Tryz.prog 19 #[t19, t37] (fun t38 w =>
  ((M.load1 t33 (fun v' _ => v' = t34) w) ∧ ((M.load1 t31 (fun v' _ => v' = t32) w) ∧ ((M.load1 t29 (fun v' _ => v' = t30) w) ∧ ((M.load1 t27 (fun v' _ => v' = t28) w) ∧ ((M.load1 t25 (fun v' _ => v' = t26) w) ∧ pureW Tryz.prog (Instr.build 48 #[(1, t24), (2, t26), (3, t28), (4, t30), (5, t32), (6, t34), (8, t38)]) (fun t39 w =>
  M.new 48 #[.int .u64 0, .int .u64 0, .int .u64 0, .int .u64 0, .int .u64 0, .int .u64 0, .int .u64 0, .int .u64 0, .slice none 0 0, .int .i64 0, .int .i64 0, .int .i64 0, .int .i64 0, .int .i64 0, .int .u64 0, .slice none 0 0, .slice none 0 0, .int .i64 0] (fun t10 w =>
  ((M.load1 t33 (fun v' _ => v' = t34) w) ∧ ((M.load1 t31 (fun v' _ => v' = t32) w) ∧ ((M.load1 t29 (fun v' _ => v' = t30) w) ∧ ((M.load1 t27 (fun v' _ => v' = t28) w) ∧ ((M.load1 t25 (fun v' _ => v' = t26) w) ∧ M.store 18 t10 t39 (fun _ w =>
  K1 [t10] w) w)))))) w) w)))))) w) ∧
   (M.new 48 #[.int .u64 0, .int .u64 0, .int .u64 0, .int .u64 0, .int .u64 0, .int .u64 0, .int .u64 0, .int .u64 0, .slice none 0 0, .int .i64 0, .int .i64 0, .int .i64 0, .int .i64 0, .int .i64 0, .int .u64 0, .slice none 0 0, .slice none 0 0, .int .i64 0] (fun t10_2 w =>
  ((M.loadA 3 t36 (fun v' _ => v' = t37) w) ∧ ((M.load1 t33 (fun v' _ => v' = t34) w) ∧ ((M.load1 t31 (fun v' _ => v' = t32) w) ∧ ((M.load1 t29 (fun v' _ => v' = t30) w) ∧ ((M.load1 t27 (fun v' _ => v' = t28) w) ∧ ((M.load1 t25 (fun v' _ => v' = t26) w) ∧ M.call Tryz.prog 19 #[t19, t37] (fun t38_2 w =>
  ((M.load1 t33 (fun v' _ => v' = t34) w) ∧ ((M.load1 t31 (fun v' _ => v' = t32) w) ∧ ((M.load1 t29 (fun v' _ => v' = t30) w) ∧ ((M.load1 t27 (fun v' _ => v' = t28) w) ∧ ((M.load1 t25 (fun v' _ => v' = t26) w) ∧ pureW Tryz.prog (Instr.build 48 #[(1, t24), (2, t26), (3, t28), (4, t30), (5, t32), (6, t34), (8, t38_2)]) (fun t39_2 w =>
  M.store 18 t10_2 t39_2 (fun _ w =>
  K1 [t10_2] w) w) w)))))) w))))))) w))))))))) w) ∧
   (M.new 48 #[.int .u64 0, .int .u64 0, .int .u64 0, .int .u64 0, .int .u64 0, .int .u64 0, .int .u64 0, .int .u64 0, .slice none 0 0, .int .i64 0, .int .i64 0, .int .i64 0, .int .i64 0, .int .i64 0, .int .u64 0, .slice none 0 0, .slice none 0 0, .int .i64 0] (fun t10_3 w =>
  ((M.loadA 3 t36 (fun v' _ => v' = t37) w) ∧ ((M.load1 t33 (fun v' _ => v' = t34) w) ∧ ((M.load1 t31 (fun v' _ => v' = t32) w) ∧ ((M.load1 t29 (fun v' _ => v' = t30) w) ∧ ((M.load1 t27 (fun v' _ => v' = t28) w) ∧ ((M.load1 t25 (fun v' _ => v' = t26) w) ∧ ((M.load1 t20 (fun v' _ => v' = t21) w) ∧ M.call Tryz.prog 17 #[t21, (.func (Fn.func 18) #[t19] #[])] (fun t24_2 w =>
  ((M.loadA 3 t36 (fun v' _ => v' = t37) w) ∧ ((M.load1 t33 (fun v' _ => v' = t34) w) ∧ ((M.load1 t31 (fun v' _ => v' = t32) w) ∧ ((M.load1 t29 (fun v' _ => v' = t30) w) ∧ ((M.load1 t27 (fun v' _ => v' = t28) w) ∧ ((M.load1 t25 (fun v' _ => v' = t26) w) ∧ M.call Tryz.prog 19 #[t19, t37] (fun t38_3 w =>
  ((M.load1 t33 (fun v' _ => v' = t34) w) ∧ ((M.load1 t31 (fun v' _ => v' = t32) w) ∧ ((M.load1 t29 (fun v' _ => v' = t30) w) ∧ ((M.load1 t27 (fun v' _ => v' = t28) w) ∧ ((M.load1 t25 (fun v' _ => v' = t26) w) ∧ pureW Tryz.prog (Instr.build 48 #[(1, t24_2), (2, t26), (3, t28), (4, t30), (5, t32), (6, t34), (8, t38_3)]) (fun t39_3 w =>
  M.store 18 t10_3 t39_3 (fun _ w =>
  K1 [t10_3] w) w) w)))))) w))))))) w)))))))) w))) w) w) w) w) w) w) w) w) w) w) w) w) w) w) w) (fun s1 w => ∀ _ : List Value,
  M.fieldAddr 0 t4 (fun t40 w =>
  M.loadA 8 t40 (fun t41 w =>
  M.loop [(Value.int IntKind.i64 0)] (fun s2 K2 w => ∀ _ : List Value,
  M.bin .lss (s2.getD 0 undef) (Value.int IntKind.i64 8) (fun t43 w =>
  M.cond t43
  (pureW Tryz.prog (Instr.index 37 t41 (s2.getD 0 undef)) (fun t45 w =>
  M.call Tryz.prog 18 #[t19, t45] (fun t49 w =>
  M.fieldAddr 0 (s1.getD 0 undef) (fun t50 w =>
  M.indexArr 8 1 t50 (s2.getD 0 undef) (fun t51 w =>
  M.store 1 t51 t49 (fun _ w =>
  M.bin .add (s2.getD 0 undef) (Value.int IntKind.i64 1) (fun t52 w =>
  K2 [t52] w) w) w) w) w) w) w)
  (M.share (fun K3 w =>
  M.fieldAddr 12 t4 (fun t53 w =>
  M.load1 t53 (fun t54 w =>
  M.bin .eql t54 (Value.int IntKind.i64 1) (fun t55 w =>
  M.cond t55
  (M.fieldAddr 14 t4 (fun t57 w =>
  M.load1 t57 (fun t58 w =>
  M.call Tryz.prog 18 #[t19, t58] (fun t59 w =>
  M.fieldAddr 14 (s1.getD 0 undef) (fun t60 w =>
  M.store 1 t60 t59 (fun _ w =>
  K3 [] w) w) w) w) w) w)
  (K3 [] w)) w) w) w) (fun s3 w => ∀ _ : List Value,
  M.fieldAddr 18 t4 (fun t61 w =>
  M.load1 t61 (fun t62 w =>
  M.call Tryz.prog 17 #[t62, (.func (Fn.func 18) #[t19] #[])] (fun t65 w =>
  M.len t65 (fun t66 w =>
  M.loop [(Value.bool true), (Value.int IntKind.i64 0)] (fun s4 K4 w => ∀ _ : List Value,
  M.bin .lss (s4.getD 1 undef) t66 (fun t68 w =>
  M.cond t68
  (M.indexSl 1 t65 (s4.getD 1 undef) (fun t69 w =>
  M.load1 t69 (fun t70 w =>
  M.gd (s4.getD 0 undef) true (fun k w => k t70 w) (fun t73 w =>
  M.gd (s4.getD 0 undef) true (fun k w => M.bin .eql t73 (Value.int IntKind.u64 1) k w) (fun t74 w =>
  M.pick (s4.getD 0 undef) t74 (Value.bool false) (fun t75 w =>
  M.bin .add (s4.getD 1 undef) (Value.int IntKind.i64 1) (fun t76 w =>
  K4 [t75, t76] w) w) w) w) w) w) w)
  (M.nilCheck t19 (fun t78 w =>
  M.fieldAddr 2 t78 (fun t79 w =>
  M.load1 t79 (fun t80 w =>
  M.cond t80
  (pureW Tryz.prog (Instr.build 48 #[]) (fun t81 w =>
  M.store 18 t6 t81 (fun _ w =>
  M.loadA 18 t6 (fun r0 w => R (.tuple #[r0, (Value.bool false), (Value.int IntKind.i64 11)]) w) w) w) w)
  (M.loadA 18 (s1.getD 0 undef) (fun t82 w =>
  M.store 18 t6 t82 (fun _ w =>
  M.loadA 18 t6 (fun r0 w => R (.tuple #[r0, (s4.getD 0 undef), (Value.int IntKind.i64 0)]) w) w) w) w)) w) w) w)) w) w) w) w) w) w) w)) w) w) w) w) w) w) w) w) w
theorem ok10 (x0 x1 x2 : Value) (R : Kt) (w : World) (h : sh10 x0 x1 x2 R w) : Ret Tryz.prog 10 #[x0, x1, x2] w R :=
  ret_mk <| calls_of_comp mixed (c := Tryz.f10.body.getD .skip) (args := [x0, x1, x2]) (rs := [(ResultVar.cell 6 48), (ResultVar.tmp 7), (ResultVar.tmp 8)]) (Ann.seq Ann.text (Ann.seq Ann.text (Ann.join [10] [20, 21, 22, 23, 24, 25, 26, 27, 28, 29, 30, 31, 32, 33, 34, 35, 36, 37, 38, 39] (Ann.draw (Sch.take 0 (Sch.take 1 (Sch.take 2 (Sch.take 3 (Sch.take 5 (Sch.take 6 (Sch.take 7 (Sch.take 8 (Sch.take 9 (Sch.take 10 (Sch.take 11 (Sch.take 12 (Sch.take 13 (Sch.take 14 (Sch.take 15 (Sch.take 16 (Sch.take 17 (Sch.two 4 20 (Sch.two 18 20 (Sch.take 19 (Sch.one 20 (Sch.one 21 Sch.done))) (Sch.one 18 (Sch.take 19 (Sch.one 21 Sch.done)))) (Sch.one 4 (Sch.one 18 (Sch.take 19 (Sch.one 21 Sch.done))))))))))))))))))))))) (Ann.seq (Ann.seq Ann.text (Ann.block (Ann.loop [42] [11, 12, 43, 44, 45, 46, 47, 48, 49, 50, 51, 52] (Ann.seq Ann.text (Ann.seq (Ann.cond Ann.leaf Ann.leaf) (Ann.seq (Ann.block (Ann.seq Ann.text Ann.text)) Ann.text)))))) (Ann.join [] [53, 54, 55, 56, 57, 58, 59, 60] (Ann.seq Ann.text (Ann.cond Ann.text Ann.leaf)) (Ann.seq Ann.text (Ann.seq (Ann.seq Ann.text (Ann.block (Ann.loop [13, 67] [15, 68, 69, 70, 71, 72, 73, 74, 75, 76] (Ann.seq Ann.text (Ann.seq (Ann.cond Ann.leaf Ann.leaf) (Ann.seq (Ann.block (Ann.seq Ann.text Ann.text)) Ann.text)))))) (Ann.seq (Ann.seq Ann.text (Ann.cond (Ann.seq Ann.text Ann.leaf) Ann.leaf)) (Ann.seq Ann.text Ann.leaf)))))))))
    Tryz.func10 (by kernel_rfl) (by kernel_rfl)
    (Eq.mp (by kernel_rfl) h)
theorem M.arr_i {k : Kt} {w : World} {len : Nat} {d : IntKind} {i : Int} {b o : Nat} (h0 : 0 ≤ i) (h1 : i < len) (h : k (.pointer (some ⟨b, o + i.toNat * 1, none⟩)) w) : M.indexArr len 1 (.pointer (some ⟨b, o, none⟩)) (.int d i) k w := by
  unfold M.indexArr; simp only [add_mk]; exact ⟨⟨h0, h1⟩, h⟩
theorem M.stA_i {w : World} {b o n : Nat} {l : List Value} {X : Prop} (hb : Blk w b l) (hn : o + n ≤ l.length) (h : X) :
    M.loadA n (.pointer (some ⟨b, o, none⟩)) (fun v' _ => v' = .agg ⟨(l.drop o).take n⟩) w ∧ X := ⟨M.loadA_i hb hn rfl, h⟩
theorem M.loadP_i {k : Kt} {w : World} {b o n : Nat} {l r : List Value} (hb : Blk w b l) (hn : o + n ≤ l.length) (hr : (l.drop o).take n = r) (h : k (.agg ⟨r⟩) w) : M.loadA n (.pointer (some ⟨b, o, none⟩)) k w := by
  subst hr; exact M.loadA_i hb hn h
theorem fill_set {xs ys tail : List Value} {i : Nat} (h : xs.length = ys.length) (hi : i < xs.length) : (xs.take i ++ ys.drop i ++ tail).set i xs[i] = xs.take (i + 1) ++ ys.drop (i + 1) ++ tail := by
  rw [List.append_assoc, List.set_append_right _ _ (by simp; omega), List.length_take, Nat.min_eq_left (by omega), Nat.sub_self, List.take_succ_eq_append_getElem hi, List.append_assoc, List.append_assoc, List.drop_eq_getElem_cons (by omega : i < ys.length)]
  rfl
theorem idx8 {rs : List Int} (h : rs.length = 8) {i : Nat} (hi : i < 8) (w : World) : (Instr.index 37 (.agg ⟨rs.map vi⟩) (vi i)).run Tryz.prog w = .ok (vi (rs[i]'(by omega))) w := by
  obtain ⟨r0, r1, r2, r3, r4, r5, r6, r7, rfl⟩ := eight h
  match i, hi with
  | 0, _ => show (Instr.index 37 (.agg #[vi r0, vi r1, vi r2, vi r3, vi r4, vi r5, vi r6, vi r7]) (vi 0)).run Tryz.prog w = .ok (vi r0) w; kernel_rfl
  | 1, _ => show (Instr.index 37 (.agg #[vi r0, vi r1, vi r2, vi r3, vi r4, vi r5, vi r6, vi r7]) (vi 1)).run Tryz.prog w = .ok (vi r1) w; kernel_rfl
  | 2, _ => show (Instr.index 37 (.agg #[vi r0, vi r1, vi r2, vi r3, vi r4, vi r5, vi r6, vi r7]) (vi 2)).run Tryz.prog w = .ok (vi r2) w; kernel_rfl
  | 3, _ => show (Instr.index 37 (.agg #[vi r0, vi r1, vi r2, vi r3, vi r4, vi r5, vi r6, vi r7]) (vi 3)).run Tryz.prog w = .ok (vi r3) w; kernel_rfl
  | 4, _ => show (Instr.index 37 (.agg #[vi r0, vi r1, vi r2, vi r3, vi r4, vi r5, vi r6, vi r7]) (vi 4)).run Tryz.prog w = .ok (vi r4) w; kernel_rfl
  | 5, _ => show (Instr.index 37 (.agg #[vi r0, vi r1, vi r2, vi r3, vi r4, vi r5, vi r6, vi r7]) (vi 5)).run Tryz.prog w = .ok (vi r5) w; kernel_rfl
  | 6, _ => show (Instr.index 37 (.agg #[vi r0, vi r1, vi r2, vi r3, vi r4, vi r5, vi r6, vi r7]) (vi 6)).run Tryz.prog w = .ok (vi r6) w; kernel_rfl
  | 7, _ => show (Instr.index 37 (.agg #[vi r0, vi r1, vi r2, vi r3, vi r4, vi r5, vi r6, vi r7]) (vi 7)).run Tryz.prog w = .ok (vi r7) w; kernel_rfl
def stOf (N : List Nd) (env : List W64) (s : Sy) : St :=
  ⟨s.regs.map (valW N env), s.cells.map (valW N env), s.pc, s.steps, s.calls, s.en, s.code, if s.en = 1 then valW N env s.value else 0, devOf N env s.dev⟩
def stBad (N : List Nd) (s : Sy) : Bool :=
  ((((s.cells.any (fun i => !isN N i) || devBad N s.dev) || s.regs.any (fun i => !isN N i)) || (decide (s.en = 1) && !isN N s.value)) || s.conds.any (fun i => !isN N i))
def stHolds (N : List Nd) (env : List W64) (s : Sy) : Bool := (s.conds.map (valW N env)).all (fun x => decide (x = 1))
def St0 : St := ⟨List.replicate 8 0, [], 0, 0, 0, 0, 0, 0, ⟨[], [], 0⟩⟩
def Sy.few (s : Sy) : Prop := s.cells.length ≤ 1000000 ∧ s.dev.few ∧ s.conds.length ≤ 1000000
abbrev zSt : List Value := [vw 0, vw 0, vw 0, vw 0, vw 0, vw 0, vw 0, vw 0, .slice none 0 0, vi 0, vi 0, vi 0, vi 0, vi 0, vw 0, .slice none 0 0, .slice none 0 0, vi 0]
theorem st0_o (w : World) (D : Nat → Prop) : StO w D (.agg ⟨zSt⟩) St0 := ⟨rfl, _, _, _, rfl, LV.nil _ _ _, LV.nil _ _ _, LN.nil _ _ _⟩
theorem Rdr.keep' {w w' : World} {F De : Nat → Prop} {p rb pn : Nat} {N : List Nd} {most : Int} {ev : Value} {env : List W64} {bad : Bool} (h : Rdr w F p N most De ev env rb bad) (k : Keep w w' (· = pn)) (hr : rb ≠ pn) (hF : ¬ F pn) (hD : ¬ De pn) : Rdr w' F p N most De ev env rb bad :=
  ⟨h.dag.keep k (fun b hb h' => hF (h' ▸ hb)), h.words.keep k (fun b _ hb h' => hD (h' ▸ hb)), h.blk.keep k hr, h.nF, h.nD, h.small⟩
section
variable {w : World} {F De : Nat → Prop} {p : Nat} {N : List Nd} {most : Int} {ev : Value} {env : List W64}
set_option maxHeartbeats 4000000 in
theorem of_ret {D : Nat → Prop} {sv : Value} {s : Sy} (hd : DagO w F p N most) (he : LV vw w De ev env) (hel : env.length ≤ 1000000) (hs : SyO w D sv s) (hf : s.few) :
    Ret Tryz.prog 10 #[ptr p, sv, ev] w (fun r w' => ∃ v, r = .tuple #[v, .bool (if stBad N s then false else stHolds N env s), vi (if stBad N s then 11 else 0)] ∧ StO w' (w.heap.size ≤ ·) v (if stBad N s then St0 else stOf N env s) ∧ Keep w w' No) := by
  obtain ⟨hf1, hf2, hf3⟩ := hf
  have hs := hs.mono (D' := fun b => D b ∧ b < w.heap.size) (fun b hb h => ⟨h, hb⟩)
  have he := he.mono (D' := fun b => De b ∧ b < w.heap.size) (fun b hb h => ⟨h, hb⟩)
  obtain ⟨h8, c, a, b, cd, rfl, hc, hdv, hcd⟩ := hs
  obtain ⟨regs, cells, pc, steps, calls, en, code, value, dev, conds⟩ := s
  simp only at h8 hc hdv hcd hf1 hf2 hf3
  obtain ⟨E, ce, rfl, _, _⟩ := id he
  refine ok10 _ _ _ _ _ ?_
  unfold sh10
  have he8 := eight h8
  obtain ⟨r0, r1, r2, r3, r4, r5, r6, r7, hrs⟩ := he8
  have hvals : Sy.vals ⟨regs, cells, pc, steps, calls, en, code, value, dev, conds⟩ c a b cd = [vi r0, vi r1, vi r2, vi r3, vi r4, vi r5, vi r6, vi r7, c, vi pc, vi steps, vi calls, vi en, vi code, vi value, a, b, vi dev.ep, cd] := by rw [hrs]; rfl
  rw [hvals]
  refine M.new_i (l := [vi r0, vi r1, vi r2, vi r3, vi r4, vi r5, vi r6, vi r7, c, vi pc, vi steps, vi calls, vi en, vi code, vi value, a, b, vi dev.ep, cd]) (fun w1 b1 k1 s1 => ?_)
  refine M.new_i (l := zSt) (fun w2 b2 k2 s2 => ?_)
  have b1 := b1.keep k2 (fun h => h)
  refine M.pure_i (.agg ⟨[ptr p, .slice E env.length ce, .bool false]⟩) (fun _ => by kernel_rfl) ?_
  refine M.new_i (l := [ptr p, .slice E env.length ce, .bool false]) (fun w3 b3 k3 s3 => ?_)
  have b1 := b1.keep k3 (fun h => h)
  have b2 := b2.keep k3 (fun h => h)
  have k03 := (k1.trans k2 (fun _ _ h => h)).trans k3 (fun _ _ h => h)
  have hR : Rdr w3 F p N most (fun b => De b ∧ b < w.heap.size) (.slice E env.length ce) env w2.heap.size false :=
    ⟨hd.keepN k03, he.keep k03 (fun _ _ _ h => h), b3, fun h => by have := hd.lt h; omega, fun h => by have := h.2; omega, hel⟩
  have hc := hc.keep k03 (fun _ _ _ h => h)
  have hdv := hdv.keep k03 (fun _ _ _ h => h)
  have hcd := hcd.keep k03 (fun _ _ _ h => h)
  have hDr : ¬ (D w2.heap.size ∧ w2.heap.size < w.heap.size) := fun h => by have := h.2; omega
  clear he
  refine M.share_j (fun vals w' => ∃ pn cs da db, vals = [ptr pn] ∧ w3.heap.size ≤ pn ∧ Blk w' pn [vw 0, vw 0, vw 0, vw 0, vw 0, vw 0, vw 0, vw 0, cs, vi pc, vi steps, vi calls, vi en, vi code, vw 0, da, db, vi dev.ep] ∧ LV vw w' (fun b => w3.heap.size ≤ b ∧ b ≠ pn) cs (cells.map (valW N env)) ∧ DvO w' (fun b => w3.heap.size ≤ b ∧ b ≠ pn) da db (devOf N env dev) ∧ Rdr w' F p N most (fun b => De b ∧ b < w.heap.size) (.slice E env.length ce) env w2.heap.size ((false || cells.any (fun i => !isN N i)) || devBad N dev) ∧ Keep w3 w' (· = w2.heap.size)) ?_ ?_
  · rintro vals w4 ⟨pn, cs, da, db, rfl, hpn, bn, hcs, hdd, h4, k4⟩ _
    simp only [List.getD_cons_zero, List.getD_cons_succ]
    have b1 := b1.keep k4 (fun h => by omega)
    have b2 := b2.keep k4 (fun h => by omega)
    have hcd := hcd.keep k4 (fun b hb h e => by have := h.2; omega)
    have q4 := k4.size
    have hpl := bn.lt
    refine M.field_i ?_
    refine M.loadP_i (r := regs.map vi) b1 (by simp) (by rw [hrs]; rfl) ?_
    refine M.loop_i (σ := Nat) (fun n vals w' => ∃ i : Nat, n = 8 - i ∧ i ≤ 8 ∧ vals = [vi i] ∧ Blk w' pn (((regs.map (valW N env)).map vw).take i ++ (List.replicate 8 (vw 0)).drop i ++ [cs, vi pc, vi steps, vi calls, vi en, vi code, vw 0, da, db, vi dev.ep]) ∧ Rdr w' F p N most (fun b => De b ∧ b < w.heap.size) (.slice E env.length ce) env w2.heap.size (((false || cells.any (fun i => !isN N i)) || devBad N dev) || (regs.take i).any (fun i => !isN N i)) ∧ Keep w4 w' (fun b => b = w2.heap.size ∨ b = pn)) id 8
      ⟨0, rfl, by omega, rfl, bn, by simpa using h4, Keep.refl _ _⟩ ?_
    rintro n vals w5 K ⟨i, rfl, hi, rfl, bn5, h5, k5⟩ hK _
    simp only [List.getD_cons_zero, List.getD_cons_succ]
    by_cases hlt : i < 8
    · refine M.lss_t (by omega) ?_
      refine M.cond_t ?_
      refine M.pure_i (vi (regs[i]'(by omega))) (idx8 h8 hlt) ?_
      refine M.call_i (word_ret h5 _) ?_; rintro _ w6 ⟨rfl, h6, k6⟩
      have bn6 := bn5.keep k6 (fun h => by omega)
      refine M.field_i ?_
      refine M.arr_i (by omega) (by omega) ?_
      have e0 : 0 + 0 + (i : Int).toNat * 1 = i := by omega
      rw [e0]
      refine M.store_i bn6 (by simp; omega) rfl (fun w7 b7 k7 s7 => ?_)
      have hW : ((regs.map (valW N env)).map vw).length = (List.replicate 8 (vw 0)).length := by simp [h8]
      have hiW : i < ((regs.map (valW N env)).map vw).length := by simp [h8]; omega
      have fs := fill_set (tail := [cs, vi pc, vi steps, vi calls, vi en, vi code, vw 0, da, db, vi dev.ep]) hW hiW
      rw [show ((regs.map (valW N env)).map vw)[i] = vw (valW N env (regs[i]'(by omega))) by simp] at fs
      rw [fs] at b7
      refine M.add_i (by omega) (by omega) ?_
      have et : regs.take (i + 1) = regs.take i ++ [regs[i]'(by omega)] := List.take_succ_eq_append_getElem (by omega)
      refine hK (8 - (i + 1)) _ _ (by show 8 - (i + 1) < 8 - i; omega) ⟨i + 1, rfl, by omega, rfl, b7, ?_, ?_⟩
      · rw [et, List.any_append, List.any_cons, List.any_nil, Bool.or_false, ← Bool.or_assoc]
        exact h6.keep' k7 (fun h => by omega) (fun h => by have := hd.lt h; have := k03.size; omega) (fun h => by have := h.2; have := k03.size; omega)
      · exact (k5.trans k6 (fun _ _ h => .inl h)).trans k7 (fun _ _ h => .inr h)
    · have : i = 8 := by omega
      subst this
      have bn5 : Blk w5 pn [vw (valW N env r0), vw (valW N env r1), vw (valW N env r2), vw (valW N env r3), vw (valW N env r4), vw (valW N env r5), vw (valW N env r6), vw (valW N env r7), cs, vi pc, vi steps, vi calls, vi en, vi code, vw 0, da, db, vi dev.ep] := by rw [hrs] at bn5; exact bn5
      rw [show regs.take 8 = regs by rw [← h8, List.take_length]] at h5
      have b1 := b1.keep k5 (fun h => by omega)
      have b2 := b2.keep k5 (fun h => by omega)
      have hcd := hcd.keep k5 (fun b hb h e => by have := h.2; have := k03.size; omega)
      clear hK
      refine M.lss_f (by omega) ?_
      refine M.cond_f ?_
      refine M.share_j (fun vals w' => Blk w' pn [vw (valW N env r0), vw (valW N env r1), vw (valW N env r2), vw (valW N env r3), vw (valW N env r4), vw (valW N env r5), vw (valW N env r6), vw (valW N env r7), cs, vi pc, vi steps, vi calls, vi en, vi code, vw (if en = 1 then valW N env value else 0), da, db, vi dev.ep] ∧ Rdr w' F p N most (fun b => De b ∧ b < w.heap.size) (.slice E env.length ce) env w2.heap.size ((((false || cells.any (fun i => !isN N i)) || devBad N dev) || regs.any (fun i => !isN N i)) || (decide (en = 1) && !isN N value)) ∧ Keep w5 w' (fun b => b = w2.heap.size ∨ b = pn)) ?_ ?_
      · rintro vals w6 ⟨bn6, h6, k6⟩ _
        have b1 := b1.keep k6 (fun h => by omega)
        have b2 := b2.keep k6 (fun h => by omega)
        have hcd := hcd.keep k6 (fun b hb h e => by have := h.2; have := k03.size; omega)
        (repeat (first|refine jc ?_|refine jN (by assumption) rfl ?_))
        refine M.call_i (each_ret h6 hcd hf3 hDr) ?_; rintro xs w7 ⟨g7, h7, k7⟩
        have q5 := k5.size; have q6 := k6.size; have q7 := k7.size
        have b2 := b2.keep k7 (fun h => by omega)
        have bn7 := bn6.keep k7 (fun h => by omega)
        obtain ⟨X, cx, rfl, hxr, _⟩ := GW.lv g7
        (repeat (refine ja ?_))
        refine M.loop_i (σ := Nat) (fun n vals w' => ∃ i : Nat, n = conds.length - i ∧ i ≤ conds.length ∧ vals = [.bool (((conds.map (valW N env)).take i).all (fun x => decide (x = 1))), vi i] ∧ w' = w7) id conds.length ⟨0, rfl, by omega, by simp, rfl⟩ ?_
        rintro n vals w8 K ⟨i, rfl, hi, rfl, rfl⟩ hK _
        simp only [List.getD_cons_zero, List.getD_cons_succ]
        rw [List.length_map]
        by_cases hlt : i < conds.length
        · refine M.lss_t (by omega) ?_
          refine M.cond_t ?_
          have hlt' : i < (conds.map (valW N env)).length := by simpa using hlt
          refine M.idxLV_i hxr (List.length_map _) (by omega) (by omega) (x := (conds.map (valW N env))[i]) (by rw [Int.toNat_natCast]; exact List.getElem?_eq_getElem hlt') (fun bb oo hA hcc => ?_)
          refine M.load_i hcc ?_
          have et : (conds.map (valW N env)).take (i + 1) = (conds.map (valW N env)).take i ++ [(conds.map (valW N env))[i]] := List.take_succ_eq_append_getElem hlt'
          have fin : ∀ v, v = .bool (((conds.map (valW N env)).take (i + 1)).all (fun x => decide (x = 1))) → K [v, vi (i + 1)] w8 := fun v hv => hK (conds.length - (i + 1)) _ _ (by show conds.length - (i + 1) < conds.length - i; omega) ⟨i + 1, rfl, by omega, by rw [hv]; rfl, rfl⟩
          rw [et, List.all_append, List.all_cons, List.all_nil, Bool.and_true] at fin
          cases hb : ((conds.map (valW N env)).take i).all (fun x => decide (x = 1)) with
          | true =>
            rw [hb] at fin
            (repeat (refine jf ?_))
            change M.bin .eql (vw (conds.map (valW N env))[i]) (vw 1) _ _
            refine M.eqlW_i ?_
            (repeat (first|refine jk ?_|refine jK ?_))
            exact fin _ (by simp)
          | false =>
            rw [hb] at fin
            (repeat (first|refine jh ?_|refine jl ?_|refine jK ?_))
            exact fin _ (by simp)
        · have : i = conds.length := by omega
          subst this
          have ho : ((conds.map (valW N env)).take conds.length).all (fun x => decide (x = 1)) = stHolds N env ⟨regs, cells, pc, steps, calls, en, code, value, dev, conds⟩ := by
            unfold stHolds
            rw [List.take_of_length_le (by simp)]
          rw [ho]
          have eB : (((((false || cells.any (fun i => !isN N i)) || devBad N dev) || regs.any (fun i => !isN N i)) || (decide (en = 1) && !isN N value)) || conds.any (fun i => !isN N i)) = stBad N ⟨regs, cells, pc, steps, calls, en, code, value, dev, conds⟩ := by simp only [stBad, Bool.false_or]
          rw [eB] at h7
          have hb7 := h7.blk
          have kk : Keep w w8 No := ((((k03.trans k4 (fun b hb h => by omega)).trans k5 (fun b hb h => by omega)).trans k6 (fun b hb h => by omega)).trans k7 (fun b hb h => by omega))
          refine M.lss_f (by omega) ?_
          refine M.cond_f ?_
          have hcs8 := (((hcs.keep k5 (fun b hb h e => by rcases e with e | e; have := h.1; omega; exact h.2 e)).keep k6 (fun b hb h e => by rcases e with e | e; have := h.1; omega; exact h.2 e)).keep k7 (fun b hb h e => by have := h.1; omega))
          have hdd8 := (((hdd.keep k5 (fun b hb h e => by rcases e with e | e; have := h.1; omega; exact h.2 e)).keep k6 (fun b hb h e => by rcases e with e | e; have := h.1; omega; exact h.2 e)).keep k7 (fun b hb h e => by have := h.1; omega))
          have q03 := k03.size
          cases hbad : stBad N ⟨regs, cells, pc, steps, calls, en, code, value, dev, conds⟩ with
          | true =>
            rw [hbad] at hb7
            (repeat (first|refine jb ?_|refine jc ?_|refine jo ?_|refine jN (by assumption) rfl ?_))
            refine M.pure_i (.agg ⟨zSt⟩) (fun _ => by kernel_rfl) ?_
            refine M.storeAll_i b2 rfl rfl (List.all_eq_true.1 rfl) (fun w9 b9 k9 s9 => ?_)
            refine M.loadAll_i b9 rfl ?_
            exact ⟨_, rfl, st0_o _ _, kk.trans k9 (fun b hb h => by omega)⟩
          | false =>
            rw [hbad] at hb7
            (repeat (first|refine jb ?_|refine jc ?_|refine jp ?_|refine jN (by assumption) rfl ?_))
            refine M.loadAll_i bn7 rfl ?_
            refine M.storeAll_i b2 rfl rfl (by
              have o1 := LV.one hcs8
              have o2 := LV.one hdd8.1
              have o3 := LN.one hdd8.2
              refine List.all_eq_true.1 ?_
              simp only [List.all_cons, List.all_nil, o1, o2, o3]
              rfl) (fun w9 b9 k9 s9 => ?_)
            refine M.loadAll_i b9 rfl ?_
            refine ⟨_, rfl, ⟨by simp [stOf, h8], cs, da, db, by subst hrs; rfl, ?_, ?_⟩, kk.trans k9 (fun b hb h => by omega)⟩
            · exact (hcs8.keep k9 (fun b hb h e => by have := h.1; omega)).mono (fun b hb h => by have := h.1; show w.heap.size ≤ b; omega)
            · exact (hdd8.keep k9 (fun b hb h e => by have := h.1; omega)).mono (fun b hb h => by have := h.1; show w.heap.size ≤ b; omega)
      · intro K3 hK3
        (repeat (first|refine jc ?_|refine jN (by assumption) rfl ?_))
        by_cases hen : en = 1
        · refine M.eql_t hen ?_
          rw [if_pos hen, decide_eq_true hen, Bool.true_and] at hK3
          (repeat (first|refine jc ?_|refine jo ?_|refine jN (by assumption) rfl ?_))
          refine M.call_i (word_ret h5 value) ?_; rintro _ w6 ⟨rfl, h6, k6⟩
          have bn6 := bn5.keep k6 (fun h => by omega)
          (repeat (refine jc ?_))
          refine M.store_i bn6 (by simp) rfl (fun w7 b7 k7 s7 => ?_)
          refine hK3 _ _ ⟨b7, ?_, (k6.mono (fun _ _ h => .inl h)).trans k7 (fun _ _ h => .inr h)⟩
          exact h6.keep' k7 (fun h => by omega) (fun h => by have := hd.lt h; have := k03.size; omega) (fun h => by have := h.2; have := k03.size; omega)
        · refine M.eql_f hen ?_
          rw [if_neg hen, decide_eq_false hen, Bool.false_and, Bool.or_false] at hK3
          (repeat (refine jp ?_))
          exact hK3 _ _ ⟨bn5, h5, Keep.refl _ _⟩
  · intro K hK
    refine M.draw_i ?_
    have hR := hR.keep (Keep.drew w3 No)
    have hc := hc.keep (Keep.drew w3 No) (fun _ _ _ h => h)
    have hdv := hdv.keep (Keep.drew w3 No) (fun _ _ _ h => h)
    have b1 := b1.keep (Keep.drew w3 No) (fun h => h)
    have e3 : w3.drew.heap.size = w3.heap.size := rfl
    have kd : Keep w3 w3.drew No := Keep.drew w3 No
    revert e3 kd b1 hc hdv hR
    generalize w3.drew = w4
    intro hR hc hdv b1 e3 kd
    (repeat (first|refine jc ?_|refine jN (by assumption) rfl ?_))
    refine M.loadA_i b1 (by simp) ?_
    refine ⟨?_, ?_⟩
    · refine M.call_i (each_ret hR hc hf1 hDr) ?_; rintro cs w5 ⟨g5, h5, k5⟩
      have b1 := b1.keep k5 (fun h => by omega)
      have hdv5 := hdv.keep k5 (fun b _ hb e => hDr (e ▸ hb))
      have hrl := hR.blk.lt
      refine M.stA_i b1 (by simp) ?_
      (repeat (refine jP (by assumption) rfl ?_))
      have q5 := k5.size
      refine ⟨?_, ?_⟩
      · refine M.call_i (dev_ret h5 hdv5 hf2 hDr) ?_; rintro _ w6 ⟨da, db, rfl, g6, h6, k6⟩
        have b1 := b1.keep k6 (fun h => by omega)
        have g5 := GW.lv (g5.keep k6 (fun b _ hb e => by have hb : w4.heap.size ≤ b := hb; omega))
        have q6 := k6.size
        (repeat (refine jP (by assumption) rfl ?_))
        obtain ⟨A5, c5, rfl, _, _⟩ := id g5
        obtain ⟨⟨A6, c6, rfl, _, _⟩, A7, c7, rfl, _, _⟩ := id g6
        refine M.pure_i (.agg ⟨[vw 0, vw 0, vw 0, vw 0, vw 0, vw 0, vw 0, vw 0, .slice A5 (cells.map (valW N env)).length c5, vi pc, vi steps, vi calls, vi en, vi code, vw 0, .slice A6 (devOf N env dev).disk.length c6, .slice A7 (devOf N env dev).pend.length c7, vi dev.ep]⟩) (fun _ => by kernel_rfl) ?_
        refine M.new_i (l := zSt) (fun w7 b7 k7 s7 => ?_)
        have b1 := b1.keep k7 (fun h => h)
        (repeat (refine jP (by assumption) rfl ?_))
        refine M.storeAll_i b7 rfl rfl (List.all_eq_true.1 rfl) (fun w8 b8 k8 s8 => ?_)
        have k58 : Keep w6 w8 No := k7.trans k8 (fun b hb h => by omega)
        have kall : Keep w4 w8 (· = w2.heap.size) := (k5.trans k6 (fun _ _ h => h)).trans k58 (fun _ _ h => h.elim)
        refine hK _ _ ⟨_, _, _, _, rfl, by omega, b8, ?_, ?_, ?_, ?_⟩
        · exact (g5.mono (fun b hb h => by have h : w4.heap.size ≤ b := h; exact ⟨by omega, by omega⟩)).keep k58 (fun _ _ _ h => h)
        · exact (g6.mono (fun b hb h => by have h : w5.heap.size ≤ b := h; exact ⟨by omega, by omega⟩)).keep k58 (fun _ _ _ h => h)
        · exact hR.set kall (h6.blk.keep k58 (fun h => h))
        · exact (kd.mono (fun _ _ h => h.elim)).trans kall (fun _ _ h => h)
      · refine M.new_i (l := zSt) (fun w6 b7 k6 s6 => ?_)
        have b1 := b1.keep k6 (fun h => h)
        refine M.stA_i b1 (by simp) ?_
        (repeat (refine jP (by assumption) rfl ?_))
        refine M.call_i (dev_ret (h5.keep k6) (hdv5.keep k6 (fun _ _ _ h => h)) hf2 hDr) ?_; rintro _ w7 ⟨da, db, rfl, g6, h6, k7⟩
        have b1 := b1.keep k7 (fun h => by omega)
        have b7 := b7.keep k7 (fun h => by omega)
        have g5 := (((GW.lv g5).mono (D' := fun b => w3.heap.size ≤ b ∧ b ≠ w5.heap.size) (fun b hb h => by have h : w4.heap.size ≤ b := h; exact ⟨by omega, by omega⟩)).keep k6 (fun _ _ _ h => h)).keep k7 (fun b _ hb e => by have := hb.1; omega)
        have q7 := k7.size
        (repeat (refine jP (by assumption) rfl ?_))
        obtain ⟨A5, c5, rfl, _, _⟩ := id g5
        obtain ⟨⟨A6, c6, rfl, _, _⟩, A7, c7, rfl, _, _⟩ := id g6
        refine M.pure_i (.agg ⟨[vw 0, vw 0, vw 0, vw 0, vw 0, vw 0, vw 0, vw 0, .slice A5 (cells.map (valW N env)).length c5, vi pc, vi steps, vi calls, vi en, vi code, vw 0, .slice A6 (devOf N env dev).disk.length c6, .slice A7 (devOf N env dev).pend.length c7, vi dev.ep]⟩) (fun _ => by kernel_rfl) ?_
        refine M.storeAll_i b7 rfl rfl (List.all_eq_true.1 rfl) (fun w8 b8 k8 s8 => ?_)
        have kall : Keep w4 w8 (· = w2.heap.size) := (((k5.trans k6 (fun _ _ h => h.elim)).trans k7 (fun _ _ h => h))).trans k8 (fun b hb h => by omega)
        refine hK _ _ ⟨_, _, _, _, rfl, by omega, b8, ?_, ?_, ?_, ?_⟩
        · exact g5.keep k8 (fun _ _ h e => h.2 e)
        · exact (g6.mono (D' := fun b => w3.heap.size ≤ b ∧ b ≠ w5.heap.size) (fun b hb h => by have h : w6.heap.size ≤ b := h; exact ⟨by omega, by omega⟩)).keep k8 (fun _ _ h e => h.2 e)
        · exact hR.set kall (h6.blk.keep k8 (fun h => by omega))
        · exact (kd.mono (fun _ _ h => h.elim)).trans kall (fun _ _ h => h)
    · refine M.new_i (l := zSt) (fun w5 b7 k5 s5 => ?_)
      have b1 := b1.keep k5 (fun h => h)
      have hrl := hR.blk.lt
      refine M.stA_i b1 (by simp) ?_
      (repeat (refine jP (by assumption) rfl ?_))
      refine M.call_i (each_ret (hR.keep k5) (hc.keep k5 (fun _ _ _ h => h)) hf1 hDr) ?_; rintro cs w6 ⟨g5, h5, k6⟩
      have b1 := b1.keep k6 (fun h => by omega)
      have b7 := b7.keep k6 (fun h => by omega)
      have hdv6 := (hdv.keep k5 (fun _ _ _ h => h)).keep k6 (fun b _ hb e => hDr (e ▸ hb))
      have q6 := k6.size
      refine M.stA_i b1 (by simp) ?_
      (repeat (refine jP (by assumption) rfl ?_))
      refine M.call_i (dev_ret h5 hdv6 hf2 hDr) ?_; rintro _ w7 ⟨da, db, rfl, g6, h6, k7⟩
      have b1 := b1.keep k7 (fun h => by omega)
      have b7 := b7.keep k7 (fun h => by omega)
      have g5 := ((GW.lv g5).mono (D' := fun b => w3.heap.size ≤ b ∧ b ≠ w4.heap.size) (fun b hb h => by have h : w5.heap.size ≤ b := h; exact ⟨by omega, by omega⟩)).keep k7 (fun b _ hb e => by have := hb.1; omega)
      have q7 := k7.size
      (repeat (refine jP (by assumption) rfl ?_))
      obtain ⟨A5, c5, rfl, _, _⟩ := id g5
      obtain ⟨⟨A6, c6, rfl, _, _⟩, A7, c7, rfl, _, _⟩ := id g6
      refine M.pure_i (.agg ⟨[vw 0, vw 0, vw 0, vw 0, vw 0, vw 0, vw 0, vw 0, .slice A5 (cells.map (valW N env)).length c5, vi pc, vi steps, vi calls, vi en, vi code, vw 0, .slice A6 (devOf N env dev).disk.length c6, .slice A7 (devOf N env dev).pend.length c7, vi dev.ep]⟩) (fun _ => by kernel_rfl) ?_
      refine M.storeAll_i b7 rfl rfl (List.all_eq_true.1 rfl) (fun w8 b8 k8 s8 => ?_)
      have kall : Keep w4 w8 (· = w2.heap.size) := (((k5.mono (fun _ _ h => h.elim)).trans k6 (fun _ _ h => h)).trans k7 (fun _ _ h => h)).trans k8 (fun b hb h => by omega)
      refine hK _ _ ⟨_, _, _, _, rfl, by omega, b8, ?_, ?_, ?_, ?_⟩
      · exact g5.keep k8 (fun _ _ h e => h.2 e)
      · exact (g6.mono (D' := fun b => w3.heap.size ≤ b ∧ b ≠ w4.heap.size) (fun b hb h => by have h : w6.heap.size ≤ b := h; exact ⟨by omega, by omega⟩)).keep k8 (fun _ _ h e => h.2 e)
      · exact hR.set kall (h6.blk.keep k8 (fun h => by omega))
      · exact (kd.mono (fun _ _ h => h.elim)).trans kall (fun _ _ h => h)
end
end Go.Proofs.YtanjlgafjgoaaaaGreat
namespace Go.Proofs.YtanjlgafjgoaaaaGreat
open Go.Mw
set_option linter.unusedVariables false
set_option linter.unusedSimpArgs false
set_option maxRecDepth 100000
attribute [local irreducible] M.val M.unit M.next M.pick M.new M.nilCheck M.load1 M.loadA M.store M.fieldAddr M.indexSl M.indexArr M.slice M.makeSlice M.buildSlice M.len M.lenS M.cap M.append M.extract M.conv M.not M.neg M.bin M.shift M.eqB M.eqNil M.scat M.call M.callv M.gd M.share M.cond M.loop M.draw pureW readW Ret
def sh78 (x0 x1 : Value) (R : Kt) (w : World) : Prop :=
  M.len x0 (fun t7 w =>
  M.loop [(Value.int IntKind.i64 0)] (fun s1 K1 w => ∀ _ : List Value,
  M.bin .lss (s1.getD 0 undef) t7 (fun t9 w =>
  M.cond t9
  (M.indexSl 1 x0 (s1.getD 0 undef) (fun t14 w =>
  M.load1 t14 (fun t15 w =>
  M.callv Tryz.prog x1 #[t15] (fun t16 w =>
  M.cond t16
  (R (s1.getD 0 undef) w)
  (M.bin .add (s1.getD 0 undef) (Value.int IntKind.i64 1) (fun t18 w =>
  K1 [t18] w) w)) w) w) w)
  (R (Value.int IntKind.i64 (-1)) w)) w) w) w
theorem ok78 (x0 x1 : Value) (R : Kt) (w : World) (h : sh78 x0 x1 R w) : Ret Tryz.prog 78 #[x0, x1] w R :=
  ret_mk <| calls_of_comp mixed (c := Tryz.f78.body.getD .skip) (args := [x0, x1]) (rs := [(ResultVar.tmp 4)]) (Ann.seq Ann.text (Ann.seq (Ann.seq Ann.text (Ann.block (Ann.loop [8] [4, 5, 9, 10, 11, 12, 13, 14, 15, 16, 17, 18] (Ann.seq Ann.text (Ann.seq (Ann.cond Ann.leaf Ann.leaf) (Ann.seq (Ann.block (Ann.seq Ann.text (Ann.seq Ann.text (Ann.cond (Ann.seq Ann.text Ann.leaf) Ann.leaf)))) Ann.text)))))) (Ann.seq Ann.text Ann.leaf)))
    Tryz.func78 (by kernel_rfl) (by kernel_rfl)
    (Eq.mp (by kernel_rfl) h)
def sh39 (x0 x1 : Value) (R : Kt) (w : World) : Prop :=
  M.call Tryz.prog 78 #[x0, x1] (fun t7 w =>
  M.bin .geq t7 (Value.int IntKind.i64 0) (fun t8 w =>
  R t8 w) w) w
theorem ok39 (x0 x1 : Value) (R : Kt) (w : World) (h : sh39 x0 x1 R w) : Ret Tryz.prog 39 #[x0, x1] w R :=
  ret_mk <| calls_of_comp mixed (c := Tryz.f39.body.getD .skip) (args := [x0, x1]) (rs := [(ResultVar.tmp 4)]) (Ann.seq Ann.text (Ann.seq Ann.text Ann.leaf))
    Tryz.func39 (by kernel_rfl) (by kernel_rfl)
    (Eq.mp (by kernel_rfl) h)
def PredF (g : Value) (I : World → Prop) (p : Int → Bool) : Prop := ∀ (x : Int) (w : World) (k : Kt), I w → (∀ w', I w' → Keep w w' No → k (.bool (p x)) w') → M.callv Tryz.prog g #[vi x] k w
def idxI (p : Int → Bool) (xs : List Int) : Int := match xs.findIdx? p with
  | some i => i
  | none => -1
theorem idxI_any (p : Int → Bool) (xs : List Int) : decide (0 ≤ idxI p xs) = xs.any p := by
  unfold idxI
  cases h : xs.findIdx? p with
  | some i =>
    obtain ⟨h1, h2, _⟩ := List.findIdx?_eq_some_iff_getElem.1 h
    have : xs.any p = true := List.any_eq_true.2 ⟨_, List.getElem_mem h1, h2⟩
    simp [this]
  | none =>
    have : xs.any p = false := by
      rw [List.any_eq_false]
      intro x hx
      simpa using List.findIdx?_eq_none_iff.1 h x hx
    simp [this]
theorem indexFunc_ret {w : World} {D : Nat → Prop} {v g : Value} {xs : List Int} {I : World → Prop} {p : Int → Bool} (h : LV vi w D v xs) (hf : Few xs.length) (hp : PredF g I p) (hi0 : I w) :
    Ret Tryz.prog 78 #[v, g] w (fun r w' => r = vi (idxI p xs) ∧ I w' ∧ Keep w w' No) := by
  obtain ⟨A, c, rfl, hr, hc⟩ := h
  refine ok78 _ _ _ _ ?_
  unfold sh78
  (repeat (refine ja ?_))
  refine M.loop_i (σ := Nat) (fun i vals w' => vals = [vi i] ∧ i ≤ xs.length ∧ (∀ x ∈ xs.take i, p x = false) ∧ I w' ∧ Keep w w' No) (fun i => xs.length - i) 0 ⟨rfl, by omega, by simp, hi0, Keep.refl _ _⟩ ?_
  rintro i vals w1 K ⟨rfl, hi, hno, hI, k1⟩ hK _
  simp only [List.getD_cons_zero, List.getD_cons_succ]
  by_cases hlt : i < xs.length
  · obtain ⟨e, he⟩ : ∃ e, xs[i]? = some e := ⟨_, List.getElem?_eq_getElem hlt⟩
    have hr := hr.keep k1 (fun _ _ _ h => h)
    (repeat (first|refine jo ?_|refine jy ?_))
    refine M.idxLV_i hr rfl (by omega) (by omega) (x := e) (by simpa using he) (fun b o hA hc => ?_)
    (repeat (refine jM (by assumption) ?_))
    refine hp e _ _ hI (fun w2 hI k2 => ?_)
    refine M.condB_i (fun hx => ?_) (fun hx => ?_)
    · refine ⟨?_, hI, k1.trans k2 (fun _ _ h => h)⟩
      have : xs.findIdx? p = some i := by
        rw [List.findIdx?_eq_some_iff_getElem]
        obtain ⟨h1, h2⟩ := List.getElem?_eq_some_iff.1 he
        refine ⟨h1, by rw [h2]; exact hx, fun j hj => ?_⟩
        have := hno xs[j] (List.mem_take_iff_getElem.2 ⟨j, by omega, rfl⟩)
        simpa using this
      simp [idxI, this]
    · (repeat (refine jK ?_))
      refine hK (i + 1) _ _ (by omega) ⟨by simp, by omega, fun x hx' => ?_, hI, k1.trans k2 (fun _ _ h => h)⟩
      rcases (mem_take_succ he).1 hx' with h | h
      · exact hno x h
      · exact h ▸ hx
  · (repeat (first|refine jp ?_|refine jz ?_))
    have : i = xs.length := by omega
    subst this
    rw [List.take_length] at hno
    refine ⟨?_, hI, k1⟩
    have : xs.findIdx? p = none := List.findIdx?_eq_none_iff.2 hno
    simp [idxI, this]
theorem containsFunc_ret {w : World} {D : Nat → Prop} {v g : Value} {xs : List Int} {I : World → Prop} {p : Int → Bool} (h : LV vi w D v xs) (hf : Few xs.length) (hp : PredF g I p) (hi0 : I w) :
    Ret Tryz.prog 39 #[v, g] w (fun r w' => r = .bool (xs.any p) ∧ I w' ∧ Keep w w' No) := by
  refine ok39 _ _ _ _ ?_
  unfold sh39
  refine M.call_i (indexFunc_ret h hf hp hi0) ?_; rintro _ w1 ⟨rfl, hI, k1⟩
  refine M.geq_i ⟨?_, hI, k1⟩
  rw [idxI_any]
end Go.Proofs.YtanjlgafjgoaaaaGreat
namespace Go.Proofs.YtanjlgafjgoaaaaGreat
open Go.Mw
set_option linter.unusedVariables false
set_option linter.unusedSimpArgs false
set_option maxRecDepth 100000
attribute [local irreducible] M.val M.unit M.next M.pick M.new M.nilCheck M.load1 M.loadA M.store M.fieldAddr M.indexSl M.indexArr M.slice M.makeSlice M.buildSlice M.len M.lenS M.cap M.append M.extract M.conv M.not M.neg M.bin M.shift M.eqB M.eqNil M.scat M.call M.callv M.gd M.share M.cond M.loop M.draw pureW readW Ret
end Go.Proofs.YtanjlgafjgoaaaaGreat
namespace Go.Proofs.YtanjlgafjgoaaaaGreat
open Go.Mw Go.Maps Go.MapKept
set_option linter.unusedVariables false
set_option linter.unusedSimpArgs false
set_option maxRecDepth 100000
attribute [local irreducible] M.val M.unit M.next M.pick M.new M.nilCheck M.load1 M.loadA M.store M.fieldAddr M.indexSl M.indexArr M.slice M.makeSlice M.buildSlice M.len M.lenS M.cap M.append M.extract M.conv M.not M.neg M.bin M.shift M.eqB M.eqNil M.scat M.call M.callv M.gd M.share M.cond M.loop M.draw pureW readW Ret
section
variable {w : World} {D : Nat → Prop} {v : Value} {N : List Nd} {most : Int}
structure RB (w w' : World) (v : Value) (p3 p6 : Nat) (l : List Value) : Prop where
  k : Keep w w' No
  b3 : Blk w' p3 l
  b6 : ∃ x y, Blk w' p6 [x, y]
  e : v = .agg ⟨l⟩
  len : l.length = 2
  one : ∀ x ∈ l, x.oneCell' = true
  n3 : w.heap.size ≤ p3
  n6 : w.heap.size ≤ p6
  ne : p3 ≠ p6
theorem RB.step {w w' w2 : World} {v : Value} {p3 p6 : Nat} {l : List Value} (h : RB w w' v p3 p6 l) (k : Keep w' w2 No) : RB w w2 v p3 p6 l :=
  ⟨h.k.trans k (fun _ _ h => h), h.b3.keep k (fun h => h), by obtain ⟨x, y, b⟩ := h.b6; exact ⟨x, y, b.keep k (fun h => h)⟩, h.e, h.len, h.one, h.n3, h.n6, h.ne⟩
theorem RB.no {w w' : World} {p3 p6 : Nat} {l : List Value} {k : Kt} {i e : Int} (h : RB w w' v p3 p6 l) (hd : RD w D v N most) (hk : ∀ r w', RAsk w D most (N, i, e) r w' → k r w') :
    M.loadA 2 (ptr p3) (fun t w => M.store 2 (ptr p6) t (fun _ w => M.loadA 2 (ptr p6) (fun r0 w => k (.tuple #[r0, vi i, vi e]) w) w) w) w' := by
  obtain ⟨x, y, b6⟩ := h.b6
  have n6 := h.n6
  refine rback (R := fun r0 w => k (.tuple #[r0, vi i, vi e]) w) h.b3 b6 h.len h.one (fun w2 k2 => hk _ _ ?_)
  have k2' : Keep w w2 No := h.k.trans k2 (fun b hb h => by omega)
  rw [← h.e]
  exact ⟨v, rfl, (hd.keep k2' (fun _ _ _ h => h)).mono (fun _ _ h => .inl h), k2'⟩
end
end Go.Proofs.YtanjlgafjgoaaaaGreat
namespace Go.Proofs.YtanjlgafjgoaaaaGreat
open Go.Mw Go.Maps Go.MapKept
set_option linter.unusedVariables false
set_option linter.unusedSimpArgs false
set_option maxRecDepth 100000
attribute [local irreducible] M.val M.unit M.next M.pick M.new M.nilCheck M.load1 M.loadA M.store M.fieldAddr M.indexSl M.indexArr M.slice M.makeSlice M.buildSlice M.len M.lenS M.cap M.append M.extract M.conv M.not M.neg M.bin M.shift M.eqB M.eqNil M.scat M.call M.callv M.gd M.share M.cond M.loop M.draw pureW readW Ret
section
variable {w : World} {D : Nat → Prop} {v : Value} {N : List Nd} {most : Int}
theorem RB.start {A : Option Addr} {c : Nat} {w w1 w2 : World} (b1 : Blk w1 w.heap.size [.slice A N.length c, vi most]) (k1 : Keep w w1 No) (s1 : w1.heap.size = w.heap.size + 1) (b2 : Blk w2 w1.heap.size [.slice none 0 0, vi 0]) (k2 : Keep w1 w2 No) :
    RB w w2 (.agg ⟨[.slice A N.length c, vi most]⟩) w.heap.size w1.heap.size [.slice A N.length c, vi most] :=
  ⟨k1.trans k2 (fun _ _ h => h), b1.keep k2 (fun h => h), ⟨_, _, b2⟩, rfl, rfl, two_one, Nat.le_refl _, by omega, by omega⟩
theorem RB.load {w' : World} {p3 p6 : Nat} {l : List Value} {k : Kt} (h : RB w w' v p3 p6 l) (hk : k v w') : M.loadA 2 (ptr p3) k w' := by
  refine M.loadAll_i h.b3 h.len ?_
  rw [← h.e]; exact hk
end
end Go.Proofs.YtanjlgafjgoaaaaGreat
namespace Go.Proofs.YtanjlgafjgoaaaaGreat
open Go.Mw Go.Maps Go.MapKept
set_option linter.unusedVariables false
set_option linter.unusedSimpArgs false
set_option maxRecDepth 100000
attribute [local irreducible] M.val M.unit M.next M.pick M.new M.nilCheck M.load1 M.loadA M.store M.fieldAddr M.indexSl M.indexArr M.slice M.makeSlice M.buildSlice M.len M.lenS M.cap M.append M.extract M.conv M.not M.neg M.bin M.shift M.eqB M.eqNil M.scat M.call M.callv M.gd M.share M.cond M.loop M.draw pureW readW Ret
section
variable {w : World} {D : Nat → Prop} {v : Value} {N : List Nd} {most : Int}
end
end Go.Proofs.YtanjlgafjgoaaaaGreat
namespace Go.Proofs.YtanjlgafjgoaaaaGreat
open Go.Mw Go.Maps Go.MapKept
set_option linter.unusedVariables false
set_option linter.unusedSimpArgs false
set_option maxRecDepth 100000
attribute [local irreducible] M.val M.unit M.next M.pick M.new M.nilCheck M.load1 M.loadA M.store M.fieldAddr M.indexSl M.indexArr M.slice M.makeSlice M.buildSlice M.len M.lenS M.cap M.append M.extract M.conv M.not M.neg M.bin M.shift M.eqB M.eqNil M.scat M.call M.callv M.gd M.share M.cond M.loop M.draw pureW readW Ret
section
variable {w : World} {D : Nat → Prop} {v : Value} {N : List Nd} {most : Int}
end
end Go.Proofs.YtanjlgafjgoaaaaGreat
