import Derived.Test.YthkkjjbjpbgcpaaSmt54e
namespace Go.Proofs.Ythkkjjbjpbgcpaa
open Go.Mw Go.Lib
set_option linter.unusedVariables false
set_option linter.unusedSimpArgs false
set_option maxRecDepth 100000
attribute [local irreducible] M.val M.unit M.next M.pick M.new M.nilCheck M.load1 M.loadA M.store M.fieldAddr M.indexSl M.indexArr M.slice M.makeSlice M.buildSlice M.len M.lenS M.cap M.append M.extract M.conv M.not M.neg M.bin M.shift M.eqB M.eqNil M.scat M.call M.callv M.gd M.share M.cond M.loop M.draw pureW readW Ret
/-! breakwater/smtlib.Term: function 7 -/
def sh7 (x0 x1 : Value) (R : Kt) (w : World) : Prop :=
  M.call Try.prog 20 #[x0, x1] (fun t18 w =>
  M.extract 0 t18 (fun t19 w =>
  M.extract 1 t18 (fun t20 w =>
  M.new 55 #[.int .i64 0, .int .i64 0, .int .i64 0, .int .i64 0, .int .i64 0, .int .u64 0] (fun t6 w =>
  M.store 6 t6 t19 (fun _ w =>
  M.not t20 (fun t22 w =>
  M.cond t22
  (R (.tuple #[(Value.string { data := #[] }), (Value.int IntKind.i64 11)]) w)
  (M.new 61 #[.pointer none, .slice none 0 0] (fun t8 w =>
  pureW Try.prog (Instr.build 63 #[(1, x1)]) (fun t24 w =>
  M.buildSlice 63 2 #[.string ByteArray.empty, .int .i64 0] 1 [(0, t24)] (fun t25 w =>
  M.loop [t25] (fun s1 K1 w => ∀ _ : List Value,
  M.len (s1.getD 0 undef) (fun t27 w =>
  M.bin .gtr t27 (Value.int IntKind.i64 0) (fun t28 w =>
  M.cond t28
  (M.share (fun K2 w =>
  M.len (s1.getD 0 undef) (fun t31 w =>
  M.bin .sub t31 (Value.int IntKind.i64 1) (fun t32 w =>
  M.indexSl 2 (s1.getD 0 undef) t32 (fun t33 w =>
  M.loadA 2 t33 (fun t34 w =>
  M.new 63 #[.string ByteArray.empty, .int .i64 0] (fun t10 w =>
  M.store 2 t10 t34 (fun _ w =>
  M.len (s1.getD 0 undef) (fun t37 w =>
  M.bin .sub t37 (Value.int IntKind.i64 1) (fun t38 w =>
  M.slice 2 (s1.getD 0 undef) none (some t38) none (fun t39 w =>
  M.fieldAddr 1 t10 (fun t40 w =>
  M.load1 t40 (fun t41 w =>
  M.bin .lss t41 (Value.int IntKind.i64 0) (fun t42 w =>
  M.cond t42
  (M.share (fun K3 w =>
  M.draw (fun w =>
  M.fieldAddr 0 t10 (fun t44 w =>
  M.load1 t44 (fun t45 w =>
  ((M.call Try.prog 21 #[t8] (fun t43 w =>
  ((M.load1 t44 (fun v' _ => v' = t45) w) ∧ M.lenS t45 (fun t46 w =>
  M.bin .add t43 t46 (fun t47 w =>
  M.bin .gtr t47 (Value.int IntKind.i64 4096) (fun t48 w =>
  K3 [t48] w) w) w) w)) w) ∧
   (M.lenS t45 (fun t46_2 w =>
  M.call Try.prog 21 #[t8] (fun t43_2 w =>
  M.bin .add t43_2 t46_2 (fun t47_2 w =>
  M.bin .gtr t47_2 (Value.int IntKind.i64 4096) (fun t48_2 w =>
  K3 [t48_2] w) w) w) w) w))) w) w) w) (fun s3 w => ∀ _ : List Value,
  M.cond (s3.getD 0 undef)
  (R (.tuple #[(Value.string { data := #[] }), (Value.int IntKind.i64 8)]) w)
  (M.fieldAddr 0 t10 (fun t49 w =>
  M.load1 t49 (fun t50 w =>
  M.call Try.prog 22 #[t8, t50] (fun t51 w =>
  K2 [t39] w) w) w) w)) w)
  (M.fieldAddr 1 t10 (fun t54 w =>
  M.load1 t54 (fun t55 w =>
  M.call Try.prog 20 #[x0, t55] (fun t56 w =>
  M.extract 0 t56 (fun t57 w =>
  M.extract 1 t56 (fun t58 w =>
  M.new 55 #[.int .i64 0, .int .i64 0, .int .i64 0, .int .i64 0, .int .i64 0, .int .u64 0] (fun t11 w =>
  M.store 6 t11 t57 (fun _ w =>
  M.loadA 6 t11 (fun t60 w =>
  M.call Try.prog 23 #[x0, t60] (fun t61 w =>
  M.len t61 (fun t63 w =>
  M.loop [t39, (Value.int IntKind.i64 0)] (fun s4 K4 w => ∀ _ : List Value,
  M.bin .lss (s4.getD 1 undef) t63 (fun t65 w =>
  M.cond t65
  (M.len t61 (fun t70 w =>
  M.bin .sub t70 (Value.int IntKind.i64 1) (fun t71 w =>
  M.bin .sub t71 (s4.getD 1 undef) (fun t73 w =>
  M.indexSl 2 t61 t73 (fun t74 w =>
  M.loadA 2 t74 (fun t75 w =>
  M.buildSlice 63 2 #[.string ByteArray.empty, .int .i64 0] 1 [(0, t75)] (fun t76 w =>
  M.append 63 2 24 #[.string ByteArray.empty, .int .i64 0] (s4.getD 0 undef) t76 (fun t77 w =>
  M.bin .add (s4.getD 1 undef) (Value.int IntKind.i64 1) (fun t78 w =>
  K4 [t77, t78] w) w) w) w) w) w) w) w) w)
  (K2 [(s4.getD 0 undef)] w)) w) w) w) w) w) w) w) w) w) w) w) w)) w) w) w) w) w) w) w) w) w) w) w) w) (fun s2 w => ∀ _ : List Value,
  K1 [(s2.getD 0 undef)] w) w)
  (M.call Try.prog 24 #[t8] (fun t79 w =>
  R (.tuple #[t79, (Value.int IntKind.i64 0)]) w) w)) w) w) w) w) w) w)) w) w) w) w) w) w
theorem ok7 (x0 x1 : Value) (R : Kt) (w : World) (h : sh7 x0 x1 R w) : Ret Try.prog 7 #[x0, x1] w R :=
  ret_mk <| calls_of_comp mixed (c := Try.f7.body.getD .skip) (args := [x0, x1]) (rs := [(ResultVar.tmp 4), (ResultVar.tmp 5)]) (Ann.seq Ann.text (Ann.fscope 0 (Ann.seq (Ann.seq Ann.text (Ann.seq Ann.text (Ann.cond (Ann.seq Ann.text Ann.leaf) Ann.leaf))) (Ann.seq Ann.text (Ann.seq Ann.text (Ann.seq (Ann.block (Ann.loop [9] [10, 11, 12, 13, 14, 26, 27, 28, 29, 30, 31, 32, 33, 34, 35, 36, 37, 38, 39, 40, 41, 42, 43, 44, 45, 46, 47, 48, 49, 50, 51, 52, 53, 54, 55, 56, 57, 58, 59, 60, 61, 62, 63, 64, 65, 66, 67, 68, 69, 70, 71, 72, 73, 74, 75, 76, 77, 78] (Ann.seq (Ann.seq Ann.text (Ann.cond Ann.leaf Ann.leaf)) (Ann.jblock [9] [10, 11, 12, 13, 14, 29, 30, 31, 32, 33, 34, 35, 36, 37, 38, 39, 40, 41, 42, 43, 44, 45, 46, 47, 48, 49, 50, 51, 52, 53, 54, 55, 56, 57, 58, 59, 60, 61, 62, 63, 64, 65, 66, 67, 68, 69, 70, 71, 72, 73, 74, 75, 76, 77, 78] (Ann.seq Ann.text (Ann.seq Ann.text (Ann.seq (Ann.seq Ann.text (Ann.cond (Ann.seq (Ann.join [48] [43, 44, 45, 46, 47] (Ann.draw (Sch.take 1 (Sch.take 2 (Sch.two 0 3 (Sch.one 3 (Sch.take 4 (Sch.take 5 Sch.done))) (Sch.one 0 (Sch.take 4 (Sch.take 5 Sch.done))))))) (Ann.cond Ann.leaf Ann.leaf)) (Ann.seq Ann.text Ann.leaf)) Ann.leaf)) (Ann.seq Ann.text (Ann.seq Ann.text (Ann.seq Ann.text (Ann.block (Ann.loop [9, 64] [14, 65, 66, 67, 68, 69, 70, 71, 72, 73, 74, 75, 76, 77, 78] (Ann.seq Ann.text (Ann.seq (Ann.cond Ann.leaf Ann.leaf) (Ann.seq (Ann.block (Ann.seq Ann.text Ann.text)) Ann.text))))))))))))))) (Ann.seq (Ann.seq Ann.text Ann.leaf) Ann.leaf))))) (Ann.seq Ann.leaf (Ann.seq Ann.text Ann.leaf))))
    Try.func7 (by kernel_rfl) (by kernel_rfl)
    (Eq.mp (by kernel_rfl) h)

theorem pcs_slen (N : List Nd) (n : Nd) : ∀ q ∈ pcsN N n, q.s.length ≤ 1000 := by
  have ho := op_len n.op
  have hn1 := num_len n.wd
  have hn2 := num_len n.a
  have hn3 := num_len n.b
  have hn4 := num_len (n.wd - wdN N n.a)
  have hn5 := num_len (n.b + n.wd - 1)
  have hn6 := val_len n.val
  intro q hq
  unfold pcsN at hq
  repeat' split at hq
  all_goals
    simp only [List.mem_cons, List.not_mem_nil, or_false] at hq
    rcases hq with rfl | rfl | rfl | rfl | rfl | rfl | rfl <;> simp [tP, iP] <;> omega
theorem M.load2_i {k : Kt} {w : World} {b o : Nat} {x y : Value} (h0 : w.cell? ⟨b, o, none⟩ = some x) (h1 : w.cell? ⟨b, o + 1, none⟩ = some y) (h : k (.agg ⟨[x, y]⟩) w) : M.loadA 2 (.pointer (some ⟨b, o, none⟩)) k w := by
  have := rdL_cells (w := w) (b := b) (o := o) (cs := [x, y]) 2 0 (by
    intro j hj
    match j, hj with
    | 0, _ => exact h0
    | 1, _ => exact h1) rfl
  unfold M.loadA
  simp only [this]
  exact h
theorem pcs_cell : ∀ (ps : List Pc) (k : Nat) {p : Pc}, ps[k]? = some p → (ps.flatMap Pc.cells)[k * 2]? = some (vs p.s) ∧ (ps.flatMap Pc.cells)[k * 2 + 1]? = some (vi p.id)
  | [], k, p, h => by simp at h
  | q :: ps, 0, p, h => by
    simp only [List.getElem?_cons_zero, Option.some.injEq] at h
    subst h
    exact ⟨rfl, rfl⟩
  | q :: ps, k + 1, p, h => by
    have ih := pcs_cell ps k (by simpa using h)
    rw [List.flatMap_cons]
    have e1 : (k + 1) * 2 = k * 2 + 1 + 1 := by omega
    have e2 : (k + 1) * 2 + 1 = k * 2 + 1 + 1 + 1 := by omega
    rw [e2, e1]
    exact ih
def flP (ps : List Pc) : Nat := match ps.getLast? with
  | some q => if q.id < 0 then 0 else 1
  | none => 0
theorem flP_snoc (ps : List Pc) (q : Pc) : flP (ps ++ [q]) = if q.id < 0 then 0 else 1 := by simp [flP]
theorem flP_le (ps : List Pc) : flP ps ≤ 1 := by
  unfold flP
  split
  · split <;> omega
  · omega
def okP (N : List Nd) (q : Pc) : Prop := q.s.length ≤ 1000 ∧ ((q.id < 0 ∧ q.s ≠ []) ∨ (0 ≤ q.id ∧ isN N q.id = true ∧ q.s = []))
/-- The state of the loop: what waits, what is written, and how much is to come. -/
structure TI (N : List Nd) (id : Int) (b : Nat) (v : Value) (ps : List Pc) (out : Bt) (m : Nat) (w : World) : Prop where
  wl : WL No w b v ps
  bld : Bld w b out
  ok : ∀ q ∈ ps, okP N q
  eq : out ++ ps.reverse.flatMap (rendP (txtN N)) = txtN N id
  len : out.length ≤ 4096
  mu : m = 2 * (4096 - out.length) + flP ps
  few : ps.length + 7 * m ≤ 60000
theorem TI.keepN {N : List Nd} {id : Int} {b : Nat} {v : Value} {ps : List Pc} {out : Bt} {m : Nat} {w w' : World} (h : TI N id b v ps out m w) (k : Keep w w' No) : TI N id b v ps out m w' :=
  ⟨h.wl.keepN k, h.bld.keepN k, h.ok, h.eq, h.len, h.mu, h.few⟩
theorem not_u8_bs {w : World} {b i : Nat} (h : b < i) (hu : ¬ isU8 w i) : ¬ BS w b i := fun e => by
  rcases e with e | e
  · omega
  · exact hu e.2
set_option maxHeartbeats 8000000 in
theorem term_ret {w : World} {F : Nat → Prop} {p : Nat} {N : List Nd} {most : Int} (hd : DagO w F p N most) (id : Int) :
    Ret Try.prog 7 #[ptr p, vi id] w (fun r w' => r = .tuple #[vs (smtN N id).1, vi (smtN N id).2] ∧ Keep w w' No) := by
  have hF : ∀ i, F i → i < w.heap.size := fun i h => hd.lt h
  have hG := hd.good
  have hNl := hd.len
  refine ok7 _ _ _ _ ?_
  unfold sh7
  refine M.call_i (hd.node id) ?_; rintro _ w1 ⟨rfl, k1⟩
  refine M.extract_i (v := encN (nodeAt N id)) rfl ?_
  refine M.extract_i (v := .bool (isN N id)) rfl ?_
  refine M.new_i (l := zeroNd.cells) (fun w2 b2 k2 s2 => ?_)
  refine M.storeAll_i b2 rfl rfl (cells_one _) (fun w3 b3 k3 s3 => ?_)
  have q1 := k1.size
  have q2 := k2.size
  have k03 : Keep w w3 No := keepTrans1 (k1.trans k2 (fun _ _ h => h)) k3 q1
  cases hid : isN N id with
  | false =>
    (repeat (first|refine ja ?_|refine jb ?_|refine jc ?_|refine jd ?_|refine je ?_|refine jf ?_|refine jg ?_|refine jh ?_|refine ji ?_|refine jj ?_|refine jk ?_|refine jl ?_|refine jm ?_|refine jn ?_|refine jo ?_|refine jp ?_|refine jq ?_|refine jr ?_|refine js ?_|refine jt ?_|refine ju ?_|refine jv ?_|refine jw ?_|refine jx ?_|refine jy ?_|refine jz ?_|refine jA ?_|refine jB ?_|refine jC ?_|refine jD ?_|refine jE ?_|refine jF ?_|refine jG ?_|refine jH ?_|refine jI ?_|refine jJ ?_|refine jK ?_|refine jL ?_|refine jM (by assumption) ?_|refine jN (by assumption) rfl ?_|refine jO (by assumption) ?_|refine jP (by assumption) rfl ?_|refine jQ ?_|refine jR ?_|refine jS ?_|refine jT ?_|refine jU (by assumption) rfl ?_))
    exact ⟨by unfold smtN; rw [if_pos hid], k03⟩
  | true =>
    (repeat (first|refine ja ?_|refine jb ?_|refine jc ?_|refine jd ?_|refine je ?_|refine jf ?_|refine jg ?_|refine jh ?_|refine ji ?_|refine jj ?_|refine jk ?_|refine jl ?_|refine jm ?_|refine jn ?_|refine jo ?_|refine jp ?_|refine jq ?_|refine jr ?_|refine js ?_|refine jt ?_|refine ju ?_|refine jv ?_|refine jw ?_|refine jx ?_|refine jy ?_|refine jz ?_|refine jA ?_|refine jB ?_|refine jC ?_|refine jD ?_|refine jE ?_|refine jF ?_|refine jG ?_|refine jH ?_|refine jI ?_|refine jJ ?_|refine jK ?_|refine jL ?_|refine jM (by assumption) ?_|refine jN (by assumption) rfl ?_|refine jO (by assumption) ?_|refine jP (by assumption) rfl ?_|refine jQ ?_|refine jR ?_|refine jS ?_|refine jT ?_|refine jU (by assumption) rfl ?_))
    refine bld_new (fun w4 hb4 k4 s4 => ?_)
    refine M.pure_i (.agg ⟨(iP id).cells⟩) (fun _ => by kernel_rfl) ?_
    refine M.buildSliceT_i ((iP id).cells) (by kernel_rfl) (fun w5 b5 k5 s5 => ?_)
    have k05 := (k03.trans k4 (fun _ _ h => h)).trans k5 (fun _ _ h => h)
    have q3 := k03.size
    have hbF : ∀ i, F i → i < w3.heap.size := fun i h => Nat.lt_of_lt_of_le (hF i h) q3
    have hwb : w.heap.size ≤ w3.heap.size := q3
    have st : TI N id w3.heap.size (.slice (some ⟨w4.heap.size, 0, none⟩) 1 1) [iP id] [] 8193 w5 := by
      refine ⟨⟨rfl, .inr ⟨w4.heap.size, 1, [], rfl, ⟨by omega, ?_, fun h => h⟩, by simpa using b5.blk, rfl⟩⟩, hb4.keepN k5, ?_, ?_, by simp, ?_, by simp⟩
      · rintro ⟨cs, fz, hu⟩
        unfold BlkT at b5
        rw [b5] at hu
        simp only [Option.some.injEq, Obj.cells.injEq] at hu
        exact absurd hu.2.1 (by decide)
      · intro q hq
        simp only [List.mem_singleton] at hq
        subst hq
        exact ⟨by simp [iP], .inr ⟨(isN_iff.1 hid).1, hid, rfl⟩⟩
      · simp [rendP, iP]
        intro h
        have := (isN_iff.1 hid).1
        omega
      · have h0 := (isN_iff.1 hid).1
        simp [flP, iP]
        rw [if_neg (by omega)]
    have hd5 := hd.keepN k05
    generalize w3.heap.size = b at st hbF hwb
    clear hb4 b5 b3 b2
    refine M.loop_i (σ := Nat) (fun m vals w' => ∃ v ps out, vals = [v] ∧ TI N id b v ps out m w' ∧ Keep w5 w' (fun i => b ≤ i)) (fun m => m) 8193 ⟨_, _, _, rfl, st, Keep.refl _ _⟩ ?_
    clear st
    rintro m vals w6 K ⟨v, ps, out, rfl, st, k6⟩ hK _
    simp only [List.getD_cons_zero, List.getD_cons_succ]
    have hd6 : DagO w6 F p N most := hd5.keep k6 (fun i h e => by have := hbF i h; omega)
    have k06 : Keep w w6 No := k05.trans k6 (fun j hj e => by omega)
    have hblt := st.bld.lt
    obtain ⟨A, c, rfl, hrow, hcap⟩ := GC.row2 st.wl (by omega)
    by_cases hps : ps = []
    · subst hps
      have e0 : ([] : List Pc).length = 0 := rfl
      rw [e0]
      (repeat (first|refine ja ?_|refine jb ?_|refine jc ?_|refine jd ?_|refine je ?_|refine jf ?_|refine jg ?_|refine jh ?_|refine ji ?_|refine jj ?_|refine jk ?_|refine jl ?_|refine jm ?_|refine jn ?_|refine jo ?_|refine jp ?_|refine jq ?_|refine jr ?_|refine js ?_|refine jt ?_|refine ju ?_|refine jv ?_|refine jw ?_|refine jx ?_|refine jy ?_|refine jz ?_|refine jA ?_|refine jB ?_|refine jC ?_|refine jD ?_|refine jE ?_|refine jF ?_|refine jG ?_|refine jH ?_|refine jI ?_|refine jJ ?_|refine jK ?_|refine jL ?_|refine jM (by assumption) ?_|refine jN (by assumption) rfl ?_|refine jO (by assumption) ?_|refine jP (by assumption) rfl ?_|refine jQ ?_|refine jR ?_|refine jS ?_|refine jT ?_|refine jU (by assumption) rfl ?_))
      refine M.call_i (bld_string st.bld (by have := st.len; omega)) ?_; rintro _ w7 ⟨rfl, k7⟩
      have e := st.eq
      simp only [List.reverse_nil, List.flatMap_nil, List.append_nil] at e
      have hl := st.len
      rw [e] at hl
      refine ⟨?_, k06.trans k7 (fun j hj h => ?_)⟩
      · unfold smtN
        rw [hid, if_neg (by decide), if_pos hl, e]
      · rcases h with h | h <;> omega
    · obtain ⟨ps', q, rfl⟩ : ∃ ps' q, ps = ps' ++ [q] := ⟨ps.dropLast, ps.getLast hps, (List.dropLast_concat_getLast hps).symm⟩
      obtain ⟨g, c', e1, hc0, hcs, hci, hwl⟩ := st.wl.pop
      have el : (ps' ++ [q]).length = ps'.length + 1 := by simp
      rw [el] at e1 ⊢
      simp only [Value.slice.injEq] at e1
      obtain ⟨rfl, _, rfl⟩ := e1
      have hfew := st.few
      rw [el] at hfew
      have hokq := st.ok q (by simp)
      have hokps : ∀ x ∈ ps', okP N x := fun x hx => st.ok x (List.mem_append_left _ hx)
      have heq := st.eq
      rw [List.reverse_append, List.reverse_singleton, List.singleton_append, List.flatMap_cons] at heq
      have hmu := st.mu
      rw [flP_snoc] at hmu
      have hlen := st.len
      (repeat (first|refine ja ?_|refine jb ?_|refine jc ?_|refine jd ?_|refine je ?_|refine jf ?_|refine jg ?_|refine jh ?_|refine ji ?_|refine jj ?_|refine jk ?_|refine jl ?_|refine jm ?_|refine jn ?_|refine jo ?_|refine jp ?_|refine jq ?_|refine jr ?_|refine js ?_|refine jt ?_|refine ju ?_|refine jv ?_|refine jw ?_|refine jx ?_|refine jy ?_|refine jz ?_|refine jA ?_|refine jB ?_|refine jC ?_|refine jD ?_|refine jE ?_|refine jF ?_|refine jG ?_|refine jH ?_|refine jI ?_|refine jJ ?_|refine jK ?_|refine jL ?_|refine jM (by assumption) ?_|refine jN (by assumption) rfl ?_|refine jO (by assumption) ?_|refine jP (by assumption) rfl ?_|refine jQ ?_|refine jR ?_|refine jS ?_|refine jT ?_|refine jU (by assumption) rfl ?_))
      refine M.share_j (fun vals w' => ∃ m', m' < m ∧ ∃ v ps out, vals = [v] ∧ TI N id b v ps out m' w' ∧ Keep w5 w' (fun i => b ≤ i)) ?_ ?_
      · rintro vals w7 ⟨m', hlt, v, ps, out, rfl, st, k7⟩ _
        (repeat (first|refine ja ?_|refine jb ?_|refine jc ?_|refine jd ?_|refine je ?_|refine jf ?_|refine jg ?_|refine jh ?_|refine ji ?_|refine jj ?_|refine jk ?_|refine jl ?_|refine jm ?_|refine jn ?_|refine jo ?_|refine jp ?_|refine jq ?_|refine jr ?_|refine js ?_|refine jt ?_|refine ju ?_|refine jv ?_|refine jw ?_|refine jx ?_|refine jy ?_|refine jz ?_|refine jA ?_|refine jB ?_|refine jC ?_|refine jD ?_|refine jE ?_|refine jF ?_|refine jG ?_|refine jH ?_|refine jI ?_|refine jJ ?_|refine jK ?_|refine jL ?_|refine jM (by assumption) ?_|refine jN (by assumption) rfl ?_|refine jO (by assumption) ?_|refine jP (by assumption) rfl ?_|refine jQ ?_|refine jR ?_|refine jS ?_|refine jT ?_|refine jU (by assumption) rfl ?_))
        exact hK m' _ _ hlt ⟨v, ps, out, rfl, st, k7⟩
      · intro K2 hK2
        have hbld := st.bld
        clear st hrow hcap
        (repeat (first|refine ja ?_|refine jb ?_|refine jc ?_|refine jd ?_|refine je ?_|refine jf ?_|refine jg ?_|refine jh ?_|refine ji ?_|refine jj ?_|refine jk ?_|refine jl ?_|refine jm ?_|refine jn ?_|refine jo ?_|refine jp ?_|refine jq ?_|refine jr ?_|refine js ?_|refine jt ?_|refine ju ?_|refine jv ?_|refine jw ?_|refine jx ?_|refine jy ?_|refine jz ?_|refine jA ?_|refine jB ?_|refine jC ?_|refine jD ?_|refine jE ?_|refine jF ?_|refine jG ?_|refine jH ?_|refine jI ?_|refine jJ ?_|refine jK ?_|refine jL ?_|refine jM (by assumption) ?_|refine jN (by assumption) rfl ?_|refine jO (by assumption) ?_|refine jP (by assumption) rfl ?_|refine jQ ?_|refine jR ?_|refine jS ?_|refine jT ?_|refine jU (by assumption) rfl ?_))
        refine M.idx_i (by omega) (by omega) ?_
        have ei : (((ps'.length + 1 : Nat) : Int) - 1).toNat = ps'.length := by omega
        rw [ei, Nat.zero_add]
        refine M.load2_i hcs hci ?_
        refine M.new_i (l := [vs [], vi 0]) (fun w7 b7 k7 s7 => ?_)
        refine M.storeAll_i (vs := q.cells) b7 rfl rfl (pcone _ _) (fun w8 b8 k8 s8 => ?_)
        have k68 : Keep w6 w8 No := keepTrans1 k7 k8 (Nat.le_refl _)
        have hwl := hwl.keepN k68
        have hbld := hbld.keepN k68
        have hd8 := hd6.keepN k68
        have k58 : Keep w5 w8 (fun i => b ≤ i) := k6.trans k68 (fun _ _ h => h.elim)
        have k08 := k06.trans k68 (fun _ _ h => h)
        have hblt8 := hbld.lt
        have b8 : Blk w8 w6.heap.size [vs q.s, vi q.id] := b8
        (repeat (first|refine ja ?_|refine jb ?_|refine jc ?_|refine jd ?_|refine je ?_|refine jf ?_|refine jg ?_|refine jh ?_|refine ji ?_|refine jj ?_|refine jk ?_|refine jl ?_|refine jm ?_|refine jn ?_|refine jo ?_|refine jp ?_|refine jq ?_|refine jr ?_|refine js ?_|refine jt ?_|refine ju ?_|refine jv ?_|refine jw ?_|refine jx ?_|refine jy ?_|refine jz ?_|refine jA ?_|refine jB ?_|refine jC ?_|refine jD ?_|refine jE ?_|refine jF ?_|refine jG ?_|refine jH ?_|refine jI ?_|refine jJ ?_|refine jK ?_|refine jL ?_|refine jM (by assumption) ?_|refine jN (by assumption) rfl ?_|refine jO (by assumption) ?_|refine jP (by assumption) rfl ?_|refine jQ ?_|refine jR ?_|refine jS ?_|refine jT ?_|refine jU (by assumption) rfl ?_))
        have e2 : ((ps'.length + 1 : Nat) : Int) - 1 = (ps'.length : Nat) := by omega
        rw [e2]
        have hle : ps'.length ≤ c := by
          obtain ⟨_, c9, e9, _, h9⟩ := GC.row2 hwl (by omega)
          simp only [Value.slice.injEq] at e9
          rw [e9.2.2]; exact h9
        refine M.slice_i 0 ps'.length c (sl3_h hle) ?_
        have e3 : (if c = 0 then (some ⟨g, 0, none⟩ : Option Addr) else (some (⟨g, 0, none⟩ : Addr)).map (·.add (0 * 2))) = some ⟨g, 0, none⟩ := by simp [add_mk]
        rw [e3, Nat.sub_zero, Nat.sub_zero]
        generalize w6.heap.size = n10 at b8
        clear hcs hci k7 k8 s7 s8 b7
        by_cases hq : q.id < 0
        · have hqs : q.s ≠ [] ∧ q.s.length ≤ 1000 := by
            rcases hokq with ⟨h1, ⟨_, h2⟩ | ⟨h2, _⟩⟩
            · exact ⟨h2, h1⟩
            · omega
          have hq0 : q.s.length ≠ 0 := fun e => hqs.1 (List.length_eq_zero_iff.1 e)
          rw [if_pos hq] at hmu
          have er : rendP (txtN N) q = q.s := by unfold rendP; rw [if_pos hq]
          rw [er, ← List.append_assoc] at heq
          (repeat (first|refine ja ?_|refine jb ?_|refine jc ?_|refine jd ?_|refine je ?_|refine jf ?_|refine jg ?_|refine jh ?_|refine ji ?_|refine jj ?_|refine jk ?_|refine jl ?_|refine jm ?_|refine jn ?_|refine jo ?_|refine jp ?_|refine jq ?_|refine jr ?_|refine js ?_|refine jt ?_|refine ju ?_|refine jv ?_|refine jw ?_|refine jx ?_|refine jy ?_|refine jz ?_|refine jA ?_|refine jB ?_|refine jC ?_|refine jD ?_|refine jE ?_|refine jF ?_|refine jG ?_|refine jH ?_|refine jI ?_|refine jJ ?_|refine jK ?_|refine jL ?_|refine jM (by assumption) ?_|refine jN (by assumption) rfl ?_|refine jO (by assumption) ?_|refine jP (by assumption) rfl ?_|refine jQ ?_|refine jR ?_|refine jS ?_|refine jT ?_|refine jU (by assumption) rfl ?_))
          refine M.share_j (fun vals w' => vals = [.bool (decide (4096 < out.length + q.s.length))] ∧ w' = w8.drew) ?_ ?_
          · rintro vals w9 ⟨rfl, rfl⟩ _
            simp only [List.getD_cons_zero, List.getD_cons_succ]
            have kd := Keep.drew w8 No
            have b8 := b8.keep kd (fun h => h)
            have hbld := hbld.keepN kd
            have hwl := hwl.keepN kd
            by_cases hlong : 4096 < out.length + q.s.length
            · rw [decide_eq_true hlong]
              (repeat (first|refine ja ?_|refine jb ?_|refine jc ?_|refine jd ?_|refine je ?_|refine jf ?_|refine jg ?_|refine jh ?_|refine ji ?_|refine jj ?_|refine jk ?_|refine jl ?_|refine jm ?_|refine jn ?_|refine jo ?_|refine jp ?_|refine jq ?_|refine jr ?_|refine js ?_|refine jt ?_|refine ju ?_|refine jv ?_|refine jw ?_|refine jx ?_|refine jy ?_|refine jz ?_|refine jA ?_|refine jB ?_|refine jC ?_|refine jD ?_|refine jE ?_|refine jF ?_|refine jG ?_|refine jH ?_|refine jI ?_|refine jJ ?_|refine jK ?_|refine jL ?_|refine jM (by assumption) ?_|refine jN (by assumption) rfl ?_|refine jO (by assumption) ?_|refine jP (by assumption) rfl ?_|refine jQ ?_|refine jR ?_|refine jS ?_|refine jT ?_|refine jU (by assumption) rfl ?_))
              refine ⟨?_, k08.trans kd (fun _ _ h => h)⟩
              have : 4096 < (txtN N id).length := by
                rw [← heq, List.length_append, List.length_append]; omega
              unfold smtN
              rw [hid, if_neg (by decide), if_neg (by omega)]
            · rw [decide_eq_false hlong]
              (repeat (first|refine ja ?_|refine jb ?_|refine jc ?_|refine jd ?_|refine je ?_|refine jf ?_|refine jg ?_|refine jh ?_|refine ji ?_|refine jj ?_|refine jk ?_|refine jl ?_|refine jm ?_|refine jn ?_|refine jo ?_|refine jp ?_|refine jq ?_|refine jr ?_|refine js ?_|refine jt ?_|refine ju ?_|refine jv ?_|refine jw ?_|refine jx ?_|refine jy ?_|refine jz ?_|refine jA ?_|refine jB ?_|refine jC ?_|refine jD ?_|refine jE ?_|refine jF ?_|refine jG ?_|refine jH ?_|refine jI ?_|refine jJ ?_|refine jK ?_|refine jL ?_|refine jM (by assumption) ?_|refine jN (by assumption) rfl ?_|refine jO (by assumption) ?_|refine jP (by assumption) rfl ?_|refine jQ ?_|refine jR ?_|refine jS ?_|refine jT ?_|refine jU (by assumption) rfl ?_))
              refine M.call_i (bld_write hbld q.s (by omega)) ?_; rintro _ w10 ⟨rfl, hb10, k10⟩
              refine hK2 _ _ ⟨2 * (4096 - (out ++ q.s).length) + flP ps', ?_, _, ps', out ++ q.s, rfl, ⟨hwl.keep k10 (fun i _ h1 h2 => not_u8_bs h1 h2), hb10, hokps, heq, by rw [List.length_append]; omega, rfl, ?_⟩, (k58.trans kd (fun _ _ h => h.elim)).trans k10 (fun i hi h => by rcases h with h | h <;> omega)⟩
              · rw [List.length_append]
                have := flP_le ps'
                omega
              · rw [List.length_append]
                have := flP_le ps'
                omega
          · intro K3 hK3
            refine M.draw_i ?_
            have kd := Keep.drew w8 No
            have b8 := b8.keep kd (fun h => h)
            have hbld := hbld.keepN kd
            have fin : ∀ K : Kt, K (.bool (decide (4096 < out.length + q.s.length))) w8.drew → M.bin .gtr (vi ((out.length : Int) + q.s.length)) (vi 4096) K w8.drew := fun K h => by
              by_cases hlong : 4096 < out.length + q.s.length
              · rw [decide_eq_true hlong] at h
                exact jC h
              · rw [decide_eq_false hlong] at h
                exact jD h
            (repeat (first|refine ja ?_|refine jb ?_|refine jc ?_|refine jd ?_|refine je ?_|refine jf ?_|refine jg ?_|refine jh ?_|refine ji ?_|refine jj ?_|refine jk ?_|refine jl ?_|refine jm ?_|refine jn ?_|refine jo ?_|refine jp ?_|refine jq ?_|refine jr ?_|refine js ?_|refine jt ?_|refine ju ?_|refine jv ?_|refine jw ?_|refine jx ?_|refine jy ?_|refine jz ?_|refine jA ?_|refine jB ?_|refine jC ?_|refine jD ?_|refine jE ?_|refine jF ?_|refine jG ?_|refine jH ?_|refine jI ?_|refine jJ ?_|refine jK ?_|refine jL ?_|refine jM (by assumption) ?_|refine jN (by assumption) rfl ?_|refine jO (by assumption) ?_|refine jP (by assumption) rfl ?_|refine jQ ?_|refine jR ?_|refine jS ?_|refine jT ?_|refine jU (by assumption) rfl ?_))
            refine ⟨?_, ?_⟩
            · refine M.call_i (bld_len hbld) ?_; rintro _ w9 ⟨rfl, rfl⟩
              (repeat (first|refine ja ?_|refine jb ?_|refine jc ?_|refine jd ?_|refine je ?_|refine jf ?_|refine jg ?_|refine jh ?_|refine ji ?_|refine jj ?_|refine jk ?_|refine jl ?_|refine jm ?_|refine jn ?_|refine jo ?_|refine jp ?_|refine jq ?_|refine jr ?_|refine js ?_|refine jt ?_|refine ju ?_|refine jv ?_|refine jw ?_|refine jx ?_|refine jy ?_|refine jz ?_|refine jA ?_|refine jB ?_|refine jC ?_|refine jD ?_|refine jE ?_|refine jF ?_|refine jG ?_|refine jH ?_|refine jI ?_|refine jJ ?_|refine jK ?_|refine jL ?_|refine jM (by assumption) ?_|refine jN (by assumption) rfl ?_|refine jO (by assumption) ?_|refine jP (by assumption) rfl ?_|refine jQ ?_|refine jR ?_|refine jS ?_|refine jT ?_|refine jU (by assumption) rfl ?_))
              refine M.lenS_i ?_
              refine jK ?_
              exact fin _ (hK3 _ _ ⟨rfl, rfl⟩)
            · refine M.lenS_i ?_
              refine M.call_i (bld_len hbld) ?_; rintro _ w9 ⟨rfl, rfl⟩
              refine jK ?_
              exact fin _ (hK3 _ _ ⟨rfl, rfl⟩)
        · obtain ⟨hq0, hqn, hqs⟩ : 0 ≤ q.id ∧ isN N q.id = true ∧ q.s = [] := by
            rcases hokq with ⟨_, ⟨h, _⟩ | h⟩
            · omega
            · exact h
          obtain ⟨j, n, hj, hn⟩ := isN_get hqn
          have hgn := hG j n hn
          have hat : nodeAt N q.id = n := by
            unfold nodeAt
            rw [if_pos hqn, hj, Int.toNat_natCast, hn]; rfl
          rw [if_neg hq] at hmu
          have er : rendP (txtN N) q = (pcsN N n).flatMap (rendP (txtN N)) := by
            unfold rendP
            rw [if_neg hq, hj, txtN_eq hG hn]; rfl
          rw [er] at heq
          (repeat (first|refine ja ?_|refine jb ?_|refine jc ?_|refine jd ?_|refine je ?_|refine jf ?_|refine jg ?_|refine jh ?_|refine ji ?_|refine jj ?_|refine jk ?_|refine jl ?_|refine jm ?_|refine jn ?_|refine jo ?_|refine jp ?_|refine jq ?_|refine jr ?_|refine js ?_|refine jt ?_|refine ju ?_|refine jv ?_|refine jw ?_|refine jx ?_|refine jy ?_|refine jz ?_|refine jA ?_|refine jB ?_|refine jC ?_|refine jD ?_|refine jE ?_|refine jF ?_|refine jG ?_|refine jH ?_|refine jI ?_|refine jJ ?_|refine jK ?_|refine jL ?_|refine jM (by assumption) ?_|refine jN (by assumption) rfl ?_|refine jO (by assumption) ?_|refine jP (by assumption) rfl ?_|refine jQ ?_|refine jR ?_|refine jS ?_|refine jT ?_|refine jU (by assumption) rfl ?_))
          refine M.call_i (hd8.node q.id) ?_; rintro _ w9 ⟨rfl, k9⟩
          refine M.extract_i (v := encN (nodeAt N q.id)) rfl ?_
          refine M.extract_i (v := .bool (isN N q.id)) rfl ?_
          rw [hat]
          refine M.new_i (l := zeroNd.cells) (fun w10 b10 k10 s10 => ?_)
          refine M.storeAll_i b10 rfl rfl (cells_one _) (fun w11 b11 k11 s11 => ?_)
          refine M.loadAll_i b11 rfl ?_
          have k811 : Keep w8 w11 No := keepTrans1 (k9.trans k10 (fun _ _ h => h)) k11 k9.size
          refine M.call_i (pieces_ret (hd8.keepN k811) hgn) ?_; rintro _ w12 ⟨pb, rfl, b12, hpb, k12⟩
          have k812 := k811.trans k12 (fun _ _ h => h)
          have q811 := k811.size
          have hwl12 : WL (· = pb) w12 b _ ps' := hwl.excl k812 (fun i e => by have e : i = pb := e; omega)
          have hbld12 := hbld.keepN k812
          have hL := pcs_len N n
          have hpl := b12.lt
          (repeat (first|refine ja ?_|refine jb ?_|refine jc ?_|refine jd ?_|refine je ?_|refine jf ?_|refine jg ?_|refine jh ?_|refine ji ?_|refine jj ?_|refine jk ?_|refine jl ?_|refine jm ?_|refine jn ?_|refine jo ?_|refine jp ?_|refine jq ?_|refine jr ?_|refine js ?_|refine jt ?_|refine ju ?_|refine jv ?_|refine jw ?_|refine jx ?_|refine jy ?_|refine jz ?_|refine jA ?_|refine jB ?_|refine jC ?_|refine jD ?_|refine jE ?_|refine jF ?_|refine jG ?_|refine jH ?_|refine jI ?_|refine jJ ?_|refine jK ?_|refine jL ?_|refine jM (by assumption) ?_|refine jN (by assumption) rfl ?_|refine jO (by assumption) ?_|refine jP (by assumption) rfl ?_|refine jQ ?_|refine jR ?_|refine jS ?_|refine jT ?_|refine jU (by assumption) rfl ?_))
          refine M.loop_i (σ := Nat) (fun i vals w' => ∃ v', vals = [v', vi i] ∧ i ≤ (pcsN N n).length ∧ WL (· = pb) w' b v' (ps' ++ (pcsN N n).reverse.take i) ∧ Bld w' b out ∧ Blk w' pb ((pcsN N n).flatMap Pc.cells) ∧ Keep w12 w' (fun i => b ≤ i)) (fun i => (pcsN N n).length - i) 0 ⟨_, rfl, by omega, by simpa using hwl12, hbld12, b12, Keep.refl _ _⟩ ?_
          rintro i vals w13 K4 ⟨v', rfl, hi, hwl13, hb13, b13, k13⟩ hK4 _
          simp only [List.getD_cons_zero, List.getD_cons_succ]
          by_cases hlt : i < (pcsN N n).length
          · obtain ⟨q2, hq2⟩ : ∃ q2, (pcsN N n)[(pcsN N n).length - 1 - i]? = some q2 := ⟨_, List.getElem?_eq_getElem (by omega)⟩
            have hrev : (pcsN N n).reverse[i]? = some q2 := by rw [List.getElem?_reverse hlt]; exact hq2
            have et : (pcsN N n).reverse.take (i + 1) = (pcsN N n).reverse.take i ++ [q2] := by rw [List.take_add_one, hrev]; rfl
            obtain ⟨c1, c2⟩ := pcs_cell (pcsN N n) _ hq2
            have hpb13 := b13.lt
            have hb13lt := hb13.lt
            (repeat (first|refine ja ?_|refine jb ?_|refine jc ?_|refine jd ?_|refine je ?_|refine jf ?_|refine jg ?_|refine jh ?_|refine ji ?_|refine jj ?_|refine jk ?_|refine jl ?_|refine jm ?_|refine jn ?_|refine jo ?_|refine jp ?_|refine jq ?_|refine jr ?_|refine js ?_|refine jt ?_|refine ju ?_|refine jv ?_|refine jw ?_|refine jx ?_|refine jy ?_|refine jz ?_|refine jA ?_|refine jB ?_|refine jC ?_|refine jD ?_|refine jE ?_|refine jF ?_|refine jG ?_|refine jH ?_|refine jI ?_|refine jJ ?_|refine jK ?_|refine jL ?_|refine jM (by assumption) ?_|refine jN (by assumption) rfl ?_|refine jO (by assumption) ?_|refine jP (by assumption) rfl ?_|refine jQ ?_|refine jR ?_|refine jS ?_|refine jT ?_|refine jU (by assumption) rfl ?_))
            refine M.idx_i (by omega) (by omega) ?_
            have ek : (((pcsN N n).length : Int) - 1 - (i : Nat)).toNat = (pcsN N n).length - 1 - i := by omega
            rw [ek, Nat.zero_add]
            refine M.load2_i (b13.cell c1) (b13.cell c2) ?_
            refine M.pushPc_i hwl13 (fun j e => by have e : j = pb := e; omega) hb13lt (by rw [List.length_append, List.length_take]; omega) q2 (fun v2 w14 hwl14 k14 => ?_)
            (repeat (first|refine ja ?_|refine jb ?_|refine jc ?_|refine jd ?_|refine je ?_|refine jf ?_|refine jg ?_|refine jh ?_|refine ji ?_|refine jj ?_|refine jk ?_|refine jl ?_|refine jm ?_|refine jn ?_|refine jo ?_|refine jp ?_|refine jq ?_|refine jr ?_|refine js ?_|refine jt ?_|refine ju ?_|refine jv ?_|refine jw ?_|refine jx ?_|refine jy ?_|refine jz ?_|refine jA ?_|refine jB ?_|refine jC ?_|refine jD ?_|refine jE ?_|refine jF ?_|refine jG ?_|refine jH ?_|refine jI ?_|refine jJ ?_|refine jK ?_|refine jL ?_|refine jM (by assumption) ?_|refine jN (by assumption) rfl ?_|refine jO (by assumption) ?_|refine jP (by assumption) rfl ?_|refine jQ ?_|refine jR ?_|refine jS ?_|refine jT ?_|refine jU (by assumption) rfl ?_))
            refine hK4 (i + 1) _ _ (by omega) ⟨v2, rfl, by omega, by rw [et, ← List.append_assoc]; exact hwl14, hb13.keep k14 (fun j h e => by
              rcases h with h | ⟨_, h⟩
              · omega
              · exact e.2.1 h), b13.keep k14 (fun e => e.2.2 rfl), k13.trans k14 (fun j hj e => by omega)⟩
          · have e : i = (pcsN N n).length := by omega
            subst e
            rw [show (pcsN N n).reverse.take (pcsN N n).length = (pcsN N n).reverse by rw [← List.length_reverse, List.take_length]] at hwl13
            (repeat (first|refine ja ?_|refine jb ?_|refine jc ?_|refine jd ?_|refine je ?_|refine jf ?_|refine jg ?_|refine jh ?_|refine ji ?_|refine jj ?_|refine jk ?_|refine jl ?_|refine jm ?_|refine jn ?_|refine jo ?_|refine jp ?_|refine jq ?_|refine jr ?_|refine js ?_|refine jt ?_|refine ju ?_|refine jv ?_|refine jw ?_|refine jx ?_|refine jy ?_|refine jz ?_|refine jA ?_|refine jB ?_|refine jC ?_|refine jD ?_|refine jE ?_|refine jF ?_|refine jG ?_|refine jH ?_|refine jI ?_|refine jJ ?_|refine jK ?_|refine jL ?_|refine jM (by assumption) ?_|refine jN (by assumption) rfl ?_|refine jO (by assumption) ?_|refine jP (by assumption) rfl ?_|refine jQ ?_|refine jR ?_|refine jS ?_|refine jT ?_|refine jU (by assumption) rfl ?_))
            obtain ⟨hL1, hL7, s0, r0, hLe⟩ := hL
            have hfl : flP (ps' ++ (pcsN N n).reverse) = 0 := by
              rw [hLe, List.reverse_cons, ← List.append_assoc, flP_snoc]; rfl
            refine hK2 _ _ ⟨2 * (4096 - out.length) + 0, by omega, v', _, out, rfl, ⟨hwl13.incl, hb13, ?_, ?_, hlen, by rw [hfl], ?_⟩, (k58.trans (k812.mono (fun _ _ h => h.elim)) (fun _ _ h => h)).trans k13 (fun _ _ h => h)⟩
            · intro x hx
              rcases List.mem_append.1 hx with hx | hx
              · exact hokps x hx
              · have hx := List.mem_reverse.1 hx
                refine ⟨pcs_slen N n x hx, ?_⟩
                rcases pcs_kids hgn x hx with h | ⟨h1, h2, h3⟩
                · exact .inl h
                · exact .inr ⟨h1, isN_take (hgn.2.1 _ h2), h3⟩
            · rw [List.reverse_append, List.reverse_reverse, List.flatMap_append]
              exact heq
            · rw [List.length_append, List.length_reverse]; omega
end Go.Proofs.Ythkkjjbjpbgcpaa
