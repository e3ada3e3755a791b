import Derived.Test.YthkkjjbjpbgcpaaSmt54c
import Derived.Lib.AppendStr
import Derived.Lib.UnsafeStr
import Derived.Lib.Builder
namespace Go.Proofs.Ythkkjjbjpbgcpaa
open Go.Mw Go.Lib
set_option linter.unusedVariables false
set_option linter.unusedSimpArgs false
set_option maxRecDepth 100000
attribute [local irreducible] M.val M.unit M.next M.pick M.new M.nilCheck M.load1 M.loadA M.store M.fieldAddr M.indexSl M.indexArr M.slice M.makeSlice M.buildSlice M.len M.lenS M.cap M.append M.extract M.conv M.not M.neg M.bin M.shift M.eqB M.eqNil M.scat M.call M.callv M.gd M.share M.cond M.loop M.draw pureW readW Ret
/-! (*strings.Builder).copyCheck: function 52 -/
def sh52 (x0 : Value) (R : Kt) (w : World) : Prop :=
  M.nilCheck x0 (fun t3 w =>
  M.fieldAddr 0 t3 (fun t4 w =>
  M.load1 t4 (fun t5 w =>
  M.eqNil 0 false t5 (fun t6 w =>
  M.cond t6
  (M.val Try.prog (convert 58 105 x0) (fun t9 w =>
  M.next Try.prog (callFunc 67 #[t9]) (fun t10 w =>
  M.val Try.prog (convert 105 58 t10) (fun t11 w =>
  M.nilCheck x0 (fun t12 w =>
  M.fieldAddr 0 t12 (fun t13 w =>
  M.store 1 t13 t11 (fun _ w =>
  R (.tuple #[]) w) w) w) w) w) w) w)
  (M.nilCheck x0 (fun t15 w =>
  M.fieldAddr 0 t15 (fun t16 w =>
  M.load1 t16 (fun t17 w =>
  M.val Try.prog (do eqGuard .neq 58 (Operand.tmp 17) (Operand.tmp 18) t17 x0; binOp .neq 58 t17 x0) (fun t19 w =>
  M.cond t19
  (False)
  (R (.tuple #[]) w)) w) w) w) w)) w) w) w) w
theorem ok52 (x0 : Value) (R : Kt) (w : World) (h : sh52 x0 R w) : Ret Try.prog 52 #[x0] w R :=
  ret_mk <| calls_of_comp mixed (c := Try.f52.body.getD .skip) (args := [x0]) (rs := []) (Ann.seq Ann.text (Ann.cond Ann.text (Ann.seq Ann.text (Ann.cond Ann.leaf Ann.leaf))))
    Try.func52 (by kernel_rfl) (by kernel_rfl)
    (Eq.mp (by kernel_rfl) h)
/-! (*strings.Builder).WriteString: function 22 -/
def sh22 (x0 x1 : Value) (R : Kt) (w : World) : Prop :=
  M.call Try.prog 52 #[x0] (fun t7 w =>
  M.nilCheck x0 (fun t10 w =>
  M.fieldAddr 1 t10 (fun t11 w =>
  M.load1 t11 (fun t12 w =>
  M.next Try.prog (builtin .append #[59, 9] 59 #[false, false] #[t12, x1]) (fun t14 w =>
  M.nilCheck x0 (fun t15 w =>
  M.fieldAddr 1 t15 (fun t16 w =>
  M.store 1 t16 t14 (fun _ w =>
  M.lenS x1 (fun t18 w =>
  R (.tuple #[t18, Value.nilIface]) w) w) w) w) w) w) w) w) w) w
theorem ok22 (x0 x1 : Value) (R : Kt) (w : World) (h : sh22 x0 x1 R w) : Ret Try.prog 22 #[x0, x1] w R :=
  ret_mk <| calls_of_comp mixed (c := Try.f22.body.getD .skip) (args := [x0, x1]) (rs := [(ResultVar.tmp 4), (ResultVar.tmp 5)]) (Ann.seq Ann.text (Ann.seq Ann.text (Ann.seq Ann.text (Ann.seq Ann.text Ann.leaf))))
    Try.func22 (by kernel_rfl) (by kernel_rfl)
    (Eq.mp (by kernel_rfl) h)
/-! (*strings.Builder).Len: function 21 -/
def sh21 (x0 : Value) (R : Kt) (w : World) : Prop :=
  M.nilCheck x0 (fun t4 w =>
  M.fieldAddr 1 t4 (fun t5 w =>
  M.load1 t5 (fun t6 w =>
  M.len t6 (fun t7 w =>
  R t7 w) w) w) w) w
theorem ok21 (x0 : Value) (R : Kt) (w : World) (h : sh21 x0 R w) : Ret Try.prog 21 #[x0] w R :=
  ret_mk <| calls_of_comp mixed (c := Try.f21.body.getD .skip) (args := [x0]) (rs := [(ResultVar.tmp 2)]) (Ann.seq Ann.text (Ann.seq Ann.text Ann.leaf))
    Try.func21 (by kernel_rfl) (by kernel_rfl)
    (Eq.mp (by kernel_rfl) h)
/-! (*strings.Builder).String: function 24 -/
def sh24 (x0 : Value) (R : Kt) (w : World) : Prop :=
  M.draw (fun w =>
  M.nilCheck x0 (fun t4 w =>
  M.fieldAddr 1 t4 (fun t5 w =>
  M.load1 t5 (fun t6 w =>
  M.nilCheck x0 (fun t9 w =>
  M.fieldAddr 1 t9 (fun t10 w =>
  M.load1 t10 (fun t11 w =>
  M.len t11 (fun t12 w =>
  M.next Try.prog (builtin .unsafeSliceData #[59] 98 #[false] #[t6]) (fun t7 w =>
  ((M.load1 t10 (fun v' _ => v' = t11) w) ∧ M.next Try.prog (builtin .unsafeString #[98, 3] 9 #[false, false] #[t7, t12]) (fun t13 w =>
  ((M.load1 t10 (fun v' _ => v' = t11) w) ∧ R t13 w)) w)) w) w) w) w) w) w) w) w) w
theorem ok24 (x0 : Value) (R : Kt) (w : World) (h : sh24 x0 R w) : Ret Try.prog 24 #[x0] w R :=
  ret_mk <| calls_of_comp mixed (c := Try.f24.body.getD .skip) (args := [x0]) (rs := [(ResultVar.tmp 2)]) (Ann.seq Ann.text (Ann.seq (Ann.draw (Sch.take 0 (Sch.take 1 (Sch.take 2 (Sch.take 3 (Sch.take 5 (Sch.take 6 (Sch.take 7 (Sch.take 8 (Sch.take 9 (Sch.one 4 (Sch.one 10 (Sch.take 11 Sch.done))))))))))))) Ann.leaf))
    Try.func24 (by kernel_rfl) (by kernel_rfl)
    (Eq.mp (by kernel_rfl) h)

abbrev nilS : Value := .pointer none
def isU8 (w : World) (k : Nat) : Prop := ∃ c fz, w.heap[k]? = some (.cells c 5 fz)
/-- A block of cells whose type is known. -/
def BlkT (T : TypeId) (w : World) (b : Nat) (l : List Value) : Prop := w.heap[b]? = some (.cells ⟨l⟩ T (0, 0))
theorem BlkT.blk {T : TypeId} {w : World} {b : Nat} {l : List Value} (h : BlkT T w b l) : Blk w b l := ⟨T, h⟩
theorem M.storeT_i {k : Kt} {w : World} {T : TypeId} {b o : Nat} {l : List Value} {v : Value} (hb : BlkT T w b l) (ho : o < l.length) (hv : v.oneCell' = true)
    (h : ∀ w', BlkT T w' b (l.set o v) → Keep w w' (· = b) → w'.heap.size = w.heap.size → k undef w') : M.store 1 (.pointer (some ⟨b, o, none⟩)) v k w := by
  have hc : v.cells = #[v] := by cases v <;> simp_all [Value.cells, Value.oneCell']
  have h1 : w.cell? ⟨b, o, none⟩ = some l[o] := hb.blk.cell (List.getElem?_eq_getElem ho)
  unfold M.store
  refine ⟨by rw [hc]; rfl, ?_⟩
  rw [hc]
  simp only [wrL, hv, if_true, add_mk, Nat.add_zero, h1, hb.blk.frozen]
  have h2 : BlkT T (w.setCell ⟨b, o, none⟩ v) b (l.set o v) := by
    obtain ⟨T', hT'⟩ := setCell_blk (o := o) hb.blk v
    have h3 : ∃ l', (w.setCell ⟨b, o, none⟩ v).heap[b]? = some (.cells l' T (0, 0)) := by
      have hlt := hb.blk.lt
      unfold BlkT at hb
      simp only [World.setCell, Array.getElem?_modify, if_true, hb, Option.map_some]
      exact ⟨_, rfl⟩
    obtain ⟨l', h3⟩ := h3
    unfold BlkT
    rw [hT'] at h3 ⊢
    simp only [Option.some.injEq, Obj.cells.injEq] at h3
    rw [h3.2.1]
  exact h _ h2 (setCell_keep w b o v) (by simp)
/-- A strings.Builder of one's own, in block b, its bytes in a block of theirs. -/
def Bld (w : World) (b : Nat) (l : Bt) : Prop := ∃ p v, BlkT 61 w b [p, v] ∧ (p = nilS ∨ p = ptr b) ∧ w.ownsRow b 5 1 v l.length (byteCells l) ∧ v.ownBlock ≠ some b
def BS (w : World) (b : Nat) (i : Nat) : Prop := i = b ∨ (b ≤ i ∧ isU8 w i)
theorem BlkT.keep {T : TypeId} {w w' : World} {b : Nat} {l : List Value} {S : Nat → Prop} (h : BlkT T w b l) (k : Keep w w' S) (hs : ¬ S b) : BlkT T w' b l := by
  unfold BlkT
  rw [k.blk b h.blk.lt hs]; exact h
theorem row_keep {w w' : World} {b n : Nat} {v : Value} {bs : List Value} {S : Nat → Prop} (h : w.ownsRow b 5 1 v n bs) (k : Keep w w' S) (hs : ∀ i, b ≤ i → isU8 w i → v.ownBlock = some i → ¬ S i) : w'.ownsRow b 5 1 v n bs := by
  obtain ⟨h2, h3⟩ := h
  refine ⟨h2, ?_⟩
  rcases h3 with h3 | ⟨g, cap, cur, rfl, e2, e3, e4⟩
  · exact .inl h3
  · exact .inr ⟨g, cap, cur, rfl, e2, by rw [k.blk g (lt_of_heap e3) (hs g e2 ⟨_, _, e3⟩ rfl)]; exact e3, e4⟩
theorem Bld.keep {w w' : World} {b : Nat} {l : Bt} {S : Nat → Prop} (h : Bld w b l) (k : Keep w w' S) (hs : ∀ i, BS w b i → ¬ S i) : Bld w' b l := by
  obtain ⟨p, v, h1, h2, h3, h4⟩ := h
  exact ⟨p, v, h1.keep k (hs b (.inl rfl)), h2, row_keep h3 k (fun i hi hu _ => hs i (.inr ⟨hi, hu⟩)), h4⟩
theorem Bld.keepN {w w' : World} {b : Nat} {l : Bt} (h : Bld w b l) (k : Keep w w' No) : Bld w' b l := h.keep k (fun _ _ h => h)
theorem Bld.lt {w : World} {b : Nat} {l : Bt} (h : Bld w b l) : b < w.heap.size := by
  obtain ⟨p, v, h1, _⟩ := h
  exact h1.blk.lt
theorem bld_new {k : Kt} {w : World} (h : ∀ w', Bld w' w.heap.size [] → Keep w w' No → w'.heap.size = w.heap.size + 1 → k (ptr w.heap.size) w') : M.new 61 #[.pointer none, .slice none 0 0] k w := by
  unfold M.new
  exact h (w.alloc (.cells #[.pointer none, .slice none 0 0] 61)) ⟨_, _, alloc_new w _, .inl rfl, World.ownsRow_nil _ _ _ _, by simp [Value.ownBlock]⟩ (Keep.alloc w _ _) (by simp)
theorem byteCells_app (a b : Bt) : byteCells (a ++ b) = byteCells a ++ byteCells b := by simp [byteCells]
/-- copyCheck: the builder's address is put down. -/
theorem copy_ret {w : World} {b : Nat} {l : Bt} (h : Bld w b l) : Ret Try.prog 52 #[ptr b] w (fun r w' => r = .tuple #[] ∧ Bld w' b l ∧ Keep w w' (· = b)) := by
  obtain ⟨p, v, h1, h2, h3, h4⟩ := id h
  have h1b := h1.blk
  have hsh : w.shape? b = some (61, 2) := by
    unfold BlkT at h1
    simp [World.shape?, h1]
  refine ok52 _ _ _ ?_
  unfold sh52
  have hsz : (Try.prog.info? 61).map (·.size) = some 2 := by kernel_rfl
  obtain ⟨j, hj, hjs⟩ := Option.map_eq_some_iff.1 hsz
  rcases h2 with rfl | rfl
  · (repeat (first|refine ja ?_|refine jb ?_|refine jc ?_|refine jd ?_|refine je ?_|refine jf ?_|refine jg ?_|refine jh ?_|refine ji ?_|refine jj ?_|refine jk ?_|refine jl ?_|refine jm ?_|refine jn ?_|refine jo ?_|refine jp ?_|refine jq ?_|refine jr ?_|refine js ?_|refine jt ?_|refine ju ?_|refine jv ?_|refine jw ?_|refine jx ?_|refine jy ?_|refine jz ?_|refine jA ?_|refine jB ?_|refine jC ?_|refine jD ?_|refine jE ?_|refine jF ?_|refine jG ?_|refine jH ?_|refine jI ?_|refine jJ ?_|refine jK ?_|refine jL ?_|refine jM (by assumption) ?_|refine jN (by assumption) rfl ?_|refine jO (by assumption) ?_|refine jP (by assumption) rfl ?_|refine jQ ?_|refine jR ?_|refine jS ?_|refine jT ?_|refine jU (by assumption) rfl ?_))
    refine M.val_i (v := ptr b) (w' := w) ?_ ?_
    · exact run_to_unsafe w ⟨b, 0, none⟩ (by kernel_rfl) (by kernel_rfl) hj (by omega) hsh (by show 0 < 2; omega)
    have hx : (callFunc 67 #[ptr b]).run Try.prog w = .ok (.value (ptr b)) w := by rfl
    unfold M.next execW
    rw [hx]
    simp only
    refine M.val_i (v := ptr b) (w' := w) ?_ ?_
    · exact run_from_unsafe w ⟨b, 0, none⟩ (by kernel_rfl) (by kernel_rfl) hj hsh (by kernel_rfl)
    (repeat (first|refine ja ?_|refine jb ?_|refine jc ?_|refine jd ?_|refine je ?_|refine jf ?_|refine jg ?_|refine jh ?_|refine ji ?_|refine jj ?_|refine jk ?_|refine jl ?_|refine jm ?_|refine jn ?_|refine jo ?_|refine jp ?_|refine jq ?_|refine jr ?_|refine js ?_|refine jt ?_|refine ju ?_|refine jv ?_|refine jw ?_|refine jx ?_|refine jy ?_|refine jz ?_|refine jA ?_|refine jB ?_|refine jC ?_|refine jD ?_|refine jE ?_|refine jF ?_|refine jG ?_|refine jH ?_|refine jI ?_|refine jJ ?_|refine jK ?_|refine jL ?_|refine jM (by assumption) ?_|refine jN (by assumption) rfl ?_|refine jO (by assumption) ?_|refine jP (by assumption) rfl ?_|refine jQ ?_|refine jR ?_|refine jS ?_|refine jT ?_|refine jU (by assumption) rfl ?_))
    refine M.storeT_i h1 (by simp) rfl (fun w1 d1 k1 s1 => ?_)
    refine ⟨trivial, ⟨_, v, d1, .inr rfl, row_keep h3 k1 (fun i hi hu e hb => ?_), h4⟩, k1⟩
    have hb : i = b := hb
    subst hb
    exact h4 e
  · (repeat (first|refine ja ?_|refine jb ?_|refine jc ?_|refine jd ?_|refine je ?_|refine jf ?_|refine jg ?_|refine jh ?_|refine ji ?_|refine jj ?_|refine jk ?_|refine jl ?_|refine jm ?_|refine jn ?_|refine jo ?_|refine jp ?_|refine jq ?_|refine jr ?_|refine js ?_|refine jt ?_|refine ju ?_|refine jv ?_|refine jw ?_|refine jx ?_|refine jy ?_|refine jz ?_|refine jA ?_|refine jB ?_|refine jC ?_|refine jD ?_|refine jE ?_|refine jF ?_|refine jG ?_|refine jH ?_|refine jI ?_|refine jJ ?_|refine jK ?_|refine jL ?_|refine jM (by assumption) ?_|refine jN (by assumption) rfl ?_|refine jO (by assumption) ?_|refine jP (by assumption) rfl ?_|refine jQ ?_|refine jR ?_|refine jS ?_|refine jT ?_|refine jU (by assumption) rfl ?_))
    refine M.val_i (v := .bool false) (w' := w) ?_ ?_
    · exact run_neq_ptr_same w ⟨b, 0, none⟩ (by kernel_rfl) hj
    (repeat (first|refine ja ?_|refine jb ?_|refine jc ?_|refine jd ?_|refine je ?_|refine jf ?_|refine jg ?_|refine jh ?_|refine ji ?_|refine jj ?_|refine jk ?_|refine jl ?_|refine jm ?_|refine jn ?_|refine jo ?_|refine jp ?_|refine jq ?_|refine jr ?_|refine js ?_|refine jt ?_|refine ju ?_|refine jv ?_|refine jw ?_|refine jx ?_|refine jy ?_|refine jz ?_|refine jA ?_|refine jB ?_|refine jC ?_|refine jD ?_|refine jE ?_|refine jF ?_|refine jG ?_|refine jH ?_|refine jI ?_|refine jJ ?_|refine jK ?_|refine jL ?_|refine jM (by assumption) ?_|refine jN (by assumption) rfl ?_|refine jO (by assumption) ?_|refine jP (by assumption) rfl ?_|refine jQ ?_|refine jR ?_|refine jS ?_|refine jT ?_|refine jU (by assumption) rfl ?_))
    exact ⟨rfl, h, Keep.refl _ _⟩
theorem bld_write {w : World} {b : Nat} {l : Bt} (h : Bld w b l) (s : Bt) (hl : l.length + s.length ≤ 1000000000) :
    Ret Try.prog 22 #[ptr b, vs s] w (fun r w' => r = .tuple #[vi s.length, .nilIface] ∧ Bld w' b (l ++ s) ∧ Keep w w' (BS w b)) := by
  refine ok22 _ _ _ _ ?_
  unfold sh22
  refine M.call_i (copy_ret h) ?_; rintro _ w1 ⟨rfl, ⟨p, v, d1, h2, h3, h4⟩, k1⟩
  have h1b := d1.blk
  (repeat (first|refine ja ?_|refine jb ?_|refine jc ?_|refine jd ?_|refine je ?_|refine jf ?_|refine jg ?_|refine jh ?_|refine ji ?_|refine jj ?_|refine jk ?_|refine jl ?_|refine jm ?_|refine jn ?_|refine jo ?_|refine jp ?_|refine jq ?_|refine jr ?_|refine js ?_|refine jt ?_|refine ju ?_|refine jv ?_|refine jw ?_|refine jx ?_|refine jy ?_|refine jz ?_|refine jA ?_|refine jB ?_|refine jC ?_|refine jD ?_|refine jE ?_|refine jF ?_|refine jG ?_|refine jH ?_|refine jI ?_|refine jJ ?_|refine jK ?_|refine jL ?_|refine jM (by assumption) ?_|refine jN (by assumption) rfl ?_|refine jO (by assumption) ?_|refine jP (by assumption) rfl ?_|refine jQ ?_|refine jR ?_|refine jS ?_|refine jT ?_|refine jU (by assumption) rfl ?_))
  have hbs : ∀ i, i < w.heap.size → isU8 w1 i → i ≠ b → isU8 w i := fun i hi hu hne => by
    obtain ⟨c, fz, h⟩ := hu
    exact ⟨c, fz, by rw [← k1.blk i hi hne]; exact h⟩
  obtain ⟨i, hi, hz0, hz1, hz2⟩ : ∃ i, Try.prog.info? 5 = some i ∧ i.zero = some (.int .u8 0) ∧ i.size = 1 ∧ i.bytes = 1 := by
    have : (Try.prog.info? 5).map (fun i => (i.zero, i.size, i.bytes)) = some (some (.int .u8 0), 1, 1) := by kernel_rfl
    obtain ⟨i, hi, h⟩ := Option.map_eq_some_iff.1 this
    simp only [Prod.mk.injEq] at h
    exact ⟨i, hi, h.1, h.2.1, h.2.2⟩
  obtain ⟨v', w2, hr, h5, h6, h7⟩ := run_append_own_string (P := Try.prog) w1 b 59 9 59 5 i (by kernel_rfl) (by kernel_rfl) hi hz0 hz1 hz2 v l.length (byteCells l) h3 ⟨s.toArray⟩
    (by simp only [ByteArray.size, List.size_toArray, maxLen]; omega) (by simp only [ByteArray.size, List.size_toArray]; omega) (Nat.le_of_lt d1.blk.lt)
  have es : (⟨s.toArray⟩ : ByteArray).size = s.length := by simp [ByteArray.size]
  have k2 : Keep w1 w2 (fun i => v.ownBlock = some i) := ⟨h6.os, h6.tape, h6.output, h6.size, fun i hi hn => h6.block i hi (fun e => hn e.symm)⟩
  refine M.next_i (v := v') (w' := w2) hr ?_
  have d2 := d1.keep k2 h4
  have h1b := d2.blk
  have one : v'.oneCell' = true := by
    obtain ⟨_, h | ⟨g, cap, cur, h, _⟩⟩ := h5
    · rw [h.1]; rfl
    · rw [h]; rfl
  have hne : v'.ownBlock ≠ some b := by
    intro e
    obtain ⟨_, h | ⟨g, cap, cur, h, hg, hc, _⟩⟩ := h5
    · rw [h.1] at e; simp [Value.ownBlock] at e
    · rw [h] at e
      simp only [Value.ownBlock, Option.some.injEq] at e
      subst e
      have d2' := d2
      unfold BlkT at d2'
      rw [hc] at d2'
      simp only [Option.some.injEq, Obj.cells.injEq] at d2'
      exact absurd d2'.2.1 (by decide)
  (repeat (first|refine ja ?_|refine jb ?_|refine jc ?_|refine jd ?_|refine je ?_|refine jf ?_|refine jg ?_|refine jh ?_|refine ji ?_|refine jj ?_|refine jk ?_|refine jl ?_|refine jm ?_|refine jn ?_|refine jo ?_|refine jp ?_|refine jq ?_|refine jr ?_|refine js ?_|refine jt ?_|refine ju ?_|refine jv ?_|refine jw ?_|refine jx ?_|refine jy ?_|refine jz ?_|refine jA ?_|refine jB ?_|refine jC ?_|refine jD ?_|refine jE ?_|refine jF ?_|refine jG ?_|refine jH ?_|refine jI ?_|refine jJ ?_|refine jK ?_|refine jL ?_|refine jM (by assumption) ?_|refine jN (by assumption) rfl ?_|refine jO (by assumption) ?_|refine jP (by assumption) rfl ?_|refine jQ ?_|refine jR ?_|refine jS ?_|refine jT ?_|refine jU (by assumption) rfl ?_))
  refine M.storeT_i d2 (by simp) one (fun w3 d3 k3 s3 => ?_)
  refine M.lenS_i ?_
  refine ⟨rfl, ⟨p, v', d3, h2, ?_, hne⟩, ?_⟩
  · have h5' := row_keep h5 k3 (fun i hi hu e hb => by
      have hb : i = b := hb
      subst hb
      exact hne e)
    rw [byteCells_app, List.length_append]
    rw [es] at h5'
    have e2 : strCells ⟨s.toArray⟩ = byteCells s := by simp [strCells, byteCells]
    rw [e2] at h5'
    exact h5'
  · have own : ∀ i, i < w.heap.size → v.ownBlock = some i → BS w b i := fun i hi e => by
      obtain ⟨_, h | ⟨g, cap, cur, h, hg, hc, _⟩⟩ := h3
      · rw [h.1] at e; simp [Value.ownBlock] at e
      · rw [h] at e
        simp only [Value.ownBlock, Option.some.injEq] at e
        subst e
        by_cases hb : g = b
        · exact .inl hb
        · exact .inr ⟨hg, hbs g hi ⟨_, _, hc⟩ hb⟩
    exact ((k1.mono (fun i hi e => .inl e)).trans k2 (fun i hi e => own i hi e)).trans k3 (fun i hi e => .inl e)
theorem bld_len {w : World} {b : Nat} {l : Bt} (h : Bld w b l) : Ret Try.prog 21 #[ptr b] w (fun r w' => r = vi l.length ∧ w' = w) := by
  obtain ⟨p, v, h1, h2, h3, h4⟩ := id h
  have h1b := h1.blk
  refine ok21 _ _ _ ?_
  unfold sh21
  (repeat (first|refine ja ?_|refine jb ?_|refine jc ?_|refine jd ?_|refine je ?_|refine jf ?_|refine jg ?_|refine jh ?_|refine ji ?_|refine jj ?_|refine jk ?_|refine jl ?_|refine jm ?_|refine jn ?_|refine jo ?_|refine jp ?_|refine jq ?_|refine jr ?_|refine js ?_|refine jt ?_|refine ju ?_|refine jv ?_|refine jw ?_|refine jx ?_|refine jy ?_|refine jz ?_|refine jA ?_|refine jB ?_|refine jC ?_|refine jD ?_|refine jE ?_|refine jF ?_|refine jG ?_|refine jH ?_|refine jI ?_|refine jJ ?_|refine jK ?_|refine jL ?_|refine jM (by assumption) ?_|refine jN (by assumption) rfl ?_|refine jO (by assumption) ?_|refine jP (by assumption) rfl ?_|refine jQ ?_|refine jR ?_|refine jS ?_|refine jT ?_|refine jU (by assumption) rfl ?_))
  obtain ⟨_, ⟨rfl, e⟩ | ⟨g, cap, cur, rfl, _⟩⟩ := h3
  · (repeat (first|refine ja ?_|refine jb ?_|refine jc ?_|refine jd ?_|refine je ?_|refine jf ?_|refine jg ?_|refine jh ?_|refine ji ?_|refine jj ?_|refine jk ?_|refine jl ?_|refine jm ?_|refine jn ?_|refine jo ?_|refine jp ?_|refine jq ?_|refine jr ?_|refine js ?_|refine jt ?_|refine ju ?_|refine jv ?_|refine jw ?_|refine jx ?_|refine jy ?_|refine jz ?_|refine jA ?_|refine jB ?_|refine jC ?_|refine jD ?_|refine jE ?_|refine jF ?_|refine jG ?_|refine jH ?_|refine jI ?_|refine jJ ?_|refine jK ?_|refine jL ?_|refine jM (by assumption) ?_|refine jN (by assumption) rfl ?_|refine jO (by assumption) ?_|refine jP (by assumption) rfl ?_|refine jQ ?_|refine jR ?_|refine jS ?_|refine jT ?_|refine jU (by assumption) rfl ?_))
    exact ⟨by rw [e], rfl⟩
  · (repeat (first|refine ja ?_|refine jb ?_|refine jc ?_|refine jd ?_|refine je ?_|refine jf ?_|refine jg ?_|refine jh ?_|refine ji ?_|refine jj ?_|refine jk ?_|refine jl ?_|refine jm ?_|refine jn ?_|refine jo ?_|refine jp ?_|refine jq ?_|refine jr ?_|refine js ?_|refine jt ?_|refine ju ?_|refine jv ?_|refine jw ?_|refine jx ?_|refine jy ?_|refine jz ?_|refine jA ?_|refine jB ?_|refine jC ?_|refine jD ?_|refine jE ?_|refine jF ?_|refine jG ?_|refine jH ?_|refine jI ?_|refine jJ ?_|refine jK ?_|refine jL ?_|refine jM (by assumption) ?_|refine jN (by assumption) rfl ?_|refine jO (by assumption) ?_|refine jP (by assumption) rfl ?_|refine jQ ?_|refine jR ?_|refine jS ?_|refine jT ?_|refine jU (by assumption) rfl ?_))
    exact ⟨rfl, rfl⟩
theorem bld_string {w : World} {b : Nat} {l : Bt} (h : Bld w b l) (hl : l.length ≤ 1000000000) : Ret Try.prog 24 #[ptr b] w (fun r w' => r = vs l ∧ Keep w w' (BS w b)) := by
  obtain ⟨p, v, h1, h2, h3, h4⟩ := id h
  have h1b : Blk w.drew b [p, v] := h1.blk
  refine ok24 _ _ _ ?_
  unfold sh24
  refine M.draw_i ?_
  (repeat (first|refine ja ?_|refine jb ?_|refine jc ?_|refine jd ?_|refine je ?_|refine jf ?_|refine jg ?_|refine jh ?_|refine ji ?_|refine jj ?_|refine jk ?_|refine jl ?_|refine jm ?_|refine jn ?_|refine jo ?_|refine jp ?_|refine jq ?_|refine jr ?_|refine js ?_|refine jt ?_|refine ju ?_|refine jv ?_|refine jw ?_|refine jx ?_|refine jy ?_|refine jz ?_|refine jA ?_|refine jB ?_|refine jC ?_|refine jD ?_|refine jE ?_|refine jF ?_|refine jG ?_|refine jH ?_|refine jI ?_|refine jJ ?_|refine jK ?_|refine jL ?_|refine jM (by assumption) ?_|refine jN (by assumption) rfl ?_|refine jO (by assumption) ?_|refine jP (by assumption) rfl ?_|refine jQ ?_|refine jR ?_|refine jS ?_|refine jT ?_|refine jU (by assumption) rfl ?_))
  obtain ⟨hbl, ⟨rfl, e⟩ | ⟨g, cap, cur, rfl, hg, hc, hle, hcap, hcs, htk⟩⟩ := id h3
  · have e : l = [] := List.length_eq_zero_iff.1 e
    subst e
    (repeat (first|refine ja ?_|refine jb ?_|refine jc ?_|refine jd ?_|refine je ?_|refine jf ?_|refine jg ?_|refine jh ?_|refine ji ?_|refine jj ?_|refine jk ?_|refine jl ?_|refine jm ?_|refine jn ?_|refine jo ?_|refine jp ?_|refine jq ?_|refine jr ?_|refine js ?_|refine jt ?_|refine ju ?_|refine jv ?_|refine jw ?_|refine jx ?_|refine jy ?_|refine jz ?_|refine jA ?_|refine jB ?_|refine jC ?_|refine jD ?_|refine jE ?_|refine jF ?_|refine jG ?_|refine jH ?_|refine jI ?_|refine jJ ?_|refine jK ?_|refine jL ?_|refine jM (by assumption) ?_|refine jN (by assumption) rfl ?_|refine jO (by assumption) ?_|refine jP (by assumption) rfl ?_|refine jQ ?_|refine jR ?_|refine jS ?_|refine jT ?_|refine jU (by assumption) rfl ?_))
    refine M.next_i (v := .pointer none) (w' := w.drew) (run_unsafeSliceData_nil _ _ _ _ _) ?_
    (repeat (first|refine ja ?_|refine jb ?_|refine jc ?_|refine jd ?_|refine je ?_|refine jf ?_|refine jg ?_|refine jh ?_|refine ji ?_|refine jj ?_|refine jk ?_|refine jl ?_|refine jm ?_|refine jn ?_|refine jo ?_|refine jp ?_|refine jq ?_|refine jr ?_|refine js ?_|refine jt ?_|refine ju ?_|refine jv ?_|refine jw ?_|refine jx ?_|refine jy ?_|refine jz ?_|refine jA ?_|refine jB ?_|refine jC ?_|refine jD ?_|refine jE ?_|refine jF ?_|refine jG ?_|refine jH ?_|refine jI ?_|refine jJ ?_|refine jK ?_|refine jL ?_|refine jM (by assumption) ?_|refine jN (by assumption) rfl ?_|refine jO (by assumption) ?_|refine jP (by assumption) rfl ?_|refine jQ ?_|refine jR ?_|refine jS ?_|refine jT ?_|refine jU (by assumption) rfl ?_))
    refine M.next_i (v := .string .empty) (w' := w.drew) (run_unsafeString_none _ _ _ _ _) ?_
    (repeat (first|refine ja ?_|refine jb ?_|refine jc ?_|refine jd ?_|refine je ?_|refine jf ?_|refine jg ?_|refine jh ?_|refine ji ?_|refine jj ?_|refine jk ?_|refine jl ?_|refine jm ?_|refine jn ?_|refine jo ?_|refine jp ?_|refine jq ?_|refine jr ?_|refine js ?_|refine jt ?_|refine ju ?_|refine jv ?_|refine jw ?_|refine jx ?_|refine jy ?_|refine jz ?_|refine jA ?_|refine jB ?_|refine jC ?_|refine jD ?_|refine jE ?_|refine jF ?_|refine jG ?_|refine jH ?_|refine jI ?_|refine jJ ?_|refine jK ?_|refine jL ?_|refine jM (by assumption) ?_|refine jN (by assumption) rfl ?_|refine jO (by assumption) ?_|refine jP (by assumption) rfl ?_|refine jQ ?_|refine jR ?_|refine jS ?_|refine jT ?_|refine jU (by assumption) rfl ?_))
    exact ⟨rfl, Keep.drew _ _⟩
  · have hcell : ∀ j x, l[j]? = some x → w.drew.cell? ((⟨g, 0, none⟩ : Addr).add j) = some (.int .u8 x.toNat) := fun j x hx => by
      rw [add_mk]
      simp only [World.cell?, Nat.zero_add]
      have hc' : w.drew.heap[g]? = some (.cells cur 5 (0, 0)) := hc
      rw [hc']
      have h1 : (byteCells l)[j]? = some (.int .u8 x.toNat) := by simp [byteCells, hx]
      rw [← htk, List.getElem?_take] at h1
      split at h1
      · simpa using h1
      · cases h1
    have hd : w.drew.shape? g = some (5, cap) := by
      have hc' : w.drew.heap[g]? = some (.cells cur 5 (0, 0)) := hc
      simp [World.shape?, hc', hcs]
    have hS : BS w b g := by
      refine .inr ⟨hg, _, _, hc⟩
    (repeat (first|refine ja ?_|refine jb ?_|refine jc ?_|refine jd ?_|refine je ?_|refine jf ?_|refine jg ?_|refine jh ?_|refine ji ?_|refine jj ?_|refine jk ?_|refine jl ?_|refine jm ?_|refine jn ?_|refine jo ?_|refine jp ?_|refine jq ?_|refine jr ?_|refine js ?_|refine jt ?_|refine ju ?_|refine jv ?_|refine jw ?_|refine jx ?_|refine jy ?_|refine jz ?_|refine jA ?_|refine jB ?_|refine jC ?_|refine jD ?_|refine jE ?_|refine jF ?_|refine jG ?_|refine jH ?_|refine jI ?_|refine jJ ?_|refine jK ?_|refine jL ?_|refine jM (by assumption) ?_|refine jN (by assumption) rfl ?_|refine jO (by assumption) ?_|refine jP (by assumption) rfl ?_|refine jQ ?_|refine jR ?_|refine jS ?_|refine jT ?_|refine jU (by assumption) rfl ?_))
    by_cases h0 : l = []
    · subst h0
      by_cases hc0 : cap = 0
      · subst hc0
        refine M.next_i (run_unsafeSliceData_zero w.drew _ _ 5 (by kernel_rfl) ⟨g, 0, none⟩ _ _ hd) ?_
        have ka : Keep w.drew (w.drew.alloc (.view ⟨g, 0, none⟩ 5)) No := Keep.alloc _ _ _
        have h1b := h1b.keep ka (fun h => h)
        (repeat (first|refine ja ?_|refine jb ?_|refine jc ?_|refine jd ?_|refine je ?_|refine jf ?_|refine jg ?_|refine jh ?_|refine ji ?_|refine jj ?_|refine jk ?_|refine jl ?_|refine jm ?_|refine jn ?_|refine jo ?_|refine jp ?_|refine jq ?_|refine jr ?_|refine js ?_|refine jt ?_|refine ju ?_|refine jv ?_|refine jw ?_|refine jx ?_|refine jy ?_|refine jz ?_|refine jA ?_|refine jB ?_|refine jC ?_|refine jD ?_|refine jE ?_|refine jF ?_|refine jG ?_|refine jH ?_|refine jI ?_|refine jJ ?_|refine jK ?_|refine jL ?_|refine jM (by assumption) ?_|refine jN (by assumption) rfl ?_|refine jO (by assumption) ?_|refine jP (by assumption) rfl ?_|refine jQ ?_|refine jR ?_|refine jS ?_|refine jT ?_|refine jU (by assumption) rfl ?_))
        refine M.next_i (v := .string .empty) (run_unsafeString_none _ _ _ _ _) ?_
        (repeat (first|refine ja ?_|refine jb ?_|refine jc ?_|refine jd ?_|refine je ?_|refine jf ?_|refine jg ?_|refine jh ?_|refine ji ?_|refine jj ?_|refine jk ?_|refine jl ?_|refine jm ?_|refine jn ?_|refine jo ?_|refine jp ?_|refine jq ?_|refine jr ?_|refine js ?_|refine jt ?_|refine ju ?_|refine jv ?_|refine jw ?_|refine jx ?_|refine jy ?_|refine jz ?_|refine jA ?_|refine jB ?_|refine jC ?_|refine jD ?_|refine jE ?_|refine jF ?_|refine jG ?_|refine jH ?_|refine jI ?_|refine jJ ?_|refine jK ?_|refine jL ?_|refine jM (by assumption) ?_|refine jN (by assumption) rfl ?_|refine jO (by assumption) ?_|refine jP (by assumption) rfl ?_|refine jQ ?_|refine jR ?_|refine jS ?_|refine jT ?_|refine jU (by assumption) rfl ?_))
        exact ⟨rfl, (Keep.drew w _).trans (Keep.alloc _ _ (BS w b)) (fun _ _ h => h)⟩
      · refine M.next_i (run_unsafeSliceData_row w.drew _ _ _ _ _ hc0) ?_
        (repeat (first|refine ja ?_|refine jb ?_|refine jc ?_|refine jd ?_|refine je ?_|refine jf ?_|refine jg ?_|refine jh ?_|refine ji ?_|refine jj ?_|refine jk ?_|refine jl ?_|refine jm ?_|refine jn ?_|refine jo ?_|refine jp ?_|refine jq ?_|refine jr ?_|refine js ?_|refine jt ?_|refine ju ?_|refine jv ?_|refine jw ?_|refine jx ?_|refine jy ?_|refine jz ?_|refine jA ?_|refine jB ?_|refine jC ?_|refine jD ?_|refine jE ?_|refine jF ?_|refine jG ?_|refine jH ?_|refine jI ?_|refine jJ ?_|refine jK ?_|refine jL ?_|refine jM (by assumption) ?_|refine jN (by assumption) rfl ?_|refine jO (by assumption) ?_|refine jP (by assumption) rfl ?_|refine jQ ?_|refine jR ?_|refine jS ?_|refine jT ?_|refine jU (by assumption) rfl ?_))
        refine M.next_i (v := .string .empty) (run_unsafeString_none _ _ _ _ _) ?_
        (repeat (first|refine ja ?_|refine jb ?_|refine jc ?_|refine jd ?_|refine je ?_|refine jf ?_|refine jg ?_|refine jh ?_|refine ji ?_|refine jj ?_|refine jk ?_|refine jl ?_|refine jm ?_|refine jn ?_|refine jo ?_|refine jp ?_|refine jq ?_|refine jr ?_|refine js ?_|refine jt ?_|refine ju ?_|refine jv ?_|refine jw ?_|refine jx ?_|refine jy ?_|refine jz ?_|refine jA ?_|refine jB ?_|refine jC ?_|refine jD ?_|refine jE ?_|refine jF ?_|refine jG ?_|refine jH ?_|refine jI ?_|refine jJ ?_|refine jK ?_|refine jL ?_|refine jM (by assumption) ?_|refine jN (by assumption) rfl ?_|refine jO (by assumption) ?_|refine jP (by assumption) rfl ?_|refine jQ ?_|refine jR ?_|refine jS ?_|refine jT ?_|refine jU (by assumption) rfl ?_))
        exact ⟨rfl, Keep.drew _ _⟩
    · have hpos : l.length ≠ 0 := fun e => h0 (List.length_eq_zero_iff.1 e)
      refine M.next_i (run_unsafeSliceData_row w.drew _ _ _ _ _ (by omega)) ?_
      (repeat (first|refine ja ?_|refine jb ?_|refine jc ?_|refine jd ?_|refine je ?_|refine jf ?_|refine jg ?_|refine jh ?_|refine ji ?_|refine jj ?_|refine jk ?_|refine jl ?_|refine jm ?_|refine jn ?_|refine jo ?_|refine jp ?_|refine jq ?_|refine jr ?_|refine js ?_|refine jt ?_|refine ju ?_|refine jv ?_|refine jw ?_|refine jx ?_|refine jy ?_|refine jz ?_|refine jA ?_|refine jB ?_|refine jC ?_|refine jD ?_|refine jE ?_|refine jF ?_|refine jG ?_|refine jH ?_|refine jI ?_|refine jJ ?_|refine jK ?_|refine jL ?_|refine jM (by assumption) ?_|refine jN (by assumption) rfl ?_|refine jO (by assumption) ?_|refine jP (by assumption) rfl ?_|refine jQ ?_|refine jR ?_|refine jS ?_|refine jT ?_|refine jU (by assumption) rfl ?_))
      refine M.next_i (run_unsafeString_row w.drew _ _ _ 5 (by kernel_rfl) (by kernel_rfl) g cap hd l h0 hle (by omega) hcell) ?_
      have kf : Keep w.drew (w.drew.freeze ⟨g, 0, none⟩ l.length) (· = g) := by
        unfold World.freeze
        split
        · exact Keep.refl _ _
        · exact ⟨rfl, rfl, rfl, by simp, fun i hi hn => by
            simp only [Array.getElem?_modify]
            rw [if_neg (fun e => hn e.symm)]⟩
      have h1b := h1b.keep kf (fun e => h4 (by simp only [Value.ownBlock, Option.some.injEq]; exact e.symm))
      (repeat (first|refine ja ?_|refine jb ?_|refine jc ?_|refine jd ?_|refine je ?_|refine jf ?_|refine jg ?_|refine jh ?_|refine ji ?_|refine jj ?_|refine jk ?_|refine jl ?_|refine jm ?_|refine jn ?_|refine jo ?_|refine jp ?_|refine jq ?_|refine jr ?_|refine js ?_|refine jt ?_|refine ju ?_|refine jv ?_|refine jw ?_|refine jx ?_|refine jy ?_|refine jz ?_|refine jA ?_|refine jB ?_|refine jC ?_|refine jD ?_|refine jE ?_|refine jF ?_|refine jG ?_|refine jH ?_|refine jI ?_|refine jJ ?_|refine jK ?_|refine jL ?_|refine jM (by assumption) ?_|refine jN (by assumption) rfl ?_|refine jO (by assumption) ?_|refine jP (by assumption) rfl ?_|refine jQ ?_|refine jR ?_|refine jS ?_|refine jT ?_|refine jU (by assumption) rfl ?_))
      exact ⟨rfl, (Keep.drew w _).trans kf (fun i hi e => by have e : i = g := e; subst e; exact hS)⟩
end Go.Proofs.Ythkkjjbjpbgcpaa
