import Derived.Test.YthkkjjbjpbgcpaaLaw16p
namespace Go.Proofs.Ythkkjjbjpbgcpaa
open Go.Mw Go.Maps Go.MapKept
set_option linter.unusedVariables false
set_option linter.unusedSimpArgs false
set_option maxRecDepth 100000
attribute [local irreducible] M.val M.unit M.next M.pick M.new M.nilCheck M.load1 M.loadA M.store M.fieldAddr M.indexSl M.indexArr M.slice M.makeSlice M.buildSlice M.len M.lenS M.cap M.append M.extract M.conv M.not M.neg M.bin M.shift M.eqB M.eqNil M.scat M.call M.callv M.gd M.share M.cond M.loop M.draw pureW readW Ret
/-! breakwater/breakwaterref16.kids: function 72 -/
def sh72 (x0 : Value) (R : Kt) (w : World) : Prop :=
  M.new 55 (Value.cells x0) (fun t1 w =>
  M.fieldAddr 0 t1 (fun t4 w =>
  M.load1 t4 (fun t5 w =>
  M.bin .leq t5 (Value.int IntKind.i64 14) (fun t6 w =>
  M.gd t6 false (fun k w => M.fieldAddr 0 t1 k w) (fun t8 w =>
  M.gd t6 false (fun k w => M.load1 t8 k w) (fun t9 w =>
  M.gd t6 false (fun k w => M.bin .eql t9 (Value.int IntKind.i64 24) k w) (fun t10 w =>
  M.pick t6 (Value.bool true) t10 (fun t11 w =>
  M.cond t11
  (M.fieldAddr 2 t1 (fun t12 w =>
  M.load1 t12 (fun t13 w =>
  M.fieldAddr 3 t1 (fun t14 w =>
  M.load1 t14 (fun t15 w =>
  M.buildSlice 3 1 #[.int .i64 0] 2 [(0, t13), (1, t15)] (fun t16 w =>
  R t16 w) w) w) w) w) w)
  (M.fieldAddr 0 t1 (fun t18 w =>
  M.load1 t18 (fun t19 w =>
  M.bin .eql t19 (Value.int IntKind.i64 20) (fun t20 w =>
  M.gd t20 false (fun k w => M.fieldAddr 0 t1 k w) (fun t22 w =>
  M.gd t20 false (fun k w => M.load1 t22 k w) (fun t23 w =>
  M.gd t20 false (fun k w => M.bin .eql t23 (Value.int IntKind.i64 21) k w) (fun t24 w =>
  M.pick t20 (Value.bool true) t24 (fun t25 w =>
  M.cond t25
  (R (Value.slice none 0 0) w)
  (M.fieldAddr 0 t1 (fun t27 w =>
  M.load1 t27 (fun t28 w =>
  M.bin .eql t28 (Value.int IntKind.i64 22) (fun t29 w =>
  M.cond t29
  (M.fieldAddr 2 t1 (fun t30 w =>
  M.load1 t30 (fun t31 w =>
  M.fieldAddr 3 t1 (fun t32 w =>
  M.load1 t32 (fun t33 w =>
  M.fieldAddr 4 t1 (fun t34 w =>
  M.load1 t34 (fun t35 w =>
  M.buildSlice 3 1 #[.int .i64 0] 3 [(0, t31), (1, t33), (2, t35)] (fun t36 w =>
  R t36 w) w) w) w) w) w) w) w)
  (M.fieldAddr 2 t1 (fun t37 w =>
  M.load1 t37 (fun t38 w =>
  M.buildSlice 3 1 #[.int .i64 0] 1 [(0, t38)] (fun t39 w =>
  R t39 w) w) w) w)) w) w) w)) w) w) w) w) w) w) w)) w) w) w) w) w) w) w) w
theorem ok72 (x0 : Value) (R : Kt) (w : World) (h : sh72 x0 R w) : Ret Try.prog 72 #[x0] w R :=
  ret_mk <| calls_of_comp mixed (c := Try.f72.body.getD .skip) (args := [x0]) (rs := [(ResultVar.tmp 2)]) (Ann.seq Ann.text (Ann.seq (Ann.block (Ann.seq Ann.text (Ann.cond (Ann.seq Ann.text Ann.leaf) (Ann.seq Ann.text (Ann.cond (Ann.seq Ann.text Ann.leaf) (Ann.seq Ann.text (Ann.cond (Ann.seq Ann.text Ann.leaf) Ann.leaf))))))) (Ann.seq Ann.text Ann.leaf)))
    Try.func72 (by kernel_rfl) (by kernel_rfl)
    (Eq.mp (by kernel_rfl) h)
/-! breakwater/breakwaterref16.below: function 61 -/
def sh61 (x0 x1 : Value) (R : Kt) (w : World) : Prop :=
  M.new 27 (Value.cells x0) (fun t2 w =>
  M.loadA 2 t2 (fun t10 w =>
  M.call Try.prog 25 #[t10, x1] (fun t12 w =>
  M.not t12 (fun t13 w =>
  M.cond t13
  (R (Value.slice none 0 0) w)
  (M.bin .add x1 (Value.int IntKind.i64 1) (fun t15 w =>
  M.makeSlice 4 1 1 #[.bool false] t15 t15 (fun t16 w =>
  M.indexSl 1 t16 x1 (fun t19 w =>
  M.store 1 t19 (Value.bool true) (fun _ w =>
  M.loop [(Value.slice none 0 0), x1] (fun s1 K1 w => ∀ _ : List Value,
  M.bin .geq (s1.getD 1 undef) (Value.int IntKind.i64 0) (fun t22 w =>
  M.cond t22
  (M.share (fun K2 w =>
  M.indexSl 1 t16 (s1.getD 1 undef) (fun t27 w =>
  M.load1 t27 (fun t28 w =>
  M.not t28 (fun t29 w =>
  M.cond t29
  (K2 [(s1.getD 0 undef)] w)
  (M.buildSlice 3 1 #[.int .i64 0] 1 [(0, (s1.getD 1 undef))] (fun t32 w =>
  M.append 3 1 8 #[.int .i64 0] (s1.getD 0 undef) t32 (fun t33 w =>
  M.fieldAddr 0 t2 (fun t34 w =>
  M.load1 t34 (fun t35 w =>
  M.indexSl 6 t35 (s1.getD 1 undef) (fun t37 w =>
  M.loadA 6 t37 (fun t38 w =>
  M.call Try.prog 72 #[t38] (fun t39 w =>
  M.loop [(Value.int IntKind.i64 0)] (fun s3 K3 w => ∀ _ : List Value,
  M.len t39 (fun t42 w =>
  M.bin .lss (s3.getD 0 undef) t42 (fun t43 w =>
  M.cond t43
  (M.indexSl 1 t39 (s3.getD 0 undef) (fun t49 w =>
  M.load1 t49 (fun t50 w =>
  M.indexSl 1 t16 t50 (fun t51 w =>
  M.store 1 t51 (Value.bool true) (fun _ w =>
  M.bin .add (s3.getD 0 undef) (Value.int IntKind.i64 1) (fun t45 w =>
  K3 [t45] w) w) w) w) w) w)
  (K2 [t33] w)) w) w) w) w) w) w) w) w) w) w)) w) w) w) (fun s2 w => ∀ _ : List Value,
  M.bin .sub (s1.getD 1 undef) (Value.int IntKind.i64 1) (fun t24 w =>
  K1 [(s2.getD 0 undef), t24] w) w) w)
  (R (s1.getD 0 undef) w)) w) w) w) w) w) w)) w) w) w) w
theorem ok61 (x0 x1 : Value) (R : Kt) (w : World) (h : sh61 x0 x1 R w) : Ret Try.prog 61 #[x0, x1] w R :=
  ret_mk <| calls_of_comp mixed (c := Try.f61.body.getD .skip) (args := [x0, x1]) (rs := [(ResultVar.tmp 4)]) (Ann.seq Ann.text (Ann.seq (Ann.seq Ann.text (Ann.cond (Ann.seq Ann.text Ann.leaf) Ann.leaf)) (Ann.seq Ann.text (Ann.seq Ann.text (Ann.seq Ann.text (Ann.seq (Ann.seq Ann.text (Ann.block (Ann.loop [6, 7] [8, 9, 21, 22, 23, 24, 25, 26, 27, 28, 29, 30, 31, 32, 33, 34, 35, 36, 37, 38, 39, 40, 41, 42, 43, 44, 45, 46, 47, 48, 49, 50, 51] (Ann.seq (Ann.seq Ann.text (Ann.cond Ann.leaf Ann.leaf)) (Ann.seq (Ann.jblock [6] [8, 9, 25, 26, 27, 28, 29, 30, 31, 32, 33, 34, 35, 36, 37, 38, 39, 40, 41, 42, 43, 44, 45, 46, 47, 48, 49, 50, 51] (Ann.seq (Ann.seq Ann.text (Ann.cond Ann.leaf Ann.leaf)) (Ann.seq Ann.text (Ann.seq Ann.text (Ann.seq Ann.text (Ann.block (Ann.loop [9] [40, 41, 42, 43, 44, 45, 46, 47, 48, 49, 50, 51] (Ann.seq (Ann.seq Ann.text (Ann.cond Ann.leaf Ann.leaf)) (Ann.seq (Ann.block Ann.text) Ann.text))))))))) Ann.text))))) (Ann.seq Ann.text Ann.leaf)))))))
    Try.func61 (by kernel_rfl) (by kernel_rfl)
    (Eq.mp (by kernel_rfl) h)
/-! breakwater/breakwaterref16.Vars: function 32 -/
def sh32 (x0 x1 : Value) (R : Kt) (w : World) : Prop :=
  M.new 27 (Value.cells x0) (fun t2 w =>
  M.loadA 2 t2 (fun t8 w =>
  M.call Try.prog 61 #[t8, x1] (fun t10 w =>
  M.loop [(Value.slice none 0 0), (Value.int IntKind.i64 0)] (fun s1 K1 w => ∀ _ : List Value,
  M.len t10 (fun t13 w =>
  M.bin .lss (s1.getD 1 undef) t13 (fun t14 w =>
  M.cond t14
  (M.share (fun K2 w =>
  M.draw (fun w =>
  M.fieldAddr 0 t2 (fun t17 w =>
  M.load1 t17 (fun t18 w =>
  M.indexSl 1 t10 (s1.getD 1 undef) (fun t21 w =>
  M.load1 t21 (fun t22 w =>
  M.indexSl 6 t18 t22 (fun t23 w =>
  M.fieldAddr 0 t23 (fun t24 w =>
  M.load1 t24 (fun t25 w =>
  M.bin .eql t25 (Value.int IntKind.i64 21) (fun t26 w =>
  M.cond t26
  (M.draw (fun w =>
  M.fieldAddr 0 t2 (fun t28 w =>
  M.load1 t28 (fun t29 w =>
  M.indexSl 1 t10 (s1.getD 1 undef) (fun t32 w =>
  M.load1 t32 (fun t33 w =>
  M.indexSl 6 t29 t33 (fun t34 w =>
  M.fieldAddr 2 t34 (fun t35 w =>
  M.load1 t35 (fun t36 w =>
  M.buildSlice 3 1 #[.int .i64 0] 1 [(0, t36)] (fun t37 w =>
  ((M.load1 t32 (fun v' _ => v' = t33) w) ∧ ((M.load1 t28 (fun v' _ => v' = t29) w) ∧ M.append 3 1 8 #[.int .i64 0] (s1.getD 0 undef) t37 (fun t38 w =>
  ((M.load1 t32 (fun v' _ => v' = t33) w) ∧ ((M.load1 t28 (fun v' _ => v' = t29) w) ∧ K2 [t38] w))) w))) w) w) w) w) w) w) w) w) w)
  (K2 [(s1.getD 0 undef)] w)) w) w) w) w) w) w) w) w) w) (fun s2 w => ∀ _ : List Value,
  M.bin .add (s1.getD 1 undef) (Value.int IntKind.i64 1) (fun t16 w =>
  K1 [(s2.getD 0 undef), t16] w) w) w)
  (M.call Try.prog 33 #[(s1.getD 0 undef)] (fun t40 w =>
  R t40 w) w)) w) w) w) w) w) w
theorem ok32 (x0 x1 : Value) (R : Kt) (w : World) (h : sh32 x0 x1 R w) : Ret Try.prog 32 #[x0, x1] w R :=
  ret_mk <| calls_of_comp mixed (c := Try.f32.body.getD .skip) (args := [x0, x1]) (rs := [(ResultVar.tmp 4)]) (Ann.seq Ann.text (Ann.seq Ann.text (Ann.seq Ann.text (Ann.seq (Ann.seq Ann.text (Ann.block (Ann.loop [6, 7] [11, 12, 13, 14, 15, 16, 17, 18, 19, 20, 21, 22, 23, 24, 25, 26, 27, 28, 29, 30, 31, 32, 33, 34, 35, 36, 37, 38] (Ann.seq (Ann.seq Ann.text (Ann.cond Ann.leaf Ann.leaf)) (Ann.seq (Ann.jblock [6] [17, 18, 19, 20, 21, 22, 23, 24, 25, 26, 27, 28, 29, 30, 31, 32, 33, 34, 35, 36, 37, 38] (Ann.seq (Ann.draw (Sch.take 0 (Sch.take 1 (Sch.take 2 (Sch.take 3 (Sch.take 4 (Sch.take 5 (Sch.take 6 (Sch.take 7 (Sch.take 8 (Sch.take 9 Sch.done))))))))))) (Ann.cond (Ann.draw (Sch.take 0 (Sch.take 1 (Sch.take 2 (Sch.take 3 (Sch.take 4 (Sch.take 5 (Sch.take 6 (Sch.take 7 (Sch.take 8 (Sch.take 9 (Sch.one 10 (Sch.one 11 (Sch.take 12 Sch.done)))))))))))))) Ann.leaf))) Ann.text))))) (Ann.seq Ann.text Ann.leaf)))))
    Try.func32 (by kernel_rfl) (by kernel_rfl)
    (Eq.mp (by kernel_rfl) h)

theorem rkids_ret {NN : List Nd} {n : Nd} (hn : goodN NN n) (w : World) : Ret Try.prog 72 #[encN n] w (fun r w' => LV vi w' (w.heap.size ≤ ·) r (kidsN n) ∧ Keep w w' No) := by
  refine ok72 _ _ _ ?_
  unfold sh72
  refine M.new_i (l := n.cells) (fun w1 b1 k1 s1 => ?_)
  have b1 : Blk w1 w.heap.size [vi n.op, vi n.wd, vi n.a, vi n.b, vi n.c, vw n.val] := b1
  have q := k1.size
  obtain ⟨_, _, h3⟩ := hn
  have hop : 1 ≤ n.op := by rcases h3 with ⟨h, _⟩ | ⟨h, _⟩ | ⟨h, _⟩ | ⟨h, _⟩ | ⟨h, _⟩ | ⟨h, _⟩ | ⟨h, _⟩ | ⟨h, _⟩ <;> omega
  by_cases h14 : n.op ≤ 14
  · rw [kids_two (by omega)]
    (repeat (first|refine ja ?_|refine jb ?_|refine jc ?_|refine jd ?_|refine je ?_|refine jf ?_|refine jg ?_|refine jh ?_|refine ji ?_|refine jj ?_|refine jk ?_|refine jl ?_|refine jm ?_|refine jn ?_|refine jo ?_|refine jp ?_|refine jq ?_|refine jr ?_|refine js ?_|refine jt ?_|refine ju ?_|refine jv ?_|refine jw ?_|refine jx ?_|refine jy ?_|refine jz ?_|refine jA ?_|refine jB ?_|refine jC ?_|refine jD ?_|refine jE ?_|refine jF ?_|refine jG ?_|refine jH ?_|refine jI ?_|refine jJ ?_|refine jK ?_|refine jL ?_|refine jM (by assumption) ?_|refine jN (by assumption) rfl ?_|refine jO (by assumption) ?_|refine jP (by assumption) rfl ?_|refine jQ ?_|refine jR ?_|refine jS ?_|refine jT ?_|refine jU (by assumption) rfl ?_))
    refine M.buildSlice_i [vi n.a, vi n.b] (by kernel_rfl) (fun w2 b2 k2 s2 => ?_)
    exact ⟨⟨_, _, rfl, Row.of_blk' b2 (by omega), Nat.le_refl _⟩, k1.trans k2 (fun _ _ h => h)⟩
  by_cases h24 : n.op = 24
  · rw [kids_two (by omega)]
    (repeat (first|refine ja ?_|refine jb ?_|refine jc ?_|refine jd ?_|refine je ?_|refine jf ?_|refine jg ?_|refine jh ?_|refine ji ?_|refine jj ?_|refine jk ?_|refine jl ?_|refine jm ?_|refine jn ?_|refine jo ?_|refine jp ?_|refine jq ?_|refine jr ?_|refine js ?_|refine jt ?_|refine ju ?_|refine jv ?_|refine jw ?_|refine jx ?_|refine jy ?_|refine jz ?_|refine jA ?_|refine jB ?_|refine jC ?_|refine jD ?_|refine jE ?_|refine jF ?_|refine jG ?_|refine jH ?_|refine jI ?_|refine jJ ?_|refine jK ?_|refine jL ?_|refine jM (by assumption) ?_|refine jN (by assumption) rfl ?_|refine jO (by assumption) ?_|refine jP (by assumption) rfl ?_|refine jQ ?_|refine jR ?_|refine jS ?_|refine jT ?_|refine jU (by assumption) rfl ?_))
    refine M.buildSlice_i [vi n.a, vi n.b] (by kernel_rfl) (fun w2 b2 k2 s2 => ?_)
    exact ⟨⟨_, _, rfl, Row.of_blk' b2 (by omega), Nat.le_refl _⟩, k1.trans k2 (fun _ _ h => h)⟩
  by_cases h20 : n.op = 20
  · have hk : kidsN n = [] := by unfold kidsN; rw [if_pos (.inl h20)]
    rw [hk]
    (repeat (first|refine ja ?_|refine jb ?_|refine jc ?_|refine jd ?_|refine je ?_|refine jf ?_|refine jg ?_|refine jh ?_|refine ji ?_|refine jj ?_|refine jk ?_|refine jl ?_|refine jm ?_|refine jn ?_|refine jo ?_|refine jp ?_|refine jq ?_|refine jr ?_|refine js ?_|refine jt ?_|refine ju ?_|refine jv ?_|refine jw ?_|refine jx ?_|refine jy ?_|refine jz ?_|refine jA ?_|refine jB ?_|refine jC ?_|refine jD ?_|refine jE ?_|refine jF ?_|refine jG ?_|refine jH ?_|refine jI ?_|refine jJ ?_|refine jK ?_|refine jL ?_|refine jM (by assumption) ?_|refine jN (by assumption) rfl ?_|refine jO (by assumption) ?_|refine jP (by assumption) rfl ?_|refine jQ ?_|refine jR ?_|refine jS ?_|refine jT ?_|refine jU (by assumption) rfl ?_))
    exact ⟨LV.nil _ _ _, k1⟩
  by_cases h21 : n.op = 21
  · have hk : kidsN n = [] := by unfold kidsN; rw [if_pos (.inr h21)]
    rw [hk]
    (repeat (first|refine ja ?_|refine jb ?_|refine jc ?_|refine jd ?_|refine je ?_|refine jf ?_|refine jg ?_|refine jh ?_|refine ji ?_|refine jj ?_|refine jk ?_|refine jl ?_|refine jm ?_|refine jn ?_|refine jo ?_|refine jp ?_|refine jq ?_|refine jr ?_|refine js ?_|refine jt ?_|refine ju ?_|refine jv ?_|refine jw ?_|refine jx ?_|refine jy ?_|refine jz ?_|refine jA ?_|refine jB ?_|refine jC ?_|refine jD ?_|refine jE ?_|refine jF ?_|refine jG ?_|refine jH ?_|refine jI ?_|refine jJ ?_|refine jK ?_|refine jL ?_|refine jM (by assumption) ?_|refine jN (by assumption) rfl ?_|refine jO (by assumption) ?_|refine jP (by assumption) rfl ?_|refine jQ ?_|refine jR ?_|refine jS ?_|refine jT ?_|refine jU (by assumption) rfl ?_))
    exact ⟨LV.nil _ _ _, k1⟩
  by_cases h22 : n.op = 22
  · rw [kids_three h22]
    (repeat (first|refine ja ?_|refine jb ?_|refine jc ?_|refine jd ?_|refine je ?_|refine jf ?_|refine jg ?_|refine jh ?_|refine ji ?_|refine jj ?_|refine jk ?_|refine jl ?_|refine jm ?_|refine jn ?_|refine jo ?_|refine jp ?_|refine jq ?_|refine jr ?_|refine js ?_|refine jt ?_|refine ju ?_|refine jv ?_|refine jw ?_|refine jx ?_|refine jy ?_|refine jz ?_|refine jA ?_|refine jB ?_|refine jC ?_|refine jD ?_|refine jE ?_|refine jF ?_|refine jG ?_|refine jH ?_|refine jI ?_|refine jJ ?_|refine jK ?_|refine jL ?_|refine jM (by assumption) ?_|refine jN (by assumption) rfl ?_|refine jO (by assumption) ?_|refine jP (by assumption) rfl ?_|refine jQ ?_|refine jR ?_|refine jS ?_|refine jT ?_|refine jU (by assumption) rfl ?_))
    refine M.buildSlice_i [vi n.a, vi n.b, vi n.c] (by kernel_rfl) (fun w2 b2 k2 s2 => ?_)
    exact ⟨⟨_, _, rfl, Row.of_blk' b2 (by omega), Nat.le_refl _⟩, k1.trans k2 (fun _ _ h => h)⟩
  · rw [kids_one (by omega)]
    (repeat (first|refine ja ?_|refine jb ?_|refine jc ?_|refine jd ?_|refine je ?_|refine jf ?_|refine jg ?_|refine jh ?_|refine ji ?_|refine jj ?_|refine jk ?_|refine jl ?_|refine jm ?_|refine jn ?_|refine jo ?_|refine jp ?_|refine jq ?_|refine jr ?_|refine js ?_|refine jt ?_|refine ju ?_|refine jv ?_|refine jw ?_|refine jx ?_|refine jy ?_|refine jz ?_|refine jA ?_|refine jB ?_|refine jC ?_|refine jD ?_|refine jE ?_|refine jF ?_|refine jG ?_|refine jH ?_|refine jI ?_|refine jJ ?_|refine jK ?_|refine jL ?_|refine jM (by assumption) ?_|refine jN (by assumption) rfl ?_|refine jO (by assumption) ?_|refine jP (by assumption) rfl ?_|refine jQ ?_|refine jR ?_|refine jS ?_|refine jT ?_|refine jU (by assumption) rfl ?_))
    refine M.buildSlice_i [vi n.a] (by kernel_rfl) (fun w2 b2 k2 s2 => ?_)
    exact ⟨⟨_, _, rfl, Row.of_blk' b2 (by omega), Nat.le_refl _⟩, k1.trans k2 (fun _ _ h => h)⟩
section
variable {w : World} {D : Nat → Prop} {v : Value} {N : List Nd} {most : Int}
theorem rbelow_ret (hd : RD w D v N most) (hN : N.length ≤ 1000000) (hG : GoodN N) (id : Int) :
    Ret Try.prog 61 #[v, vi id] w (fun r w' => ∃ out, LV vi w' (w.heap.size ≤ ·) r out ∧ (∀ x, x ∈ out ↔ x ∈ belN N id) ∧ out.Nodup ∧ Keep w w' No) := by
  obtain ⟨A, c, rfl, hr⟩ := _root_.id hd
  refine ok61 _ _ _ _ ?_
  unfold sh61
  refine M.new_i (l := [.slice A N.length c, vi most]) (fun w1 b1 k1 s1 => ?_)
  refine M.loadAll_i b1 rfl ?_
  refine M.call_i (ris_ret (hd.keep k1 (fun _ _ _ h => h)) id) ?_; rintro _ w2 ⟨rfl, k2⟩
  have b1 := b1.keep k2 (fun h => h)
  have k02 := k1.trans k2 (fun _ _ h => h)
  cases hid : isN N id with
  | false =>
    (repeat (first|refine ja ?_|refine jb ?_|refine jc ?_|refine jd ?_|refine je ?_|refine jf ?_|refine jg ?_|refine jh ?_|refine ji ?_|refine jj ?_|refine jk ?_|refine jl ?_|refine jm ?_|refine jn ?_|refine jo ?_|refine jp ?_|refine jq ?_|refine jr ?_|refine js ?_|refine jt ?_|refine ju ?_|refine jv ?_|refine jw ?_|refine jx ?_|refine jy ?_|refine jz ?_|refine jA ?_|refine jB ?_|refine jC ?_|refine jD ?_|refine jE ?_|refine jF ?_|refine jG ?_|refine jH ?_|refine jI ?_|refine jJ ?_|refine jK ?_|refine jL ?_|refine jM (by assumption) ?_|refine jN (by assumption) rfl ?_|refine jO (by assumption) ?_|refine jP (by assumption) rfl ?_|refine jQ ?_|refine jR ?_|refine jS ?_|refine jT ?_|refine jU (by assumption) rfl ?_))
    refine ⟨[], LV.nil _ _ _, fun x => ?_, List.nodup_nil, k02⟩
    rw [mem_belN hG, hid]; simp
  | true =>
    obtain ⟨hi0, hi1⟩ := isN_iff.1 hid
    obtain ⟨i, rfl⟩ : ∃ i : Nat, id = i := ⟨id.toNat, by omega⟩
    (repeat (first|refine ja ?_|refine jb ?_|refine jc ?_|refine jd ?_|refine je ?_|refine jf ?_|refine jg ?_|refine jh ?_|refine ji ?_|refine jj ?_|refine jk ?_|refine jl ?_|refine jm ?_|refine jn ?_|refine jo ?_|refine jp ?_|refine jq ?_|refine jr ?_|refine js ?_|refine jt ?_|refine ju ?_|refine jv ?_|refine jw ?_|refine jx ?_|refine jy ?_|refine jz ?_|refine jA ?_|refine jB ?_|refine jC ?_|refine jD ?_|refine jE ?_|refine jF ?_|refine jG ?_|refine jH ?_|refine jI ?_|refine jJ ?_|refine jK ?_|refine jL ?_|refine jM (by assumption) ?_|refine jN (by assumption) rfl ?_|refine jO (by assumption) ?_|refine jP (by assumption) rfl ?_|refine jQ ?_|refine jR ?_|refine jS ?_|refine jT ?_|refine jU (by assumption) rfl ?_))
    have e1 : ((i : Int) + 1) = ((i + 1 : Nat) : Int) := by omega
    rw [e1]
    refine M.makeSlice_i rfl rfl (by omega) (by omega) (fun w3 b3 k3 s3 => ?_)
    have hlt : i < (List.replicate (i + 1) (vb false)).length := by simp
    refine M.idx_i (by omega) (by omega) ?_
    simp only [Nat.zero_add, Nat.mul_one, Int.toNat_natCast]
    refine M.store_i b3 hlt rfl (fun w4 b4 k4 s4 => ?_)
    have q02 := k02.size; have q3 := k3.size
    have k04 : Keep w w4 No := (k02.trans k3 (fun _ _ h => h)).trans k4 (fun b hb h => by omega)
    have b1 := (b1.keep k3 (fun h => h)).keep k4 (fun h => by have := k1.size; have := k2.size; omega)
    have b4 : Blk w4 w2.heap.size (((List.replicate (i + 1) false).set i true).map vb) := by
      rw [List.map_set, List.map_replicate]; exact b4
    have hst := Bel.start hid
    rw [Int.toNat_natCast] at hst
    refine M.loop_i (σ := Nat × List Bool × List Int) (fun t vals w' => ∃ sv, vals = [sv, vi ((t.1 : Int) - 1)] ∧ t.1 ≤ i + 1 ∧ GI w' (w4.heap.size ≤ ·) sv t.2.2 ∧ t.2.2.length + t.1 ≤ i + 1 ∧ Bel N i t.1 t.2.1 t.2.2 ∧ Blk w' w2.heap.size (t.2.1.map vb) ∧ Blk w' w.heap.size [.slice A N.length c, vi most] ∧ Keep w w' No) (fun t => t.1) (i + 1, (List.replicate (i + 1) false).set i true, [])
      ⟨_, by rw [show ((i + 1 : Nat) : Int) - 1 = (i : Int) by omega], Nat.le_refl _, GI.nil _ _, by simp, hst, b4, b1, k04⟩ ?_
    rintro ⟨m, inn, out⟩ vals w5 K ⟨sv, rfl, hm, g5, hol, hb, b5, d5, k5⟩ hK _
    simp only at hm g5 hol hb b5
    simp only [List.getD_cons_zero, List.getD_cons_succ]
    have q5 := k5.size
    have hq4 := k04.size
    rcases m with _ | m
    · (repeat (first|refine ja ?_|refine jb ?_|refine jc ?_|refine jd ?_|refine je ?_|refine jf ?_|refine jg ?_|refine jh ?_|refine ji ?_|refine jj ?_|refine jk ?_|refine jl ?_|refine jm ?_|refine jn ?_|refine jo ?_|refine jp ?_|refine jq ?_|refine jr ?_|refine js ?_|refine jt ?_|refine ju ?_|refine jv ?_|refine jw ?_|refine jx ?_|refine jy ?_|refine jz ?_|refine jA ?_|refine jB ?_|refine jC ?_|refine jD ?_|refine jE ?_|refine jF ?_|refine jG ?_|refine jH ?_|refine jI ?_|refine jJ ?_|refine jK ?_|refine jL ?_|refine jM (by assumption) ?_|refine jN (by assumption) rfl ?_|refine jO (by assumption) ?_|refine jP (by assumption) rfl ?_|refine jQ ?_|refine jR ?_|refine jS ?_|refine jT ?_|refine jU (by assumption) rfl ?_))
      refine ⟨out, ?_, hb.done hG hid, hb.nodup, k5⟩
      obtain ⟨A5, c5, rfl, hr5, hc5⟩ := GC.row2 g5 (by omega)
      exact ⟨A5, c5, rfl, hr5.mono (fun b hb h => by have h : w4.heap.size ≤ b := h; show w.heap.size ≤ b; omega), hc5⟩
    · have e2 : (((m + 1 : Nat) : Int) - 1) = (m : Int) := by omega
      rw [e2]
      have hlm : inn.length = i + 1 := by have := hb.len; simpa using this
      obtain ⟨x, hx⟩ : ∃ x, inn[m]? = some x := ⟨_, List.getElem?_eq_getElem (by omega)⟩
      (repeat (first|refine ja ?_|refine jb ?_|refine jc ?_|refine jd ?_|refine je ?_|refine jf ?_|refine jg ?_|refine jh ?_|refine ji ?_|refine jj ?_|refine jk ?_|refine jl ?_|refine jm ?_|refine jn ?_|refine jo ?_|refine jp ?_|refine jq ?_|refine jr ?_|refine js ?_|refine jt ?_|refine ju ?_|refine jv ?_|refine jw ?_|refine jx ?_|refine jy ?_|refine jz ?_|refine jA ?_|refine jB ?_|refine jC ?_|refine jD ?_|refine jE ?_|refine jF ?_|refine jG ?_|refine jH ?_|refine jI ?_|refine jJ ?_|refine jK ?_|refine jL ?_|refine jM (by assumption) ?_|refine jN (by assumption) rfl ?_|refine jO (by assumption) ?_|refine jP (by assumption) rfl ?_|refine jQ ?_|refine jR ?_|refine jS ?_|refine jT ?_|refine jU (by assumption) rfl ?_))
      refine M.share_j (fun vals w' => ∃ sv inn' out', vals = [sv] ∧ GI w' (w4.heap.size ≤ ·) sv out' ∧ out'.length + m ≤ i + 1 ∧ Bel N i m inn' out' ∧ Blk w' w2.heap.size (inn'.map vb) ∧ Blk w' w.heap.size [.slice A N.length c, vi most] ∧ Keep w w' No) ?_ ?_
      · rintro vals w6 ⟨sv, inn', out', rfl, g6, ho6, hb6, b6, d6, k6⟩ _
        simp only [List.getD_cons_zero, List.getD_cons_succ]
        (repeat (first|refine ja ?_|refine jb ?_|refine jc ?_|refine jd ?_|refine je ?_|refine jf ?_|refine jg ?_|refine jh ?_|refine ji ?_|refine jj ?_|refine jk ?_|refine jl ?_|refine jm ?_|refine jn ?_|refine jo ?_|refine jp ?_|refine jq ?_|refine jr ?_|refine js ?_|refine jt ?_|refine ju ?_|refine jv ?_|refine jw ?_|refine jx ?_|refine jy ?_|refine jz ?_|refine jA ?_|refine jB ?_|refine jC ?_|refine jD ?_|refine jE ?_|refine jF ?_|refine jG ?_|refine jH ?_|refine jI ?_|refine jJ ?_|refine jK ?_|refine jL ?_|refine jM (by assumption) ?_|refine jN (by assumption) rfl ?_|refine jO (by assumption) ?_|refine jP (by assumption) rfl ?_|refine jQ ?_|refine jR ?_|refine jS ?_|refine jT ?_|refine jU (by assumption) rfl ?_))
        exact hK (m, inn', out') _ _ (by show m < m + 1; omega) ⟨sv, rfl, by show m ≤ i + 1; omega, g6, ho6, hb6, b6, d6, k6⟩
      · intro K2 hK2
        refine M.idx_i (by omega) (by omega) ?_
        simp only [Nat.zero_add, Nat.mul_one, Int.toNat_natCast]
        refine M.loadB_i b5 (by rw [List.getElem?_map, hx]; rfl) ?_
        cases x with
        | false =>
          (repeat (first|refine ja ?_|refine jb ?_|refine jc ?_|refine jd ?_|refine je ?_|refine jf ?_|refine jg ?_|refine jh ?_|refine ji ?_|refine jj ?_|refine jk ?_|refine jl ?_|refine jm ?_|refine jn ?_|refine jo ?_|refine jp ?_|refine jq ?_|refine jr ?_|refine js ?_|refine jt ?_|refine ju ?_|refine jv ?_|refine jw ?_|refine jx ?_|refine jy ?_|refine jz ?_|refine jA ?_|refine jB ?_|refine jC ?_|refine jD ?_|refine jE ?_|refine jF ?_|refine jG ?_|refine jH ?_|refine jI ?_|refine jJ ?_|refine jK ?_|refine jL ?_|refine jM (by assumption) ?_|refine jN (by assumption) rfl ?_|refine jO (by assumption) ?_|refine jP (by assumption) rfl ?_|refine jQ ?_|refine jR ?_|refine jS ?_|refine jT ?_|refine jU (by assumption) rfl ?_))
          exact hK2 _ _ ⟨sv, inn, out, rfl, g5, by omega, hb.skip (by rw [hx]; simp), b5, d5, k5⟩
        | true =>
          obtain ⟨n, hn⟩ : ∃ n, N[m]? = some n := ⟨_, List.getElem?_eq_getElem (by omega)⟩
          have hgn := hG m n hn
          (repeat (first|refine ja ?_|refine jb ?_|refine jc ?_|refine jd ?_|refine je ?_|refine jf ?_|refine jg ?_|refine jh ?_|refine ji ?_|refine jj ?_|refine jk ?_|refine jl ?_|refine jm ?_|refine jn ?_|refine jo ?_|refine jp ?_|refine jq ?_|refine jr ?_|refine js ?_|refine jt ?_|refine ju ?_|refine jv ?_|refine jw ?_|refine jx ?_|refine jy ?_|refine jz ?_|refine jA ?_|refine jB ?_|refine jC ?_|refine jD ?_|refine jE ?_|refine jF ?_|refine jG ?_|refine jH ?_|refine jI ?_|refine jJ ?_|refine jK ?_|refine jL ?_|refine jM (by assumption) ?_|refine jN (by assumption) rfl ?_|refine jO (by assumption) ?_|refine jP (by assumption) rfl ?_|refine jQ ?_|refine jR ?_|refine jS ?_|refine jT ?_|refine jU (by assumption) rfl ?_))
          refine M.buildSlice_i [vi m] (by kernel_rfl) (fun w6 b6 k6 s6 => ?_)
          refine M.append1_i (g5.keep k6 (fun _ _ _ h => h)) (Row.of_blk' (D := fun _ => True) b6 trivial) rfl (by omega) (fun v7 w7 g7 k7 => ?_)
          have q6 := k6.size; have q7 := k7.size
          have hw2 := b5.lt
          have hw2' : w2.heap.size < w4.heap.size := by omega
          have hw0' : w.heap.size < w4.heap.size := by have := k1.size; omega
          have b7 := (b5.keep k6 (fun h => h)).keep k7 (fun h => by have h : w4.heap.size ≤ w2.heap.size := h; omega)
          have d7 := (d5.keep k6 (fun h => h)).keep k7 (fun h => by have h : w4.heap.size ≤ w.heap.size := h; omega)
          have k07 : Keep w w7 No := (k5.trans k6 (fun _ _ h => h)).trans k7 (fun b hb h => by have h : w4.heap.size ≤ b := h; omega)
          have g7 : GI w7 (w4.heap.size ≤ ·) v7 (out ++ [(m : Int)]) := g7.mono (fun b hb h => by
            rcases h with h | h
            · exact h
            · show w4.heap.size ≤ b; omega)
          have hr7 := hr.keep k07 (fun _ _ _ h => h)
          (repeat (first|refine ja ?_|refine jb ?_|refine jc ?_|refine jd ?_|refine je ?_|refine jf ?_|refine jg ?_|refine jh ?_|refine ji ?_|refine jj ?_|refine jk ?_|refine jl ?_|refine jm ?_|refine jn ?_|refine jo ?_|refine jp ?_|refine jq ?_|refine jr ?_|refine js ?_|refine jt ?_|refine ju ?_|refine jv ?_|refine jw ?_|refine jx ?_|refine jy ?_|refine jz ?_|refine jA ?_|refine jB ?_|refine jC ?_|refine jD ?_|refine jE ?_|refine jF ?_|refine jG ?_|refine jH ?_|refine jI ?_|refine jJ ?_|refine jK ?_|refine jL ?_|refine jM (by assumption) ?_|refine jN (by assumption) rfl ?_|refine jO (by assumption) ?_|refine jP (by assumption) rfl ?_|refine jQ ?_|refine jR ?_|refine jS ?_|refine jT ?_|refine jU (by assumption) rfl ?_))
          refine M.idxN_i hr7 rfl (by omega) (n := n) (by simpa using hn) (fun bb oo hc => ?_)
          refine M.loadN_i hc ?_
          refine M.call_i (rkids_ret hgn w7) ?_; rintro ksv w8 ⟨hks, k8⟩
          obtain ⟨A2, c2, rfl, hrk, hck⟩ := hks
          have b8 := b7.keep k8 (fun h => h)
          have d8 := d7.keep k8 (fun h => h)
          have g8 := g7.keep k8 (fun _ _ _ h => h)
          have k08 := k07.trans k8 (fun _ _ h => h)
          have hbt := hb.take hG hx hn
          have hkl : ∀ k ∈ kidsN n, 0 ≤ k ∧ k < m := fun k hk => kids_lt hG hn hk
          have hklen : (kidsN n).length ≤ 3 := by
            unfold kidsN
            repeat' split
            all_goals simp
          refine M.loop_i (σ := Nat) (fun j vals w' => vals = [vi j] ∧ j ≤ (kidsN n).length ∧ Blk w' w2.heap.size ((setK inn ((kidsN n).take j)).map vb) ∧ Keep w8 w' (· = w2.heap.size)) (fun j => (kidsN n).length - j) 0 ⟨rfl, by omega, by simpa [setK] using b8, Keep.refl _ _⟩ ?_
          rintro j vals w9 K3 ⟨rfl, hj, b9, k9⟩ hK3 _
          simp only [List.getD_cons_zero, List.getD_cons_succ]
          have q8 := k8.size
          have hrk9 := hrk.keep k9 (fun b hb h e => by have h : w7.heap.size ≤ b := h; have e : b = w2.heap.size := e; omega)
          by_cases hlt : j < (kidsN n).length
          · obtain ⟨k, hk⟩ : ∃ k, (kidsN n)[j]? = some k := ⟨_, List.getElem?_eq_getElem hlt⟩
            have hkk := hkl k (List.mem_of_getElem? hk)
            (repeat (first|refine ja ?_|refine jb ?_|refine jc ?_|refine jd ?_|refine je ?_|refine jf ?_|refine jg ?_|refine jh ?_|refine ji ?_|refine jj ?_|refine jk ?_|refine jl ?_|refine jm ?_|refine jn ?_|refine jo ?_|refine jp ?_|refine jq ?_|refine jr ?_|refine js ?_|refine jt ?_|refine ju ?_|refine jv ?_|refine jw ?_|refine jx ?_|refine jy ?_|refine jz ?_|refine jA ?_|refine jB ?_|refine jC ?_|refine jD ?_|refine jE ?_|refine jF ?_|refine jG ?_|refine jH ?_|refine jI ?_|refine jJ ?_|refine jK ?_|refine jL ?_|refine jM (by assumption) ?_|refine jN (by assumption) rfl ?_|refine jO (by assumption) ?_|refine jP (by assumption) rfl ?_|refine jQ ?_|refine jR ?_|refine jS ?_|refine jT ?_|refine jU (by assumption) rfl ?_))
            refine M.idxLV_i hrk9 rfl (by omega) (by omega) (x := k) (by simpa using hk) (fun bb oo hA hcc => ?_)
            (repeat (first|refine ja ?_|refine jb ?_|refine jc ?_|refine jd ?_|refine je ?_|refine jf ?_|refine jg ?_|refine jh ?_|refine ji ?_|refine jj ?_|refine jk ?_|refine jl ?_|refine jm ?_|refine jn ?_|refine jo ?_|refine jp ?_|refine jq ?_|refine jr ?_|refine js ?_|refine jt ?_|refine ju ?_|refine jv ?_|refine jw ?_|refine jx ?_|refine jy ?_|refine jz ?_|refine jA ?_|refine jB ?_|refine jC ?_|refine jD ?_|refine jE ?_|refine jF ?_|refine jG ?_|refine jH ?_|refine jI ?_|refine jJ ?_|refine jK ?_|refine jL ?_|refine jM (by assumption) ?_|refine jN (by assumption) rfl ?_|refine jO (by assumption) ?_|refine jP (by assumption) rfl ?_|refine jQ ?_|refine jR ?_|refine jS ?_|refine jT ?_|refine jU (by assumption) rfl ?_))
            refine M.idx_i (by omega) (by omega) ?_
            simp only [Nat.zero_add, Nat.mul_one]
            refine M.store_i b9 (by rw [List.length_map, setK_len]; omega) rfl (fun w10 b10 k10 s10 => ?_)
            (repeat (first|refine ja ?_|refine jb ?_|refine jc ?_|refine jd ?_|refine je ?_|refine jf ?_|refine jg ?_|refine jh ?_|refine ji ?_|refine jj ?_|refine jk ?_|refine jl ?_|refine jm ?_|refine jn ?_|refine jo ?_|refine jp ?_|refine jq ?_|refine jr ?_|refine js ?_|refine jt ?_|refine ju ?_|refine jv ?_|refine jw ?_|refine jx ?_|refine jy ?_|refine jz ?_|refine jA ?_|refine jB ?_|refine jC ?_|refine jD ?_|refine jE ?_|refine jF ?_|refine jG ?_|refine jH ?_|refine jI ?_|refine jJ ?_|refine jK ?_|refine jL ?_|refine jM (by assumption) ?_|refine jN (by assumption) rfl ?_|refine jO (by assumption) ?_|refine jP (by assumption) rfl ?_|refine jQ ?_|refine jR ?_|refine jS ?_|refine jT ?_|refine jU (by assumption) rfl ?_))
            refine hK3 (j + 1) _ _ (by omega) ⟨by simp, by omega, ?_, k9.trans k10 (fun _ _ h => h)⟩
            have e : setK inn ((kidsN n).take (j + 1)) = (setK inn ((kidsN n).take j)).set k.toNat true := by
              rw [List.take_add_one, hk]
              unfold setK
              rw [List.foldl_append]; rfl
            rw [e, List.map_set]; exact b10
          · have e : j = (kidsN n).length := by omega
            subst e
            rw [List.take_length] at b9
            (repeat (first|refine ja ?_|refine jb ?_|refine jc ?_|refine jd ?_|refine je ?_|refine jf ?_|refine jg ?_|refine jh ?_|refine ji ?_|refine jj ?_|refine jk ?_|refine jl ?_|refine jm ?_|refine jn ?_|refine jo ?_|refine jp ?_|refine jq ?_|refine jr ?_|refine js ?_|refine jt ?_|refine ju ?_|refine jv ?_|refine jw ?_|refine jx ?_|refine jy ?_|refine jz ?_|refine jA ?_|refine jB ?_|refine jC ?_|refine jD ?_|refine jE ?_|refine jF ?_|refine jG ?_|refine jH ?_|refine jI ?_|refine jJ ?_|refine jK ?_|refine jL ?_|refine jM (by assumption) ?_|refine jN (by assumption) rfl ?_|refine jO (by assumption) ?_|refine jP (by assumption) rfl ?_|refine jQ ?_|refine jR ?_|refine jS ?_|refine jT ?_|refine jU (by assumption) rfl ?_))
            refine hK2 _ _ ⟨_, _, _, rfl, g8.keep k9 (fun b hb h e => by have h : w4.heap.size ≤ b := h; have e : b = w2.heap.size := e; omega), ?_, hbt, b9, d8.keep k9 (fun h => by have := k1.size; have := k2.size; omega), k08.trans k9 (fun b hb h => by have h : b = w2.heap.size := h; omega)⟩
            rw [List.length_append, List.length_singleton]; omega
end
end Go.Proofs.Ythkkjjbjpbgcpaa
