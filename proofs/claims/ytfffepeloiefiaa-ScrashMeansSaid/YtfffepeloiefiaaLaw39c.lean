import Derived.Test.YtfffepeloiefiaaLaw39b
import Derived.Test.YtfffepeloiefiaaSym36
import Derived.Test.YtfffepeloiefiaaLaw15b
import Derived.Test.YtfffepeloiefiaaRef16
namespace Go.Proofs.Ytfffepeloiefiaa
open Go.Mw Go.Maps Go.MapKept
set_option linter.unusedVariables false
set_option linter.unusedSimpArgs false
set_option maxRecDepth 100000
attribute [local irreducible] M.val M.unit M.next M.pick M.new M.nilCheck M.load1 M.loadA M.store M.fieldAddr M.indexSl M.indexArr M.slice M.makeSlice M.buildSlice M.len M.lenS M.cap M.append M.extract M.conv M.not M.neg M.bin M.shift M.eqB M.eqNil M.call M.callv M.gd M.share M.cond M.loop M.draw pureW readW Ret
/-! breakwater/breakwaterlaw39.ScrashMeans: function 4 -/
def sh4 (x0 x1 x2 : Value) (R : Kt) (w : World) : Prop :=
  M.new 25 (Value.cells x1) (fun t4 w =>
  M.len x0 (fun t18 w =>
  M.bin .gtr t18 (Value.int IntKind.i64 60) (fun t19 w =>
  M.gd t19 false (fun k w => M.loadA 3 t4 k w) (fun t21 w =>
  M.gd t19 false (fun k w => M.call Try.prog 5 #[t21] k w) (fun t22 w =>
  M.gd t19 false (fun k w => M.not t22 k w) (fun t23 w =>
  M.pick t19 (Value.bool true) t23 (fun t24 w =>
  M.gd t24 false (fun k w => k x2 w) (fun t26 w =>
  M.gd t24 false (fun k w => M.len t26 k w) (fun t27 w =>
  M.gd t24 false (fun k w => M.bin .gtr t27 (Value.int IntKind.i64 300) k w) (fun t28 w =>
  M.pick t24 (Value.bool true) t28 (fun t29 w =>
  M.cond t29
  (M.call Try.prog 6 #[] (fun t30 w =>
  R t30 w) w)
  (M.call Try.prog 15 #[(Value.int IntKind.i64 1000), x0] (fun t33 w =>
  M.extract 0 t33 (fun t34 w =>
  M.extract 1 t33 (fun t35 w =>
  M.new 46 #[.slice none 0 0, .int .i64 0] (fun t8 w =>
  M.store 2 t8 t35 (fun _ w =>
  M.eqNil 0 false t34 (fun t37 w =>
  M.cond t37
  (R (Value.bool false) w)
  (M.loadA 3 t4 (fun t40 w =>
  M.call Try.prog 16 #[t34, t40, x2] (fun t42 w =>
  M.extract 0 t42 (fun t43 w =>
  M.extract 1 t42 (fun t44 w =>
  M.new 37 #[.slice none 0 0, .slice none 0 0, .int .i64 0] (fun t9 w =>
  M.store 3 t9 t43 (fun _ w =>
  M.bin .neq t44 (Value.int IntKind.i64 0) (fun t46 w =>
  M.cond t46
  (M.call Try.prog 6 #[] (fun t47 w =>
  R t47 w) w)
  (M.loadA 3 t4 (fun t48 w =>
  M.call Try.prog 10 #[t48] (fun t49 w =>
  M.loadA 2 t8 (fun t50 w =>
  M.call Try.prog 17 #[t50, x2] (fun t52 w =>
  M.loop [(Value.int IntKind.i64 0)] (fun s1 K1 w => ∀ _ : List Value,
  M.len t49 (fun t55 w =>
  M.bin .lss (s1.getD 0 undef) t55 (fun t56 w =>
  M.cond t56
  (M.draw (fun w =>
  M.loadA 3 t4 (fun t59 w =>
  M.indexSl 1 t49 (s1.getD 0 undef) (fun t62 w =>
  M.load1 t62 (fun t63 w =>
  M.call Try.prog 7 #[t59, t63] (fun t64 w =>
  M.loop [(Value.slice none 0 0), (Value.int IntKind.i64 0)] (fun s2 K2 w => ∀ _ : List Value,
  M.len t64 (fun t67 w =>
  M.bin .lss (s2.getD 1 undef) t67 (fun t68 w =>
  M.cond t68
  (M.indexSl 1 t64 (s2.getD 1 undef) (fun t73 w =>
  M.load1 t73 (fun t74 w =>
  M.bin .lss t74 (Value.int IntKind.i64 0) (fun t75 w =>
  M.gd t75 false (fun k w => k t64 w) (fun t77 w =>
  M.gd t75 false (fun k w => k (s2.getD 1 undef) w) (fun t78 w =>
  M.gd t75 false (fun k w => M.indexSl 1 t77 t78 k w) (fun t79 w =>
  M.gd t75 false (fun k w => M.load1 t79 k w) (fun t80 w =>
  M.gd t75 false (fun k w => k t52 w) (fun t81 w =>
  M.gd t75 false (fun k w => M.len t81 k w) (fun t82 w =>
  M.gd t75 false (fun k w => M.bin .geq t80 t82 k w) (fun t83 w =>
  M.pick t75 (Value.bool true) t83 (fun t84 w =>
  M.cond t84
  (R (Value.bool false) w)
  (M.indexSl 1 t64 (s2.getD 1 undef) (fun t89 w =>
  M.load1 t89 (fun t90 w =>
  M.indexSl 1 t52 t90 (fun t91 w =>
  M.load1 t91 (fun t92 w =>
  M.buildSlice 30 1 #[.int .u64 0] 1 [(0, t92)] (fun t93 w =>
  M.append 30 1 8 #[.int .u64 0] (s2.getD 0 undef) t93 (fun t94 w =>
  M.bin .add (s2.getD 1 undef) (Value.int IntKind.i64 1) (fun t70 w =>
  K2 [t94, t70] w) w) w) w) w) w) w) w)) w) w) w) w) w) w) w) w) w) w) w)
  (M.draw (fun w =>
  M.loadA 3 t9 (fun t96 w =>
  M.indexSl 1 t49 (s1.getD 0 undef) (fun t99 w =>
  M.load1 t99 (fun t100 w =>
  M.call Try.prog 14 #[t96, t100] (fun t101 w =>
  M.call Try.prog 13 #[(s2.getD 0 undef), t101] (fun t102 w =>
  M.not t102 (fun t103 w =>
  M.cond t103
  (R (Value.bool false) w)
  (M.bin .add (s1.getD 0 undef) (Value.int IntKind.i64 1) (fun t58 w =>
  K1 [t58] w) w)) w) w) w) w) w) w) w)) w) w) w) w) w) w) w) w)
  (M.call Try.prog 6 #[] (fun t104 w =>
  R t104 w) w)) w) w) w) w) w) w) w)) w) w) w) w) w) w) w)) w) w) w) w) w) w)) w) w) w) w) w) w) w) w) w) w) w
theorem ok4 (x0 x1 x2 : Value) (R : Kt) (w : World) (h : sh4 x0 x1 x2 R w) : Ret Try.prog 4 #[x0, x1, x2] w R :=
  ret_mk <| calls_of_comp mixed (c := Try.f4.body.getD .skip) (args := [x0, x1, x2]) (rs := [(ResultVar.tmp 6)]) (Ann.seq Ann.text (Ann.seq (Ann.seq Ann.text (Ann.cond (Ann.seq Ann.text Ann.leaf) Ann.leaf)) (Ann.seq Ann.text (Ann.seq (Ann.seq Ann.text (Ann.cond (Ann.seq Ann.text Ann.leaf) Ann.leaf)) (Ann.seq Ann.text (Ann.seq (Ann.seq Ann.text (Ann.cond (Ann.seq Ann.text Ann.leaf) Ann.leaf)) (Ann.seq Ann.text (Ann.seq Ann.text (Ann.seq (Ann.seq Ann.text (Ann.block (Ann.loop [13] [6, 14, 15, 16, 53, 54, 55, 56, 57, 58, 59, 60, 61, 62, 63, 64, 65, 66, 67, 68, 69, 70, 71, 72, 73, 74, 75, 76, 77, 78, 79, 80, 81, 82, 83, 84, 85, 86, 87, 88, 89, 90, 91, 92, 93, 94, 95, 96, 97, 98, 99, 100, 101, 102, 103] (Ann.seq (Ann.seq Ann.text (Ann.cond Ann.leaf Ann.leaf)) (Ann.seq (Ann.block (Ann.seq (Ann.draw (Sch.take 0 (Sch.take 1 (Sch.take 2 (Sch.take 3 (Sch.take 4 (Sch.one 5 (Sch.take 6 Sch.done)))))))) (Ann.seq Ann.text (Ann.seq (Ann.seq Ann.text (Ann.block (Ann.loop [15, 16] [6, 65, 66, 67, 68, 69, 70, 71, 72, 73, 74, 75, 76, 77, 78, 79, 80, 81, 82, 83, 84, 85, 86, 87, 88, 89, 90, 91, 92, 93, 94] (Ann.seq (Ann.seq Ann.text (Ann.cond Ann.leaf Ann.leaf)) (Ann.seq (Ann.block (Ann.seq (Ann.seq Ann.text (Ann.cond (Ann.seq Ann.text Ann.leaf) Ann.leaf)) Ann.text)) Ann.text))))) (Ann.seq (Ann.draw (Sch.take 0 (Sch.take 1 (Sch.take 2 (Sch.take 3 (Sch.take 4 (Sch.take 5 (Sch.one 6 (Sch.one 7 (Sch.take 8 Sch.done)))))))))) (Ann.cond (Ann.seq Ann.text Ann.leaf) Ann.leaf)))))) Ann.text))))) (Ann.seq Ann.text Ann.leaf))))))))))
    Try.func4 (by kernel_rfl) (by kernel_rfl)
    (Eq.mp (by kernel_rfl) h)
/-! breakwater/sym.DeviceOf: function 16 -/
def sh16 (x0 x1 x2 : Value) (R : Kt) (w : World) : Prop :=
  M.new 25 (Value.cells x1) (fun t4 w =>
  M.new 37 #[.slice none 0 0, .slice none 0 0, .int .i64 0] (fun t6 w =>
  pureW Try.prog (Instr.build 75 #[(0, x0), (1, x2)]) (fun t12 w =>
  M.new 75 (Value.cells t12) (fun t13 w =>
  M.loadA 3 t4 (fun t15 w =>
  M.call Try.prog 28 #[t13, t15] (fun t16 w =>
  M.new 37 #[.slice none 0 0, .slice none 0 0, .int .i64 0] (fun t9 w =>
  M.store 3 t9 t16 (fun _ w =>
  M.nilCheck t13 (fun t18 w =>
  M.fieldAddr 2 t18 (fun t19 w =>
  M.load1 t19 (fun t20 w =>
  M.cond t20
  (pureW Try.prog (Instr.build 37 #[]) (fun t21 w =>
  M.store 3 t6 t21 (fun _ w =>
  M.loadA 3 t6 (fun r0 w => R (.tuple #[r0, (Value.int IntKind.i64 11)]) w) w) w) w)
  (M.loadA 3 t9 (fun t22 w =>
  M.store 3 t6 t22 (fun _ w =>
  M.loadA 3 t6 (fun r0 w => R (.tuple #[r0, (Value.int IntKind.i64 0)]) w) w) w) w)) w) w) w) w) w) w) w) w) w) w) w
theorem ok16 (x0 x1 x2 : Value) (R : Kt) (w : World) (h : sh16 x0 x1 x2 R w) : Ret Try.prog 16 #[x0, x1, x2] w R :=
  ret_mk <| calls_of_comp mixed (c := Try.f16.body.getD .skip) (args := [x0, x1, x2]) (rs := [(ResultVar.cell 6 37), (ResultVar.tmp 7)]) (Ann.seq Ann.text (Ann.seq Ann.text (Ann.seq Ann.text (Ann.seq (Ann.seq Ann.text (Ann.cond (Ann.seq Ann.text Ann.leaf) Ann.leaf)) (Ann.seq Ann.text Ann.leaf)))))
    Try.func16 (by kernel_rfl) (by kernel_rfl)
    (Eq.mp (by kernel_rfl) h)

section
variable {w : World} {F De : Nat → Prop} {p : Nat} {N : List Nd} {most : Int} {ev : Value} {env : List W64}
theorem deviceOf_ret {D : Nat → Prop} {a b : Value} {d : SDv} (hd : DagO w F p N most) (he : LV vw w De ev env) (hel : env.length ≤ 1000000) (hs : SDvO w D a b d) (hf : d.few) :
    Ret Try.prog 16 #[ptr p, .agg ⟨[a, b, vi d.ep]⟩, ev] w (fun r w' => ∃ a' b', r = .tuple #[.agg ⟨[a', b', vi (if devBad N d then 0 else d.ep)]⟩, vi (if devBad N d then 11 else 0)] ∧ DvO w' (w.heap.size ≤ ·) a' b' (if devBad N d then ⟨[], [], 0⟩ else devOf N env d) ∧ Keep w w' No) := by
  have hs := hs.mono (D' := fun b => D b ∧ b < w.heap.size) (fun b hb h => ⟨h, hb⟩)
  have he := he.mono (D' := fun b => De b ∧ b < w.heap.size) (fun b hb h => ⟨h, hb⟩)
  obtain ⟨E, ce, rfl, _, _⟩ := id he
  refine ok16 _ _ _ _ _ ?_
  unfold sh16
  refine M.new_i (l := [a, b, vi d.ep]) (fun w1 b1 k1 s1 => ?_)
  refine M.new_i (l := [.slice none 0 0, .slice none 0 0, vi 0]) (fun w2 b2 k2 s2 => ?_)
  have b1 := b1.keep k2 (fun h => h)
  refine M.pure_i (.agg ⟨[ptr p, .slice E env.length ce, .bool false]⟩) (fun _ => by kernel_rfl) ?_
  refine M.new_i (l := [ptr p, .slice E env.length ce, .bool false]) (fun w3 b3 k3 s3 => ?_)
  have b1 := b1.keep k3 (fun h => h)
  have b2 := b2.keep k3 (fun h => h)
  have k03 := (k1.trans k2 (fun _ _ h => h)).trans k3 (fun _ _ h => h)
  have hR : Rdr w3 F p N most (fun b => De b ∧ b < w.heap.size) (.slice E env.length ce) env w2.heap.size false :=
    ⟨hd.keepN k03, he.keep k03 (fun _ _ _ h => h), b3, fun h => by have := hd.lt h; omega, fun h => by have := h.2; omega, hel⟩
  refine M.loadAll_i b1 rfl ?_
  refine M.call_i (dev_ret hR (hs.keep k03 (fun _ _ _ h => h)) hf (fun h => by have := h.2; omega)) ?_; rintro _ w4 ⟨a', b', rfl, g4, h4, k4⟩
  have b2 := b2.keep k4 (fun h => by omega)
  have q4 := k4.size
  obtain ⟨⟨A6, c6, rfl, _, _⟩, A7, c7, rfl, _, _⟩ := id g4
  refine M.new_i (l := [.slice none 0 0, .slice none 0 0, vi 0]) (fun w5 b5 k5 s5 => ?_)
  have b2 := b2.keep k5 (fun h => h)
  refine M.storeAll_i b5 rfl rfl (List.all_eq_true.1 rfl) (fun w6 b6 k6 s6 => ?_)
  have k46 : Keep w4 w6 No := k5.trans k6 (fun b hb h => by omega)
  have b2 := b2.keep k6 (fun h => by omega)
  have hb := (h4.blk.keep k46 (fun h => h))
  have g6 := g4.keep k46 (fun _ _ _ h => h)
  have k06 : Keep w w6 No := (k03.trans k4 (fun b hb h => by omega)).trans k46 (fun _ _ h => h)
  rw [Bool.false_or] at hb
  cases hbad : devBad N d with
  | true =>
    rw [hbad] at hb
    (repeat (first|refine ja ?_|refine jb ?_|refine jc ?_|refine jd ?_|refine je ?_|refine jf ?_|refine jg ?_|refine jh ?_|refine ji ?_|refine jj ?_|refine jk ?_|refine jl ?_|refine jm ?_|refine jn ?_|refine jo ?_|refine jp ?_|refine jq ?_|refine jr ?_|refine js ?_|refine jt ?_|refine ju ?_|refine jv ?_|refine jw ?_|refine jx ?_|refine jy ?_|refine jz ?_|refine jA ?_|refine jB ?_|refine jC ?_|refine jD ?_|refine jE ?_|refine jF ?_|refine jG ?_|refine jH ?_|refine jI ?_|refine jJ ?_|refine jK ?_|refine jL ?_|refine jM (by assumption) ?_|refine jN (by assumption) rfl ?_|refine jO (by assumption) ?_|refine jP (by assumption) rfl ?_|refine jQ ?_|refine jR ?_|refine jS ?_|refine jT ?_|refine jU (by assumption) rfl ?_))
    refine M.pure_i (.agg ⟨[.slice none 0 0, .slice none 0 0, vi 0]⟩) (fun _ => by kernel_rfl) ?_
    refine M.storeAll_i b2 rfl rfl (List.all_eq_true.1 rfl) (fun w7 b7 k7 s7 => ?_)
    refine M.loadAll_i b7 rfl ?_
    exact ⟨_, _, rfl, ⟨LV.nil _ _ _, LN.nil _ _ _⟩, k06.trans k7 (fun b hb h => by omega)⟩
  | false =>
    rw [hbad] at hb
    (repeat (first|refine ja ?_|refine jb ?_|refine jc ?_|refine jd ?_|refine je ?_|refine jf ?_|refine jg ?_|refine jh ?_|refine ji ?_|refine jj ?_|refine jk ?_|refine jl ?_|refine jm ?_|refine jn ?_|refine jo ?_|refine jp ?_|refine jq ?_|refine jr ?_|refine js ?_|refine jt ?_|refine ju ?_|refine jv ?_|refine jw ?_|refine jx ?_|refine jy ?_|refine jz ?_|refine jA ?_|refine jB ?_|refine jC ?_|refine jD ?_|refine jE ?_|refine jF ?_|refine jG ?_|refine jH ?_|refine jI ?_|refine jJ ?_|refine jK ?_|refine jL ?_|refine jM (by assumption) ?_|refine jN (by assumption) rfl ?_|refine jO (by assumption) ?_|refine jP (by assumption) rfl ?_|refine jQ ?_|refine jR ?_|refine jS ?_|refine jT ?_|refine jU (by assumption) rfl ?_))
    refine M.loadAll_i b6 rfl ?_
    refine M.storeAll_i b2 rfl rfl (List.all_eq_true.1 rfl) (fun w7 b7 k7 s7 => ?_)
    refine M.loadAll_i b7 rfl ?_
    have q03 := k03.size
    refine ⟨_, _, rfl, ?_, k06.trans k7 (fun b hb h => by omega)⟩
    exact (g6.keep k7 (fun b hb h e => by have h : w3.heap.size ≤ b := h; omega)).mono (fun b hb h => by have h : w3.heap.size ≤ b := h; show w.heap.size ≤ b; omega)
end
theorem valW_at {N : List Nd} {env : List W64} {i : Int} (h : isN N i = true) : (valsU N env N.length).getD i.toNat 0 = valW N env i := by
  unfold valW; rw [h, if_pos rfl]; rfl
theorem M.watD_i {K : Kt} {w : World} {D : Nat → Prop} {A : Option Addr} {vals : List W64} {n c : Nat} {k : Int} (hr : Row w D A (vals.map vw)) (hn : vals.length = n) (h0 : 0 ≤ k) (h1 : k < vals.length)
    (h : ∀ b o, D b → w.cell? ⟨b, o, none⟩ = some (vw (vals.getD k.toNat 0)) → K (.pointer (some ⟨b, o, none⟩)) w) : M.indexSl 1 (.slice A n c) (vi k) K w := by
  have hl : k.toNat < vals.length := by omega
  refine M.idxLV_i hr hn h0 (by omega) (x := vals.getD k.toNat 0) ?_ (fun b o hA hc => h b _ ?_ hc)
  · rw [List.getD_eq_getElem?_getD, List.getElem?_eq_getElem hl]; rfl
  · rcases hr with h' | ⟨b', o', c', T, fz, h1, h2, _⟩
    · have := congrArg List.length h'
      simp at this; subst this; simp at hl
    · rw [h1] at hA
      simp only [Option.some.injEq, Addr.mk.injEq] at hA
      obtain ⟨rfl, _⟩ := hA
      exact h2
theorem img_isN {N : List Nd} {d : SDv} {m : Int} (h : devBad N d = false) : ∀ x ∈ imgL d.disk (spairs d.pend) m, isN N x = true := by
  intro x hx
  unfold devBad at h
  rw [Bool.or_eq_false_iff, List.any_eq_false, List.any_eq_false] at h
  rcases mem_imgN _ hx with h1 | h1
  · simpa using h.1 x h1
  · obtain ⟨p, hp, rfl⟩ := List.mem_map.1 h1
    obtain ⟨q, hq, rfl⟩ := List.mem_map.1 hp
    simpa using h.2 q hq
theorem img_of {N : List Nd} {env : List W64} {d : SDv} {m : Int} : (imgL d.disk (spairs d.pend) m).map (valW N env) = imgL (devOf N env d).disk (pairs (devOf N env d).pend) m := by
  rw [imgL_map]
  simp [devOf, pairs, spairs, pdOf]
  rfl
set_option maxHeartbeats 2000000 in
theorem scrashMeans_ret {w : World} {D D1 D2 : Nat → Prop} {lv a b ev : Value} {l : List Nd} {d : SDv} {env : List W64} (hl : LN Nd.cells w D lv l) (h : SDvO w D1 a b d) (hI : ∀ p ∈ d.pend, I64 p.e) (hv : LV vw w D2 ev env) :
    Ret Try.prog 4 #[lv, .agg ⟨[a, b, vi d.ep]⟩, ev] w (fun r w' => r = .bool true ∧ Keep w w' No) := by
  obtain ⟨A0, c0, rfl, _, _⟩ := id hl
  obtain ⟨E, ce, rfl, _, _⟩ := id hv
  have h := h.mono (D' := fun b => b < w.heap.size) (fun b hb _ => hb)
  obtain ⟨⟨B, cb, rfl, hrb, hcb⟩, A, c, rfl, hr, hc⟩ := id h
  refine ok4 _ _ _ _ _ ?_
  unfold sh4
  refine M.new_i (l := [.slice B d.disk.length cb, .slice A d.pend.length c, vi d.ep]) (fun w1 b1 k1 s1 => ?_)
  by_cases h60 : 60 < l.length
  · (repeat (first|refine ja ?_|refine jb ?_|refine jc ?_|refine jd ?_|refine je ?_|refine jf ?_|refine jg ?_|refine jh ?_|refine ji ?_|refine jj ?_|refine jk ?_|refine jl ?_|refine jm ?_|refine jn ?_|refine jo ?_|refine jp ?_|refine jq ?_|refine jr ?_|refine js ?_|refine jt ?_|refine ju ?_|refine jv ?_|refine jw ?_|refine jx ?_|refine jy ?_|refine jz ?_|refine jA ?_|refine jB ?_|refine jC ?_|refine jD ?_|refine jE ?_|refine jF ?_|refine jG ?_|refine jH ?_|refine jI ?_|refine jJ ?_|refine jK ?_|refine jL ?_|refine jM (by assumption) ?_|refine jN (by assumption) rfl ?_|refine jO (by assumption) ?_|refine jP (by assumption) rfl ?_|refine jQ ?_|refine jR ?_|refine jS ?_|refine jT ?_|refine jU (by assumption) rfl ?_))
    refine M.call_i (awake39_ret w1) ?_; rintro _ w2 ⟨rfl, k2⟩
    exact ⟨rfl, k1.trans k2 (fun _ _ h => h)⟩
  (repeat (first|refine ja ?_|refine jb ?_|refine jc ?_|refine jd ?_|refine je ?_|refine jf ?_|refine jg ?_|refine jh ?_|refine ji ?_|refine jj ?_|refine jk ?_|refine jl ?_|refine jm ?_|refine jn ?_|refine jo ?_|refine jp ?_|refine jq ?_|refine jr ?_|refine js ?_|refine jt ?_|refine ju ?_|refine jv ?_|refine jw ?_|refine jx ?_|refine jy ?_|refine jz ?_|refine jA ?_|refine jB ?_|refine jC ?_|refine jD ?_|refine jE ?_|refine jF ?_|refine jG ?_|refine jH ?_|refine jI ?_|refine jJ ?_|refine jK ?_|refine jL ?_|refine jM (by assumption) ?_|refine jN (by assumption) rfl ?_|refine jO (by assumption) ?_|refine jP (by assumption) rfl ?_|refine jQ ?_|refine jR ?_|refine jS ?_|refine jT ?_|refine jU (by assumption) rfl ?_))
  refine M.loadAll_i b1 rfl ?_
  (repeat (first|refine ja ?_|refine jb ?_|refine jc ?_|refine jd ?_|refine je ?_|refine jf ?_|refine jg ?_|refine jh ?_|refine ji ?_|refine jj ?_|refine jk ?_|refine jl ?_|refine jm ?_|refine jn ?_|refine jo ?_|refine jp ?_|refine jq ?_|refine jr ?_|refine js ?_|refine jt ?_|refine ju ?_|refine jv ?_|refine jw ?_|refine jx ?_|refine jy ?_|refine jz ?_|refine jA ?_|refine jB ?_|refine jC ?_|refine jD ?_|refine jE ?_|refine jF ?_|refine jG ?_|refine jH ?_|refine jI ?_|refine jJ ?_|refine jK ?_|refine jL ?_|refine jM (by assumption) ?_|refine jN (by assumption) rfl ?_|refine jO (by assumption) ?_|refine jP (by assumption) rfl ?_|refine jQ ?_|refine jR ?_|refine jS ?_|refine jT ?_|refine jU (by assumption) rfl ?_))
  refine M.call_i (few39_ret (h.keep k1 (fun _ _ _ h => h))) ?_; rintro _ w2 ⟨rfl, k2⟩
  have k02 := k1.trans k2 (fun _ _ h => h)
  have b2 := b1.keep k2 (fun h => h)
  by_cases hfew : fewS d = true
  rotate_left
  · have hff : fewS d = false := by simpa using hfew
    rw [hff]
    (repeat (first|refine ja ?_|refine jb ?_|refine jc ?_|refine jd ?_|refine je ?_|refine jf ?_|refine jg ?_|refine jh ?_|refine ji ?_|refine jj ?_|refine jk ?_|refine jl ?_|refine jm ?_|refine jn ?_|refine jo ?_|refine jp ?_|refine jq ?_|refine jr ?_|refine js ?_|refine jt ?_|refine ju ?_|refine jv ?_|refine jw ?_|refine jx ?_|refine jy ?_|refine jz ?_|refine jA ?_|refine jB ?_|refine jC ?_|refine jD ?_|refine jE ?_|refine jF ?_|refine jG ?_|refine jH ?_|refine jI ?_|refine jJ ?_|refine jK ?_|refine jL ?_|refine jM (by assumption) ?_|refine jN (by assumption) rfl ?_|refine jO (by assumption) ?_|refine jP (by assumption) rfl ?_|refine jQ ?_|refine jR ?_|refine jS ?_|refine jT ?_|refine jU (by assumption) rfl ?_))
    refine M.call_i (awake39_ret w2) ?_; rintro _ w3 ⟨rfl, k3⟩
    exact ⟨rfl, k02.trans k3 (fun _ _ h => h)⟩
  rw [hfew]
  obtain ⟨hd60, hp40, hf⟩ := fewS_few hfew
  by_cases h300 : 300 < env.length
  · (repeat (first|refine ja ?_|refine jb ?_|refine jc ?_|refine jd ?_|refine je ?_|refine jf ?_|refine jg ?_|refine jh ?_|refine ji ?_|refine jj ?_|refine jk ?_|refine jl ?_|refine jm ?_|refine jn ?_|refine jo ?_|refine jp ?_|refine jq ?_|refine jr ?_|refine js ?_|refine jt ?_|refine ju ?_|refine jv ?_|refine jw ?_|refine jx ?_|refine jy ?_|refine jz ?_|refine jA ?_|refine jB ?_|refine jC ?_|refine jD ?_|refine jE ?_|refine jF ?_|refine jG ?_|refine jH ?_|refine jI ?_|refine jJ ?_|refine jK ?_|refine jL ?_|refine jM (by assumption) ?_|refine jN (by assumption) rfl ?_|refine jO (by assumption) ?_|refine jP (by assumption) rfl ?_|refine jQ ?_|refine jR ?_|refine jS ?_|refine jT ?_|refine jU (by assumption) rfl ?_))
    refine M.call_i (awake39_ret w2) ?_; rintro _ w3 ⟨rfl, k3⟩
    exact ⟨rfl, k02.trans k3 (fun _ _ h => h)⟩
  (repeat (first|refine ja ?_|refine jb ?_|refine jc ?_|refine jd ?_|refine je ?_|refine jf ?_|refine jg ?_|refine jh ?_|refine ji ?_|refine jj ?_|refine jk ?_|refine jl ?_|refine jm ?_|refine jn ?_|refine jo ?_|refine jp ?_|refine jq ?_|refine jr ?_|refine js ?_|refine jt ?_|refine ju ?_|refine jv ?_|refine jw ?_|refine jx ?_|refine jy ?_|refine jz ?_|refine jA ?_|refine jB ?_|refine jC ?_|refine jD ?_|refine jE ?_|refine jF ?_|refine jG ?_|refine jH ?_|refine jI ?_|refine jJ ?_|refine jK ?_|refine jL ?_|refine jM (by assumption) ?_|refine jN (by assumption) rfl ?_|refine jO (by assumption) ?_|refine jP (by assumption) rfl ?_|refine jQ ?_|refine jR ?_|refine jS ?_|refine jT ?_|refine jU (by assumption) rfl ?_))
  refine M.call_i (build_ret (hl.keep k02 (fun _ _ _ h => h)) (by omega) 1000) ?_; rintro _ w3 ⟨F, p, v, N, rfl, hd, hrd, hF, k3⟩
  have k03 := k02.trans k3 (fun _ _ h => h)
  have hNl := hd.len.1
  have hG := hd.good
  refine M.extract_i (v := ptr p) rfl ?_
  refine M.extract_i (v := v) rfl ?_
  refine M.new_i (l := [.slice none 0 0, vi 0]) (fun w4 b4 k4 s4 => ?_)
  obtain ⟨X, xc, rfl, _⟩ := id hrd
  refine M.storeAll_i b4 rfl rfl (List.all_eq_true.1 rfl) (fun w5 b5 k5 s5 => ?_)
  have k35 : Keep w3 w5 No := k4.trans k5 (fun b hb h => by omega)
  have k05 := k03.trans k35 (fun _ _ h => h)
  have b15 := (b2.keep k3 (fun h => h)).keep k35 (fun h => h)
  (repeat (first|refine ja ?_|refine jb ?_|refine jc ?_|refine jd ?_|refine je ?_|refine jf ?_|refine jg ?_|refine jh ?_|refine ji ?_|refine jj ?_|refine jk ?_|refine jl ?_|refine jm ?_|refine jn ?_|refine jo ?_|refine jp ?_|refine jq ?_|refine jr ?_|refine js ?_|refine jt ?_|refine ju ?_|refine jv ?_|refine jw ?_|refine jx ?_|refine jy ?_|refine jz ?_|refine jA ?_|refine jB ?_|refine jC ?_|refine jD ?_|refine jE ?_|refine jF ?_|refine jG ?_|refine jH ?_|refine jI ?_|refine jJ ?_|refine jK ?_|refine jL ?_|refine jM (by assumption) ?_|refine jN (by assumption) rfl ?_|refine jO (by assumption) ?_|refine jP (by assumption) rfl ?_|refine jQ ?_|refine jR ?_|refine jS ?_|refine jT ?_|refine jU (by assumption) rfl ?_))
  refine M.loadAll_i b15 rfl ?_
  refine M.call_i (deviceOf_ret (hd.keepN k35) (hv.keep k05 (fun _ _ _ h => h)) (by omega) (h.keep k05 (fun _ _ _ h => h)) hf) ?_; rintro _ w6 ⟨ta, tb, rfl, dv6, k6⟩
  refine M.extract_i (v := .agg ⟨[ta, tb, vi (if devBad N d then 0 else d.ep)]⟩) rfl ?_
  refine M.extract_i (v := vi (if devBad N d then 11 else 0)) rfl ?_
  refine M.new_i (l := [.slice none 0 0, .slice none 0 0, vi 0]) (fun w7 b7 k7 s7 => ?_)
  obtain ⟨⟨TA, tc, rfl, _, _⟩, TB, tc2, rfl, _, _⟩ := id dv6
  refine M.storeAll_i b7 rfl rfl (List.all_eq_true.1 rfl) (fun w8 b8 k8 s8 => ?_)
  have k68 : Keep w6 w8 No := k7.trans k8 (fun b hb h => by omega)
  have k58 := k6.trans k68 (fun _ _ h => h)
  have k08 := k05.trans k58 (fun _ _ h => h)
  have b18 := b15.keep k58 (fun h => h)
  have b58 := b5.keep k58 (fun h => h)
  have dv8 := dv6.keep k68 (fun _ _ _ h => h)
  cases hbad : devBad N d with
  | true =>
    simp only [if_true]
    (repeat (first|refine ja ?_|refine jb ?_|refine jc ?_|refine jd ?_|refine je ?_|refine jf ?_|refine jg ?_|refine jh ?_|refine ji ?_|refine jj ?_|refine jk ?_|refine jl ?_|refine jm ?_|refine jn ?_|refine jo ?_|refine jp ?_|refine jq ?_|refine jr ?_|refine js ?_|refine jt ?_|refine ju ?_|refine jv ?_|refine jw ?_|refine jx ?_|refine jy ?_|refine jz ?_|refine jA ?_|refine jB ?_|refine jC ?_|refine jD ?_|refine jE ?_|refine jF ?_|refine jG ?_|refine jH ?_|refine jI ?_|refine jJ ?_|refine jK ?_|refine jL ?_|refine jM (by assumption) ?_|refine jN (by assumption) rfl ?_|refine jO (by assumption) ?_|refine jP (by assumption) rfl ?_|refine jQ ?_|refine jR ?_|refine jS ?_|refine jT ?_|refine jU (by assumption) rfl ?_|refine jG ?_ (by decide)|refine jH ?_ (by decide)|refine jI ?_ (by decide)|refine jJ ?_ (by decide)|refine jC ?_ (by decide)|refine jy ?_ (by decide)))
    refine M.call_i (awake39_ret w8) ?_; rintro _ w9 ⟨rfl, k9⟩
    exact ⟨rfl, k08.trans k9 (fun _ _ h => h)⟩
  | false =>
    rw [hbad] at dv8
    simp only [Bool.false_eq_true, if_false, hbad] at dv8 b8 ⊢
    (repeat (first|refine ja ?_|refine jb ?_|refine jc ?_|refine jd ?_|refine je ?_|refine jf ?_|refine jg ?_|refine jh ?_|refine ji ?_|refine jj ?_|refine jk ?_|refine jl ?_|refine jm ?_|refine jn ?_|refine jo ?_|refine jp ?_|refine jq ?_|refine jr ?_|refine js ?_|refine jt ?_|refine ju ?_|refine jv ?_|refine jw ?_|refine jx ?_|refine jy ?_|refine jz ?_|refine jA ?_|refine jB ?_|refine jC ?_|refine jD ?_|refine jE ?_|refine jF ?_|refine jG ?_|refine jH ?_|refine jI ?_|refine jJ ?_|refine jK ?_|refine jL ?_|refine jM (by assumption) ?_|refine jN (by assumption) rfl ?_|refine jO (by assumption) ?_|refine jP (by assumption) rfl ?_|refine jQ ?_|refine jR ?_|refine jS ?_|refine jT ?_|refine jU (by assumption) rfl ?_|refine jG ?_ (by decide)|refine jH ?_ (by decide)|refine jI ?_ (by decide)|refine jJ ?_ (by decide)|refine jC ?_ (by decide)|refine jy ?_ (by decide)))
    refine M.loadAll_i b18 rfl ?_
    refine M.call_i (smasks_ret (h.keep k08 (fun _ _ _ h => h)) hf hI) ?_; rintro mv w9 ⟨g9, k9⟩
    have b59 := b58.keep k9 (fun h => h)
    refine M.loadAll_i b59 rfl ?_
    have k39 : Keep w3 w9 No := (k35.trans k58 (fun _ _ h => h)).trans k9 (fun _ _ h => h)
    have k09 := k08.trans k9 (fun _ _ h => h)
    refine M.call_i (rall_ret (hrd.keep k39 (fun _ _ _ h => h)) (by omega) hG (hv.keep k09 (fun _ _ _ h => h)) (by omega)) ?_; rintro av w10 ⟨g10, k10⟩
    obtain ⟨A10, c10, rfl, hr10, hc10⟩ := g10
    have hvl := valsU_len N env N.length
    have hml := masksL_len (epsS d.pend)
    generalize hVs : valsU N env N.length = Vs at hr10 hc10 hvl
    generalize masksL (epsS d.pend) = Ms at g9 hml
    obtain ⟨A9, c9, rfl, hr9, hc9⟩ := GI.lv (GC.keep g9 k10 (fun _ _ _ h => h))
    have k910 := k9.trans k10 (fun _ _ h => h)
    have k010 := k08.trans k910 (fun _ _ h => h)
    have b1 := b18.keep k910 (fun h => h)
    have b9 := b8.keep k910 (fun h => h)
    have dv := dv8.keep k910 (fun _ _ _ h => h)
    have hdv := h.keep k010 (fun _ _ _ h => h)
    refine M.loop_i (σ := Nat) (fun i vals w' => vals = [vi i] ∧ i ≤ Ms.length ∧ Keep w10 w' No) (fun i => Ms.length - i) 0 ⟨rfl, by omega, Keep.refl _ _⟩ ?_
    rintro i vals w11 K ⟨rfl, hi, k11⟩ hK _
    simp only [List.getD_cons_zero, List.getD_cons_succ]
    by_cases hlt : i < Ms.length
    · obtain ⟨m, hm⟩ : ∃ m, Ms[i]? = some m := ⟨_, List.getElem?_eq_getElem hlt⟩
      have k11 := k11.trans (Keep.drew w11 No) (fun _ _ h => h)
      (repeat (first|refine ja ?_|refine jb ?_|refine jc ?_|refine jd ?_|refine je ?_|refine jf ?_|refine jg ?_|refine jh ?_|refine ji ?_|refine jj ?_|refine jk ?_|refine jl ?_|refine jm ?_|refine jn ?_|refine jo ?_|refine jp ?_|refine jq ?_|refine jr ?_|refine js ?_|refine jt ?_|refine ju ?_|refine jv ?_|refine jw ?_|refine jx ?_|refine jy ?_|refine jz ?_|refine jA ?_|refine jB ?_|refine jC ?_|refine jD ?_|refine jE ?_|refine jF ?_|refine jG ?_|refine jH ?_|refine jI ?_|refine jJ ?_|refine jK ?_|refine jL ?_|refine jM (by assumption) ?_|refine jN (by assumption) rfl ?_|refine jO (by assumption) ?_|refine jP (by assumption) rfl ?_|refine jQ ?_|refine jR ?_|refine jS ?_|refine jT ?_|refine jU (by assumption) rfl ?_))
      generalize w11.drew = w12 at *
      refine M.loadAll_i (b1.keep k11 (fun h => h)) rfl ?_
      refine M.idxLV_i (hr9.keep k11 (fun _ _ _ h => h)) rfl (by omega) (by omega) (x := m) (by simpa using hm) (fun bb oo hA hcc => ?_)
      (repeat (first|refine ja ?_|refine jb ?_|refine jc ?_|refine jd ?_|refine je ?_|refine jf ?_|refine jg ?_|refine jh ?_|refine ji ?_|refine jj ?_|refine jk ?_|refine jl ?_|refine jm ?_|refine jn ?_|refine jo ?_|refine jp ?_|refine jq ?_|refine jr ?_|refine js ?_|refine jt ?_|refine ju ?_|refine jv ?_|refine jw ?_|refine jx ?_|refine jy ?_|refine jz ?_|refine jA ?_|refine jB ?_|refine jC ?_|refine jD ?_|refine jE ?_|refine jF ?_|refine jG ?_|refine jH ?_|refine jI ?_|refine jJ ?_|refine jK ?_|refine jL ?_|refine jM (by assumption) ?_|refine jN (by assumption) rfl ?_|refine jO (by assumption) ?_|refine jP (by assumption) rfl ?_|refine jQ ?_|refine jR ?_|refine jS ?_|refine jT ?_|refine jU (by assumption) rfl ?_))
      refine M.call_i (simage_ret (hdv.keep k11 (fun _ _ _ h => h)) hf m) ?_; rintro iv w13 ⟨g13, k13⟩
      have himl : (imgL d.disk (spairs d.pend) m).length = d.disk.length := imgN_len _ _ _ _
      have hisN := img_isN (m := m) hbad
      have hof := img_of (N := N) (env := env) (d := d) (m := m)
      generalize imgL d.disk (spairs d.pend) m = I at g13 himl hisN hof
      obtain ⟨A13, c13, rfl, hr13, hc13⟩ := GI.lv g13
      have k13 := k11.trans k13 (fun _ _ h => h)
      refine M.loop_i (σ := Nat) (fun i vals w' => ∃ sv, vals = [sv, vi i] ∧ i ≤ I.length ∧ GW w' (w13.heap.size ≤ ·) sv ((I.map (valW N env)).take i) ∧ Keep w13 w' No) (fun i => I.length - i) 0
        ⟨_, rfl, by omega, GC.nil _ _ _, Keep.refl _ _⟩ ?_
      rintro j vals w14 K2 ⟨sv, rfl, hj, g14, k14⟩ hK2 _
      simp only [List.getD_cons_zero, List.getD_cons_succ]
      have k114 := k13.trans k14 (fun _ _ h => h)
      by_cases hlt2 : j < I.length
      · obtain ⟨x, hx⟩ : ∃ x, I[j]? = some x := ⟨_, List.getElem?_eq_getElem hlt2⟩
        have hxN := hisN x (List.mem_of_getElem? hx)
        have hx0 : 0 ≤ x ∧ x < N.length := by simpa [isN] using hxN
        have hr14 := hr13.keep k14 (fun _ _ _ h => h)
        (repeat (first|refine ja ?_|refine jb ?_|refine jc ?_|refine jd ?_|refine je ?_|refine jf ?_|refine jg ?_|refine jh ?_|refine ji ?_|refine jj ?_|refine jk ?_|refine jl ?_|refine jm ?_|refine jn ?_|refine jo ?_|refine jp ?_|refine jq ?_|refine jr ?_|refine js ?_|refine jt ?_|refine ju ?_|refine jv ?_|refine jw ?_|refine jx ?_|refine jy ?_|refine jz ?_|refine jA ?_|refine jB ?_|refine jC ?_|refine jD ?_|refine jE ?_|refine jF ?_|refine jG ?_|refine jH ?_|refine jI ?_|refine jJ ?_|refine jK ?_|refine jL ?_|refine jM (by assumption) ?_|refine jN (by assumption) rfl ?_|refine jO (by assumption) ?_|refine jP (by assumption) rfl ?_|refine jQ ?_|refine jR ?_|refine jS ?_|refine jT ?_|refine jU (by assumption) rfl ?_))
        refine M.idxLV_i hr14 rfl (by omega) (by omega) (x := x) (by simpa using hx) (fun bb oo hA hcc => ?_)
        (repeat (first|refine ja ?_|refine jb ?_|refine jc ?_|refine jd ?_|refine je ?_|refine jf ?_|refine jg ?_|refine jh ?_|refine ji ?_|refine jj ?_|refine jk ?_|refine jl ?_|refine jm ?_|refine jn ?_|refine jo ?_|refine jp ?_|refine jq ?_|refine jr ?_|refine js ?_|refine jt ?_|refine ju ?_|refine jv ?_|refine jw ?_|refine jx ?_|refine jy ?_|refine jz ?_|refine jA ?_|refine jB ?_|refine jC ?_|refine jD ?_|refine jE ?_|refine jF ?_|refine jG ?_|refine jH ?_|refine jI ?_|refine jJ ?_|refine jK ?_|refine jL ?_|refine jM (by assumption) ?_|refine jN (by assumption) rfl ?_|refine jO (by assumption) ?_|refine jP (by assumption) rfl ?_|refine jQ ?_|refine jR ?_|refine jS ?_|refine jT ?_|refine jU (by assumption) rfl ?_))
        refine M.idxLV_i hr14 rfl (by omega) (by omega) (x := x) (by simpa using hx) (fun bb oo hA hcc => ?_)
        (repeat (first|refine ja ?_|refine jb ?_|refine jc ?_|refine jd ?_|refine je ?_|refine jf ?_|refine jg ?_|refine jh ?_|refine ji ?_|refine jj ?_|refine jk ?_|refine jl ?_|refine jm ?_|refine jn ?_|refine jo ?_|refine jp ?_|refine jq ?_|refine jr ?_|refine js ?_|refine jt ?_|refine ju ?_|refine jv ?_|refine jw ?_|refine jx ?_|refine jy ?_|refine jz ?_|refine jA ?_|refine jB ?_|refine jC ?_|refine jD ?_|refine jE ?_|refine jF ?_|refine jG ?_|refine jH ?_|refine jI ?_|refine jJ ?_|refine jK ?_|refine jL ?_|refine jM (by assumption) ?_|refine jN (by assumption) rfl ?_|refine jO (by assumption) ?_|refine jP (by assumption) rfl ?_|refine jQ ?_|refine jR ?_|refine jS ?_|refine jT ?_|refine jU (by assumption) rfl ?_))
        refine M.idxLV_i hr14 rfl (by omega) (by omega) (x := x) (by simpa using hx) (fun bb oo hA hcc => ?_)
        (repeat (first|refine ja ?_|refine jb ?_|refine jc ?_|refine jd ?_|refine je ?_|refine jf ?_|refine jg ?_|refine jh ?_|refine ji ?_|refine jj ?_|refine jk ?_|refine jl ?_|refine jm ?_|refine jn ?_|refine jo ?_|refine jp ?_|refine jq ?_|refine jr ?_|refine js ?_|refine jt ?_|refine ju ?_|refine jv ?_|refine jw ?_|refine jx ?_|refine jy ?_|refine jz ?_|refine jA ?_|refine jB ?_|refine jC ?_|refine jD ?_|refine jE ?_|refine jF ?_|refine jG ?_|refine jH ?_|refine jI ?_|refine jJ ?_|refine jK ?_|refine jL ?_|refine jM (by assumption) ?_|refine jN (by assumption) rfl ?_|refine jO (by assumption) ?_|refine jP (by assumption) rfl ?_|refine jQ ?_|refine jR ?_|refine jS ?_|refine jT ?_|refine jU (by assumption) rfl ?_))
        refine M.watD_i (hr10.keep k114 (fun _ _ _ h => h)) rfl hx0.1 (by omega) (fun bb oo _ hcc => ?_)
        (repeat (first|refine ja ?_|refine jb ?_|refine jc ?_|refine jd ?_|refine je ?_|refine jf ?_|refine jg ?_|refine jh ?_|refine ji ?_|refine jj ?_|refine jk ?_|refine jl ?_|refine jm ?_|refine jn ?_|refine jo ?_|refine jp ?_|refine jq ?_|refine jr ?_|refine js ?_|refine jt ?_|refine ju ?_|refine jv ?_|refine jw ?_|refine jx ?_|refine jy ?_|refine jz ?_|refine jA ?_|refine jB ?_|refine jC ?_|refine jD ?_|refine jE ?_|refine jF ?_|refine jG ?_|refine jH ?_|refine jI ?_|refine jJ ?_|refine jK ?_|refine jL ?_|refine jM (by assumption) ?_|refine jN (by assumption) rfl ?_|refine jO (by assumption) ?_|refine jP (by assumption) rfl ?_|refine jQ ?_|refine jR ?_|refine jS ?_|refine jT ?_|refine jU (by assumption) rfl ?_))
        rw [← hVs, valW_at hxN]
        refine M.buildSlice_i [vw (valW N env x)] (by kernel_rfl) (fun w15 b15 k15 s15 => ?_)
        have hgl : ((I.map (valW N env)).take j).length = j := by rw [List.length_take, List.length_map]; omega
        refine M.append_i (g14.keep k15 (fun _ _ _ h => h)) (Row.of_blk' (D := fun _ => True) b15 trivial) rfl (by simp; rfl) rfl (by omega) (by omega) (fun v16 w16 g16 k16 => ?_)
        have q15 := k15.size
        have q14 := k14.size
        (repeat (first|refine ja ?_|refine jb ?_|refine jc ?_|refine jd ?_|refine je ?_|refine jf ?_|refine jg ?_|refine jh ?_|refine ji ?_|refine jj ?_|refine jk ?_|refine jl ?_|refine jm ?_|refine jn ?_|refine jo ?_|refine jp ?_|refine jq ?_|refine jr ?_|refine js ?_|refine jt ?_|refine ju ?_|refine jv ?_|refine jw ?_|refine jx ?_|refine jy ?_|refine jz ?_|refine jA ?_|refine jB ?_|refine jC ?_|refine jD ?_|refine jE ?_|refine jF ?_|refine jG ?_|refine jH ?_|refine jI ?_|refine jJ ?_|refine jK ?_|refine jL ?_|refine jM (by assumption) ?_|refine jN (by assumption) rfl ?_|refine jO (by assumption) ?_|refine jP (by assumption) rfl ?_|refine jQ ?_|refine jR ?_|refine jS ?_|refine jT ?_|refine jU (by assumption) rfl ?_))
        refine hK2 (j + 1) _ _ (by omega) ⟨v16, rfl, by omega, ?_, (k14.trans k15 (fun _ _ h => h)).trans k16 (fun b hb h => by have h : w13.heap.size ≤ b := h; omega)⟩
        have e1 : (I.map (valW N env)).take (j + 1) = (I.map (valW N env)).take j ++ [valW N env x] := by
          rw [List.take_add_one]
          simp [hx]
        rw [e1]
        have g17 := g16.mono (L' := (w13.heap.size ≤ ·)) (fun b hb h => by
          rcases h with h | h
          · exact h
          · show w13.heap.size ≤ b; omega)
        simpa [GW] using g17
      · have e : j = I.length := by omega
        subst e
        rw [List.take_of_length_le (by rw [List.length_map]; exact Nat.le_refl _)] at g14
        have k15 := k114.trans (Keep.drew w14 No) (fun _ _ h => h)
        have g15 := g14.keep (Keep.drew w14 No) (fun _ _ _ h => h)
        (repeat (first|refine ja ?_|refine jb ?_|refine jc ?_|refine jd ?_|refine je ?_|refine jf ?_|refine jg ?_|refine jh ?_|refine ji ?_|refine jj ?_|refine jk ?_|refine jl ?_|refine jm ?_|refine jn ?_|refine jo ?_|refine jp ?_|refine jq ?_|refine jr ?_|refine js ?_|refine jt ?_|refine ju ?_|refine jv ?_|refine jw ?_|refine jx ?_|refine jy ?_|refine jz ?_|refine jA ?_|refine jB ?_|refine jC ?_|refine jD ?_|refine jE ?_|refine jF ?_|refine jG ?_|refine jH ?_|refine jI ?_|refine jJ ?_|refine jK ?_|refine jL ?_|refine jM (by assumption) ?_|refine jN (by assumption) rfl ?_|refine jO (by assumption) ?_|refine jP (by assumption) rfl ?_|refine jQ ?_|refine jR ?_|refine jS ?_|refine jT ?_|refine jU (by assumption) rfl ?_))
        generalize w14.drew = w15 at *
        refine M.loadAll_i (b9.keep k15 (fun h => h)) rfl ?_
        refine M.idxLV_i (hr9.keep k15 (fun _ _ _ h => h)) rfl (by omega) (by omega) (x := m) (by simpa using hm) (fun bb oo hA hcc => ?_)
        (repeat (first|refine ja ?_|refine jb ?_|refine jc ?_|refine jd ?_|refine je ?_|refine jf ?_|refine jg ?_|refine jh ?_|refine ji ?_|refine jj ?_|refine jk ?_|refine jl ?_|refine jm ?_|refine jn ?_|refine jo ?_|refine jp ?_|refine jq ?_|refine jr ?_|refine js ?_|refine jt ?_|refine ju ?_|refine jv ?_|refine jw ?_|refine jx ?_|refine jy ?_|refine jz ?_|refine jA ?_|refine jB ?_|refine jC ?_|refine jD ?_|refine jE ?_|refine jF ?_|refine jG ?_|refine jH ?_|refine jI ?_|refine jJ ?_|refine jK ?_|refine jL ?_|refine jM (by assumption) ?_|refine jN (by assumption) rfl ?_|refine jO (by assumption) ?_|refine jP (by assumption) rfl ?_|refine jQ ?_|refine jR ?_|refine jS ?_|refine jT ?_|refine jU (by assumption) rfl ?_))
        have hdl : (devOf N env d).disk.length = d.disk.length := by simp [devOf]
        have hpl : (devOf N env d).pend.length = d.pend.length := by simp [devOf]
        refine M.call_i (rimage_ret (d := devOf N env d) (dv.keep k15 (fun _ _ _ h => h)) (by omega) (by omega) m) ?_; rintro rv w16 ⟨g16, k16⟩
        have hil2 : (I.map (valW N env)).length ≤ 1000000 := by rw [List.length_map]; omega
        refine M.call_i (words_ret (GW.lv (g15.keep k16 (fun _ _ _ h => h))) (GW.lv g16) hil2) ?_; rintro _ w17 ⟨rfl, k17⟩
        rw [decide_eq_true hof]
        (repeat (first|refine ja ?_|refine jb ?_|refine jc ?_|refine jd ?_|refine je ?_|refine jf ?_|refine jg ?_|refine jh ?_|refine ji ?_|refine jj ?_|refine jk ?_|refine jl ?_|refine jm ?_|refine jn ?_|refine jo ?_|refine jp ?_|refine jq ?_|refine jr ?_|refine js ?_|refine jt ?_|refine ju ?_|refine jv ?_|refine jw ?_|refine jx ?_|refine jy ?_|refine jz ?_|refine jA ?_|refine jB ?_|refine jC ?_|refine jD ?_|refine jE ?_|refine jF ?_|refine jG ?_|refine jH ?_|refine jI ?_|refine jJ ?_|refine jK ?_|refine jL ?_|refine jM (by assumption) ?_|refine jN (by assumption) rfl ?_|refine jO (by assumption) ?_|refine jP (by assumption) rfl ?_|refine jQ ?_|refine jR ?_|refine jS ?_|refine jT ?_|refine jU (by assumption) rfl ?_))
        exact hK (i + 1) _ _ (by omega) ⟨rfl, by omega, (k15.trans k16 (fun _ _ h => h)).trans k17 (fun _ _ h => h)⟩
    · have e : i = Ms.length := by omega
      subst e
      (repeat (first|refine ja ?_|refine jb ?_|refine jc ?_|refine jd ?_|refine je ?_|refine jf ?_|refine jg ?_|refine jh ?_|refine ji ?_|refine jj ?_|refine jk ?_|refine jl ?_|refine jm ?_|refine jn ?_|refine jo ?_|refine jp ?_|refine jq ?_|refine jr ?_|refine js ?_|refine jt ?_|refine ju ?_|refine jv ?_|refine jw ?_|refine jx ?_|refine jy ?_|refine jz ?_|refine jA ?_|refine jB ?_|refine jC ?_|refine jD ?_|refine jE ?_|refine jF ?_|refine jG ?_|refine jH ?_|refine jI ?_|refine jJ ?_|refine jK ?_|refine jL ?_|refine jM (by assumption) ?_|refine jN (by assumption) rfl ?_|refine jO (by assumption) ?_|refine jP (by assumption) rfl ?_|refine jQ ?_|refine jR ?_|refine jS ?_|refine jT ?_|refine jU (by assumption) rfl ?_))
      refine M.call_i (awake39_ret w11) ?_; rintro _ w12 ⟨rfl, k12⟩
      exact ⟨rfl, (k010.trans k11 (fun _ _ h => h)).trans k12 (fun _ _ h => h)⟩
end Go.Proofs.Ytfffepeloiefiaa
