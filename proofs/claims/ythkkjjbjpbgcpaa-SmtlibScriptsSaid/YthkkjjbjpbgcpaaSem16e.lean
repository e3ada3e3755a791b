import Derived.Test.YthkkjjbjpbgcpaaSem16d
import Derived.Test.YthkkjjbjpbgcpaaLaw16p
namespace Go.Proofs.Ythkkjjbjpbgcpaa
open Go.Mw Go.Maps Go.MapKept
set_option linter.unusedVariables false
set_option linter.unusedSimpArgs false
set_option maxRecDepth 100000
attribute [local irreducible] M.val M.unit M.next M.pick M.new M.nilCheck M.load1 M.loadA M.store M.fieldAddr M.indexSl M.indexArr M.slice M.makeSlice M.buildSlice M.len M.lenS M.cap M.append M.extract M.conv M.not M.neg M.bin M.shift M.eqB M.eqNil M.scat M.call M.callv M.gd M.share M.cond M.loop M.draw pureW readW Ret
/-! breakwater/sem.once[breakwater/api.Node]: function 68 -/
def sh68 (x0 x1 x2 x3 : Value) (R : Kt) (w : World) : Prop :=
  M.new 99 (Value.cells x2) (fun t6 w =>
  M.new 55 #[.int .i64 0, .int .i64 0, .int .i64 0, .int .i64 0, .int .i64 0, .int .u64 0] (fun t8 w =>
  M.buildSlice 3 1 #[.int .i64 0] 1 [(0, x1)] (fun t19 w =>
  M.loop [t19] (fun s1 K1 w => ∀ _ : List Value,
  M.len (s1.getD 0 undef) (fun t21 w =>
  M.bin .gtr t21 (Value.int IntKind.i64 0) (fun t22 w =>
  M.cond t22
  (M.share (fun K2 w =>
  M.len (s1.getD 0 undef) (fun t25 w =>
  M.bin .sub t25 (Value.int IntKind.i64 1) (fun t26 w =>
  M.indexSl 1 (s1.getD 0 undef) t26 (fun t27 w =>
  M.load1 t27 (fun t28 w =>
  M.call Try.prog 20 #[x0, t28] (fun t32 w =>
  M.extract 0 t32 (fun t33 w =>
  M.extract 1 t32 (fun t34 w =>
  M.new 55 #[.int .i64 0, .int .i64 0, .int .i64 0, .int .i64 0, .int .i64 0, .int .u64 0] (fun t11 w =>
  M.store 6 t11 t33 (fun _ w =>
  M.loadA 6 t11 (fun t35 w =>
  M.call Try.prog 74 #[t35] (fun t36 w =>
  M.len t36 (fun t37 w =>
  M.loop [(s1.getD 0 undef), (Value.bool false), (Value.int IntKind.i64 0)] (fun s3 K3 w => ∀ _ : List Value,
  M.bin .lss (s3.getD 2 undef) t37 (fun t39 w =>
  M.cond t39
  (M.share (fun K4 w =>
  M.indexSl 1 t36 (s3.getD 2 undef) (fun t40 w =>
  M.load1 t40 (fun t41 w =>
  M.load1 t6 (fun t43 w =>
  readW Try.prog (Instr.lookup 99 t43 t41 true) (fun t45 w =>
  M.extract 0 t45 (fun t46 w =>
  M.extract 1 t45 (fun t47 w =>
  M.new 55 #[.int .i64 0, .int .i64 0, .int .i64 0, .int .i64 0, .int .i64 0, .int .u64 0] (fun t16 w =>
  M.store 6 t16 t46 (fun _ w =>
  M.not t47 (fun t49 w =>
  M.cond t49
  (M.buildSlice 3 1 #[.int .i64 0] 1 [(0, t41)] (fun t52 w =>
  M.append 3 1 8 #[.int .i64 0] (s3.getD 0 undef) t52 (fun t53 w =>
  K4 [t53, (Value.bool true)] w) w) w)
  (K4 [(s3.getD 0 undef), (s3.getD 1 undef)] w)) w) w) w) w) w) w) w) w) w) (fun s4 w => ∀ _ : List Value,
  M.bin .add (s3.getD 2 undef) (Value.int IntKind.i64 1) (fun t54 w =>
  K3 [(s4.getD 0 undef), (s4.getD 1 undef), t54] w) w) w)
  (M.cond (s3.getD 1 undef)
  (K2 [(s3.getD 0 undef)] w)
  (M.len (s3.getD 0 undef) (fun t58 w =>
  M.bin .sub t58 (Value.int IntKind.i64 1) (fun t59 w =>
  M.slice 1 (s3.getD 0 undef) none (some t59) none (fun t60 w =>
  M.draw (fun w =>
  M.load1 t6 (fun t61 w =>
  M.loadA 6 t11 (fun t64 w =>
  M.callv Try.prog x3 #[t64, (.func (Fn.func 75) #[] #[t6])] (fun t66 w =>
  ((M.load1 t6 (fun v' _ => v' = t61) w) ∧ M.unit Try.prog (Instr.mapUpdate 99 t61 t28 t66) (fun _ w =>
  K2 [t60] w) w)) w) w) w) w) w) w) w))) w) w) w) w) w) w) w) w) w) w) w) w) w) w) (fun s2 w => ∀ _ : List Value,
  K1 [(s2.getD 0 undef)] w) w)
  (M.load1 t6 (fun t67 w =>
  readW Try.prog (Instr.lookup 99 t67 x1 false) (fun t69 w =>
  M.store 6 t8 t69 (fun _ w =>
  M.loadA 6 t8 (fun r0 w => R r0 w) w) w) w) w)) w) w) w) w) w) w
theorem ok68 (x0 x1 x2 x3 : Value) (R : Kt) (w : World) (h : sh68 x0 x1 x2 x3 R w) : Ret Try.prog 68 #[x0, x1, x2, x3] w R :=
  ret_mk <| calls_of_comp mixed (c := Try.f68.body.getD .skip) (args := [x0, x1, x2, x3]) (rs := [(ResultVar.cell 8 55)]) (Ann.seq Ann.text (Ann.seq Ann.text (Ann.seq (Ann.block (Ann.loop [9] [10, 11, 12, 13, 15, 16, 17, 20, 21, 22, 23, 24, 25, 26, 27, 28, 29, 30, 31, 32, 33, 34, 35, 36, 37, 38, 39, 40, 41, 42, 43, 44, 45, 46, 47, 48, 49, 50, 51, 52, 53, 54, 55, 56, 57, 58, 59, 60, 61, 62, 63, 64, 65, 66] (Ann.seq (Ann.seq Ann.text (Ann.cond Ann.leaf Ann.leaf)) (Ann.jblock [9] [10, 11, 12, 13, 15, 16, 17, 23, 24, 25, 26, 27, 28, 29, 30, 31, 32, 33, 34, 35, 36, 37, 38, 39, 40, 41, 42, 43, 44, 45, 46, 47, 48, 49, 50, 51, 52, 53, 54, 55, 56, 57, 58, 59, 60, 61, 62, 63, 64, 65, 66] (Ann.seq Ann.text (Ann.seq Ann.text (Ann.seq Ann.text (Ann.seq (Ann.seq Ann.text (Ann.block (Ann.loop [9, 13, 38] [15, 16, 17, 39, 40, 41, 42, 43, 44, 45, 46, 47, 48, 49, 50, 51, 52, 53, 54] (Ann.seq Ann.text (Ann.seq (Ann.cond Ann.leaf Ann.leaf) (Ann.seq (Ann.jblock [9, 13] [15, 16, 17, 40, 41, 42, 43, 44, 45, 46, 47, 48, 49, 50, 51, 52, 53] (Ann.seq Ann.text (Ann.seq Ann.text (Ann.seq Ann.text (Ann.cond (Ann.seq Ann.text Ann.text) Ann.leaf))))) Ann.text)))))) (Ann.seq (Ann.seq Ann.text (Ann.cond Ann.leaf Ann.leaf)) (Ann.seq Ann.text (Ann.draw (Sch.take 0 (Sch.take 1 (Sch.take 2 (Sch.take 3 (Sch.take 4 (Sch.one 5 (Sch.one 6 Sch.done)))))))))))))))))) (Ann.seq Ann.text Ann.leaf))))
    Try.func68 (by kernel_rfl) (by kernel_rfl)
    (Eq.mp (by kernel_rfl) h)
/-! breakwater/sem.below$1: function 69 -/
def sh69 (x0 x1 : Value) (R : Kt) (w : World) : Prop :=
  M.new 55 (Value.cells x0) (fun t2 w =>
  M.new 55 #[.int .i64 0, .int .i64 0, .int .i64 0, .int .i64 0, .int .i64 0, .int .u64 0] (fun t4 w =>
  M.loadA 6 t2 (fun t5 w =>
  M.store 6 t4 t5 (fun _ w =>
  M.loadA 6 t4 (fun r0 w => R r0 w) w) w) w) w) w
theorem ok69 (x0 x1 : Value) (R : Kt) (w : World) (h : sh69 x0 x1 R w) : Ret Try.prog 69 #[x0, x1] w R :=
  ret_mk <| calls_of_comp mixed (c := Try.f69.body.getD .skip) (args := [x0, x1]) (rs := [(ResultVar.cell 4 55)]) (Ann.seq Ann.text (Ann.seq Ann.text Ann.leaf))
    Try.func69 (by kernel_rfl) (by kernel_rfl)
    (Eq.mp (by kernel_rfl) h)

def HeldN (N : List Nd) (kv : List (Int × Value)) (held : List Int) : Prop := ∀ k, lkp kv k = if k ∈ held then some (encN (nodeAt N k)) else none
theorem HeldN.upd {N : List Nd} {kv : List (Int × Value)} {held : List Int} (h : HeldN N kv held) (x : Int) : HeldN N (upd kv x (encN (nodeAt N x))) (x :: held) := fun k => by
  rw [lkp_upd]
  by_cases hk : k = x
  · subst hk; rw [if_pos rfl, if_pos List.mem_cons_self]
  · rw [if_neg hk, h k]
    by_cases hm : k ∈ held
    · rw [if_pos hm, if_pos (List.mem_cons_of_mem _ hm)]
    · rw [if_neg hm, if_neg (by simp [hk, hm])]
theorem zNode (w : World) : (zeroValue 55).run Try.prog w = .ok (encN zeroNd) w := Try.zeroValue55 w
theorem below1_ret (n : Nd) (gv : Value) (w : World) : Ret Try.prog 69 #[encN n, gv] w (fun r w' => r = encN n ∧ Keep w w' No) := by
  refine ok69 _ _ _ _ ?_
  unfold sh69
  refine M.new_i (l := n.cells) (fun w1 b1 k1 s1 => ?_)
  refine M.new_i (l := zeroNd.cells) (fun w2 b2 k2 s2 => ?_)
  refine M.loadAll_i (b1.keep k2 (fun h => h)) rfl ?_
  refine M.storeAll_i b2 rfl rfl (cells_one n) (fun w3 b3 k3 s3 => ?_)
  refine M.loadAll_i b3 rfl ?_
  exact ⟨rfl, (k1.trans k2 (fun _ _ h => h)).trans k3 (fun b hb h => by omega)⟩
set_option maxHeartbeats 4000000 in
theorem onceN_ret {w : World} {F : Nat → Prop} {p r : Nat} {N : List Nd} {most id : Int} (hd : DagO w F p N most) (hid : isN N id = true) (hm : MapO w r []) (hFr : ¬ F r) :
    Ret Try.prog 68 #[ptr p, vi id, .map (some r), .func (.func 69) #[] #[]] w (fun x w' => ∃ kv held, MapO w' r kv ∧ HeldN N kv held ∧ (∀ k, k ∈ held ↔ Rch N id k) ∧ Keep w w' (· = r)) := by
  have hG := hd.good
  have hNl := hd.len.1
  refine ok68 _ _ _ _ _ _ ?_
  unfold sh68
  refine M.new_i (l := [.map (some r)]) (fun w1 b1 k1 s1 => ?_)
  refine M.new_i (l := zeroNd.cells) (fun wz bz kz sz => ?_)
  refine M.buildSlice_i [vi id] (by kernel_rfl) (fun w2 b2 k2 s2 => ?_)
  have b1 := (b1.keep kz (fun h => h)).keep k2 (fun h => h)
  have bz := bz.keep k2 (fun h => h)
  have k12 : Keep w w2 (· = r) := ((k1.trans kz (fun _ _ h => h)).trans k2 (fun _ _ h => h)).mono (fun _ _ h => h.elim)
  have hm2 := ((hm.keep k1 (fun h => h)).keep kz (fun h => h)).keep k2 (fun h => h)
  have hrl := hm.lt
  have g2 : GI w2 (wz.heap.size ≤ ·) (.slice (some ⟨wz.heap.size, 0, none⟩) 1 1) [id] := GC.of_blk b2 (Nat.le_refl _) rfl
  refine M.loop_i (σ := List Int × List Int × List Int) (fun t vals w' => ∃ sv kv, vals = [sv] ∧ GI w' (wz.heap.size ≤ ·) sv t.1 ∧ Once N id t.1 t.2.1 t.2.2 ∧ t.1.length + 4 * (N.length - t.2.2.length) ≤ 4 * N.length + 1 ∧ Blk w' w.heap.size [.map (some r)] ∧ Blk w' w1.heap.size zeroNd.cells ∧ (∀ x, x ∈ t.1 ∨ x ∈ t.2.1 → Rch N id x) ∧ MapO w' r kv ∧ HeldN N kv t.2.1 ∧ Keep w w' (· = r)) (fun t => onceM N t.1 t.2.2) ([id], [], [])
    ⟨_, [], rfl, g2, Once.start hid, by show 1 + 4 * (N.length - 0) ≤ _; omega, b1, bz, fun x hx => by simp at hx; subst hx; exact Rch.self, hm2, fun k => by simp [lkp], k12⟩ ?_
  rintro ⟨st, held, E⟩ vals w3 K ⟨sv, kv, rfl, gs, ho, hb, hb3, hz3, hrc, hm3, hh, k3⟩ hK _
  simp only at gs ho hb hh hrc
  simp only [List.getD_cons_zero, List.getD_cons_succ]
  have hd3 := hd.keep k3 (fun b hb h => hFr (h ▸ hb))
  have q3 := k3.size
  have hzl := hz3.lt
  have hwl := hb3.lt
  obtain ⟨A, c, rfl, hrs, hcap⟩ := GC.row2 gs (by omega)
  have hslen : st.length ≤ 1000000 := by omega
  rcases nil_or_snoc st with rfl | ⟨st0, t, rfl⟩
  · simp only [List.length_nil]
    (repeat (first|refine ja ?_|refine jb ?_|refine jc ?_|refine jd ?_|refine je ?_|refine jf ?_|refine jg ?_|refine jh ?_|refine ji ?_|refine jj ?_|refine jk ?_|refine jl ?_|refine jm ?_|refine jn ?_|refine jo ?_|refine jp ?_|refine jq ?_|refine jr ?_|refine js ?_|refine jt ?_|refine ju ?_|refine jv ?_|refine jw ?_|refine jx ?_|refine jy ?_|refine jz ?_|refine jA ?_|refine jB ?_|refine jC ?_|refine jD ?_|refine jE ?_|refine jF ?_|refine jG ?_|refine jH ?_|refine jI ?_|refine jJ ?_|refine jK ?_|refine jL ?_|refine jM (by assumption) ?_|refine jN (by assumption) rfl ?_|refine jO (by assumption) ?_|refine jP (by assumption) rfl ?_|refine jQ ?_|refine jR ?_|refine jS ?_|refine jT ?_|refine jU (by assumption) rfl ?_))
    refine M.lookup_i (kt := 3) (et := 55) (z := encN zeroNd) (by kernel_rfl) (by kernel_rfl) zNode hm3 ?_
    rw [hh id, if_pos (ho.first rfl)]
    refine M.storeAll_i hz3 rfl rfl (cells_one _) (fun w4 b4 k4 s4 => ?_)
    refine M.loadAll_i b4 rfl ?_
    refine ⟨kv, held, hm3.keep k4 (fun h => by omega), hh, fun k => ⟨fun hk => hrc k (.inr hk), fun hk => Rch.closed (S := fun x => x ∈ held) (ho.first rfl) (fun i n hi hn k hk => ho.clo i n hi hn k hk) hk⟩, ?_⟩
    exact (k3.trans k4 (fun b hb h => by omega))
  · have htN := ho.rng t (by simp)
    obtain ⟨j, n, rfl, hn⟩ := isN_get htN
    have hgn := hG j n hn
    have hstl : (st0 ++ [(j : Int)]).length = st0.length + 1 := by simp
    have hnode : nodeAt N (j : Int) = n := by
      unfold nodeAt
      rw [htN, Int.toNat_natCast, hn]; rfl
    rw [hstl]
    (repeat (first|refine ja ?_|refine jb ?_|refine jc ?_|refine jd ?_|refine je ?_|refine jf ?_|refine jg ?_|refine jh ?_|refine ji ?_|refine jj ?_|refine jk ?_|refine jl ?_|refine jm ?_|refine jn ?_|refine jo ?_|refine jp ?_|refine jq ?_|refine jr ?_|refine js ?_|refine jt ?_|refine ju ?_|refine jv ?_|refine jw ?_|refine jx ?_|refine jy ?_|refine jz ?_|refine jA ?_|refine jB ?_|refine jC ?_|refine jD ?_|refine jE ?_|refine jF ?_|refine jG ?_|refine jH ?_|refine jI ?_|refine jJ ?_|refine jK ?_|refine jL ?_|refine jM (by assumption) ?_|refine jN (by assumption) rfl ?_|refine jO (by assumption) ?_|refine jP (by assumption) rfl ?_|refine jQ ?_|refine jR ?_|refine jS ?_|refine jT ?_|refine jU (by assumption) rfl ?_))
    refine M.share_j (fun vals w' => ∃ sv st' held' E' kv', vals = [sv] ∧ GI w' (wz.heap.size ≤ ·) sv st' ∧ Once N id st' held' E' ∧ onceM N st' E' < onceM N (st0 ++ [(j : Int)]) E ∧ st'.length + 4 * (N.length - E'.length) ≤ 4 * N.length + 1 ∧ Blk w' w.heap.size [.map (some r)] ∧ Blk w' w1.heap.size zeroNd.cells ∧ (∀ x, x ∈ st' ∨ x ∈ held' → Rch N id x) ∧ MapO w' r kv' ∧ HeldN N kv' held' ∧ Keep w w' (· = r)) ?_ ?_
    · rintro vals w4 ⟨sv, st', held', E', kv', rfl, a1, a2, a3, a4, a5, a6, a7, a8, a9, a10⟩ _
      simp only [List.getD_cons_zero, List.getD_cons_succ]
      exact hK (st', held', E') _ _ a3 ⟨sv, kv', rfl, a1, a2, a4, a5, a6, a7, a8, a9, a10⟩
    · intro K2 hK2
      have e1 : ((st0.length + 1 : Nat) : Int) - 1 = ((st0.length : Nat) : Int) := by omega
      (repeat (first|refine ja ?_|refine jb ?_|refine jc ?_|refine jd ?_|refine je ?_|refine jf ?_|refine jg ?_|refine jh ?_|refine ji ?_|refine jj ?_|refine jk ?_|refine jl ?_|refine jm ?_|refine jn ?_|refine jo ?_|refine jp ?_|refine jq ?_|refine jr ?_|refine js ?_|refine jt ?_|refine ju ?_|refine jv ?_|refine jw ?_|refine jx ?_|refine jy ?_|refine jz ?_|refine jA ?_|refine jB ?_|refine jC ?_|refine jD ?_|refine jE ?_|refine jF ?_|refine jG ?_|refine jH ?_|refine jI ?_|refine jJ ?_|refine jK ?_|refine jL ?_|refine jM (by assumption) ?_|refine jN (by assumption) rfl ?_|refine jO (by assumption) ?_|refine jP (by assumption) rfl ?_|refine jQ ?_|refine jR ?_|refine jS ?_|refine jT ?_|refine jU (by assumption) rfl ?_))
      rw [e1]
      refine M.idxLV_i hrs (by simp) (by omega) (by omega) (x := (j : Int)) (by rw [Int.toNat_natCast]; simp) (fun bb oo hA hcc => ?_)
      (repeat (first|refine ja ?_|refine jb ?_|refine jc ?_|refine jd ?_|refine je ?_|refine jf ?_|refine jg ?_|refine jh ?_|refine ji ?_|refine jj ?_|refine jk ?_|refine jl ?_|refine jm ?_|refine jn ?_|refine jo ?_|refine jp ?_|refine jq ?_|refine jr ?_|refine js ?_|refine jt ?_|refine ju ?_|refine jv ?_|refine jw ?_|refine jx ?_|refine jy ?_|refine jz ?_|refine jA ?_|refine jB ?_|refine jC ?_|refine jD ?_|refine jE ?_|refine jF ?_|refine jG ?_|refine jH ?_|refine jI ?_|refine jJ ?_|refine jK ?_|refine jL ?_|refine jM (by assumption) ?_|refine jN (by assumption) rfl ?_|refine jO (by assumption) ?_|refine jP (by assumption) rfl ?_|refine jQ ?_|refine jR ?_|refine jS ?_|refine jT ?_|refine jU (by assumption) rfl ?_))
      refine M.call_i (hd3.node (j : Int)) ?_; rintro _ w4 ⟨rfl, k4⟩
      rw [htN, hnode]
      refine M.extract_i rfl ?_
      refine M.extract_i rfl ?_
      refine M.new_i (l := zeroNd.cells) (fun w5 b5 k5 s5 => ?_)
      refine M.storeAll_i b5 rfl rfl (cells_one n) (fun w6 b6 k6 s6 => ?_)
      refine M.loadAll_i b6 rfl ?_
      refine M.call_i (kids_ret hgn w6) ?_; rintro ksv w7 ⟨hks, k7⟩
      have q4 := k4.size
      have k37 : Keep w3 w7 No := ((k4.trans k5 (fun _ _ h => h)).trans k6 (fun b hb h => by omega)).trans k7 (fun _ _ h => h)
      have b6 := b6.keep k7 (fun h => h)
      obtain ⟨A2, c2, rfl, hrk, hck⟩ := hks
      have hkl : (kidsN n).length ≤ 3 := by
        unfold kidsN
        split
        · simp
        · split
          · simp
          · split <;> simp
      have gs7 := gs.keep k37 (fun _ _ _ h => h)
      have hb7 := hb3.keep k37 (fun h => h)
      have hm7 := hm3.keep k37 (fun h => h)
      have hz7 := hz3.keep k37 (fun h => h)
      have hlen' : (st0 ++ [(j : Int)]).length = st0.length + 1 := hstl
      have q37 := k37.size
      (repeat (first|refine ja ?_|refine jb ?_|refine jc ?_|refine jd ?_|refine je ?_|refine jf ?_|refine jg ?_|refine jh ?_|refine ji ?_|refine jj ?_|refine jk ?_|refine jl ?_|refine jm ?_|refine jn ?_|refine jo ?_|refine jp ?_|refine jq ?_|refine jr ?_|refine js ?_|refine jt ?_|refine ju ?_|refine jv ?_|refine jw ?_|refine jx ?_|refine jy ?_|refine jz ?_|refine jA ?_|refine jB ?_|refine jC ?_|refine jD ?_|refine jE ?_|refine jF ?_|refine jG ?_|refine jH ?_|refine jI ?_|refine jJ ?_|refine jK ?_|refine jL ?_|refine jM (by assumption) ?_|refine jN (by assumption) rfl ?_|refine jO (by assumption) ?_|refine jP (by assumption) rfl ?_|refine jQ ?_|refine jR ?_|refine jS ?_|refine jT ?_|refine jU (by assumption) rfl ?_))
      have gs7' : GI w7 (fun b => (wz.heap.size ≤ b ∧ b < w3.heap.size) ∨ w7.heap.size ≤ b) (.slice A (st0 ++ [(j : Int)]).length c) (st0 ++ [(j : Int)]) := (gs.mono (L' := fun b => (wz.heap.size ≤ b ∧ b < w3.heap.size) ∨ w7.heap.size ≤ b) (fun b hb h => .inl ⟨h, hb⟩)).keep k37 (fun _ _ _ h => h)
      have hrk := hrk.mono (D' := fun b => w6.heap.size ≤ b ∧ b < w7.heap.size) (fun b hb h => ⟨h, hb⟩)
      have q6 : w3.heap.size ≤ w6.heap.size := by have := k5.size; omega
      have q67 := k7.size
      rw [hstl] at gs7'
      refine M.loop_i (σ := Nat) (fun i vals w' => ∃ sv, vals = [sv, vb (!((kidsN n).take i).all (fun k => decide (k ∈ held))), vi i] ∧ i ≤ (kidsN n).length ∧ GI w' (fun b => (wz.heap.size ≤ b ∧ b < w3.heap.size) ∨ w7.heap.size ≤ b) sv (st0 ++ [(j : Int)] ++ ((kidsN n).take i).filter (fun k => decide (k ∉ held))) ∧ Keep w7 w' (fun b => (wz.heap.size ≤ b ∧ b < w3.heap.size) ∨ w7.heap.size ≤ b)) (fun i => (kidsN n).length - i) 0
        ⟨_, rfl, by omega, by simpa using gs7', Keep.refl _ _⟩ ?_
      rintro i vals w8 K3 ⟨sv, rfl, hi, g8, k8⟩ hK3 _
      simp only [List.getD_cons_zero, List.getD_cons_succ]
      have hrk8 := hrk.keep k8 (fun b hb h1 h2 => by omega)
      have hb8 := hb7.keep k8 (fun h => by omega)
      have hm8 := hm7.keep k8 (fun h => by omega)
      have hz8 := hz7.keep k8 (fun h => by omega)
      have b8 := b6.keep k8 (fun h => by have := k5.size; omega)
      have q8 := k8.size
      by_cases hlt : i < (kidsN n).length
      · obtain ⟨k, hk⟩ : ∃ k, (kidsN n)[i]? = some k := ⟨_, List.getElem?_eq_getElem hlt⟩
        have hka : ((kidsN n).take (i + 1)).all (fun k => decide (k ∈ held)) = (((kidsN n).take i).all (fun k => decide (k ∈ held)) && decide (k ∈ held)) := by
          rw [List.take_add_one, hk]; simp
        have hkf : ((kidsN n).take (i + 1)).filter (fun k => decide (k ∉ held)) = ((kidsN n).take i).filter (fun k => decide (k ∉ held)) ++ if k ∈ held then [] else [k] := by
          rw [List.take_add_one, hk, List.filter_append]
          congr 1
          by_cases hkh : k ∈ held <;> simp [hkh]
        have hfl : (((kidsN n).take i).filter (fun k => decide (k ∉ held))).length ≤ 3 := by
          refine Nat.le_trans (List.length_filter_le _ _) ?_
          rw [List.length_take]; omega
        (repeat (first|refine ja ?_|refine jb ?_|refine jc ?_|refine jd ?_|refine je ?_|refine jf ?_|refine jg ?_|refine jh ?_|refine ji ?_|refine jj ?_|refine jk ?_|refine jl ?_|refine jm ?_|refine jn ?_|refine jo ?_|refine jp ?_|refine jq ?_|refine jr ?_|refine js ?_|refine jt ?_|refine ju ?_|refine jv ?_|refine jw ?_|refine jx ?_|refine jy ?_|refine jz ?_|refine jA ?_|refine jB ?_|refine jC ?_|refine jD ?_|refine jE ?_|refine jF ?_|refine jG ?_|refine jH ?_|refine jI ?_|refine jJ ?_|refine jK ?_|refine jL ?_|refine jM (by assumption) ?_|refine jN (by assumption) rfl ?_|refine jO (by assumption) ?_|refine jP (by assumption) rfl ?_|refine jQ ?_|refine jR ?_|refine jS ?_|refine jT ?_|refine jU (by assumption) rfl ?_))
        refine M.share_j (fun vals w' => ∃ sv, vals = [sv, vb (!((kidsN n).take (i + 1)).all (fun k => decide (k ∈ held)))] ∧ GI w' (fun b => (wz.heap.size ≤ b ∧ b < w3.heap.size) ∨ w7.heap.size ≤ b) sv (st0 ++ [(j : Int)] ++ ((kidsN n).take (i + 1)).filter (fun k => decide (k ∉ held))) ∧ Keep w7 w' (fun b => (wz.heap.size ≤ b ∧ b < w3.heap.size) ∨ w7.heap.size ≤ b)) ?_ ?_
        · rintro vals w9 ⟨sv, rfl, g9, k9⟩ _
          simp only [List.getD_cons_zero, List.getD_cons_succ]
          (repeat (first|refine ja ?_|refine jb ?_|refine jc ?_|refine jd ?_|refine je ?_|refine jf ?_|refine jg ?_|refine jh ?_|refine ji ?_|refine jj ?_|refine jk ?_|refine jl ?_|refine jm ?_|refine jn ?_|refine jo ?_|refine jp ?_|refine jq ?_|refine jr ?_|refine js ?_|refine jt ?_|refine ju ?_|refine jv ?_|refine jw ?_|refine jx ?_|refine jy ?_|refine jz ?_|refine jA ?_|refine jB ?_|refine jC ?_|refine jD ?_|refine jE ?_|refine jF ?_|refine jG ?_|refine jH ?_|refine jI ?_|refine jJ ?_|refine jK ?_|refine jL ?_|refine jM (by assumption) ?_|refine jN (by assumption) rfl ?_|refine jO (by assumption) ?_|refine jP (by assumption) rfl ?_|refine jQ ?_|refine jR ?_|refine jS ?_|refine jT ?_|refine jU (by assumption) rfl ?_))
          exact hK3 (i + 1) _ _ (by omega) ⟨sv, by simp, by omega, g9, k9⟩
        · intro K4 hK4
          refine M.idxLV_i hrk8 rfl (by omega) (by omega) (x := k) (by simpa using hk) (fun bb oo hA hcc => ?_)
          (repeat (first|refine ja ?_|refine jb ?_|refine jc ?_|refine jd ?_|refine je ?_|refine jf ?_|refine jg ?_|refine jh ?_|refine ji ?_|refine jj ?_|refine jk ?_|refine jl ?_|refine jm ?_|refine jn ?_|refine jo ?_|refine jp ?_|refine jq ?_|refine jr ?_|refine js ?_|refine jt ?_|refine ju ?_|refine jv ?_|refine jw ?_|refine jx ?_|refine jy ?_|refine jz ?_|refine jA ?_|refine jB ?_|refine jC ?_|refine jD ?_|refine jE ?_|refine jF ?_|refine jG ?_|refine jH ?_|refine jI ?_|refine jJ ?_|refine jK ?_|refine jL ?_|refine jM (by assumption) ?_|refine jN (by assumption) rfl ?_|refine jO (by assumption) ?_|refine jP (by assumption) rfl ?_|refine jQ ?_|refine jR ?_|refine jS ?_|refine jT ?_|refine jU (by assumption) rfl ?_))
          refine M.lookupOk_i (kt := 3) (et := 55) (z := encN zeroNd) (by kernel_rfl) (by kernel_rfl) zNode hm8 ?_
          refine M.extract_i rfl ?_
          refine M.extract_i rfl ?_
          rw [hh k]
          by_cases hkh : k ∈ held
          · rw [if_pos hkh]
            rw [if_pos hkh, List.append_nil] at hkf
            refine M.new_i (l := zeroNd.cells) (fun wn bn kn sn => ?_)
            refine M.storeAll_i bn rfl rfl (cells_one _) (fun wm bm km sm => ?_)
            have knm : Keep w8 wm No := kn.trans km (fun b hb h => by omega)
            (repeat (first|refine ja ?_|refine jb ?_|refine jc ?_|refine jd ?_|refine je ?_|refine jf ?_|refine jg ?_|refine jh ?_|refine ji ?_|refine jj ?_|refine jk ?_|refine jl ?_|refine jm ?_|refine jn ?_|refine jo ?_|refine jp ?_|refine jq ?_|refine jr ?_|refine js ?_|refine jt ?_|refine ju ?_|refine jv ?_|refine jw ?_|refine jx ?_|refine jy ?_|refine jz ?_|refine jA ?_|refine jB ?_|refine jC ?_|refine jD ?_|refine jE ?_|refine jF ?_|refine jG ?_|refine jH ?_|refine jI ?_|refine jJ ?_|refine jK ?_|refine jL ?_|refine jM (by assumption) ?_|refine jN (by assumption) rfl ?_|refine jO (by assumption) ?_|refine jP (by assumption) rfl ?_|refine jQ ?_|refine jR ?_|refine jS ?_|refine jT ?_|refine jU (by assumption) rfl ?_))
            refine hK4 _ _ ⟨sv, ?_, by rw [hkf]; exact g8.keep knm (fun _ _ _ h => h), k8.trans knm (fun _ _ h => h.elim)⟩
            rw [hka, decide_eq_true hkh, Bool.and_true]
          · rw [if_neg hkh]
            rw [if_neg hkh] at hkf
            refine M.new_i (l := zeroNd.cells) (fun wn bn kn sn => ?_)
            refine M.storeAll_i bn rfl rfl (cells_one _) (fun wm bm km sm => ?_)
            have knm : Keep w8 wm No := kn.trans km (fun b hb h => by omega)
            (repeat (first|refine ja ?_|refine jb ?_|refine jc ?_|refine jd ?_|refine je ?_|refine jf ?_|refine jg ?_|refine jh ?_|refine ji ?_|refine jj ?_|refine jk ?_|refine jl ?_|refine jm ?_|refine jn ?_|refine jo ?_|refine jp ?_|refine jq ?_|refine jr ?_|refine js ?_|refine jt ?_|refine ju ?_|refine jv ?_|refine jw ?_|refine jx ?_|refine jy ?_|refine jz ?_|refine jA ?_|refine jB ?_|refine jC ?_|refine jD ?_|refine jE ?_|refine jF ?_|refine jG ?_|refine jH ?_|refine jI ?_|refine jJ ?_|refine jK ?_|refine jL ?_|refine jM (by assumption) ?_|refine jN (by assumption) rfl ?_|refine jO (by assumption) ?_|refine jP (by assumption) rfl ?_|refine jQ ?_|refine jR ?_|refine jS ?_|refine jT ?_|refine jU (by assumption) rfl ?_))
            refine M.buildSlice_i [vi k] (by kernel_rfl) (fun w9 b9 k9' s9 => ?_)
            have k9 := knm.trans k9' (fun _ _ h => h)
            refine M.append1_i (g8.keep k9 (fun _ _ _ h => h)) (Row.of_blk' (D := fun _ => True) b9 trivial) rfl (by
              rw [List.length_append, hstl]
              rw [hstl] at hslen
              omega) (fun v10 w10 g10 k10 => ?_)
            have q9 := k9.size
            refine hK4 _ _ ⟨v10, ?_, ?_, (k8.trans k9 (fun _ _ h => h.elim)).trans k10 (fun b hb h => by omega)⟩
            · rw [hka, decide_eq_false hkh, Bool.and_false]; rfl
            · rw [hkf, ← List.append_assoc]
              exact g10.mono (fun b hb h => by omega)
      · have : i = (kidsN n).length := by omega
        subst this
        rw [List.take_length] at g8 ⊢
        have k38 : Keep w w8 (· = r) := (k3.trans k37 (fun _ _ h => h.elim)).trans k8 (fun b hb h => by have := k1.size; omega)
        have gl8 : GI w8 (wz.heap.size ≤ ·) sv (st0 ++ [(j : Int)] ++ (kidsN n).filter (fun k => decide (k ∉ held))) := g8.mono (fun b hb h => by omega)
        cases hall : (kidsN n).all (fun k => decide (k ∈ held)) with
        | false =>
          (repeat (first|refine ja ?_|refine jb ?_|refine jc ?_|refine jd ?_|refine je ?_|refine jf ?_|refine jg ?_|refine jh ?_|refine ji ?_|refine jj ?_|refine jk ?_|refine jl ?_|refine jm ?_|refine jn ?_|refine jo ?_|refine jp ?_|refine jq ?_|refine jr ?_|refine js ?_|refine jt ?_|refine ju ?_|refine jv ?_|refine jw ?_|refine jx ?_|refine jy ?_|refine jz ?_|refine jA ?_|refine jB ?_|refine jC ?_|refine jD ?_|refine jE ?_|refine jF ?_|refine jG ?_|refine jH ?_|refine jI ?_|refine jJ ?_|refine jK ?_|refine jL ?_|refine jM (by assumption) ?_|refine jN (by assumption) rfl ?_|refine jO (by assumption) ?_|refine jP (by assumption) rfl ?_|refine jQ ?_|refine jR ?_|refine jS ?_|refine jT ?_|refine jU (by assumption) rfl ?_))
          have hne : (kidsN n).filter (fun k => decide (k ∉ held)) ≠ [] := fun he => by
            rw [List.filter_eq_nil_iff] at he
            rw [List.all_eq_false] at hall
            obtain ⟨k, hk1, hk2⟩ := hall
            exact he k hk1 (by simpa using hk2)
          obtain ⟨p1, p2⟩ := ho.push hn hG rfl hne
          have hfl : ((kidsN n).filter (fun k => decide (k ∉ held))).length ≤ 3 := Nat.le_trans (List.length_filter_le _ _) hkl
          refine hK2 _ _ ⟨sv, _, held, (j : Int) :: E, kv, rfl, gl8, p1, p2, ?_, hb8, hz8, ?_, hm8, hh, k38⟩
          have hE := nodup_range p1.nodup p1.ernge
          rw [List.length_cons] at hE
          · rw [List.length_append, List.length_cons]
            omega
          · intro x hx
            rcases hx with hx | hx
            · rcases List.mem_append.1 hx with hx | hx
              · exact hrc x (.inl hx)
              · exact Rch.kid j n x (hrc _ (.inl (by simp))) hn (List.mem_filter.1 hx).1
            · exact hrc x (.inr hx)
        | true =>
          have hkh : ∀ k ∈ kidsN n, k ∈ held := fun k hk => by simpa using List.all_eq_true.1 hall k hk
          have hnil : (kidsN n).filter (fun k => decide (k ∉ held)) = [] := by
            rw [List.filter_eq_nil_iff]
            intro k hk
            simpa using hkh k hk
          rw [hnil, List.append_nil] at gl8
          obtain ⟨A8, c8, rfl, _, hcap8⟩ := GC.row2 gl8 (by omega)
          rw [hstl]
          (repeat (first|refine ja ?_|refine jb ?_|refine jc ?_|refine jd ?_|refine je ?_|refine jf ?_|refine jg ?_|refine jh ?_|refine ji ?_|refine jj ?_|refine jk ?_|refine jl ?_|refine jm ?_|refine jn ?_|refine jo ?_|refine jp ?_|refine jq ?_|refine jr ?_|refine js ?_|refine jt ?_|refine ju ?_|refine jv ?_|refine jw ?_|refine jx ?_|refine jy ?_|refine jz ?_|refine jA ?_|refine jB ?_|refine jC ?_|refine jD ?_|refine jE ?_|refine jF ?_|refine jG ?_|refine jH ?_|refine jI ?_|refine jJ ?_|refine jK ?_|refine jL ?_|refine jM (by assumption) ?_|refine jN (by assumption) rfl ?_|refine jO (by assumption) ?_|refine jP (by assumption) rfl ?_|refine jQ ?_|refine jR ?_|refine jS ?_|refine jT ?_|refine jU (by assumption) rfl ?_))
          rw [e1]
          refine M.slice_i 0 st0.length c8 (sl3_h (by omega)) ?_
          have gcut := GI.cut gl8 (m := st0.length) (by omega)
          rw [List.take_left' rfl] at gcut
          have kd := Keep.drew w8 No
          refine M.draw_i ?_
          have hbd := hb8.keep kd (fun h => h)
          (repeat (first|refine ja ?_|refine jb ?_|refine jc ?_|refine jd ?_|refine je ?_|refine jf ?_|refine jg ?_|refine jh ?_|refine ji ?_|refine jj ?_|refine jk ?_|refine jl ?_|refine jm ?_|refine jn ?_|refine jo ?_|refine jp ?_|refine jq ?_|refine jr ?_|refine js ?_|refine jt ?_|refine ju ?_|refine jv ?_|refine jw ?_|refine jx ?_|refine jy ?_|refine jz ?_|refine jA ?_|refine jB ?_|refine jC ?_|refine jD ?_|refine jE ?_|refine jF ?_|refine jG ?_|refine jH ?_|refine jI ?_|refine jJ ?_|refine jK ?_|refine jL ?_|refine jM (by assumption) ?_|refine jN (by assumption) rfl ?_|refine jO (by assumption) ?_|refine jP (by assumption) rfl ?_|refine jQ ?_|refine jR ?_|refine jS ?_|refine jT ?_|refine jU (by assumption) rfl ?_))
          refine M.loadAll_i (b8.keep kd (fun h => h)) rfl ?_
          have hmd := hm8.keep kd (fun h => h)
          have hzd := hz8.keep kd (fun h => h)
          refine M.callv_i (fun a w => rfl) (Q := fun x w' => x = encN n ∧ Keep w8.drew w' No) ?_ ?_
          · exact below1_ret n _ _
          rintro _ w9 ⟨rfl, k9⟩
          have hb9 := hbd.keep k9 (fun h => h)
          have hm9 := hmd.keep k9 (fun h => h)
          have hz9 := hzd.keep k9 (fun h => h)
          have k39 : Keep w w9 (· = r) := (k38.trans kd (fun _ _ h => h.elim)).trans k9 (fun _ _ h => h.elim)
          (repeat (first|refine ja ?_|refine jb ?_|refine jc ?_|refine jd ?_|refine je ?_|refine jf ?_|refine jg ?_|refine jh ?_|refine ji ?_|refine jj ?_|refine jk ?_|refine jl ?_|refine jm ?_|refine jn ?_|refine jo ?_|refine jp ?_|refine jq ?_|refine jr ?_|refine js ?_|refine jt ?_|refine ju ?_|refine jv ?_|refine jw ?_|refine jx ?_|refine jy ?_|refine jz ?_|refine jA ?_|refine jB ?_|refine jC ?_|refine jD ?_|refine jE ?_|refine jF ?_|refine jG ?_|refine jH ?_|refine jI ?_|refine jJ ?_|refine jK ?_|refine jL ?_|refine jM (by assumption) ?_|refine jN (by assumption) rfl ?_|refine jO (by assumption) ?_|refine jP (by assumption) rfl ?_|refine jQ ?_|refine jR ?_|refine jS ?_|refine jT ?_|refine jU (by assumption) rfl ?_))
          refine M.mapUpdate_i (kt := 3) (et := 55) (by kernel_rfl) (by kernel_rfl) hm9 (fun w10 m10 k10 s10 => ?_)
          have hop := ho.pop hn hkh hG ((j : Int) :: held) (fun x => List.mem_cons)
          have hq : ∀ b, wz.heap.size ≤ b → b ≠ r := fun b hb h => by have := k1.size; omega
          refine hK2 _ _ ⟨_, st0, (j : Int) :: held, E, _, rfl, ?_, hop, ?_, ?_, hb9.keep k10 (fun h => by omega), hz9.keep k10 (fun h => by omega), fun x hx => ?_, m10, by have := hh.upd (j : Int); rw [hnode] at this; exact this, k39.trans k10 (fun _ _ h => h)⟩
          · have := ((gcut.keep kd (fun _ _ _ h => h)).keep k9 (fun _ _ _ h => h)).keep k10 (fun b _ hb h => hq b hb h)
            exact this
          · unfold onceM
            rw [hstl]; omega
          · rw [hstl] at hb
            show st0.length + _ ≤ _
            omega
          · rcases hx with hx | hx
            · exact hrc x (.inl (List.mem_append_left _ hx))
            · rcases List.mem_cons.1 hx with rfl | hx
              · exact hrc _ (.inl (by simp))
              · exact hrc x (.inr hx)
end Go.Proofs.Ythkkjjbjpbgcpaa
