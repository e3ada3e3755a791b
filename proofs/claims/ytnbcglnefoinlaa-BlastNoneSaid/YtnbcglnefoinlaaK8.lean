import Derived.Test.YtnbcglnefoinlaaK7
import Derived.WalkKit
import Derived.ProofKit
import Derived.OpenShut
import Derived.ShutString
import Derived.ChangeOld
import Derived.Below
import Derived.SizedLaws
import Derived.Carry
import Derived.ChangeArms
import Derived.Lib.SmallJoins
import Derived.Deep.Slices
namespace Go.Proofs.Ytnbcglnefoinlaa
open Go.Mw Go.Maps Go.MapKept
set_option linter.unusedVariables false
set_option linter.unusedSimpArgs false
set_option maxRecDepth 100000
attribute [local irreducible] M.val M.unit M.next M.pick M.new M.nilCheck M.load1 M.loadA M.store M.fieldAddr M.indexSl M.indexArr M.slice M.makeSlice M.buildSlice M.len M.lenS M.cap M.append M.extract M.conv M.not M.neg M.bin M.shift M.eqB M.eqNil M.scat M.call M.callv M.gd M.share M.cond M.loop M.draw pureW readW Ret
def sh20 (x0 x1 : Value) (R : Kt) (w : World) : Prop :=
  M.new 63 #[.slice none 0 0, .slice none 0 0] (fun t4 w =>
  M.call Try.prog 41 #[x0] (fun t10 w =>
  M.call Try.prog 42 #[x0] (fun t13 w =>
  M.call Try.prog 40 #[t10, x1, t13] (fun t14 w =>
  M.extract 0 t14 (fun t15 w =>
  M.extract 1 t14 (fun t16 w =>
  M.new 63 #[.slice none 0 0, .slice none 0 0] (fun t6 w =>
  M.store 2 t6 t15 (fun _ w =>
  M.not t16 (fun t18 w =>
  M.cond t18
  (M.loadA 2 t6 (fun t19 w =>
  M.store 2 t4 t19 (fun _ w =>
  M.loadA 2 t4 (fun r0 w => R (.tuple #[r0, (Value.int IntKind.i64 0)]) w) w) w) w)
  (M.loadA 2 t6 (fun t20 w =>
  M.store 2 t4 t20 (fun _ w =>
  M.loadA 2 t4 (fun r0 w => R (.tuple #[r0, (Value.int IntKind.i64 1)]) w) w) w) w)) w) w) w) w) w) w) w) w) w
theorem ok20 (x0 x1 : Value) (R : Kt) (w : World) (h : sh20 x0 x1 R w) : Ret Try.prog 20 #[x0, x1] w R :=
  ret_mk <| calls_of_comp mixed (c := Try.f20.body.getD .skip) (args := [x0, x1]) (rs := [(ResultVar.cell 4 63), (ResultVar.tmp 5)]) (Ann.seq Ann.text (Ann.seq Ann.text (Ann.seq (Ann.seq Ann.text (Ann.cond (Ann.seq Ann.text Ann.leaf) Ann.leaf)) (Ann.seq Ann.text Ann.leaf))))
    Try.func20 (by kernel_rfl) (by kernel_rfl)
    (Eq.mp (by kernel_rfl) h)
def sh21 (x0 x1 x2 x3 : Value) (R : Kt) (w : World) : Prop :=
  M.new 63 (Value.cells x0) (fun t4 w =>
  M.loadA 2 t4 (fun t12 w =>
  M.call Try.prog 43 #[t12, x1] (fun t14 w =>
  M.extract 0 t14 (fun t15 w =>
  M.extract 1 t14 (fun t16 w =>
  M.len x1 (fun t18 w =>
  M.bin .neq t18 x2 (fun t20 w =>
  M.gd t20 false (fun k w => k t16 w) (fun t22 w =>
  M.gd t20 false (fun k w => M.not t22 k w) (fun t23 w =>
  M.pick t20 (Value.bool true) t23 (fun t24 w =>
  M.gd t24 false (fun k w => k t15 w) (fun t26 w =>
  M.gd t24 false (fun k w => k x2 w) (fun t27 w =>
  M.gd t24 false (fun k w => k x3 w) (fun t28 w =>
  M.gd t24 false (fun k w => M.call Try.prog 44 #[t27, t28] k w) (fun t29 w =>
  M.gd t24 false (fun k w => M.bin .neq t26 t29 k w) (fun t30 w =>
  M.pick t24 (Value.bool true) t30 (fun t31 w =>
  M.cond t31
  (R (Value.int IntKind.i64 0) w)
  (R (Value.int IntKind.i64 1) w)) w) w) w) w) w) w) w) w) w) w) w) w) w) w) w) w
theorem ok21 (x0 x1 x2 x3 : Value) (R : Kt) (w : World) (h : sh21 x0 x1 x2 x3 R w) : Ret Try.prog 21 #[x0, x1, x2, x3] w R :=
  ret_mk <| calls_of_comp mixed (c := Try.f21.body.getD .skip) (args := [x0, x1, x2, x3]) (rs := [(ResultVar.tmp 8)]) (Ann.seq Ann.text (Ann.seq Ann.text (Ann.seq (Ann.seq Ann.text (Ann.cond (Ann.seq Ann.text Ann.leaf) Ann.leaf)) (Ann.seq Ann.text Ann.leaf))))
    Try.func21 (by kernel_rfl) (by kernel_rfl)
    (Eq.mp (by kernel_rfl) h)
theorem wrap_u64 {n : Int} (h0 : 0 ≤ n) (h1 : n < 18446744073709551616) : IntKind.u64.wrap n = n := by
  have e : IntKind.u64.wrap n = n % 18446744073709551616 := by
    unfold IntKind.wrap
    simp [IntKind.bits, IntKind.signed]
  rw [e]
  omega
theorem M.toU_i {k : Kt} {w : World} {d : IntKind} {n : Int} (h0 : 0 ≤ n) (h1 : n < 18446744073709551616) (h : k (.int .u64 n) w) : M.conv .u64 (.int d n) k w := by
  unfold M.conv
  simp only [wrap_u64 h0 h1]; exact h
section
variable {w : World} {G : Nat → Prop} {g : Nat} {D : List GK}
theorem gvars_ret (h : GaO w G g D) : Ret Try.prog 41 #[ptr g] w (fun r w' => r = vi (D.length : Int) ∧ w' = w) := by
  obtain ⟨kv, ⟨cv, mb, us, h1, _⟩, _⟩ := h
  refine ok41 _ _ _ ?_
  unfold sh41
  (repeat (first|refine jb ?_|refine jc ?_|refine jp ?_|refine jt ?_|refine jN (by assumption) rfl ?_))
  exact ⟨rfl, rfl⟩
theorem gclauses_ret (h : GaO w G g D) (hD : D.length ≤ 100000000) : Ret Try.prog 42 #[ptr g] w (fun r w' => LL w' (fun _ => True) r (clsD D) ∧ Keep w w' No) := by
  obtain ⟨kv, ⟨cv, mb, us, h1, h2, h3, h4, _⟩, _⟩ := h
  have hcl := clsD_len D
  obtain ⟨A, c, rfl, hr, _⟩ := GC.row2 h2 (by omega)
  refine ok42 _ _ _ ?_
  unfold sh42
  (repeat (first|refine jb ?_|refine jc ?_|refine jp ?_|refine jt ?_|refine jN (by assumption) rfl ?_))
  have hone : ∀ y ∈ us, y.oneCell' = true := fun y hy => by
    obtain ⟨k, hk⟩ := List.mem_iff_getElem?.1 hy
    have hlt := (List.getElem?_eq_some_iff.1 hk).1
    obtain ⟨u, u1, A', c', rfl, _⟩ := h4 k _ (List.getElem?_eq_getElem (by omega))
    rw [hk] at u1
    rw [Option.some.inj u1]; rfl
  refine M.append_i (L := fun _ => False) (n := 0) (l := []) (sz := 1) (GC.nil w _ 1) hr (by simp) hone rfl (by omega) (by omega) (fun v w1 g1 k1 => ?_)
  have k1 := k1.mono (T := No) (fun _ _ h => h)
  obtain ⟨A1, c1, rfl, hr1, hc1⟩ := GC.row2 g1 (by omega)
  refine ⟨⟨A1, c1, us, by rw [Nat.zero_add, h3], ⟨by simpa using hr1.mono (fun _ _ _ => trivial), h3, fun i c hc => ?_⟩, by omega⟩, k1⟩
  obtain ⟨u, u1, u2⟩ := h4 i c hc
  exact ⟨u, u1, (u2.keep k1 (fun _ _ _ h => h)).mono (fun _ _ _ => trivial)⟩
end
theorem or_bit {x i : Nat} (hx : x < 2 ^ i) : x ||| 2 ^ i = x + 2 ^ i := by
  have := Nat.two_pow_add_eq_or_of_lt hx 1
  rw [Nat.mul_one] at this
  rw [Nat.or_comm, ← this, Nat.add_comm]
section
variable {w : World} {E : Nat → Prop} {v : Value} {K I : List Bool}
set_option maxHeartbeats 1000000 in
theorem vword_ret {E2 : Nat → Prop} {rv' : Value} {row : List Int} (h : VO w E v K I) (hl : K.length ≤ 1000000000) (hr : LV vi w E2 rv' row) (hrl : row.length ≤ 64) (hk : ∀ l ∈ row, fitK K l ∧ knL K l = true) :
    Ret Try.prog 43 #[v, rv'] w (fun r w' => r = .tuple #[vw (BitVec.ofNat 64 (nvB (row.map (lvl I)))), .bool true] ∧ Keep w w' No) := by
  obtain ⟨va, vbb, rfl, h1, h2, h3⟩ := id h
  obtain ⟨A, ca, rfl, _, _⟩ := id h1
  obtain ⟨Bq, cb, rfl, _, _⟩ := id h2
  obtain ⟨C, cc, rfl, hrc, _⟩ := id hr
  refine ok43 _ _ _ _ ?_
  unfold sh43
  refine M.new_i (l := [.slice A K.length ca, .slice Bq I.length cb]) (fun w1 b1 k1 s1 => ?_)
  refine M.loop_i (σ := Nat) (fun i vals w' => vals = [vw (BitVec.ofNat 64 (nvB ((row.take i).map (lvl I)))), vi i] ∧ i ≤ row.length ∧ Keep w1 w' No) (fun i => row.length - i) 0 ⟨rfl, by omega, Keep.refl _ _⟩ ?_
  rintro i vals w2 Kk ⟨rfl, hi, k2⟩ hK _
  simp only [List.getD_cons_zero, List.getD_cons_succ]
  have k02 := k1.trans k2 (fun _ _ h => h)
  have b2 := b1.keep k2 (fun h => h)
  have hrc2 := hrc.keep k02 (fun _ _ _ h => h)
  by_cases hlt : i < row.length
  · obtain ⟨y, hy⟩ : ∃ y, row[i]? = some y := ⟨_, List.getElem?_eq_getElem hlt⟩
    obtain ⟨hfy, hky⟩ := hk y (List.mem_of_getElem? hy)
    have hlv := nvB_lt ((row.take i).map (lvl I))
    rw [List.length_map, List.length_take, Nat.min_eq_left (by omega)] at hlv
    have htk : nvB ((row.take (i + 1)).map (lvl I)) = nvB ((row.take i).map (lvl I)) + 2 ^ i * (lvl I y).toNat := by
      rw [List.take_add_one, hy, List.map_append, nvB_app, List.length_map, List.length_take, Nat.min_eq_left (by omega)]
      simp [nvB]
    refine M.len_i ?_
    refine M.lss_t (by omega) ?_
    refine M.gd_tt ?_
    refine M.gd_tt ?_
    refine M.lss_t (by omega) ?_
    (refine jk ?_)
    refine M.cond_t ?_
    refine M.share_n ?_
    refine M.draw_i ?_
    have kd := Keep.drew w2 No
    have b3 := b2.keep kd (fun h => h)
    have hrc3 := hrc2.keep kd (fun _ _ _ h => h)
    have k03 := k02.trans kd (fun _ _ h => h)
    refine M.loadAll_i b3 rfl ?_
    refine M.idxLV_i hrc3 rfl (by omega) (by omega) (x := y) (by simpa using hy) (fun bb oo hA hcc => ?_)
    refine M.load_i hcc ?_
    refine M.call_i (vholds_ret (h.keep k03 (fun _ _ _ h => h)) hl hfy) ?_; rintro _ w4 ⟨rfl, k4⟩
    refine M.extract_i rfl ?_
    refine M.extract_i rfl ?_
    rw [hky]
    refine M.not_i ?_
    refine M.cond_f ?_
    have k14 := (k2.trans kd (fun _ _ h => h)).trans k4 (fun _ _ h => h)
    cases hv : lvl I y with
    | true =>
      refine M.cond_t ?_
      rw [hv] at htk
      have hc : M.conv .u64 (vi (i : Int)) (fun t34 w => M.shift .shl (Value.int IntKind.u64 1) t34 (fun t35 w => M.bin .or (vw (BitVec.ofNat 64 (nvB ((row.take i).map (lvl I))))) t35 (fun t36 w => ∀ _ : List Value, M.bin .add (vi i) (Value.int IntKind.i64 1) (fun t19 w => Kk [([t36] : List Value).getD 0 undef, t19] w) w) w) w) w4 := by
        refine M.toU_i (by omega) (by omega) ?_
        refine M.shlW_i (x := 1) ?_
        refine M.orW_i ?_
        intro _
        simp only [List.getD_cons_zero, List.getD_cons_succ]
        (repeat (refine jK ?_))
        refine hK (i + 1) _ _ (by omega) ⟨?_, by omega, k14⟩
        rw [htk]
        have hp : 2 ^ i < 2 ^ 64 := Nat.pow_lt_pow_right (by decide) (by omega)
        have e : BitVec.ofNat 64 (nvB ((row.take i).map (lvl I))) ||| ((1 : W64) <<< i) = BitVec.ofNat 64 (nvB ((row.take i).map (lvl I)) + 2 ^ i * true.toNat) := by
          apply BitVec.eq_of_toNat_eq
          rw [BitVec.toNat_or, BitVec.toNat_shiftLeft, Nat.shiftLeft_eq, BitVec.toNat_ofNat, BitVec.toNat_ofNat]
          have h1 : (1 : W64).toNat = 1 := rfl
          have h64 : 2 ^ (i + 1) ≤ 2 ^ 64 := Nat.pow_le_pow_right (by decide) (by omega)
          rw [Nat.pow_succ] at h64
          rw [h1, Nat.one_mul, Nat.mod_eq_of_lt (by omega), Nat.mod_eq_of_lt hp, or_bit hlv, show true.toNat = 1 from rfl, Nat.mul_one, Nat.mod_eq_of_lt (by omega)]
        rw [e]
        simp
      exact hc
    | false =>
      refine M.cond_f ?_
      rw [hv] at htk
      intro _
      simp only [List.getD_cons_zero, List.getD_cons_succ]
      (repeat (refine jK ?_))
      refine hK (i + 1) _ _ (by omega) ⟨?_, by omega, k14⟩
      rw [htk]; simp
  · have e : i = row.length := by omega
    subst e
    refine M.len_i ?_
    (repeat (first|refine jh ?_|refine jl ?_|refine jp ?_|refine jz ?_))
    rw [List.take_length]
    exact ⟨rfl, k02⟩
end
section
variable {w : World} {G : Nat → Prop} {g : Nat} {D : List GK}
structure Full (ι : Nat → Bool) (D : List GK) (K I : List Bool) : Prop where
  lk : K.length = D.length
  kn : ∀ m, m < D.length → K.getD m false = true
  iv : ∀ m, m < D.length → I.getD m false = (evD ι D).getD m false
theorem Full.lv {ι : Nat → Bool} {K I : List Bool} (h : Full ι D K I) {l : Int} (hl : Ft D l) : lvl I l = lv ι D l := by
  obtain ⟨h0, h1⟩ := hl
  unfold Go.Proofs.Ytnbcglnefoinlaa.lv lvl
  rw [h.iv _ (by omega)]
theorem Full.fit {ι : Nat → Bool} {K I : List Bool} (h : Full ι D K I) {l : Int} (hl : Ft D l) : fitK K l ∧ knL K l = true := by
  obtain ⟨h0, h1⟩ := hl
  exact ⟨⟨h0, by rw [h.lk]; exact h1⟩, h.kn _ (by omega)⟩
set_option maxHeartbeats 1000000 in
theorem close20_ret {ι : Nat → Bool} {H : List Int} {hv : Value} {E1 : Nat → Prop} (h : GaO w G g D) (hD : D.length ≤ 90000000) (hH : LV vi w E1 hv H) (hHl : H.length ≤ 1000000) (hf : ∀ l ∈ H, Ft D l ∧ lv ι D l = true) (hin : ∀ m : Nat, D[m]? = some .inp → (2 * (m : Int)) ∈ H ∨ nt (2 * (m : Int)) ∈ H) :
    Ret Try.prog 20 #[ptr g, hv] w (fun r w' => ∃ v K I, r = .tuple #[v, vi 1] ∧ VO w' (w.heap.size ≤ ·) v K I ∧ Full ι D K I ∧ Keep w w' No) := by
  have hwf := h.wf
  have hcl := clsD_len D
  obtain ⟨A, c, rfl, hrA, hcA⟩ := id hH
  refine ok20 _ _ _ _ ?_
  unfold sh20
  refine M.new_i (l := [.slice none 0 0, .slice none 0 0]) (fun w1 b1 k1 s1 => ?_)
  have h1 := h.keepN k1
  refine M.call_i (gvars_ret h1) ?_; rintro _ _ ⟨rfl, rfl⟩
  refine M.call_i (gclauses_ret h1 (by omega)) ?_; rintro cv w2 ⟨hcv, k2⟩
  have k02 := k1.trans k2 (fun _ _ h => h)
  have b2 := b1.keep k2 (fun h => h)
  have hcls : ∀ c ∈ clsD D, c.length ≤ 1000000 ∧ (∃ l ∈ c, lvl (evD ι D) l = true) ∧ ∀ l ∈ c, 0 ≤ l ∧ l < 2 * (D.length : Int) := fun c hc => by
    obtain ⟨q1, q2⟩ := cls_holds (i := ι) hwf hc
    obtain ⟨j, k, hj, hm⟩ := clsD_mem.1 hc
    refine ⟨?_, q1, q2⟩
    cases k <;> simp [GK.cls] at hm
    · subst hm; simp
    · rcases hm with rfl | rfl | rfl <;> simp
    · rcases hm with rfl | rfl | rfl | rfl <;> simp
    · rcases hm with rfl | rfl | rfl | rfl | rfl | rfl <;> simp
  refine M.call_i (vrun_ret (n := D.length) (B := evD ι D) (by omega) (hH.keep k02 (fun _ _ _ h => h)) hcv hHl (by omega) (evD_len ι D) (fun l hl => hf l hl) hcls) ?_; rintro _ w3 ⟨v, K, I, rfl, hvo, lK, hC, hrest, hkn, k3⟩
  refine M.extract_i (v := v) rfl ?_
  refine M.extract_i (v := .bool true) rfl ?_
  obtain ⟨va, vbb, rfl, h1a, h2a, h3a⟩ := id hvo
  obtain ⟨A1, c1, rfl, _, _⟩ := id h1a
  obtain ⟨A2, c2, rfl, _, _⟩ := id h2a
  have b3 := b2.keep k3 (fun h => h)
  refine M.new_i (l := [.slice none 0 0, .slice none 0 0]) (fun w4 b4 k4 s4 => ?_)
  refine M.storeAll_i b4 rfl rfl (by simp; exact ⟨rfl, rfl⟩) (fun w5 b5 k5 s5 => ?_)
  have q3 := k3.size
  have q2 := k02.size
  have k45 : Keep w3 w5 No := k4.trans k5 (fun x hx e => by have e : x = w3.heap.size := e; omega)
  have b6 := b3.keep k45 (fun h => h)
  have hb1 := b1.lt
  refine M.not_i ?_
  refine M.cond_f ?_
  refine M.loadAll_i b5 rfl ?_
  refine M.storeAll_i b6 rfl rfl (by simp; exact ⟨rfl, rfl⟩) (fun w7 b7 k7 s7 => ?_)
  refine M.loadAll_i b7 rfl ?_
  have hall := sat_all hwf hC (fun m hm => by
    rcases hin m hm with hm2 | hm2
    · have := hkn _ hm2
      unfold knL at this
      rwa [show (2 * (m : Int) / 2).toNat = m by omega] at this
    · have := hkn _ hm2
      rw [knL_nt] at this
      unfold knL at this
      rwa [show (2 * (m : Int) / 2).toNat = m by omega] at this) hrest
  have hb3 := b2.lt
  refine ⟨_, K, I, rfl, ((hvo.keep k45 (fun _ _ _ h => h)).keep k7 (fun x _ hx e => by have e : x = w.heap.size := e; have hx : w2.heap.size ≤ x := hx; omega)).mono (fun x _ hx => by have hx : w2.heap.size ≤ x := hx; show w.heap.size ≤ x; omega), ⟨lK, hall, fun m hm => hC m (hall m hm)⟩, ((k02.trans k3 (fun _ _ h => h)).trans k45 (fun _ _ h => h)).trans k7 (fun x hx e => by have e : x = w.heap.size := e; omega)⟩
theorem is20_ret {ι : Nat → Bool} {E1 E2 : Nat → Prop} {v rw' : Value} {K I : List Bool} {row : List Int} {n : Nat} {x : W64} (hv : VO w E1 v K I) (hF : Full ι D K I) (hD : D.length ≤ 90000000) (hr : LV vi w E2 rw' row) (hf : RF D row) (hl : row.length = n) (hn : 1 ≤ n ∧ n ≤ 64) (hx : rv ι D row = (cutW n x).toNat) :
    Ret Try.prog 21 #[v, rw', vi n, vw x] w (fun r w' => r = vi 1 ∧ Keep w w' No) := by
  obtain ⟨va, vbb, rfl, h1a, h2a, h3a⟩ := id hv
  obtain ⟨A1, c1, rfl, _, _⟩ := id h1a
  obtain ⟨A2, c2, rfl, _, _⟩ := id h2a
  obtain ⟨C, cc, rfl, hrc, _⟩ := id hr
  have lK := hF.lk
  refine ok21 _ _ _ _ _ _ ?_
  unfold sh21
  refine M.new_i (l := [.slice A1 K.length c1, .slice A2 I.length c2]) (fun w1 b1 k1 s1 => ?_)
  refine M.loadAll_i b1 rfl ?_
  refine M.call_i (vword_ret (hv.keep k1 (fun _ _ _ h => h)) (by omega) (hr.keep k1 (fun _ _ _ h => h)) (by omega) (fun l hl => hF.fit (hf l hl))) ?_; rintro _ w2 ⟨rfl, k2⟩
  refine M.extract_i (v := vw (BitVec.ofNat 64 (nvB (row.map (lvl I))))) rfl ?_
  refine M.extract_i (v := .bool true) rfl ?_
  have e : BitVec.ofNat 64 (nvB (row.map (lvl I))) = cutW n x := by
    have e1 : nvB (row.map (lvl I)) = rv ι D row := by
      unfold rv
      rw [List.map_congr_left (fun l hl => hF.lv (hf l hl))]
    rw [e1, hx]
    exact BitVec.ofNat_toNat _ _ |>.trans (by simp)
  rw [e]
  refine M.len_i ?_
  refine M.neq_f (by omega) ?_
  (repeat (first|refine jg ?_|refine jl ?_|refine jm ?_))
  refine M.call_i (rcut_ret (n : Int) x _) ?_; rintro _ w3 ⟨rfl, k3⟩
  refine M.gd_ff ?_
  refine M.neqW_i ?_
  rw [decide_eq_false (fun hh => hh rfl)]
  (repeat (first|refine jl ?_|refine jp ?_))
  subst k3
  exact ⟨rfl, k1.trans k2 (fun _ _ h => h)⟩
end
end Go.Proofs.Ytnbcglnefoinlaa
namespace Go.Proofs.Ytnbcglnefoinlaa
open Go.Mw Go.Maps Go.MapKept
set_option linter.unusedVariables false
set_option linter.unusedSimpArgs false
set_option maxRecDepth 100000
attribute [local irreducible] M.val M.unit M.next M.pick M.new M.nilCheck M.load1 M.loadA M.store M.fieldAddr M.indexSl M.indexArr M.slice M.makeSlice M.buildSlice M.len M.lenS M.cap M.append M.extract M.conv M.not M.neg M.bin M.shift M.eqB M.eqNil M.scat M.call M.callv M.gd M.share M.cond M.loop M.draw pureW readW Ret
theorem inW_lt (env : List W64) (i : Int) {n : Nat} (h : 1 ≤ n ∧ n ≤ 64) : (inW env i n).toNat < 2 ^ n := by
  unfold inW
  split
  · exact cut_lt h.1 h.2 _
  · exact Nat.two_pow_pos n
theorem cmp_ex {N : List Nd} {D : List GK} {R I : Int → Option (List Int)} (h : PF N D R I) (hwf : WfD D) (hG : GoodN N) (env : List W64) :
    ∃ ι, Cmp ι D I env ∧ ∀ i row (k : Nat) l, I i = some row → row[k]? = some l → lv ι D l = (inW env i row.length).getLsbD k := by
  have key : ∃ ι : Nat → Bool, ∀ m, ι m = true ↔ ∃ i row k, I i = some row ∧ row[k]? = some (2 * (m : Int)) ∧ (inW env i row.length).getLsbD k = true := by
    refine ⟨fun m => @decide (∃ i row k, I i = some row ∧ row[k]? = some (2 * (m : Int)) ∧ (inW env i row.length).getLsbD k = true) (Classical.propDecidable _), fun m => ?_⟩
    exact @decide_eq_true_iff _ (Classical.propDecidable _)
  obtain ⟨ι, hι⟩ := key
  have bit : ∀ i row (k : Nat) l, I i = some row → row[k]? = some l → lv ι D l = (inW env i row.length).getLsbD k := fun i row k l hi hl => by
    obtain ⟨m, e, hm⟩ := (h.ins i row hi).2.2.2 l (List.mem_of_getElem? hl)
    subst e
    rw [lv_inp hwf hm]
    rw [Bool.eq_iff_iff, hι m]
    constructor
    · rintro ⟨i2, row2, k2, q1, q2, q3⟩
      have hii : i2 = i := by
        apply Classical.byContradiction
        intro hne
        exact h.dj i2 i row2 row q1 hi hne _ (List.mem_of_getElem? q2) (List.mem_of_getElem? hl)
      subst hii
      rw [hi] at q1
      obtain rfl := Option.some.inj q1
      have hkk : k2 = k := nodup_idx (h.nd _ _ hi) q2 hl
      rw [← hkk]; exact q3
    · intro hb
      exact ⟨i, row, k, hi, hl, hb⟩
  refine ⟨ι, fun i row hi => ?_, bit⟩
  obtain ⟨_, _, ⟨n, hn, _, _, hw⟩, _⟩ := h.ins i row hi
  obtain ⟨j, hj⟩ := List.mem_iff_getElem?.1 hn
  have hw64 := (hG j n hj).1
  have hlt := inW_lt env i (n := row.length) ⟨by omega, by omega⟩
  apply Nat.eq_of_testBit_eq
  intro k
  by_cases hk : k < row.length
  · rw [rv_bit ι D row k hk, bit i row k row[k] hi (List.getElem?_eq_getElem hk), BitVec.testBit_toNat]
  · rw [Nat.testBit_lt_two_pow (Nat.lt_of_lt_of_le hlt (Nat.pow_le_pow_right (by decide) (by omega)))]
    have := rv_lt ι D row
    exact Nat.testBit_lt_two_pow (Nat.lt_of_lt_of_le this (Nat.pow_le_pow_right (by decide) (by omega)))
section
variable {Z : Nat → Prop} {w : World} {F : Nat → Prop} {p : Nat} {N : List Nd} {most : Int} {G : Nat → Prop} {g : Nat} {D : List GK} {bl r1 r2 : Nat} {R I : Int → Option (List Int)}
theorem bits_bad {id : Int} (h : BS Z w F p N most G g D bl r1 r2 R I) (hid : isN N id = false) :
    Ret Try.prog 4 #[ptr bl, vi id] w (fun r w' => r = .tuple #[.slice none 0 0, vi 11] ∧ Keep w w' No) := by
  have hblk := h.blk
  refine ok4 _ _ _ _ ?_
  unfold sh4
  (repeat (first|refine jb ?_|refine jc ?_|refine jp ?_|refine jt ?_|refine jN (by assumption) rfl ?_))
  refine M.call_i (h.dag.node id) ?_; rintro _ w1 ⟨rfl, k1⟩
  rw [hid]
  refine M.extract_i rfl ?_
  refine M.extract_i rfl ?_
  refine M.new_i (l := zeroNd.cells) (fun w2 b2 k2 s2 => ?_)
  refine M.storeAll_i b2 rfl rfl (cells_one _) (fun w3 b3 k3 s3 => ?_)
  (repeat (first|refine jn ?_|refine jo ?_))
  exact ⟨rfl, (k1.trans k2 (fun _ _ h => h)).trans k3 (fun x hx e => by have e : x = w1.heap.size := e; have := k1.size; omega)⟩
end
end Go.Proofs.Ytnbcglnefoinlaa
namespace Go.Proofs.Ytnbcglnefoinlaa
open Go.Mw Go.Maps Go.MapKept
set_option linter.unusedVariables false
set_option linter.unusedSimpArgs false
set_option maxRecDepth 100000
attribute [local irreducible] M.val M.unit M.next M.pick M.new M.nilCheck M.load1 M.loadA M.store M.fieldAddr M.indexSl M.indexArr M.slice M.makeSlice M.buildSlice M.len M.lenS M.cap M.append M.extract M.conv M.not M.neg M.bin M.shift M.eqB M.eqNil M.scat M.call M.callv M.gd M.share M.cond M.loop M.draw pureW readW Ret
def sh10 (R : Kt) (w : World) : Prop :=
  M.call Try.prog 9 #[(Value.int IntKind.i64 20)] (fun t22 w =>
  M.call Try.prog 8 #[] (fun t23 w =>
  M.eqNil 0 false t22 (fun t25 w =>
  M.gd t25 false (fun k w => k t23 w) (fun t27 w =>
  M.gd t25 false (fun k w => M.eqNil 0 false t27 k w) (fun t28 w =>
  M.pick t25 (Value.bool true) t28 (fun t29 w =>
  M.cond t29
  (R (Value.bool false) w)
  (M.call Try.prog 7 #[t22, t23] (fun t32 w =>
  M.call Try.prog 17 #[t22, (Value.int IntKind.i64 4), (Value.int IntKind.i64 7)] (fun t35 w =>
  M.extract 0 t35 (fun t36 w =>
  M.extract 1 t35 (fun t37 w =>
  M.call Try.prog 17 #[t22, (Value.int IntKind.i64 4), (Value.int IntKind.i64 9)] (fun t40 w =>
  M.extract 0 t40 (fun t41 w =>
  M.extract 1 t40 (fun t42 w =>
  M.call Try.prog 18 #[t22, (Value.int IntKind.i64 1), t36, t36] (fun t47 w =>
  M.extract 0 t47 (fun t48 w =>
  M.extract 1 t47 (fun t49 w =>
  M.call Try.prog 19 #[t22, (Value.int IntKind.i64 4), (Value.int IntKind.u64 3)] (fun t52 w =>
  M.extract 0 t52 (fun t53 w =>
  M.extract 1 t52 (fun t54 w =>
  M.call Try.prog 4 #[t32, t53] (fun t58 w =>
  M.extract 0 t58 (fun t59 w =>
  M.extract 1 t58 (fun t60 w =>
  M.call Try.prog 5 #[t32, (Value.int IntKind.i64 7)] (fun t62 w =>
  M.call Try.prog 4 #[t32, t48] (fun t66 w =>
  M.extract 0 t66 (fun t67 w =>
  M.extract 1 t66 (fun t68 w =>
  M.call Try.prog 5 #[t32, (Value.int IntKind.i64 7)] (fun t70 w =>
  M.call Try.prog 4 #[t32, (Value.int IntKind.i64 99)] (fun t73 w =>
  M.extract 0 t73 (fun t74 w =>
  M.extract 1 t73 (fun t75 w =>
  M.len t70 (fun t77 w =>
  M.bin .neq t77 (Value.int IntKind.i64 4) (fun t78 w =>
  M.cond t78
  (R (Value.bool false) w)
  (M.share (fun K1 w =>
  M.draw (fun w =>
  M.indexSl 1 t70 (Value.int IntKind.i64 0) (fun t82 w =>
  M.load1 t82 (fun t83 w =>
  M.indexSl 1 t70 (Value.int IntKind.i64 1) (fun t85 w =>
  M.load1 t85 (fun t86 w =>
  M.bin .xor t86 (Value.int IntKind.i64 1) (fun t87 w =>
  M.indexSl 1 t70 (Value.int IntKind.i64 2) (fun t89 w =>
  M.load1 t89 (fun t90 w =>
  M.indexSl 1 t70 (Value.int IntKind.i64 3) (fun t92 w =>
  M.load1 t92 (fun t93 w =>
  M.bin .xor t93 (Value.int IntKind.i64 1) (fun t94 w =>
  ((M.buildSlice 3 1 #[.int .i64 0] 4 [(0, t83), (1, t87), (2, t90), (3, t94)] (fun t95 w =>
  ((M.load1 t92 (fun v' _ => v' = t93) w) ∧ ((M.load1 t85 (fun v' _ => v' = t86) w) ∧ ((M.call Try.prog 20 #[t23, t95] (fun t96 w =>
  ((M.load1 t92 (fun v' _ => v' = t93) w) ∧ ((M.load1 t85 (fun v' _ => v' = t86) w) ∧ M.extract 0 t96 (fun t97 w =>
  M.extract 1 t96 (fun t98 w =>
  M.new 63 #[.slice none 0 0, .slice none 0 0] (fun t20 w =>
  ((M.load1 t92 (fun v' _ => v' = t93) w) ∧ ((M.load1 t85 (fun v' _ => v' = t86) w) ∧ M.store 2 t20 t97 (fun _ w =>
  K1 [t20, t98] w) w))) w) w) w))) w) ∧
   (M.new 63 #[.slice none 0 0, .slice none 0 0] (fun t20_2 w =>
  ((M.load1 t92 (fun v' _ => v' = t93) w) ∧ ((M.load1 t85 (fun v' _ => v' = t86) w) ∧ M.call Try.prog 20 #[t23, t95] (fun t96_2 w =>
  ((M.load1 t92 (fun v' _ => v' = t93) w) ∧ ((M.load1 t85 (fun v' _ => v' = t86) w) ∧ M.extract 0 t96_2 (fun t97_2 w =>
  M.extract 1 t96_2 (fun t98_2 w =>
  M.store 2 t20_2 t97_2 (fun _ w =>
  K1 [t20_2, t98_2] w) w) w) w))) w))) w))))) w) ∧
   (M.new 63 #[.slice none 0 0, .slice none 0 0] (fun t20_3 w =>
  ((M.load1 t92 (fun v' _ => v' = t93) w) ∧ ((M.load1 t89 (fun v' _ => v' = t90) w) ∧ ((M.load1 t85 (fun v' _ => v' = t86) w) ∧ ((M.load1 t82 (fun v' _ => v' = t83) w) ∧ M.buildSlice 3 1 #[.int .i64 0] 4 [(0, t83), (1, t87), (2, t90), (3, t94)] (fun t95_2 w =>
  ((M.load1 t92 (fun v' _ => v' = t93) w) ∧ ((M.load1 t85 (fun v' _ => v' = t86) w) ∧ M.call Try.prog 20 #[t23, t95_2] (fun t96_3 w =>
  ((M.load1 t92 (fun v' _ => v' = t93) w) ∧ ((M.load1 t85 (fun v' _ => v' = t86) w) ∧ M.extract 0 t96_3 (fun t97_3 w =>
  M.extract 1 t96_3 (fun t98_3 w =>
  M.store 2 t20_3 t97_3 (fun _ w =>
  K1 [t20_3, t98_3] w) w) w) w))) w))) w))))) w))) w) w) w) w) w) w) w) w) w) w) w) (fun s1 w => ∀ _ : List Value,
  M.eqNil 0 true t32 (fun t100 w =>
  M.gd t100 true (fun k w => k t59 w) (fun t102 w =>
  M.gd t100 true (fun k w => M.len t102 k w) (fun t103 w =>
  M.gd t100 true (fun k w => M.bin .eql t103 (Value.int IntKind.i64 4) k w) (fun t104 w =>
  M.pick t100 t104 (Value.bool false) (fun t105 w =>
  M.gd t105 true (fun k w => k t60 w) (fun t107 w =>
  M.gd t105 true (fun k w => M.bin .eql t107 (Value.int IntKind.i64 0) k w) (fun t108 w =>
  M.pick t105 t108 (Value.bool false) (fun t109 w =>
  M.gd t109 true (fun k w => k t62 w) (fun t111 w =>
  M.gd t109 true (fun k w => M.len t111 k w) (fun t112 w =>
  M.gd t109 true (fun k w => M.bin .eql t112 (Value.int IntKind.i64 0) k w) (fun t113 w =>
  M.pick t109 t113 (Value.bool false) (fun t114 w =>
  M.gd t114 true (fun k w => k t68 w) (fun t116 w =>
  M.gd t114 true (fun k w => M.bin .eql t116 (Value.int IntKind.i64 0) k w) (fun t117 w =>
  M.pick t114 t117 (Value.bool false) (fun t118 w =>
  M.gd t118 true (fun k w => k t75 w) (fun t120 w =>
  M.gd t118 true (fun k w => M.bin .eql t120 (Value.int IntKind.i64 11) k w) (fun t121 w =>
  M.pick t118 t121 (Value.bool false) (fun t122 w =>
  M.gd t122 true (fun k w => k (s1.getD 1 undef) w) (fun t124 w =>
  M.gd t122 true (fun k w => M.bin .eql t124 (Value.int IntKind.i64 1) k w) (fun t125 w =>
  M.pick t122 t125 (Value.bool false) (fun t126 w =>
  M.gd t126 true (fun k w => M.loadA 2 (s1.getD 0 undef) k w) (fun t128 w =>
  M.gd t126 true (fun k w => k t67 w) (fun t129 w =>
  M.gd t126 true (fun k w => M.call Try.prog 21 #[t128, t129, (Value.int IntKind.i64 4), (Value.int IntKind.u64 10)] k w) (fun t130 w =>
  M.gd t126 true (fun k w => M.bin .eql t130 (Value.int IntKind.i64 1) k w) (fun t131 w =>
  M.pick t126 t131 (Value.bool false) (fun t132 w =>
  M.gd t132 true (fun k w => M.loadA 2 (s1.getD 0 undef) k w) (fun t134 w =>
  M.gd t132 true (fun k w => k t59 w) (fun t135 w =>
  M.gd t132 true (fun k w => M.call Try.prog 21 #[t134, t135, (Value.int IntKind.i64 4), (Value.int IntKind.u64 3)] k w) (fun t136 w =>
  M.gd t132 true (fun k w => M.bin .eql t136 (Value.int IntKind.i64 1) k w) (fun t137 w =>
  M.pick t132 t137 (Value.bool false) (fun t138 w =>
  M.gd t138 true (fun k w => k t32 w) (fun t140 w =>
  M.gd t138 true (fun k w => M.call Try.prog 6 #[t140] k w) (fun t141 w =>
  M.gd t138 true (fun k w => M.buildSlice 3 1 #[.int .i64 0] 1 [(0, (Value.int IntKind.i64 7))] k w) (fun t142 w =>
  M.gd t138 true (fun k w => M.call Try.prog 22 #[t141, t142] k w) (fun t143 w =>
  M.pick t138 t143 (Value.bool false) (fun t144 w =>
  M.gd t144 true (fun k w => k t32 w) (fun t146 w =>
  M.gd t144 true (fun k w => M.call Try.prog 5 #[t146, (Value.int IntKind.i64 9)] k w) (fun t147 w =>
  M.gd t144 true (fun k w => M.len t147 k w) (fun t148 w =>
  M.gd t144 true (fun k w => M.bin .eql t148 (Value.int IntKind.i64 0) k w) (fun t149 w =>
  M.pick t144 t149 (Value.bool false) (fun t150 w =>
  M.gd t150 true (fun k w => k t41 w) (fun t152 w =>
  M.gd t150 true (fun k w => k t36 w) (fun t153 w =>
  M.gd t150 true (fun k w => M.bin .gtr t152 t153 k w) (fun t154 w =>
  M.pick t150 t154 (Value.bool false) (fun t155 w =>
  R t155 w) w) w) w) w) w) w) w) w) w) w) w) w) w) w) w) w) w) w) w) w) w) w) w) w) w) w) w) w) w) w) w) w) w) w) w) w) w) w) w) w) w) w) w) w) w) w)) w) w) w) w) w) w) w) w) w) w) w) w) w) w) w) w) w) w) w) w) w) w) w) w) w) w)) w) w) w) w) w) w
theorem ok10 (R : Kt) (w : World) (h : sh10 R w) : Ret Try.prog 10 #[] w R :=
  ret_mk <| calls_of_comp mixed (c := Try.f10.body.getD .skip) (args := []) (rs := [(ResultVar.tmp 0)]) (Ann.seq Ann.text (Ann.seq Ann.text (Ann.seq Ann.text (Ann.seq (Ann.seq Ann.text (Ann.cond (Ann.seq Ann.text Ann.leaf) Ann.leaf)) (Ann.seq Ann.text (Ann.seq Ann.text (Ann.seq Ann.text (Ann.seq Ann.text (Ann.seq Ann.text (Ann.seq Ann.text (Ann.seq Ann.text (Ann.seq Ann.text (Ann.seq Ann.text (Ann.seq Ann.text (Ann.seq (Ann.seq Ann.text (Ann.cond (Ann.seq Ann.text Ann.leaf) Ann.leaf)) (Ann.join [20, 21] [79, 80, 81, 82, 83, 84, 85, 86, 87, 88, 89, 90, 91, 92, 93, 94, 95, 96, 97, 98] (Ann.draw (Sch.take 0 (Sch.take 1 (Sch.take 2 (Sch.take 3 (Sch.take 4 (Sch.take 5 (Sch.take 6 (Sch.take 7 (Sch.take 8 (Sch.take 9 (Sch.take 10 (Sch.take 11 (Sch.take 12 (Sch.take 13 (Sch.take 14 (Sch.two 15 20 (Sch.two 16 20 (Sch.take 17 (Sch.take 18 (Sch.take 19 (Sch.one 20 (Sch.one 21 (Sch.take 22 Sch.done)))))) (Sch.one 16 (Sch.take 17 (Sch.take 18 (Sch.take 19 (Sch.one 21 (Sch.take 22 Sch.done))))))) (Sch.one 15 (Sch.one 16 (Sch.take 17 (Sch.take 18 (Sch.take 19 (Sch.one 21 (Sch.take 22 Sch.done)))))))))))))))))))))))) (Ann.seq Ann.text Ann.leaf)))))))))))))))))
    Try.func10 (by kernel_rfl) (by kernel_rfl)
    (Eq.mp (by kernel_rfl) h)
section
variable {Z : Nat → Prop} {w : World} {F : Nat → Prop} {p : Nat} {N : List Nd} {most : Int} {G : Nat → Prop} {g : Nat} {D : List GK} {bl r1 r2 : Nat} {R I : Int → Option (List Int)}
theorem BT.few (h : BT Z w F p N most G g D bl r1 r2 R I) (hN : N.length ≤ 1000) : D.length ≤ 41000001 := by
  obtain ⟨held, h1, h2, h3⟩ := h.lb
  have := nodup_range h1 (fun x hx => by
    obtain ⟨row, hr⟩ := Option.isSome_iff_exists.1 ((h2 x).1 hx)
    exact (h.pf.rows x row hr).1)
  omega
theorem BT.keepN {w' : World} (h : BT Z w F p N most G g D bl r1 r2 R I) (k : Keep w w' No) : BT Z w' F p N most G g D bl r1 r2 R I := ⟨h.bs.keepN k, h.pf, h.lb⟩
theorem BT.redag {w' : World} {F' : Nat → Prop} {N' : List Nd} {most' : Int} (h : BT Z w F p N most G g [.tru] bl r1 r2 (fun _ => none) (fun _ => none)) (hbl : ¬ F bl) (hd : DagO w' F' p N' most') (sub : ∀ x, x < w.heap.size → F' x → F x) (k : Keep w w' F) :
    BT Z w' F' p N' most' G g [.tru] bl r1 r2 (fun _ => none) (fun _ => none) := by
  obtain ⟨kv1, a1, a2⟩ := h.bs.m1
  obtain ⟨kv2, b1, b2⟩ := h.bs.m2
  have sF := h.bs.sF
  have hga := h.bs.ga.lt
  refine ⟨⟨hd, h.bs.ga.keep k (fun x hx hF => (sF x hF).1 hx), h.bs.blk.keep k hbl, ⟨kv1, a1.keep k (fun hF => (sF _ hF).2.1 rfl), fun x => ⟨(a2 x).1, fun row hr => (by cases hr)⟩⟩, ⟨kv2, b1.keep k (fun hF => (sF _ hF).2.2 rfl), fun x => ⟨(b2 x).1, fun row hr => (by cases hr)⟩⟩, fun x hx => ?_, h.bs.sG, h.bs.ne, fun x hx => h.bs.zn x (Nat.le_trans k.size hx)⟩, ⟨fun id row h => (by cases h), fun i n h => absurd rfl h, fun i row h => (by cases h), h.pf.all, fun i row h => (by cases h), fun i j ri rj h => (by cases h)⟩, h.lb⟩
  by_cases hlt : x < w.heap.size
  · exact sF x (sub x hlt hx)
  · exact ⟨fun hG => hlt (hga x hG), fun e => hlt (e ▸ a1.lt), fun e => hlt (e ▸ b1.lt)⟩
end
def yN : List Nd := [⟨21, 4, 7, 0, 0, 0⟩, ⟨21, 4, 9, 0, 0, 0⟩, ⟨1, 4, 0, 0, 0, 0⟩, ⟨20, 4, 0, 0, 0, 3⟩]
def yE : List W64 := [0, 0, 0, 0, 0, 0, 0, 5]
theorem yN_get {i : Nat} {n : Nd} (h : yN[i]? = some n) : (i = 0 ∧ n = ⟨21, 4, 7, 0, 0, 0⟩) ∨ (i = 1 ∧ n = ⟨21, 4, 9, 0, 0, 0⟩) ∨ (i = 2 ∧ n = ⟨1, 4, 0, 0, 0, 0⟩) ∨ (i = 3 ∧ n = ⟨20, 4, 0, 0, 0, 3⟩) := by
  unfold yN at h
  match i, h with
  | 0, h => simp at h; exact .inl ⟨rfl, h.symm⟩
  | 1, h => simp at h; exact .inr (.inl ⟨rfl, h.symm⟩)
  | 2, h => simp at h; exact .inr (.inr (.inl ⟨rfl, h.symm⟩))
  | 3, h => simp at h; exact .inr (.inr (.inr ⟨rfl, h.symm⟩))
  | i + 4, h => simp at h
theorem y_p3 (i : Nat) (n : Nd) (hi : (i : Int) = 3) (hn : yN[i]? = some n) (k : Int) (hk : k ∈ kidsN n) : k = 3 := by
  rcases yN_get hn with ⟨rfl, rfl⟩ | ⟨rfl, rfl⟩ | ⟨rfl, rfl⟩ | ⟨rfl, rfl⟩
  · omega
  · omega
  · omega
  · simp [kidsN] at hk
theorem y_p2 (i : Nat) (n : Nd) (hi : (i : Int) = 2 ∨ (i : Int) = 0) (hn : yN[i]? = some n) (k : Int) (hk : k ∈ kidsN n) : k = 2 ∨ k = 0 := by
  rcases yN_get hn with ⟨rfl, rfl⟩ | ⟨rfl, rfl⟩ | ⟨rfl, rfl⟩ | ⟨rfl, rfl⟩
  · simp [kidsN] at hk
  · omega
  · simp [kidsN] at hk; exact .inr hk
  · omega
theorem y_two : wordAt yN yE 2 = 10 ∧ wordAt yN yE 3 = 3 ∧ wordAt yN [] 2 = 0 ∧ inW yE 7 4 = 5 := ⟨by kernel_rfl, by kernel_rfl, by kernel_rfl, by kernel_rfl⟩
theorem four_of {α : Type} {l : List α} (h : l.length = 4) : ∃ a b c d, l = [a, b, c, d] := by
  match l, h with
  | [a, b, c, d], _ => exact ⟨a, b, c, d, rfl⟩
set_option maxHeartbeats 8000000 in
theorem awake23_ret (w : World) : Ret Try.prog 10 #[] w (fun v w' => v = .bool true ∧ Keep w w' No) := by
  have d1 : varN 20 [] 4 7 = (yN.take 1, 0, 0) := by kernel_rfl
  have d2 : varN 20 (yN.take 1) 4 9 = (yN.take 2, 1, 0) := by kernel_rfl
  have d3 : binaryN 20 (yN.take 2) 1 0 0 = (yN.take 3, 2, 0) := by kernel_rfl
  have d4 : constN 20 (yN.take 3) 4 3 = (yN, 3, 0) := by kernel_rfl
  refine ok10 _ _ ?_
  unfold sh10
  refine M.call_i (new_ret 20 w) ?_; rintro _ w1 ⟨F, p, rfl, hd1, hF1, k1⟩
  rw [if_neg (by omega)] at hd1
  refine M.call_i (gnew_ret w1) ?_; rintro _ w2 ⟨g, G, rfl, hg2, hG2, k2⟩
  (repeat (first|refine jg ?_|refine jl ?_|refine jp ?_|refine jt ?_))
  have hd2 := hd1.keepN k2
  have hFl : ∀ x, F x → x < w1.heap.size := fun x hx => hd1.lt hx
  refine M.call_i (bnew_ret hd2 hg2 (fun x hx hG => by have := hG2 x hG; have := hFl x hx; omega) (fun _ => True) (fun _ _ => trivial)) ?_; rintro _ w3 ⟨bl, r1, r2, rfl, hb3, l1, l2, l3, k3⟩
  have q1 := k1.size
  have q2 := k2.size
  have q3 := k3.size
  have hblt := hb3.bs.blk.lt
  have hrlt : r1 < w3.heap.size ∧ r2 < w3.heap.size := by
    obtain ⟨_, a1, _⟩ := hb3.bs.m1
    obtain ⟨_, b1, _⟩ := hb3.bs.m2
    exact ⟨a1.lt, b1.lt⟩
  have e4 := dvar_ret hb3.bs.dag 4 7
  rw [d1] at e4
  refine M.call_i (e4) ?_; rintro _ w4 ⟨F4, rfl, hd4, hF4, k4⟩
  refine M.extract_i (v := vi 0) rfl ?_
  refine M.extract_i (v := vi 0) rfl ?_
  have e5 := dvar_ret hd4 4 9
  rw [d2] at e5
  refine M.call_i (e5) ?_; rintro _ w5 ⟨F5, rfl, hd5, hF5, k5⟩
  refine M.extract_i (v := vi 1) rfl ?_
  refine M.extract_i (v := vi 0) rfl ?_
  have e6 := binary_ret hd5 1 0 0
  rw [d3] at e6
  refine M.call_i (e6) ?_; rintro _ w6 ⟨F6, rfl, hd6, hF6, k6⟩
  refine M.extract_i (v := vi 2) rfl ?_
  refine M.extract_i (v := vi 0) rfl ?_
  have e7 := const_ret hd6 4 3
  rw [d4] at e7
  refine M.call_i (e7) ?_; rintro _ w7 ⟨F7, rfl, hd7, hF7, k7⟩
  refine M.extract_i (v := vi 3) rfl ?_
  refine M.extract_i (v := vi 0) rfl ?_
  have q4 := k4.size
  have q5 := k5.size
  have q6 := k6.size
  have q7 := k7.size
  have s5 : ∀ x, x < w3.heap.size → F5 x → F x := fun x hx h => hF4 x hx (hF5 x (by omega) h)
  have s6 : ∀ x, x < w3.heap.size → F6 x → F x := fun x hx h => s5 x hx (hF6 x (by omega) h)
  have s7 : ∀ x, x < w3.heap.size → F7 x → F x := fun x hx h => s6 x hx (hF7 x (by omega) h)
  have k37 : Keep w3 w7 F := ((k4.trans k5 (fun x hx h => hF4 x hx h)).trans k6 (fun x hx h => s5 x hx h)).trans k7 (fun x hx h => s6 x hx h)
  have k07 : Keep w w7 No := ((k1.trans k2 (fun _ _ h => h)).trans k3 (fun _ _ h => h)).trans k37 (fun x hx h => by have := hF1 x h; omega)
  have q37 := k37.size
  have hb7 := hb3.redag (fun h => by have := hFl bl h; omega) hd7 s7 k37
  have hG7 := hb7.bs.ga.lt
  -- the constant
  refine M.call_i (bits_ret (P := fun x => x = 3) (id := 3) rfl y_p3 hb7 (by decide) (by decide)) ?_; rintro _ w8 ⟨G8, D8, R8, I8, rowk, vk, rfl, hvk, hrk, hb8, k8, sG8, mR8, mI8, in8⟩
  refine M.extract_i (v := vk) rfl ?_
  refine M.extract_i (v := vi 0) rfl ?_
  have q8 := k8.size
  have i8 : ∀ j, I8 j = none := fun j => by
    apply Classical.byContradiction
    intro hne
    rcases in8 j hne with h | ⟨i, n, hi, hn, h21, _⟩
    · exact h rfl
    · rcases yN_get hn with ⟨rfl, rfl⟩ | ⟨rfl, rfl⟩ | ⟨rfl, rfl⟩ | ⟨rfl, rfl⟩ <;> simp at hi h21
  have e9 := binp_ret hb8.bs hb8.pf 7
  rw [i8 7] at e9
  refine M.call_i (e9) ?_; rintro _ w9 ⟨⟨A9, c9, rfl, _, _⟩, k9⟩
  have hb9 := hb8.keepN k9
  have q9 := k9.size
  have hvk9 := hvk.keep k9 (fun _ _ _ h => h)
  -- the sum
  refine M.call_i (bits_ret (P := fun x => x = 2 ∨ x = 0) (id := 2) (.inl rfl) y_p2 hb9 (by decide) (by decide)) ?_; rintro _ w10 ⟨G10, D10, R10, I10, row2, v2, rfl, hv2, hr2, hb10, k10, sG10, mR10, mI10, in10⟩
  refine M.extract_i (v := v2) rfl ?_
  refine M.extract_i (v := vi 0) rfl ?_
  have q10 := k10.size
  have hvk10 : LV vi w10 (fun x => ¬ G10 x) vk rowk := (LV.keep (LV.mono (D' := fun x => (¬ G8 x ∧ w7.heap.size ≤ x) ∧ x < w9.heap.size) hvk9 (fun x hx h => ⟨h, hx⟩)) k10 (fun x _ h hh => by
    rcases hh with hh | rfl | rfl
    · exact h.1.1 hh
    · have := h.1.2; omega
    · have := h.1.2; omega)).mono (fun x _ h hG => h.1.1 (sG10 x h.2 hG))
  have i10 : ∀ j, I10 j ≠ none → j = 7 := fun j hne => by
    rcases in10 j hne with h | ⟨i, n, hi, hn, h21, ha⟩
    · exact absurd (i8 j) h
    · rcases yN_get hn with ⟨rfl, rfl⟩ | ⟨rfl, rfl⟩ | ⟨rfl, rfl⟩ | ⟨rfl, rfl⟩ <;> simp at hi h21 ha
      exact ha.symm
  obtain ⟨y2, y3, y0, y5⟩ := y_two
  have hwf := hb10.bs.ga.wf
  have hfew := hb10.few (by decide)
  obtain ⟨_, rl2, rf2, rv2⟩ := hb10.pf.rows 2 row2 hr2
  obtain ⟨_, rlk, rfk, rvk⟩ := hb10.pf.rows 3 rowk (mR10 _ _ hrk)
  obtain ⟨row7, h7⟩ : ∃ row7, I10 7 = some row7 := by
    rw [← Option.isSome_iff_exists, Option.isSome_iff_ne_none]
    intro hno
    have hall : ∀ j, I10 j = none := fun j => by
      apply Classical.byContradiction
      intro hne
      have := i10 j hne
      subst this
      exact hne hno
    have a1 := rv2 (fun _ => false) yE (fun i row hi => by rw [hall i] at hi; cases hi)
    have a2 := rv2 (fun _ => false) [] (fun i row hi => by rw [hall i] at hi; cases hi)
    rw [a1, y2, y0] at a2
    exact absurd a2 (by decide)
  obtain ⟨rf7, _, ⟨n7, hn7, h71, h72, h73⟩, hin7⟩ := hb10.pf.ins 7 row7 h7
  have hl7 : row7.length = 4 := by
    unfold yN at hn7
    simp only [List.mem_cons, List.not_mem_nil, or_false] at hn7
    rcases hn7 with rfl | rfl | rfl | rfl <;> simp at h71 h72 h73
    omega
  obtain ⟨ι, hC, hbit⟩ := cmp_ex hb10.pf hwf hb10.bs.dag.good yE
  obtain ⟨z0, z1, z2, z3, rfl⟩ := four_of hl7
  have b0 := hbit 7 _ 0 z0 h7 rfl
  have b1 := hbit 7 _ 1 z1 h7 rfl
  have b2 := hbit 7 _ 2 z2 h7 rfl
  have b3 := hbit 7 _ 3 z3 h7 rfl
  simp only [List.length_cons, List.length_nil, Nat.zero_add, Nat.reduceAdd, y5] at b0 b1 b2 b3
  have f0 := rf7 z0 (by simp)
  have f1 := rf7 z1 (by simp)
  have f2 := rf7 z2 (by simp)
  have f3 := rf7 z3 (by simp)
  have e11 := binp_ret hb10.bs hb10.pf 7
  rw [h7] at e11
  refine M.call_i (e11) ?_; rintro vin w11 ⟨hvin, k11⟩
  have hvin : LV vi w11 (w10.heap.size ≤ ·) vin [z0, z1, z2, z3] := hvin
  have hb11 := hb10.keepN k11
  refine M.call_i (bits_bad (id := 99) hb11.bs (by decide)) ?_; rintro _ w12 ⟨rfl, k12⟩
  refine M.extract_i (v := .slice none 0 0) rfl ?_
  refine M.extract_i (v := vi 11) rfl ?_
  have hvin := hvin.keep k12 (fun _ _ _ h => h)
  have hb12 := hb11.keepN k12
  obtain ⟨B, o, c, rfl⟩ := RowO.some hvin (by simp)
  obtain ⟨A', c', eA, hrow, hcap⟩ := hvin
  cases eA
  refine M.len_i ?_
  refine M.neq_f (by simp) ?_
  refine M.cond_f ?_
  have ft : ∀ z, Ft D10 z → 0 ≤ z ∧ z ≤ 10000000000 := fun z hz => ⟨hz.1, by have := hz.2; omega⟩
  have cl : ∀ (wx : World) (bx : Nat), Keep w12 wx No → Blk wx bx [vi z0, vi (nt z1), vi z2, vi (nt z3)] → Ret Try.prog 20 #[ptr g, .slice (some ⟨bx, 0, none⟩) 4 4] wx (fun r w' => ∃ v K I, r = .tuple #[v, vi 1] ∧ VO w' (wx.heap.size ≤ ·) v K I ∧ Full ι D10 K I ∧ Keep wx w' No) := fun wx bx kx hbx =>
    close20_ret (E1 := fun _ => True) (H := [z0, nt z1, z2, nt z3]) (hb12.keepN kx).bs.ga (by omega) ⟨_, 4, rfl, Row.of_blk' hbx trivial, Nat.le_refl _⟩ (by simp) (fun l hl => by
      simp only [List.mem_cons, List.not_mem_nil, or_false] at hl
      rcases hl with rfl | rfl | rfl | rfl
      · exact ⟨f0, by rw [b0]; decide⟩
      · exact ⟨f1.nt, by rw [lv_nt, b1]; decide⟩
      · exact ⟨f2, by rw [b2]; decide⟩
      · exact ⟨f3.nt, by rw [lv_nt, b3]; decide⟩) (fun m hm => by
      obtain ⟨i, row, hi, hmr⟩ := hb12.pf.all m hm
      have := i10 i (by rw [hi]; simp)
      subst this
      rw [h7] at hi
      obtain rfl := Option.some.inj hi
      simp only [List.mem_cons, List.not_mem_nil, or_false] at hmr ⊢
      rcases hmr with h | h | h | h
      · exact .inl (.inl h)
      · exact .inr (.inr (.inl (by rw [h])))
      · exact .inl (.inr (.inr (.inl h)))
      · exact .inr (.inr (.inr (.inr (by rw [h])))))
  refine M.share_j (fun vals w' => ∃ pn a b K I, vals = [ptr pn, vi 1] ∧ Blk w' pn [a, b] ∧ VO w' (fun _ => True) (.agg ⟨[a, b]⟩) K I ∧ Full ι D10 K I ∧ Keep w12 w' No) ?_ ?_
  · rintro vals w13 ⟨pn, a, b, K, I, rfl, bn, hvo, hfull, k13⟩ _
    simp only [List.getD_cons_zero, List.getD_cons_succ]
    have hb13 := hb12.keepN k13
    have k1013 := (k11.trans k12 (fun _ _ h => h)).trans k13 (fun _ _ h => h)
    obtain ⟨Ak, ck, rfl, hrk', hck'⟩ := hvk10.keep k1013 (fun _ _ _ h => h)
    have hvk13 : LV vi w13 (fun x => ¬ G10 x) (.slice Ak rowk.length ck) rowk := ⟨_, _, rfl, hrk', hck'⟩
    have hv213 := hv2.keep k1013 (fun _ _ _ h => h)
    have lk4 : (rowk.length : Int) = 4 := by rw [rlk]; rfl
    have l24 : (row2.length : Int) = 4 := by rw [rl2]; rfl
    simp only [List.length_cons, List.length_nil, Option.getD_none]
    (repeat (first|refine ja ?_|refine jf ?_|refine jk ?_|refine jr ?_|refine jG ?_))
    refine M.loadAll_i bn rfl ?_
    (repeat (refine jf ?_))
    refine M.call_i (is20_ret (n := 4) (x := 10) hvo hfull (by omega) hv213 rf2 (by omega) (by decide) (by rw [rv2 ι yE hC, y2]; decide)) ?_; rintro _ w14 ⟨rfl, k14⟩
    (repeat (first|refine jf ?_|refine jk ?_|refine jG ?_))
    refine M.loadAll_i (bn.keep k14 (fun h => h)) rfl ?_
    (repeat (refine jf ?_))
    refine M.call_i (is20_ret (n := 4) (x := 3) (hvo.keep k14 (fun _ _ _ h => h)) hfull (by omega) (hvk13.keep k14 (fun _ _ _ h => h)) rfk (by omega) (by decide) (by rw [rvk ι yE hC, y3]; decide)) ?_; rintro _ w15 ⟨rfl, k15⟩
    (repeat (first|refine jf ?_|refine jk ?_|refine jG ?_))
    have k135 := k14.trans k15 (fun _ _ h => h)
    have hb15 := hb13.keepN k135
    refine M.call_i (inputs_ret hb15.bs hb15.pf) ?_; rintro vs w16 ⟨ks, hks, hnd, _, hmem, k16⟩
    have eks : ks = [7] := by
      have m7 : (7 : Int) ∈ ks := (hmem 7).2 (by rw [h7]; simp)
      have all7 : ∀ x ∈ ks, x = 7 := fun x hx => i10 x ((hmem x).1 hx)
      match ks, hnd, m7, all7 with
      | [a], _, _, h => rw [h a (by simp)]
      | a :: b :: t, hnd, _, h =>
        have h1 := h a (by simp)
        have h2 := h b (by simp)
        rw [h1, h2] at hnd
        simp at hnd
    subst eks
    (repeat (refine jf ?_))
    refine M.buildSlice_i [vi 7] (by kernel_rfl) (fun w17 b17 k17 s17 => ?_)
    (repeat (refine jf ?_))
    refine M.call_i (same_ret (ys := [7]) (hks.keep k17 (fun _ _ _ h => h)) (blk1 b17) (by decide)) ?_; rintro _ w18 ⟨rfl, k18⟩
    rw [decide_eq_true (rfl : ([7] : List Int) = [7])]
    (repeat (first|refine jf ?_|refine jk ?_))
    have k158 := (k16.trans k17 (fun _ _ h => h)).trans k18 (fun _ _ h => h)
    have hb18 := hb15.keepN k158
    have i9 : I10 9 = none := by
      apply Classical.byContradiction
      intro hne
      have := i10 9 hne
      omega
    have e19 := binp_ret hb18.bs hb18.pf 9
    rw [i9] at e19
    refine M.call_i (e19) ?_; rintro _ w19 ⟨⟨A19, c19, rfl, _, _⟩, k19⟩
    simp only [List.length_nil, Option.getD_none]
    (repeat (first|refine ja ?_|refine jf ?_|refine jk ?_|refine jC ?_|refine jG ?_))
    refine ⟨rfl, ?_⟩
    have low : ∀ x, x < w.heap.size → ¬ G x := fun x hx h => by have := hG2 x h; omega
    have k08 : Keep w w8 No := k07.trans k8 (fun x hx h => by
      rcases h with h | rfl | rfl
      · exact low x hx h
      · omega
      · omega)
    have k09 := k08.trans k9 (fun _ _ h => h)
    have k010 : Keep w w10 No := k09.trans k10 (fun x hx h => by
      rcases h with h | rfl | rfl
      · exact low x hx (sG8 x (by omega) h)
      · omega
      · omega)
    exact (((k010.trans k1013 (fun _ _ h => h)).trans k135 (fun _ _ h => h)).trans k158 (fun _ _ h => h)).trans k19 (fun _ _ h => h)
  · intro K1 hK1
    refine M.draw_i ?_
    have kd := Keep.drew w12 No
    have hrow := hrow.keep kd (fun _ _ _ h => h)
    revert kd hrow
    generalize w12.drew = wd
    intro kd hrow
    refine M.idxLV_i hrow rfl (by omega) (by simp) (x := z0) rfl (fun p0 o0 hA0 hc0 => ?_)
    refine M.load_i hc0 ?_
    refine M.idxLV_i hrow rfl (by omega) (by simp) (x := z1) rfl (fun p1 o1 hA1 hc1 => ?_)
    refine M.load_i hc1 ?_
    refine M.bin_i (xor_t (ft z1 f1) (.inr rfl)) ?_
    refine M.idxLV_i hrow rfl (by omega) (by simp) (x := z2) rfl (fun p2 o2 hA2 hc2 => ?_)
    refine M.load_i hc2 ?_
    refine M.idxLV_i hrow rfl (by omega) (by simp) (x := z3) rfl (fun p3 o3 hA3 hc3 => ?_)
    refine M.load_i hc3 ?_
    refine M.bin_i (xor_t (ft z3 f3) (.inr rfl)) ?_
    rw [show xt z1 1 = nt z1 from rfl, show xt z3 1 = nt z3 from rfl]
    refine ⟨?_, ?_⟩
    · refine M.buildSlice_i [vi z0, vi (nt z1), vi z2, vi (nt z3)] (by kernel_rfl) (fun w13 b13 k13 s13 => ?_)
      refine ⟨M.load_i (k13.cell (fun h => h) hc3) rfl, M.load_i (k13.cell (fun h => h) hc1) rfl, ?_, ?_⟩
      · refine M.call_i (cl w13 wd.heap.size (kd.trans k13 (fun _ _ h => h)) b13) ?_; rintro _ w14 ⟨v, K, I, rfl, hvo, hfull, k14⟩
        have k34 := k13.trans k14 (fun _ _ h => h)
        obtain ⟨va, vbb, rfl, h1a, h2a, h3a⟩ := id hvo
        obtain ⟨A1, c1, rfl, _, _⟩ := id h1a
        obtain ⟨A2, c2, rfl, _, _⟩ := id h2a
        refine ⟨M.load_i (k34.cell (fun h => h) hc3) rfl, M.load_i (k34.cell (fun h => h) hc1) rfl, ?_⟩
        refine M.extract_i (v := .agg ⟨[.slice A1 K.length c1, .slice A2 I.length c2]⟩) rfl ?_
        refine M.extract_i (v := vi 1) rfl ?_
        refine M.new_i (l := [.slice none 0 0, .slice none 0 0]) (fun w15 b15 k15 s15 => ?_)
        have k35 := k34.trans k15 (fun _ _ h => h)
        refine ⟨M.load_i (k35.cell (fun h => h) hc3) rfl, M.load_i (k35.cell (fun h => h) hc1) rfl, ?_⟩
        refine M.storeAll_i b15 rfl rfl (by simp; exact ⟨rfl, rfl⟩) (fun w16 b16 k16 s16 => ?_)
        have q34 := k34.size
        have qd := kd.size
        exact hK1 _ _ ⟨_, _, _, K, I, rfl, b16, (((hvo.mono (E' := fun x => x < w14.heap.size) (fun x hx _ => hx)).keep k15 (fun _ _ _ h => h)).keep k16 (fun x _ hx e => by have e : x = w14.heap.size := e; omega)).mono (fun _ _ _ => trivial), hfull, (kd.trans k35 (fun _ _ h => h)).trans k16 (fun x hx e => by have e : x = w14.heap.size := e; omega)⟩
      · refine M.new_i (l := [.slice none 0 0, .slice none 0 0]) (fun w14 b14 k14 s14 => ?_)
        have k34 := k13.trans k14 (fun _ _ h => h)
        refine ⟨M.load_i (k34.cell (fun h => h) hc3) rfl, M.load_i (k34.cell (fun h => h) hc1) rfl, ?_⟩
        refine M.call_i (cl w14 wd.heap.size (kd.trans k34 (fun _ _ h => h)) (b13.keep k14 (fun h => h))) ?_; rintro _ w15 ⟨v, K, I, rfl, hvo, hfull, k15⟩
        have k35 := k34.trans k15 (fun _ _ h => h)
        obtain ⟨va, vbb, rfl, h1a, h2a, h3a⟩ := id hvo
        obtain ⟨A1, c1, rfl, _, _⟩ := id h1a
        obtain ⟨A2, c2, rfl, _, _⟩ := id h2a
        refine ⟨M.load_i (k35.cell (fun h => h) hc3) rfl, M.load_i (k35.cell (fun h => h) hc1) rfl, ?_⟩
        refine M.extract_i (v := .agg ⟨[.slice A1 K.length c1, .slice A2 I.length c2]⟩) rfl ?_
        refine M.extract_i (v := vi 1) rfl ?_
        have hbl := b14.lt
        have q13 := k13.size
        have qd := kd.size
        refine M.storeAll_i (b14.keep k15 (fun h => h)) rfl rfl (by simp; exact ⟨rfl, rfl⟩) (fun w16 b16 k16 s16 => ?_)
        exact hK1 _ _ ⟨_, _, _, K, I, rfl, b16, (hvo.keep k16 (fun x _ hx e => by have e : x = w13.heap.size := e; have hx : w14.heap.size ≤ x := hx; omega)).mono (fun _ _ _ => trivial), hfull, (kd.trans k35 (fun _ _ h => h)).trans k16 (fun x hx e => by have e : x = w13.heap.size := e; omega)⟩
    · refine M.new_i (l := [.slice none 0 0, .slice none 0 0]) (fun w13 b13 k13 s13 => ?_)
      refine ⟨M.load_i (k13.cell (fun h => h) hc3) rfl, M.load_i (k13.cell (fun h => h) hc2) rfl, M.load_i (k13.cell (fun h => h) hc1) rfl, M.load_i (k13.cell (fun h => h) hc0) rfl, ?_⟩
      refine M.buildSlice_i [vi z0, vi (nt z1), vi z2, vi (nt z3)] (by kernel_rfl) (fun w14 b14 k14 s14 => ?_)
      have k34 := k13.trans k14 (fun _ _ h => h)
      refine ⟨M.load_i (k34.cell (fun h => h) hc3) rfl, M.load_i (k34.cell (fun h => h) hc1) rfl, ?_⟩
      refine M.call_i (cl w14 w13.heap.size (kd.trans k34 (fun _ _ h => h)) b14) ?_; rintro _ w15 ⟨v, K, I, rfl, hvo, hfull, k15⟩
      have k35 := k34.trans k15 (fun _ _ h => h)
      obtain ⟨va, vbb, rfl, h1a, h2a, h3a⟩ := id hvo
      obtain ⟨A1, c1, rfl, _, _⟩ := id h1a
      obtain ⟨A2, c2, rfl, _, _⟩ := id h2a
      refine ⟨M.load_i (k35.cell (fun h => h) hc3) rfl, M.load_i (k35.cell (fun h => h) hc1) rfl, ?_⟩
      refine M.extract_i (v := .agg ⟨[.slice A1 K.length c1, .slice A2 I.length c2]⟩) rfl ?_
      refine M.extract_i (v := vi 1) rfl ?_
      have hbl := b13.lt
      have q14 := k14.size
      have qd := kd.size
      refine M.storeAll_i ((b13.keep k14 (fun h => h)).keep k15 (fun h => h)) rfl rfl (by simp; exact ⟨rfl, rfl⟩) (fun w16 b16 k16 s16 => ?_)
      exact hK1 _ _ ⟨_, _, _, K, I, rfl, b16, (hvo.keep k16 (fun x _ hx e => by have e : x = wd.heap.size := e; have hx : w14.heap.size ≤ x := hx; omega)).mono (fun _ _ _ => trivial), hfull, (kd.trans k35 (fun _ _ h => h)).trans k16 (fun x hx e => by have e : x = wd.heap.size := e; omega)⟩
end Go.Proofs.Ytnbcglnefoinlaa
namespace Go.Proofs.Ytnbcglnefoinlaa
open Go.Mw Go.Maps Go.MapKept
set_option linter.unusedVariables false
set_option linter.unusedSimpArgs false
set_option maxRecDepth 100000
attribute [local irreducible] M.val M.unit M.next M.pick M.new M.nilCheck M.load1 M.loadA M.store M.fieldAddr M.indexSl M.indexArr M.slice M.makeSlice M.buildSlice M.len M.lenS M.cap M.append M.extract M.conv M.not M.neg M.bin M.shift M.eqB M.eqNil M.scat M.call M.callv M.gd M.share M.cond M.loop M.draw pureW readW Ret
def sh3 (x0 x1 : Value) (R : Kt) (w : World) : Prop :=
  M.call Try.prog 4 #[(Value.pointer none), x0] (fun t11 w =>
  M.extract 0 t11 (fun t12 w =>
  M.extract 1 t11 (fun t13 w =>
  M.len t12 (fun t15 w =>
  M.bin .eql t15 (Value.int IntKind.i64 0) (fun t16 w =>
  M.gd t16 true (fun k w => k t13 w) (fun t18 w =>
  M.gd t16 true (fun k w => M.bin .eql t18 (Value.int IntKind.i64 11) k w) (fun t19 w =>
  M.pick t16 t19 (Value.bool false) (fun t20 w =>
  M.gd t20 true (fun k w => k (Value.pointer none) w) (fun t22 w =>
  M.gd t20 true (fun k w => k x1 w) (fun t23 w =>
  M.gd t20 true (fun k w => M.call Try.prog 5 #[t22, t23] k w) (fun t24 w =>
  M.gd t20 true (fun k w => M.len t24 k w) (fun t25 w =>
  M.gd t20 true (fun k w => M.bin .eql t25 (Value.int IntKind.i64 0) k w) (fun t26 w =>
  M.pick t20 t26 (Value.bool false) (fun t27 w =>
  M.gd t27 true (fun k w => k (Value.pointer none) w) (fun t29 w =>
  M.gd t27 true (fun k w => M.call Try.prog 6 #[t29] k w) (fun t30 w =>
  M.gd t27 true (fun k w => M.len t30 k w) (fun t31 w =>
  M.gd t27 true (fun k w => M.bin .eql t31 (Value.int IntKind.i64 0) k w) (fun t32 w =>
  M.pick t27 t32 (Value.bool false) (fun t33 w =>
  M.gd t33 true (fun k w => M.call Try.prog 8 #[] k w) (fun t35 w =>
  M.gd t33 true (fun k w => M.call Try.prog 7 #[(Value.pointer none), t35] k w) (fun t36 w =>
  M.gd t33 true (fun k w => M.eqNil 0 false t36 k w) (fun t37 w =>
  M.pick t33 t37 (Value.bool false) (fun t38 w =>
  M.gd t38 true (fun k w => M.call Try.prog 9 #[(Value.int IntKind.i64 3)] k w) (fun t40 w =>
  M.gd t38 true (fun k w => M.call Try.prog 7 #[t40, (Value.pointer none)] k w) (fun t41 w =>
  M.gd t38 true (fun k w => M.eqNil 0 false t41 k w) (fun t42 w =>
  M.pick t38 t42 (Value.bool false) (fun t43 w =>
  M.gd t43 true (fun k w => M.call Try.prog 10 #[] k w) (fun t45 w =>
  M.pick t43 t45 (Value.bool false) (fun t46 w =>
  R t46 w) w) w) w) w) w) w) w) w) w) w) w) w) w) w) w) w) w) w) w) w) w) w) w) w) w) w) w) w) w
theorem ok3 (x0 x1 : Value) (R : Kt) (w : World) (h : sh3 x0 x1 R w) : Ret Try.prog 3 #[x0, x1] w R :=
  ret_mk <| calls_of_comp mixed (c := Try.f3.body.getD .skip) (args := [x0, x1]) (rs := [(ResultVar.tmp 4)]) (Ann.seq Ann.text (Ann.seq Ann.text (Ann.seq Ann.text (Ann.seq Ann.text Ann.leaf))))
    Try.func3 (by kernel_rfl) (by kernel_rfl)
    (Eq.mp (by kernel_rfl) h)
theorem bits_none (w : World) (id : Int) : Ret Try.prog 4 #[.pointer none, vi id] w (fun r w' => r = .tuple #[.slice none 0 0, vi 11] ∧ w' = w) := by
  refine ok4 _ _ _ _ ?_
  unfold sh4
  (repeat (first|refine jo ?_|refine js ?_))
  exact ⟨rfl, rfl⟩
theorem binp_none (w : World) (i : Int) : Ret Try.prog 5 #[.pointer none, vi i] w (fun r w' => r = .slice none 0 0 ∧ w' = w) := by
  refine ok5 _ _ _ _ ?_
  unfold sh5
  (repeat (first|refine jo ?_|refine js ?_))
  exact ⟨rfl, rfl⟩
theorem inputs_none (w : World) : Ret Try.prog 6 #[.pointer none] w (fun r w' => r = .slice none 0 0 ∧ w' = w) := by
  refine ok6 _ _ _ ?_
  unfold sh6
  (repeat (first|refine jo ?_|refine js ?_))
  exact ⟨rfl, rfl⟩
theorem bnew_none1 (w : World) (g : Nat) : Ret Try.prog 7 #[.pointer none, ptr g] w (fun r w' => r = .pointer none ∧ w' = w) := by
  refine ok7 _ _ _ _ ?_
  unfold sh7
  (repeat (first|refine ji ?_|refine jk ?_|refine jo ?_|refine js ?_))
  exact ⟨rfl, rfl⟩
theorem bnew_none2 (w : World) (p : Nat) : Ret Try.prog 7 #[ptr p, .pointer none] w (fun r w' => r = .pointer none ∧ w' = w) := by
  refine ok7 _ _ _ _ ?_
  unfold sh7
  (repeat (first|refine jg ?_|refine jl ?_|refine jo ?_|refine js ?_|refine jt ?_))
  exact ⟨rfl, rfl⟩
theorem blastNone_ret (w : World) (id i : Int) : Ret Try.prog 3 #[vi id, vi i] w (fun r w' => r = .bool true ∧ Keep w w' No) := by
  refine ok3 _ _ _ _ ?_
  unfold sh3
  refine M.call_i (bits_none w id) ?_; rintro _ _ ⟨rfl, rfl⟩
  refine M.extract_i (v := .slice none 0 0) rfl ?_
  refine M.extract_i (v := vi 11) rfl ?_
  (repeat (first|refine ja ?_|refine jf ?_|refine jk ?_|refine jG ?_))
  refine M.call_i (binp_none _ i) ?_; rintro _ _ ⟨rfl, rfl⟩
  (repeat (first|refine ja ?_|refine jf ?_|refine jk ?_|refine jG ?_))
  refine M.call_i (inputs_none _) ?_; rintro _ _ ⟨rfl, rfl⟩
  (repeat (first|refine ja ?_|refine jf ?_|refine jk ?_|refine jG ?_))
  refine M.call_i (gnew_ret _) ?_; rintro _ w1 ⟨g, G, rfl, hg, hG, k1⟩
  (repeat (refine jf ?_))
  refine M.call_i (bnew_none1 w1 g) ?_; rintro _ _ ⟨rfl, rfl⟩
  (repeat (first|refine jf ?_|refine jk ?_|refine js ?_))
  refine M.call_i (new_ret 3 _) ?_; rintro _ w2 ⟨F, p, rfl, hd, hF, k2⟩
  (repeat (refine jf ?_))
  refine M.call_i (bnew_none2 w2 p) ?_; rintro _ _ ⟨rfl, rfl⟩
  (repeat (first|refine jf ?_|refine jk ?_|refine js ?_))
  refine M.call_i (awake23_ret _) ?_; rintro _ w3 ⟨rfl, k3⟩
  (repeat (refine jk ?_))
  exact ⟨rfl, (k1.trans k2 (fun _ _ h => h)).trans k3 (fun _ _ h => h)⟩
end Go.Proofs.Ytnbcglnefoinlaa
set_option linter.unusedVariables false
set_option linter.unusedSimpArgs false
namespace Go.Mw
open Go.RowKit Go.ChangeShapes Go.WideShapes Go.ChangeAt Go.Deep
theorem Keep.below {w w' : World} (h : Keep w w' No) : Below w.heap.size w w' :=
  ⟨h.os, h.tape, h.output, h.size, fun k hk => h.blk k hk (fun h => h)⟩
section
variable {H : Type} {enc : TypeId × Value → H} {P : Program} {w : World} {base : Nat} {spare : Nat → Bool} {held : Bool}
theorem arg_int {r : Reach} {b0 : Nat} {t : TypeId} {k : IntKind} {v : Value} {d : DataW H} {ps : List MemPlace} (ht : P.underlying t = some (.int k)) (hv : Value.okWide P w r b0 t v) (h : DataW.Trod enc P w base spare held t v d ps) :
    ∃ n, v = .int k n ∧ (Lit.int k n).wf = true := by
  obtain ⟨n, h1, _, _, h2⟩ := open_int ht hv h
  exact ⟨n, h1, h2⟩
end
end Go.Mw
namespace Go.Proofs.Ytnbcglnefoinlaa
open Go.Mw Go.ChangeShapes Go.WideShapes Go.ChangeAt Go.RowKit Go.Deep Go.Joins
set_option linter.unusedVariables false
set_option maxRecDepth 100000
variable {H : Type} {enc : TypeId × Value → H}
theorem blastNone_law {b0 b1 : Nat} (W : World) {v0 v1 : Value} {d0 d1 : DataW H} {p0 p1 : List MemPlace} (w0 : Value.okWide Try.prog W .any b0 3 v0) (h0 : DataW.Trod enc Try.prog W 0 (fun _ => true) true 3 v0 d0 p0)
    (w1 : Value.okWide Try.prog W .any b1 3 v1) (h1 : DataW.Trod enc Try.prog W 0 (fun _ => true) true 3 v1 d1 p1) :
    Ret Try.prog 3 #[v0, v1] W (fun v w' => v = .bool true ∧ Keep W w' No) := by
  obtain ⟨a0, rfl, _⟩ := arg_int Try.underlying3 w0 h0
  obtain ⟨a1, rfl, _⟩ := arg_int Try.underlying3 w1 h1
  exact blastNone_ret W a0 a1
end Go.Proofs.Ytnbcglnefoinlaa
