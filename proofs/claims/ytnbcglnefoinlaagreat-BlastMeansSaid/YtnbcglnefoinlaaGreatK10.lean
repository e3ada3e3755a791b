import Derived.Test.YtnbcglnefoinlaaGreatK9
namespace Go.Proofs.YtnbcglnefoinlaaGreat
open Go.Mw Go.Maps Go.MapKept
set_option linter.unusedVariables false
set_option linter.unusedSimpArgs false
set_option maxRecDepth 100000
attribute [local irreducible] M.val M.unit M.next M.pick M.new M.nilCheck M.load1 M.loadA M.store M.fieldAddr M.indexSl M.indexArr M.slice M.makeSlice M.buildSlice M.len M.lenS M.cap M.append M.extract M.conv M.not M.neg M.bin M.shift M.eqB M.eqNil M.scat M.call M.callv M.gd M.share M.cond M.loop M.draw pureW readW Ret
def sh12 (x0 x1 : Value) (R : Kt) (w : World) : Prop :=
  M.new 47 #[.slice none 0 0, .slice none 0 0] (fun t4 w =>
  M.call Tryz.prog 33 #[x0] (fun t10 w =>
  M.call Tryz.prog 34 #[x0] (fun t13 w =>
  M.call Tryz.prog 32 #[t10, x1, t13] (fun t14 w =>
  M.extract 0 t14 (fun t15 w =>
  M.extract 1 t14 (fun t16 w =>
  M.new 47 #[.slice none 0 0, .slice none 0 0] (fun t6 w =>
  M.store 2 t6 t15 (fun _ w =>
  M.not t16 (fun t18 w =>
  M.cond t18
  (M.loadA 2 t6 (fun t19 w =>
  M.store 2 t4 t19 (fun _ w =>
  M.loadA 2 t4 (fun r0 w => R (.tuple #[r0, (Value.int IntKind.i64 0)]) w) w) w) w)
  (M.loadA 2 t6 (fun t20 w =>
  M.store 2 t4 t20 (fun _ w =>
  M.loadA 2 t4 (fun r0 w => R (.tuple #[r0, (Value.int IntKind.i64 1)]) w) w) w) w)) w) w) w) w) w) w) w) w) w
theorem ok12 (x0 x1 : Value) (R : Kt) (w : World) (h : sh12 x0 x1 R w) : Ret Tryz.prog 12 #[x0, x1] w R :=
  ret_mk <| calls_of_comp mixed (c := Tryz.f12.body.getD .skip) (args := [x0, x1]) (rs := [(ResultVar.cell 4 47), (ResultVar.tmp 5)]) (Ann.seq Ann.text (Ann.seq Ann.text (Ann.seq (Ann.seq Ann.text (Ann.cond (Ann.seq Ann.text Ann.leaf) Ann.leaf)) (Ann.seq Ann.text Ann.leaf))))
    Tryz.func12 (by kernel_rfl) (by kernel_rfl)
    (Eq.mp (by kernel_rfl) h)
def sh14 (x0 x1 x2 x3 : Value) (R : Kt) (w : World) : Prop :=
  M.new 47 (Value.cells x0) (fun t4 w =>
  M.loadA 2 t4 (fun t12 w =>
  M.call Tryz.prog 36 #[t12, x1] (fun t14 w =>
  M.extract 0 t14 (fun t15 w =>
  M.extract 1 t14 (fun t16 w =>
  M.len x1 (fun t18 w =>
  M.bin .neq t18 x2 (fun t20 w =>
  M.gd t20 false (fun k w => k t16 w) (fun t22 w =>
  M.gd t20 false (fun k w => M.not t22 k w) (fun t23 w =>
  M.pick t20 (Value.bool true) t23 (fun t24 w =>
  M.gd t24 false (fun k w => k t15 w) (fun t26 w =>
  M.gd t24 false (fun k w => k x2 w) (fun t27 w =>
  M.gd t24 false (fun k w => k x3 w) (fun t28 w =>
  M.gd t24 false (fun k w => M.call Tryz.prog 37 #[t27, t28] k w) (fun t29 w =>
  M.gd t24 false (fun k w => M.bin .neq t26 t29 k w) (fun t30 w =>
  M.pick t24 (Value.bool true) t30 (fun t31 w =>
  M.cond t31
  (R (Value.int IntKind.i64 0) w)
  (R (Value.int IntKind.i64 1) w)) w) w) w) w) w) w) w) w) w) w) w) w) w) w) w) w
theorem ok14 (x0 x1 x2 x3 : Value) (R : Kt) (w : World) (h : sh14 x0 x1 x2 x3 R w) : Ret Tryz.prog 14 #[x0, x1, x2, x3] w R :=
  ret_mk <| calls_of_comp mixed (c := Tryz.f14.body.getD .skip) (args := [x0, x1, x2, x3]) (rs := [(ResultVar.tmp 8)]) (Ann.seq Ann.text (Ann.seq Ann.text (Ann.seq (Ann.seq Ann.text (Ann.cond (Ann.seq Ann.text Ann.leaf) Ann.leaf)) (Ann.seq Ann.text Ann.leaf))))
    Tryz.func14 (by kernel_rfl) (by kernel_rfl)
    (Eq.mp (by kernel_rfl) h)
theorem wrap_u64 {n : Int} (h0 : 0 ≤ n) (h1 : n < 18446744073709551616) : IntKind.u64.wrap n = n := by
  have e : IntKind.u64.wrap n = n % 18446744073709551616 := by
    unfold IntKind.wrap
    simp [IntKind.bits, IntKind.signed]
  rw [e]
  omega
theorem M.toU_i {k : Kt} {w : World} {d : IntKind} {n : Int} (h0 : 0 ≤ n) (h1 : n < 18446744073709551616) (h : k (.int .u64 n) w) : M.conv .u64 (.int d n) k w := by
  unfold M.conv
  simp only [wrap_u64 h0 h1]; exact h
section
variable {w : World} {G : Nat → Prop} {g : Nat} {D : List GK}
theorem gvars_ret (h : GaO w G g D) : Ret Tryz.prog 33 #[ptr g] w (fun r w' => r = vi (D.length : Int) ∧ w' = w) := by
  obtain ⟨kv, ⟨cv, mb, us, h1, _⟩, _⟩ := h
  refine ok33 _ _ _ ?_
  unfold sh33
  (repeat (first|refine jb ?_|refine jc ?_|refine jp ?_|refine jt ?_|refine jN (by assumption) rfl ?_))
  exact ⟨rfl, rfl⟩
theorem gclauses_ret (h : GaO w G g D) (hD : D.length ≤ 100000000) : Ret Tryz.prog 34 #[ptr g] w (fun r w' => LL w' (fun _ => True) r (clsD D) ∧ Keep w w' No) := by
  obtain ⟨kv, ⟨cv, mb, us, h1, h2, h3, h4, _⟩, _⟩ := h
  have hcl := clsD_len D
  obtain ⟨A, c, rfl, hr, _⟩ := GC.row2 h2 (by omega)
  refine ok34 _ _ _ ?_
  unfold sh34
  (repeat (first|refine jb ?_|refine jc ?_|refine jp ?_|refine jt ?_|refine jN (by assumption) rfl ?_))
  have hone : ∀ y ∈ us, y.oneCell' = true := fun y hy => by
    obtain ⟨k, hk⟩ := List.mem_iff_getElem?.1 hy
    have hlt := (List.getElem?_eq_some_iff.1 hk).1
    obtain ⟨u, u1, A', c', rfl, _⟩ := h4 k _ (List.getElem?_eq_getElem (by omega))
    rw [hk] at u1
    rw [Option.some.inj u1]; rfl
  refine M.append_i (L := fun _ => False) (n := 0) (l := []) (sz := 1) (GC.nil w _ 1) hr (by simp) hone rfl (by omega) (by omega) (fun v w1 g1 k1 => ?_)
  have k1 := k1.mono (T := No) (fun _ _ h => h)
  obtain ⟨A1, c1, rfl, hr1, hc1⟩ := GC.row2 g1 (by omega)
  refine ⟨⟨A1, c1, us, by rw [Nat.zero_add, h3], ⟨by simpa using hr1.mono (fun _ _ _ => trivial), h3, fun i c hc => ?_⟩, by omega⟩, k1⟩
  obtain ⟨u, u1, u2⟩ := h4 i c hc
  exact ⟨u, u1, (u2.keep k1 (fun _ _ _ h => h)).mono (fun _ _ _ => trivial)⟩
end
theorem or_bit {x i : Nat} (hx : x < 2 ^ i) : x ||| 2 ^ i = x + 2 ^ i := by
  have := Nat.two_pow_add_eq_or_of_lt hx 1
  rw [Nat.mul_one] at this
  rw [Nat.or_comm, ← this, Nat.add_comm]
section
variable {w : World} {E : Nat → Prop} {v : Value} {K I : List Bool}
set_option maxHeartbeats 1000000 in
theorem vword_ret {E2 : Nat → Prop} {rv' : Value} {row : List Int} (h : VO w E v K I) (hl : K.length ≤ 1000000000) (hr : LV vi w E2 rv' row) (hrl : row.length ≤ 64) (hk : ∀ l ∈ row, fitK K l ∧ knL K l = true) :
    Ret Tryz.prog 36 #[v, rv'] w (fun r w' => r = .tuple #[vw (BitVec.ofNat 64 (nvB (row.map (lvl I)))), .bool true] ∧ Keep w w' No) := by
  obtain ⟨va, vbb, rfl, h1, h2, h3⟩ := id h
  obtain ⟨A, ca, rfl, _, _⟩ := id h1
  obtain ⟨Bq, cb, rfl, _, _⟩ := id h2
  obtain ⟨C, cc, rfl, hrc, _⟩ := id hr
  refine ok36 _ _ _ _ ?_
  unfold sh36
  refine M.new_i (l := [.slice A K.length ca, .slice Bq I.length cb]) (fun w1 b1 k1 s1 => ?_)
  refine M.loop_i (σ := Nat) (fun i vals w' => vals = [vw (BitVec.ofNat 64 (nvB ((row.take i).map (lvl I)))), vi i] ∧ i ≤ row.length ∧ Keep w1 w' No) (fun i => row.length - i) 0 ⟨rfl, by omega, Keep.refl _ _⟩ ?_
  rintro i vals w2 Kk ⟨rfl, hi, k2⟩ hK _
  simp only [List.getD_cons_zero, List.getD_cons_succ]
  have k02 := k1.trans k2 (fun _ _ h => h)
  have b2 := b1.keep k2 (fun h => h)
  have hrc2 := hrc.keep k02 (fun _ _ _ h => h)
  by_cases hlt : i < row.length
  · obtain ⟨y, hy⟩ : ∃ y, row[i]? = some y := ⟨_, List.getElem?_eq_getElem hlt⟩
    obtain ⟨hfy, hky⟩ := hk y (List.mem_of_getElem? hy)
    have hlv := nvB_lt ((row.take i).map (lvl I))
    rw [List.length_map, List.length_take, Nat.min_eq_left (by omega)] at hlv
    have htk : nvB ((row.take (i + 1)).map (lvl I)) = nvB ((row.take i).map (lvl I)) + 2 ^ i * (lvl I y).toNat := by
      rw [List.take_add_one, hy, List.map_append, nvB_app, List.length_map, List.length_take, Nat.min_eq_left (by omega)]
      simp [nvB]
    refine M.len_i ?_
    refine M.lss_t (by omega) ?_
    refine M.gd_tt ?_
    refine M.gd_tt ?_
    refine M.lss_t (by omega) ?_
    (refine jk ?_)
    refine M.cond_t ?_
    refine M.share_n ?_
    refine M.draw_i ?_
    have kd := Keep.drew w2 No
    have b3 := b2.keep kd (fun h => h)
    have hrc3 := hrc2.keep kd (fun _ _ _ h => h)
    have k03 := k02.trans kd (fun _ _ h => h)
    refine M.loadAll_i b3 rfl ?_
    refine M.idxLV_i hrc3 rfl (by omega) (by omega) (x := y) (by simpa using hy) (fun bb oo hA hcc => ?_)
    refine M.load_i hcc ?_
    refine M.call_i (vholds_ret (h.keep k03 (fun _ _ _ h => h)) hl hfy) ?_; rintro _ w4 ⟨rfl, k4⟩
    refine M.extract_i rfl ?_
    refine M.extract_i rfl ?_
    rw [hky]
    refine M.not_i ?_
    refine M.cond_f ?_
    have k14 := (k2.trans kd (fun _ _ h => h)).trans k4 (fun _ _ h => h)
    cases hv : lvl I y with
    | true =>
      refine M.cond_t ?_
      rw [hv] at htk
      have hc : M.conv .u64 (vi (i : Int)) (fun t34 w => M.shift .shl (Value.int IntKind.u64 1) t34 (fun t35 w => M.bin .or (vw (BitVec.ofNat 64 (nvB ((row.take i).map (lvl I))))) t35 (fun t36 w => ∀ _ : List Value, M.bin .add (vi i) (Value.int IntKind.i64 1) (fun t19 w => Kk [([t36] : List Value).getD 0 undef, t19] w) w) w) w) w4 := by
        refine M.toU_i (by omega) (by omega) ?_
        refine M.shlW_i (x := 1) ?_
        refine M.orW_i ?_
        intro _
        simp only [List.getD_cons_zero, List.getD_cons_succ]
        (repeat (refine jK ?_))
        refine hK (i + 1) _ _ (by omega) ⟨?_, by omega, k14⟩
        rw [htk]
        have hp : 2 ^ i < 2 ^ 64 := Nat.pow_lt_pow_right (by decide) (by omega)
        have e : BitVec.ofNat 64 (nvB ((row.take i).map (lvl I))) ||| ((1 : W64) <<< i) = BitVec.ofNat 64 (nvB ((row.take i).map (lvl I)) + 2 ^ i * true.toNat) := by
          apply BitVec.eq_of_toNat_eq
          rw [BitVec.toNat_or, BitVec.toNat_shiftLeft, Nat.shiftLeft_eq, BitVec.toNat_ofNat, BitVec.toNat_ofNat]
          have h1 : (1 : W64).toNat = 1 := rfl
          have h64 : 2 ^ (i + 1) ≤ 2 ^ 64 := Nat.pow_le_pow_right (by decide) (by omega)
          rw [Nat.pow_succ] at h64
          rw [h1, Nat.one_mul, Nat.mod_eq_of_lt (by omega), Nat.mod_eq_of_lt hp, or_bit hlv, show true.toNat = 1 from rfl, Nat.mul_one, Nat.mod_eq_of_lt (by omega)]
        rw [e]
        simp
      exact hc
    | false =>
      refine M.cond_f ?_
      rw [hv] at htk
      intro _
      simp only [List.getD_cons_zero, List.getD_cons_succ]
      (repeat (refine jK ?_))
      refine hK (i + 1) _ _ (by omega) ⟨?_, by omega, k14⟩
      rw [htk]; simp
  · have e : i = row.length := by omega
    subst e
    refine M.len_i ?_
    (repeat (first|refine jh ?_|refine jl ?_|refine jp ?_|refine jz ?_))
    rw [List.take_length]
    exact ⟨rfl, k02⟩
end
section
variable {w : World} {G : Nat → Prop} {g : Nat} {D : List GK}
structure Full (ι : Nat → Bool) (D : List GK) (K I : List Bool) : Prop where
  lk : K.length = D.length
  kn : ∀ m, m < D.length → K.getD m false = true
  iv : ∀ m, m < D.length → I.getD m false = (evD ι D).getD m false
theorem Full.lv {ι : Nat → Bool} {K I : List Bool} (h : Full ι D K I) {l : Int} (hl : Ft D l) : lvl I l = lv ι D l := by
  obtain ⟨h0, h1⟩ := hl
  unfold Go.Proofs.YtnbcglnefoinlaaGreat.lv lvl
  rw [h.iv _ (by omega)]
theorem Full.fit {ι : Nat → Bool} {K I : List Bool} (h : Full ι D K I) {l : Int} (hl : Ft D l) : fitK K l ∧ knL K l = true := by
  obtain ⟨h0, h1⟩ := hl
  exact ⟨⟨h0, by rw [h.lk]; exact h1⟩, h.kn _ (by omega)⟩
set_option maxHeartbeats 1000000 in
theorem close20_ret {ι : Nat → Bool} {H : List Int} {hv : Value} {E1 : Nat → Prop} (h : GaO w G g D) (hD : D.length ≤ 90000000) (hH : LV vi w E1 hv H) (hHl : H.length ≤ 1000000) (hf : ∀ l ∈ H, Ft D l ∧ lv ι D l = true) (hin : ∀ m : Nat, D[m]? = some .inp → (2 * (m : Int)) ∈ H ∨ nt (2 * (m : Int)) ∈ H) :
    Ret Tryz.prog 12 #[ptr g, hv] w (fun r w' => ∃ v K I, r = .tuple #[v, vi 1] ∧ VO w' (w.heap.size ≤ ·) v K I ∧ Full ι D K I ∧ Keep w w' No) := by
  have hwf := h.wf
  have hcl := clsD_len D
  obtain ⟨A, c, rfl, hrA, hcA⟩ := id hH
  refine ok12 _ _ _ _ ?_
  unfold sh12
  refine M.new_i (l := [.slice none 0 0, .slice none 0 0]) (fun w1 b1 k1 s1 => ?_)
  have h1 := h.keepN k1
  refine M.call_i (gvars_ret h1) ?_; rintro _ _ ⟨rfl, rfl⟩
  refine M.call_i (gclauses_ret h1 (by omega)) ?_; rintro cv w2 ⟨hcv, k2⟩
  have k02 := k1.trans k2 (fun _ _ h => h)
  have b2 := b1.keep k2 (fun h => h)
  have hcls : ∀ c ∈ clsD D, c.length ≤ 1000000 ∧ (∃ l ∈ c, lvl (evD ι D) l = true) ∧ ∀ l ∈ c, 0 ≤ l ∧ l < 2 * (D.length : Int) := fun c hc => by
    obtain ⟨q1, q2⟩ := cls_holds (i := ι) hwf hc
    obtain ⟨j, k, hj, hm⟩ := clsD_mem.1 hc
    refine ⟨?_, q1, q2⟩
    cases k <;> simp [GK.cls] at hm
    · subst hm; simp
    · rcases hm with rfl | rfl | rfl <;> simp
    · rcases hm with rfl | rfl | rfl | rfl <;> simp
    · rcases hm with rfl | rfl | rfl | rfl | rfl | rfl <;> simp
  refine M.call_i (vrun_ret (n := D.length) (B := evD ι D) (by omega) (hH.keep k02 (fun _ _ _ h => h)) hcv hHl (by omega) (evD_len ι D) (fun l hl => hf l hl) hcls) ?_; rintro _ w3 ⟨v, K, I, rfl, hvo, lK, hC, hrest, hkn, k3⟩
  refine M.extract_i (v := v) rfl ?_
  refine M.extract_i (v := .bool true) rfl ?_
  obtain ⟨va, vbb, rfl, h1a, h2a, h3a⟩ := id hvo
  obtain ⟨A1, c1, rfl, _, _⟩ := id h1a
  obtain ⟨A2, c2, rfl, _, _⟩ := id h2a
  have b3 := b2.keep k3 (fun h => h)
  refine M.new_i (l := [.slice none 0 0, .slice none 0 0]) (fun w4 b4 k4 s4 => ?_)
  refine M.storeAll_i b4 rfl rfl (by simp; exact ⟨rfl, rfl⟩) (fun w5 b5 k5 s5 => ?_)
  have q3 := k3.size
  have q2 := k02.size
  have k45 : Keep w3 w5 No := k4.trans k5 (fun x hx e => by have e : x = w3.heap.size := e; omega)
  have b6 := b3.keep k45 (fun h => h)
  have hb1 := b1.lt
  refine M.not_i ?_
  refine M.cond_f ?_
  refine M.loadAll_i b5 rfl ?_
  refine M.storeAll_i b6 rfl rfl (by simp; exact ⟨rfl, rfl⟩) (fun w7 b7 k7 s7 => ?_)
  refine M.loadAll_i b7 rfl ?_
  have hall := sat_all hwf hC (fun m hm => by
    rcases hin m hm with hm2 | hm2
    · have := hkn _ hm2
      unfold knL at this
      rwa [show (2 * (m : Int) / 2).toNat = m by omega] at this
    · have := hkn _ hm2
      rw [knL_nt] at this
      unfold knL at this
      rwa [show (2 * (m : Int) / 2).toNat = m by omega] at this) hrest
  have hb3 := b2.lt
  refine ⟨_, K, I, rfl, ((hvo.keep k45 (fun _ _ _ h => h)).keep k7 (fun x _ hx e => by have e : x = w.heap.size := e; have hx : w2.heap.size ≤ x := hx; omega)).mono (fun x _ hx => by have hx : w2.heap.size ≤ x := hx; show w.heap.size ≤ x; omega), ⟨lK, hall, fun m hm => hC m (hall m hm)⟩, ((k02.trans k3 (fun _ _ h => h)).trans k45 (fun _ _ h => h)).trans k7 (fun x hx e => by have e : x = w.heap.size := e; omega)⟩
theorem is20_ret {ι : Nat → Bool} {E1 E2 : Nat → Prop} {v rw' : Value} {K I : List Bool} {row : List Int} {n : Nat} {x : W64} (hv : VO w E1 v K I) (hF : Full ι D K I) (hD : D.length ≤ 90000000) (hr : LV vi w E2 rw' row) (hf : RF D row) (hl : row.length = n) (hn : 1 ≤ n ∧ n ≤ 64) (hx : rv ι D row = (cutW n x).toNat) :
    Ret Tryz.prog 14 #[v, rw', vi n, vw x] w (fun r w' => r = vi 1 ∧ Keep w w' No) := by
  obtain ⟨va, vbb, rfl, h1a, h2a, h3a⟩ := id hv
  obtain ⟨A1, c1, rfl, _, _⟩ := id h1a
  obtain ⟨A2, c2, rfl, _, _⟩ := id h2a
  obtain ⟨C, cc, rfl, hrc, _⟩ := id hr
  have lK := hF.lk
  refine ok14 _ _ _ _ _ _ ?_
  unfold sh14
  refine M.new_i (l := [.slice A1 K.length c1, .slice A2 I.length c2]) (fun w1 b1 k1 s1 => ?_)
  refine M.loadAll_i b1 rfl ?_
  refine M.call_i (vword_ret (hv.keep k1 (fun _ _ _ h => h)) (by omega) (hr.keep k1 (fun _ _ _ h => h)) (by omega) (fun l hl => hF.fit (hf l hl))) ?_; rintro _ w2 ⟨rfl, k2⟩
  refine M.extract_i (v := vw (BitVec.ofNat 64 (nvB (row.map (lvl I))))) rfl ?_
  refine M.extract_i (v := .bool true) rfl ?_
  have e : BitVec.ofNat 64 (nvB (row.map (lvl I))) = cutW n x := by
    have e1 : nvB (row.map (lvl I)) = rv ι D row := by
      unfold rv
      rw [List.map_congr_left (fun l hl => hF.lv (hf l hl))]
    rw [e1, hx]
    exact BitVec.ofNat_toNat _ _ |>.trans (by simp)
  rw [e]
  refine M.len_i ?_
  refine M.neq_f (by omega) ?_
  (repeat (first|refine jg ?_|refine jl ?_|refine jm ?_))
  refine M.call_i (rcut_ret (n : Int) x _) ?_; rintro _ w3 ⟨rfl, k3⟩
  refine M.gd_ff ?_
  refine M.neqW_i ?_
  rw [decide_eq_false (fun hh => hh rfl)]
  (repeat (first|refine jl ?_|refine jp ?_))
  subst k3
  exact ⟨rfl, k1.trans k2 (fun _ _ h => h)⟩
end
end Go.Proofs.YtnbcglnefoinlaaGreat
namespace Go.Proofs.YtnbcglnefoinlaaGreat
open Go.Mw Go.Maps Go.MapKept
set_option linter.unusedVariables false
set_option linter.unusedSimpArgs false
set_option maxRecDepth 100000
attribute [local irreducible] M.val M.unit M.next M.pick M.new M.nilCheck M.load1 M.loadA M.store M.fieldAddr M.indexSl M.indexArr M.slice M.makeSlice M.buildSlice M.len M.lenS M.cap M.append M.extract M.conv M.not M.neg M.bin M.shift M.eqB M.eqNil M.scat M.call M.callv M.gd M.share M.cond M.loop M.draw pureW readW Ret
theorem inW_lt (env : List W64) (i : Int) {n : Nat} (h : 1 ≤ n ∧ n ≤ 64) : (inW env i n).toNat < 2 ^ n := by
  unfold inW
  split
  · exact cut_lt h.1 h.2 _
  · exact Nat.two_pow_pos n
theorem cmp_ex {N : List Nd} {D : List GK} {R I : Int → Option (List Int)} (h : PF N D R I) (hwf : WfD D) (hG : GoodN N) (env : List W64) :
    ∃ ι, Cmp ι D I env ∧ ∀ i row (k : Nat) l, I i = some row → row[k]? = some l → lv ι D l = (inW env i row.length).getLsbD k := by
  have key : ∃ ι : Nat → Bool, ∀ m, ι m = true ↔ ∃ i row k, I i = some row ∧ row[k]? = some (2 * (m : Int)) ∧ (inW env i row.length).getLsbD k = true := by
    refine ⟨fun m => @decide (∃ i row k, I i = some row ∧ row[k]? = some (2 * (m : Int)) ∧ (inW env i row.length).getLsbD k = true) (Classical.propDecidable _), fun m => ?_⟩
    exact @decide_eq_true_iff _ (Classical.propDecidable _)
  obtain ⟨ι, hι⟩ := key
  have bit : ∀ i row (k : Nat) l, I i = some row → row[k]? = some l → lv ι D l = (inW env i row.length).getLsbD k := fun i row k l hi hl => by
    obtain ⟨m, e, hm⟩ := (h.ins i row hi).2.2.2 l (List.mem_of_getElem? hl)
    subst e
    rw [lv_inp hwf hm]
    rw [Bool.eq_iff_iff, hι m]
    constructor
    · rintro ⟨i2, row2, k2, q1, q2, q3⟩
      have hii : i2 = i := by
        apply Classical.byContradiction
        intro hne
        exact h.dj i2 i row2 row q1 hi hne _ (List.mem_of_getElem? q2) (List.mem_of_getElem? hl)
      subst hii
      rw [hi] at q1
      obtain rfl := Option.some.inj q1
      have hkk : k2 = k := nodup_idx (h.nd _ _ hi) q2 hl
      rw [← hkk]; exact q3
    · intro hb
      exact ⟨i, row, k, hi, hl, hb⟩
  refine ⟨ι, fun i row hi => ?_, bit⟩
  obtain ⟨_, _, ⟨n, hn, _, _, hw⟩, _⟩ := h.ins i row hi
  obtain ⟨j, hj⟩ := List.mem_iff_getElem?.1 hn
  have hw64 := (hG j n hj).1
  have hlt := inW_lt env i (n := row.length) ⟨by omega, by omega⟩
  apply Nat.eq_of_testBit_eq
  intro k
  by_cases hk : k < row.length
  · rw [rv_bit ι D row k hk, bit i row k row[k] hi (List.getElem?_eq_getElem hk), BitVec.testBit_toNat]
  · rw [Nat.testBit_lt_two_pow (Nat.lt_of_lt_of_le hlt (Nat.pow_le_pow_right (by decide) (by omega)))]
    have := rv_lt ι D row
    exact Nat.testBit_lt_two_pow (Nat.lt_of_lt_of_le this (Nat.pow_le_pow_right (by decide) (by omega)))
section
variable {Z : Nat → Prop} {w : World} {F : Nat → Prop} {p : Nat} {N : List Nd} {most : Int} {G : Nat → Prop} {g : Nat} {D : List GK} {bl r1 r2 : Nat} {R I : Int → Option (List Int)}
theorem bits_bad {id : Int} (h : BS Z w F p N most G g D bl r1 r2 R I) (hid : isN N id = false) :
    Ret Tryz.prog 9 #[ptr bl, vi id] w (fun r w' => r = .tuple #[.slice none 0 0, vi 11] ∧ Keep w w' No) := by
  have hblk := h.blk
  refine ok9 _ _ _ _ ?_
  unfold sh9
  (repeat (first|refine jb ?_|refine jc ?_|refine jp ?_|refine jt ?_|refine jN (by assumption) rfl ?_))
  refine M.call_i (h.dag.node id) ?_; rintro _ w1 ⟨rfl, k1⟩
  rw [hid]
  refine M.extract_i rfl ?_
  refine M.extract_i rfl ?_
  refine M.new_i (l := zeroNd.cells) (fun w2 b2 k2 s2 => ?_)
  refine M.storeAll_i b2 rfl rfl (cells_one _) (fun w3 b3 k3 s3 => ?_)
  (repeat (first|refine jn ?_|refine jo ?_))
  exact ⟨rfl, (k1.trans k2 (fun _ _ h => h)).trans k3 (fun x hx e => by have e : x = w1.heap.size := e; have := k1.size; omega)⟩
end
end Go.Proofs.YtnbcglnefoinlaaGreat
namespace Go.Proofs.YtnbcglnefoinlaaGreat
open Go.Mw Go.Maps Go.MapKept
set_option linter.unusedVariables false
set_option linter.unusedSimpArgs false
set_option maxRecDepth 100000
attribute [local irreducible] M.val M.unit M.next M.pick M.new M.nilCheck M.load1 M.loadA M.store M.fieldAddr M.indexSl M.indexArr M.slice M.makeSlice M.buildSlice M.len M.lenS M.cap M.append M.extract M.conv M.not M.neg M.bin M.shift M.eqB M.eqNil M.scat M.call M.callv M.gd M.share M.cond M.loop M.draw pureW readW Ret
def sh4 (R : Kt) (w : World) : Prop :=
  M.call Tryz.prog 16 #[(Value.int IntKind.i64 20)] (fun t22 w =>
  M.call Tryz.prog 6 #[] (fun t23 w =>
  M.eqNil 0 false t22 (fun t25 w =>
  M.gd t25 false (fun k w => k t23 w) (fun t27 w =>
  M.gd t25 false (fun k w => M.eqNil 0 false t27 k w) (fun t28 w =>
  M.pick t25 (Value.bool true) t28 (fun t29 w =>
  M.cond t29
  (R (Value.bool false) w)
  (M.call Tryz.prog 8 #[t22, t23] (fun t32 w =>
  M.call Tryz.prog 17 #[t22, (Value.int IntKind.i64 4), (Value.int IntKind.i64 7)] (fun t35 w =>
  M.extract 0 t35 (fun t36 w =>
  M.extract 1 t35 (fun t37 w =>
  M.call Tryz.prog 17 #[t22, (Value.int IntKind.i64 4), (Value.int IntKind.i64 9)] (fun t40 w =>
  M.extract 0 t40 (fun t41 w =>
  M.extract 1 t40 (fun t42 w =>
  M.call Tryz.prog 18 #[t22, (Value.int IntKind.i64 1), t36, t36] (fun t47 w =>
  M.extract 0 t47 (fun t48 w =>
  M.extract 1 t47 (fun t49 w =>
  M.call Tryz.prog 19 #[t22, (Value.int IntKind.i64 4), (Value.int IntKind.u64 3)] (fun t52 w =>
  M.extract 0 t52 (fun t53 w =>
  M.extract 1 t52 (fun t54 w =>
  M.call Tryz.prog 9 #[t32, t53] (fun t58 w =>
  M.extract 0 t58 (fun t59 w =>
  M.extract 1 t58 (fun t60 w =>
  M.call Tryz.prog 20 #[t32, (Value.int IntKind.i64 7)] (fun t62 w =>
  M.call Tryz.prog 9 #[t32, t48] (fun t66 w =>
  M.extract 0 t66 (fun t67 w =>
  M.extract 1 t66 (fun t68 w =>
  M.call Tryz.prog 20 #[t32, (Value.int IntKind.i64 7)] (fun t70 w =>
  M.call Tryz.prog 9 #[t32, (Value.int IntKind.i64 99)] (fun t73 w =>
  M.extract 0 t73 (fun t74 w =>
  M.extract 1 t73 (fun t75 w =>
  M.len t70 (fun t77 w =>
  M.bin .neq t77 (Value.int IntKind.i64 4) (fun t78 w =>
  M.cond t78
  (R (Value.bool false) w)
  (M.share (fun K1 w =>
  M.draw (fun w =>
  M.indexSl 1 t70 (Value.int IntKind.i64 0) (fun t82 w =>
  M.load1 t82 (fun t83 w =>
  M.indexSl 1 t70 (Value.int IntKind.i64 1) (fun t85 w =>
  M.load1 t85 (fun t86 w =>
  M.bin .xor t86 (Value.int IntKind.i64 1) (fun t87 w =>
  M.indexSl 1 t70 (Value.int IntKind.i64 2) (fun t89 w =>
  M.load1 t89 (fun t90 w =>
  M.indexSl 1 t70 (Value.int IntKind.i64 3) (fun t92 w =>
  M.load1 t92 (fun t93 w =>
  M.bin .xor t93 (Value.int IntKind.i64 1) (fun t94 w =>
  ((M.buildSlice 3 1 #[.int .i64 0] 4 [(0, t83), (1, t87), (2, t90), (3, t94)] (fun t95 w =>
  ((M.load1 t92 (fun v' _ => v' = t93) w) ∧ ((M.load1 t85 (fun v' _ => v' = t86) w) ∧ ((M.call Tryz.prog 12 #[t23, t95] (fun t96 w =>
  ((M.load1 t92 (fun v' _ => v' = t93) w) ∧ ((M.load1 t85 (fun v' _ => v' = t86) w) ∧ M.extract 0 t96 (fun t97 w =>
  M.extract 1 t96 (fun t98 w =>
  M.new 47 #[.slice none 0 0, .slice none 0 0] (fun t20 w =>
  ((M.load1 t92 (fun v' _ => v' = t93) w) ∧ ((M.load1 t85 (fun v' _ => v' = t86) w) ∧ M.store 2 t20 t97 (fun _ w =>
  K1 [t20, t98] w) w))) w) w) w))) w) ∧
   (M.new 47 #[.slice none 0 0, .slice none 0 0] (fun t20_2 w =>
  ((M.load1 t92 (fun v' _ => v' = t93) w) ∧ ((M.load1 t85 (fun v' _ => v' = t86) w) ∧ M.call Tryz.prog 12 #[t23, t95] (fun t96_2 w =>
  ((M.load1 t92 (fun v' _ => v' = t93) w) ∧ ((M.load1 t85 (fun v' _ => v' = t86) w) ∧ M.extract 0 t96_2 (fun t97_2 w =>
  M.extract 1 t96_2 (fun t98_2 w =>
  M.store 2 t20_2 t97_2 (fun _ w =>
  K1 [t20_2, t98_2] w) w) w) w))) w))) w))))) w) ∧
   (M.new 47 #[.slice none 0 0, .slice none 0 0] (fun t20_3 w =>
  ((M.load1 t92 (fun v' _ => v' = t93) w) ∧ ((M.load1 t89 (fun v' _ => v' = t90) w) ∧ ((M.load1 t85 (fun v' _ => v' = t86) w) ∧ ((M.load1 t82 (fun v' _ => v' = t83) w) ∧ M.buildSlice 3 1 #[.int .i64 0] 4 [(0, t83), (1, t87), (2, t90), (3, t94)] (fun t95_2 w =>
  ((M.load1 t92 (fun v' _ => v' = t93) w) ∧ ((M.load1 t85 (fun v' _ => v' = t86) w) ∧ M.call Tryz.prog 12 #[t23, t95_2] (fun t96_3 w =>
  ((M.load1 t92 (fun v' _ => v' = t93) w) ∧ ((M.load1 t85 (fun v' _ => v' = t86) w) ∧ M.extract 0 t96_3 (fun t97_3 w =>
  M.extract 1 t96_3 (fun t98_3 w =>
  M.store 2 t20_3 t97_3 (fun _ w =>
  K1 [t20_3, t98_3] w) w) w) w))) w))) w))))) w))) w) w) w) w) w) w) w) w) w) w) w) (fun s1 w => ∀ _ : List Value,
  M.eqNil 0 true t32 (fun t100 w =>
  M.gd t100 true (fun k w => k t59 w) (fun t102 w =>
  M.gd t100 true (fun k w => M.len t102 k w) (fun t103 w =>
  M.gd t100 true (fun k w => M.bin .eql t103 (Value.int IntKind.i64 4) k w) (fun t104 w =>
  M.pick t100 t104 (Value.bool false) (fun t105 w =>
  M.gd t105 true (fun k w => k t60 w) (fun t107 w =>
  M.gd t105 true (fun k w => M.bin .eql t107 (Value.int IntKind.i64 0) k w) (fun t108 w =>
  M.pick t105 t108 (Value.bool false) (fun t109 w =>
  M.gd t109 true (fun k w => k t62 w) (fun t111 w =>
  M.gd t109 true (fun k w => M.len t111 k w) (fun t112 w =>
  M.gd t109 true (fun k w => M.bin .eql t112 (Value.int IntKind.i64 0) k w) (fun t113 w =>
  M.pick t109 t113 (Value.bool false) (fun t114 w =>
  M.gd t114 true (fun k w => k t68 w) (fun t116 w =>
  M.gd t114 true (fun k w => M.bin .eql t116 (Value.int IntKind.i64 0) k w) (fun t117 w =>
  M.pick t114 t117 (Value.bool false) (fun t118 w =>
  M.gd t118 true (fun k w => k t75 w) (fun t120 w =>
  M.gd t118 true (fun k w => M.bin .eql t120 (Value.int IntKind.i64 11) k w) (fun t121 w =>
  M.pick t118 t121 (Value.bool false) (fun t122 w =>
  M.gd t122 true (fun k w => k (s1.getD 1 undef) w) (fun t124 w =>
  M.gd t122 true (fun k w => M.bin .eql t124 (Value.int IntKind.i64 1) k w) (fun t125 w =>
  M.pick t122 t125 (Value.bool false) (fun t126 w =>
  M.gd t126 true (fun k w => M.loadA 2 (s1.getD 0 undef) k w) (fun t128 w =>
  M.gd t126 true (fun k w => k t67 w) (fun t129 w =>
  M.gd t126 true (fun k w => M.call Tryz.prog 14 #[t128, t129, (Value.int IntKind.i64 4), (Value.int IntKind.u64 10)] k w) (fun t130 w =>
  M.gd t126 true (fun k w => M.bin .eql t130 (Value.int IntKind.i64 1) k w) (fun t131 w =>
  M.pick t126 t131 (Value.bool false) (fun t132 w =>
  M.gd t132 true (fun k w => M.loadA 2 (s1.getD 0 undef) k w) (fun t134 w =>
  M.gd t132 true (fun k w => k t59 w) (fun t135 w =>
  M.gd t132 true (fun k w => M.call Tryz.prog 14 #[t134, t135, (Value.int IntKind.i64 4), (Value.int IntKind.u64 3)] k w) (fun t136 w =>
  M.gd t132 true (fun k w => M.bin .eql t136 (Value.int IntKind.i64 1) k w) (fun t137 w =>
  M.pick t132 t137 (Value.bool false) (fun t138 w =>
  M.gd t138 true (fun k w => k t32 w) (fun t140 w =>
  M.gd t138 true (fun k w => M.call Tryz.prog 21 #[t140] k w) (fun t141 w =>
  M.gd t138 true (fun k w => M.buildSlice 3 1 #[.int .i64 0] 1 [(0, (Value.int IntKind.i64 7))] k w) (fun t142 w =>
  M.gd t138 true (fun k w => M.call Tryz.prog 10 #[t141, t142] k w) (fun t143 w =>
  M.pick t138 t143 (Value.bool false) (fun t144 w =>
  M.gd t144 true (fun k w => k t32 w) (fun t146 w =>
  M.gd t144 true (fun k w => M.call Tryz.prog 20 #[t146, (Value.int IntKind.i64 9)] k w) (fun t147 w =>
  M.gd t144 true (fun k w => M.len t147 k w) (fun t148 w =>
  M.gd t144 true (fun k w => M.bin .eql t148 (Value.int IntKind.i64 0) k w) (fun t149 w =>
  M.pick t144 t149 (Value.bool false) (fun t150 w =>
  M.gd t150 true (fun k w => k t41 w) (fun t152 w =>
  M.gd t150 true (fun k w => k t36 w) (fun t153 w =>
  M.gd t150 true (fun k w => M.bin .gtr t152 t153 k w) (fun t154 w =>
  M.pick t150 t154 (Value.bool false) (fun t155 w =>
  R t155 w) w) w) w) w) w) w) w) w) w) w) w) w) w) w) w) w) w) w) w) w) w) w) w) w) w) w) w) w) w) w) w) w) w) w) w) w) w) w) w) w) w) w) w) w) w) w)) w) w) w) w) w) w) w) w) w) w) w) w) w) w) w) w) w) w) w) w) w) w) w) w) w) w)) w) w) w) w) w) w
theorem ok4 (R : Kt) (w : World) (h : sh4 R w) : Ret Tryz.prog 4 #[] w R :=
  ret_mk <| calls_of_comp mixed (c := Tryz.f4.body.getD .skip) (args := []) (rs := [(ResultVar.tmp 0)]) (Ann.seq Ann.text (Ann.seq Ann.text (Ann.seq Ann.text (Ann.seq (Ann.seq Ann.text (Ann.cond (Ann.seq Ann.text Ann.leaf) Ann.leaf)) (Ann.seq Ann.text (Ann.seq Ann.text (Ann.seq Ann.text (Ann.seq Ann.text (Ann.seq Ann.text (Ann.seq Ann.text (Ann.seq Ann.text (Ann.seq Ann.text (Ann.seq Ann.text (Ann.seq Ann.text (Ann.seq (Ann.seq Ann.text (Ann.cond (Ann.seq Ann.text Ann.leaf) Ann.leaf)) (Ann.join [20, 21] [79, 80, 81, 82, 83, 84, 85, 86, 87, 88, 89, 90, 91, 92, 93, 94, 95, 96, 97, 98] (Ann.draw (Sch.take 0 (Sch.take 1 (Sch.take 2 (Sch.take 3 (Sch.take 4 (Sch.take 5 (Sch.take 6 (Sch.take 7 (Sch.take 8 (Sch.take 9 (Sch.take 10 (Sch.take 11 (Sch.take 12 (Sch.take 13 (Sch.take 14 (Sch.two 15 20 (Sch.two 16 20 (Sch.take 17 (Sch.take 18 (Sch.take 19 (Sch.one 20 (Sch.one 21 (Sch.take 22 Sch.done)))))) (Sch.one 16 (Sch.take 17 (Sch.take 18 (Sch.take 19 (Sch.one 21 (Sch.take 22 Sch.done))))))) (Sch.one 15 (Sch.one 16 (Sch.take 17 (Sch.take 18 (Sch.take 19 (Sch.one 21 (Sch.take 22 Sch.done)))))))))))))))))))))))) (Ann.seq Ann.text Ann.leaf)))))))))))))))))
    Tryz.func4 (by kernel_rfl) (by kernel_rfl)
    (Eq.mp (by kernel_rfl) h)
section
variable {Z : Nat → Prop} {w : World} {F : Nat → Prop} {p : Nat} {N : List Nd} {most : Int} {G : Nat → Prop} {g : Nat} {D : List GK} {bl r1 r2 : Nat} {R I : Int → Option (List Int)}
theorem BT.few (h : BT Z w F p N most G g D bl r1 r2 R I) (hN : N.length ≤ 1000) : D.length ≤ 41000001 := by
  obtain ⟨held, h1, h2, h3⟩ := h.lb
  have := nodup_range h1 (fun x hx => by
    obtain ⟨row, hr⟩ := Option.isSome_iff_exists.1 ((h2 x).1 hx)
    exact (h.pf.rows x row hr).1)
  omega
theorem BT.keepN {w' : World} (h : BT Z w F p N most G g D bl r1 r2 R I) (k : Keep w w' No) : BT Z w' F p N most G g D bl r1 r2 R I := ⟨h.bs.keepN k, h.pf, h.lb⟩
theorem BT.redag {w' : World} {F' : Nat → Prop} {N' : List Nd} {most' : Int} (h : BT Z w F p N most G g [.tru] bl r1 r2 (fun _ => none) (fun _ => none)) (hbl : ¬ F bl) (hd : DagO w' F' p N' most') (sub : ∀ x, x < w.heap.size → F' x → F x) (k : Keep w w' F) :
    BT Z w' F' p N' most' G g [.tru] bl r1 r2 (fun _ => none) (fun _ => none) := by
  obtain ⟨kv1, a1, a2⟩ := h.bs.m1
  obtain ⟨kv2, b1, b2⟩ := h.bs.m2
  have sF := h.bs.sF
  have hga := h.bs.ga.lt
  refine ⟨⟨hd, h.bs.ga.keep k (fun x hx hF => (sF x hF).1 hx), h.bs.blk.keep k hbl, ⟨kv1, a1.keep k (fun hF => (sF _ hF).2.1 rfl), fun x => ⟨(a2 x).1, fun row hr => (by cases hr)⟩⟩, ⟨kv2, b1.keep k (fun hF => (sF _ hF).2.2 rfl), fun x => ⟨(b2 x).1, fun row hr => (by cases hr)⟩⟩, fun x hx => ?_, h.bs.sG, h.bs.ne, fun x hx => h.bs.zn x (Nat.le_trans k.size hx)⟩, ⟨fun id row h => (by cases h), fun i n h => absurd rfl h, fun i row h => (by cases h), h.pf.all, fun i row h => (by cases h), fun i j ri rj h => (by cases h)⟩, h.lb⟩
  by_cases hlt : x < w.heap.size
  · exact sF x (sub x hlt hx)
  · exact ⟨fun hG => hlt (hga x hG), fun e => hlt (e ▸ a1.lt), fun e => hlt (e ▸ b1.lt)⟩
end
def yN : List Nd := [⟨21, 4, 7, 0, 0, 0⟩, ⟨21, 4, 9, 0, 0, 0⟩, ⟨1, 4, 0, 0, 0, 0⟩, ⟨20, 4, 0, 0, 0, 3⟩]
def yE : List W64 := [0, 0, 0, 0, 0, 0, 0, 5]
theorem yN_get {i : Nat} {n : Nd} (h : yN[i]? = some n) : (i = 0 ∧ n = ⟨21, 4, 7, 0, 0, 0⟩) ∨ (i = 1 ∧ n = ⟨21, 4, 9, 0, 0, 0⟩) ∨ (i = 2 ∧ n = ⟨1, 4, 0, 0, 0, 0⟩) ∨ (i = 3 ∧ n = ⟨20, 4, 0, 0, 0, 3⟩) := by
  unfold yN at h
  match i, h with
  | 0, h => simp at h; exact .inl ⟨rfl, h.symm⟩
  | 1, h => simp at h; exact .inr (.inl ⟨rfl, h.symm⟩)
  | 2, h => simp at h; exact .inr (.inr (.inl ⟨rfl, h.symm⟩))
  | 3, h => simp at h; exact .inr (.inr (.inr ⟨rfl, h.symm⟩))
  | i + 4, h => simp at h
theorem y_p3 (i : Nat) (n : Nd) (hi : (i : Int) = 3) (hn : yN[i]? = some n) (k : Int) (hk : k ∈ kidsN n) : k = 3 := by
  rcases yN_get hn with ⟨rfl, rfl⟩ | ⟨rfl, rfl⟩ | ⟨rfl, rfl⟩ | ⟨rfl, rfl⟩
  · omega
  · omega
  · omega
  · simp [kidsN] at hk
theorem y_p2 (i : Nat) (n : Nd) (hi : (i : Int) = 2 ∨ (i : Int) = 0) (hn : yN[i]? = some n) (k : Int) (hk : k ∈ kidsN n) : k = 2 ∨ k = 0 := by
  rcases yN_get hn with ⟨rfl, rfl⟩ | ⟨rfl, rfl⟩ | ⟨rfl, rfl⟩ | ⟨rfl, rfl⟩
  · simp [kidsN] at hk
  · omega
  · simp [kidsN] at hk; exact .inr hk
  · omega
theorem y_two : wordAt yN yE 2 = 10 ∧ wordAt yN yE 3 = 3 ∧ wordAt yN [] 2 = 0 ∧ inW yE 7 4 = 5 := ⟨by kernel_rfl, by kernel_rfl, by kernel_rfl, by kernel_rfl⟩
theorem four_of {α : Type} {l : List α} (h : l.length = 4) : ∃ a b c d, l = [a, b, c, d] := by
  match l, h with
  | [a, b, c, d], _ => exact ⟨a, b, c, d, rfl⟩
set_option maxHeartbeats 8000000 in
theorem awake23_ret (w : World) : Ret Tryz.prog 4 #[] w (fun v w' => v = .bool true ∧ Keep w w' No) := by
  have d1 : varN 20 [] 4 7 = (yN.take 1, 0, 0) := by kernel_rfl
  have d2 : varN 20 (yN.take 1) 4 9 = (yN.take 2, 1, 0) := by kernel_rfl
  have d3 : binaryN 20 (yN.take 2) 1 0 0 = (yN.take 3, 2, 0) := by kernel_rfl
  have d4 : constN 20 (yN.take 3) 4 3 = (yN, 3, 0) := by kernel_rfl
  refine ok4 _ _ ?_
  unfold sh4
  refine M.call_i (new_ret 20 w) ?_; rintro _ w1 ⟨F, p, rfl, hd1, hF1, k1⟩
  rw [if_neg (by omega)] at hd1
  refine M.call_i (gnew_ret w1) ?_; rintro _ w2 ⟨g, G, rfl, hg2, hG2, k2⟩
  (repeat (first|refine jg ?_|refine jl ?_|refine jp ?_|refine jt ?_))
  have hd2 := hd1.keepN k2
  have hFl : ∀ x, F x → x < w1.heap.size := fun x hx => hd1.lt hx
  refine M.call_i (bnew_ret hd2 hg2 (fun x hx hG => by have := hG2 x hG; have := hFl x hx; omega) (fun _ => True) (fun _ _ => trivial)) ?_; rintro _ w3 ⟨bl, r1, r2, rfl, hb3, l1, l2, l3, k3⟩
  have q1 := k1.size
  have q2 := k2.size
  have q3 := k3.size
  have hblt := hb3.bs.blk.lt
  have hrlt : r1 < w3.heap.size ∧ r2 < w3.heap.size := by
    obtain ⟨_, a1, _⟩ := hb3.bs.m1
    obtain ⟨_, b1, _⟩ := hb3.bs.m2
    exact ⟨a1.lt, b1.lt⟩
  have e4 := dvar_ret hb3.bs.dag 4 7
  rw [d1] at e4
  refine M.call_i (e4) ?_; rintro _ w4 ⟨F4, rfl, hd4, hF4, k4⟩
  refine M.extract_i (v := vi 0) rfl ?_
  refine M.extract_i (v := vi 0) rfl ?_
  have e5 := dvar_ret hd4 4 9
  rw [d2] at e5
  refine M.call_i (e5) ?_; rintro _ w5 ⟨F5, rfl, hd5, hF5, k5⟩
  refine M.extract_i (v := vi 1) rfl ?_
  refine M.extract_i (v := vi 0) rfl ?_
  have e6 := binary_ret hd5 1 0 0
  rw [d3] at e6
  refine M.call_i (e6) ?_; rintro _ w6 ⟨F6, rfl, hd6, hF6, k6⟩
  refine M.extract_i (v := vi 2) rfl ?_
  refine M.extract_i (v := vi 0) rfl ?_
  have e7 := const_ret hd6 4 3
  rw [d4] at e7
  refine M.call_i (e7) ?_; rintro _ w7 ⟨F7, rfl, hd7, hF7, k7⟩
  refine M.extract_i (v := vi 3) rfl ?_
  refine M.extract_i (v := vi 0) rfl ?_
  have q4 := k4.size
  have q5 := k5.size
  have q6 := k6.size
  have q7 := k7.size
  have s5 : ∀ x, x < w3.heap.size → F5 x → F x := fun x hx h => hF4 x hx (hF5 x (by omega) h)
  have s6 : ∀ x, x < w3.heap.size → F6 x → F x := fun x hx h => s5 x hx (hF6 x (by omega) h)
  have s7 : ∀ x, x < w3.heap.size → F7 x → F x := fun x hx h => s6 x hx (hF7 x (by omega) h)
  have k37 : Keep w3 w7 F := ((k4.trans k5 (fun x hx h => hF4 x hx h)).trans k6 (fun x hx h => s5 x hx h)).trans k7 (fun x hx h => s6 x hx h)
  have k07 : Keep w w7 No := ((k1.trans k2 (fun _ _ h => h)).trans k3 (fun _ _ h => h)).trans k37 (fun x hx h => by have := hF1 x h; omega)
  have q37 := k37.size
  have hb7 := hb3.redag (fun h => by have := hFl bl h; omega) hd7 s7 k37
  have hG7 := hb7.bs.ga.lt
  -- the constant
  refine M.call_i (bits_ret (P := fun x => x = 3) (id := 3) rfl y_p3 hb7 (by decide) (by decide)) ?_; rintro _ w8 ⟨G8, D8, R8, I8, rowk, vk, rfl, hvk, hrk, hb8, k8, sG8, mR8, mI8, in8⟩
  refine M.extract_i (v := vk) rfl ?_
  refine M.extract_i (v := vi 0) rfl ?_
  have q8 := k8.size
  have i8 : ∀ j, I8 j = none := fun j => by
    apply Classical.byContradiction
    intro hne
    rcases in8 j hne with h | ⟨i, n, hi, hn, h21, _⟩
    · exact h rfl
    · rcases yN_get hn with ⟨rfl, rfl⟩ | ⟨rfl, rfl⟩ | ⟨rfl, rfl⟩ | ⟨rfl, rfl⟩ <;> simp at hi h21
  have e9 := binp_ret hb8.bs hb8.pf 7
  rw [i8 7] at e9
  refine M.call_i (e9) ?_; rintro _ w9 ⟨⟨A9, c9, rfl, _, _⟩, k9⟩
  have hb9 := hb8.keepN k9
  have q9 := k9.size
  have hvk9 := hvk.keep k9 (fun _ _ _ h => h)
  -- the sum
  refine M.call_i (bits_ret (P := fun x => x = 2 ∨ x = 0) (id := 2) (.inl rfl) y_p2 hb9 (by decide) (by decide)) ?_; rintro _ w10 ⟨G10, D10, R10, I10, row2, v2, rfl, hv2, hr2, hb10, k10, sG10, mR10, mI10, in10⟩
  refine M.extract_i (v := v2) rfl ?_
  refine M.extract_i (v := vi 0) rfl ?_
  have q10 := k10.size
  have hvk10 : LV vi w10 (fun x => ¬ G10 x) vk rowk := (LV.keep (LV.mono (D' := fun x => (¬ G8 x ∧ w7.heap.size ≤ x) ∧ x < w9.heap.size) hvk9 (fun x hx h => ⟨h, hx⟩)) k10 (fun x _ h hh => by
    rcases hh with hh | rfl | rfl
    · exact h.1.1 hh
    · have := h.1.2; omega
    · have := h.1.2; omega)).mono (fun x _ h hG => h.1.1 (sG10 x h.2 hG))
  have i10 : ∀ j, I10 j ≠ none → j = 7 := fun j hne => by
    rcases in10 j hne with h | ⟨i, n, hi, hn, h21, ha⟩
    · exact absurd (i8 j) h
    · rcases yN_get hn with ⟨rfl, rfl⟩ | ⟨rfl, rfl⟩ | ⟨rfl, rfl⟩ | ⟨rfl, rfl⟩ <;> simp at hi h21 ha
      exact ha.symm
  obtain ⟨y2, y3, y0, y5⟩ := y_two
  have hwf := hb10.bs.ga.wf
  have hfew := hb10.few (by decide)
  obtain ⟨_, rl2, rf2, rv2⟩ := hb10.pf.rows 2 row2 hr2
  obtain ⟨_, rlk, rfk, rvk⟩ := hb10.pf.rows 3 rowk (mR10 _ _ hrk)
  obtain ⟨row7, h7⟩ : ∃ row7, I10 7 = some row7 := by
    rw [← Option.isSome_iff_exists, Option.isSome_iff_ne_none]
    intro hno
    have hall : ∀ j, I10 j = none := fun j => by
      apply Classical.byContradiction
      intro hne
      have := i10 j hne
      subst this
      exact hne hno
    have a1 := rv2 (fun _ => false) yE (fun i row hi => by rw [hall i] at hi; cases hi)
    have a2 := rv2 (fun _ => false) [] (fun i row hi => by rw [hall i] at hi; cases hi)
    rw [a1, y2, y0] at a2
    exact absurd a2 (by decide)
  obtain ⟨rf7, _, ⟨n7, hn7, h71, h72, h73⟩, hin7⟩ := hb10.pf.ins 7 row7 h7
  have hl7 : row7.length = 4 := by
    unfold yN at hn7
    simp only [List.mem_cons, List.not_mem_nil, or_false] at hn7
    rcases hn7 with rfl | rfl | rfl | rfl <;> simp at h71 h72 h73
    omega
  obtain ⟨ι, hC, hbit⟩ := cmp_ex hb10.pf hwf hb10.bs.dag.good yE
  obtain ⟨z0, z1, z2, z3, rfl⟩ := four_of hl7
  have b0 := hbit 7 _ 0 z0 h7 rfl
  have b1 := hbit 7 _ 1 z1 h7 rfl
  have b2 := hbit 7 _ 2 z2 h7 rfl
  have b3 := hbit 7 _ 3 z3 h7 rfl
  simp only [List.length_cons, List.length_nil, Nat.zero_add, Nat.reduceAdd, y5] at b0 b1 b2 b3
  have f0 := rf7 z0 (by simp)
  have f1 := rf7 z1 (by simp)
  have f2 := rf7 z2 (by simp)
  have f3 := rf7 z3 (by simp)
  have e11 := binp_ret hb10.bs hb10.pf 7
  rw [h7] at e11
  refine M.call_i (e11) ?_; rintro vin w11 ⟨hvin, k11⟩
  have hvin : LV vi w11 (w10.heap.size ≤ ·) vin [z0, z1, z2, z3] := hvin
  have hb11 := hb10.keepN k11
  refine M.call_i (bits_bad (id := 99) hb11.bs (by decide)) ?_; rintro _ w12 ⟨rfl, k12⟩
  refine M.extract_i (v := .slice none 0 0) rfl ?_
  refine M.extract_i (v := vi 11) rfl ?_
  have hvin := hvin.keep k12 (fun _ _ _ h => h)
  have hb12 := hb11.keepN k12
  obtain ⟨B, o, c, rfl⟩ := RowO.some hvin (by simp)
  obtain ⟨A', c', eA, hrow, hcap⟩ := hvin
  cases eA
  refine M.len_i ?_
  refine M.neq_f (by simp) ?_
  refine M.cond_f ?_
  have ft : ∀ z, Ft D10 z → 0 ≤ z ∧ z ≤ 10000000000 := fun z hz => ⟨hz.1, by have := hz.2; omega⟩
  have cl : ∀ (wx : World) (bx : Nat), Keep w12 wx No → Blk wx bx [vi z0, vi (nt z1), vi z2, vi (nt z3)] → Ret Tryz.prog 12 #[ptr g, .slice (some ⟨bx, 0, none⟩) 4 4] wx (fun r w' => ∃ v K I, r = .tuple #[v, vi 1] ∧ VO w' (wx.heap.size ≤ ·) v K I ∧ Full ι D10 K I ∧ Keep wx w' No) := fun wx bx kx hbx =>
    close20_ret (E1 := fun _ => True) (H := [z0, nt z1, z2, nt z3]) (hb12.keepN kx).bs.ga (by omega) ⟨_, 4, rfl, Row.of_blk' hbx trivial, Nat.le_refl _⟩ (by simp) (fun l hl => by
      simp only [List.mem_cons, List.not_mem_nil, or_false] at hl
      rcases hl with rfl | rfl | rfl | rfl
      · exact ⟨f0, by rw [b0]; decide⟩
      · exact ⟨f1.nt, by rw [lv_nt, b1]; decide⟩
      · exact ⟨f2, by rw [b2]; decide⟩
      · exact ⟨f3.nt, by rw [lv_nt, b3]; decide⟩) (fun m hm => by
      obtain ⟨i, row, hi, hmr⟩ := hb12.pf.all m hm
      have := i10 i (by rw [hi]; simp)
      subst this
      rw [h7] at hi
      obtain rfl := Option.some.inj hi
      simp only [List.mem_cons, List.not_mem_nil, or_false] at hmr ⊢
      rcases hmr with h | h | h | h
      · exact .inl (.inl h)
      · exact .inr (.inr (.inl (by rw [h])))
      · exact .inl (.inr (.inr (.inl h)))
      · exact .inr (.inr (.inr (.inr (by rw [h])))))
  refine M.share_j (fun vals w' => ∃ pn a b K I, vals = [ptr pn, vi 1] ∧ Blk w' pn [a, b] ∧ VO w' (fun _ => True) (.agg ⟨[a, b]⟩) K I ∧ Full ι D10 K I ∧ Keep w12 w' No) ?_ ?_
  · rintro vals w13 ⟨pn, a, b, K, I, rfl, bn, hvo, hfull, k13⟩ _
    simp only [List.getD_cons_zero, List.getD_cons_succ]
    have hb13 := hb12.keepN k13
    have k1013 := (k11.trans k12 (fun _ _ h => h)).trans k13 (fun _ _ h => h)
    obtain ⟨Ak, ck, rfl, hrk', hck'⟩ := hvk10.keep k1013 (fun _ _ _ h => h)
    have hvk13 : LV vi w13 (fun x => ¬ G10 x) (.slice Ak rowk.length ck) rowk := ⟨_, _, rfl, hrk', hck'⟩
    have hv213 := hv2.keep k1013 (fun _ _ _ h => h)
    have lk4 : (rowk.length : Int) = 4 := by rw [rlk]; rfl
    have l24 : (row2.length : Int) = 4 := by rw [rl2]; rfl
    simp only [List.length_cons, List.length_nil, Option.getD_none]
    (repeat (first|refine ja ?_|refine jf ?_|refine jk ?_|refine jr ?_|refine jG ?_))
    refine M.loadAll_i bn rfl ?_
    (repeat (refine jf ?_))
    refine M.call_i (is20_ret (n := 4) (x := 10) hvo hfull (by omega) hv213 rf2 (by omega) (by decide) (by rw [rv2 ι yE hC, y2]; decide)) ?_; rintro _ w14 ⟨rfl, k14⟩
    (repeat (first|refine jf ?_|refine jk ?_|refine jG ?_))
    refine M.loadAll_i (bn.keep k14 (fun h => h)) rfl ?_
    (repeat (refine jf ?_))
    refine M.call_i (is20_ret (n := 4) (x := 3) (hvo.keep k14 (fun _ _ _ h => h)) hfull (by omega) (hvk13.keep k14 (fun _ _ _ h => h)) rfk (by omega) (by decide) (by rw [rvk ι yE hC, y3]; decide)) ?_; rintro _ w15 ⟨rfl, k15⟩
    (repeat (first|refine jf ?_|refine jk ?_|refine jG ?_))
    have k135 := k14.trans k15 (fun _ _ h => h)
    have hb15 := hb13.keepN k135
    refine M.call_i (inputs_ret hb15.bs hb15.pf) ?_; rintro vs w16 ⟨ks, hks, hnd, _, hmem, k16⟩
    have eks : ks = [7] := by
      have m7 : (7 : Int) ∈ ks := (hmem 7).2 (by rw [h7]; simp)
      have all7 : ∀ x ∈ ks, x = 7 := fun x hx => i10 x ((hmem x).1 hx)
      match ks, hnd, m7, all7 with
      | [a], _, _, h => rw [h a (by simp)]
      | a :: b :: t, hnd, _, h =>
        have h1 := h a (by simp)
        have h2 := h b (by simp)
        rw [h1, h2] at hnd
        simp at hnd
    subst eks
    (repeat (refine jf ?_))
    refine M.buildSlice_i [vi 7] (by kernel_rfl) (fun w17 b17 k17 s17 => ?_)
    (repeat (refine jf ?_))
    refine M.call_i (same_ret (ys := [7]) (hks.keep k17 (fun _ _ _ h => h)) (blk1 b17) (by decide)) ?_; rintro _ w18 ⟨rfl, k18⟩
    rw [decide_eq_true (rfl : ([7] : List Int) = [7])]
    (repeat (first|refine jf ?_|refine jk ?_))
    have k158 := (k16.trans k17 (fun _ _ h => h)).trans k18 (fun _ _ h => h)
    have hb18 := hb15.keepN k158
    have i9 : I10 9 = none := by
      apply Classical.byContradiction
      intro hne
      have := i10 9 hne
      omega
    have e19 := binp_ret hb18.bs hb18.pf 9
    rw [i9] at e19
    refine M.call_i (e19) ?_; rintro _ w19 ⟨⟨A19, c19, rfl, _, _⟩, k19⟩
    simp only [List.length_nil, Option.getD_none]
    (repeat (first|refine ja ?_|refine jf ?_|refine jk ?_|refine jC ?_|refine jG ?_))
    refine ⟨rfl, ?_⟩
    have low : ∀ x, x < w.heap.size → ¬ G x := fun x hx h => by have := hG2 x h; omega
    have k08 : Keep w w8 No := k07.trans k8 (fun x hx h => by
      rcases h with h | rfl | rfl
      · exact low x hx h
      · omega
      · omega)
    have k09 := k08.trans k9 (fun _ _ h => h)
    have k010 : Keep w w10 No := k09.trans k10 (fun x hx h => by
      rcases h with h | rfl | rfl
      · exact low x hx (sG8 x (by omega) h)
      · omega
      · omega)
    exact (((k010.trans k1013 (fun _ _ h => h)).trans k135 (fun _ _ h => h)).trans k158 (fun _ _ h => h)).trans k19 (fun _ _ h => h)
  · intro K1 hK1
    refine M.draw_i ?_
    have kd := Keep.drew w12 No
    have hrow := hrow.keep kd (fun _ _ _ h => h)
    revert kd hrow
    generalize w12.drew = wd
    intro kd hrow
    refine M.idxLV_i hrow rfl (by omega) (by simp) (x := z0) rfl (fun p0 o0 hA0 hc0 => ?_)
    refine M.load_i hc0 ?_
    refine M.idxLV_i hrow rfl (by omega) (by simp) (x := z1) rfl (fun p1 o1 hA1 hc1 => ?_)
    refine M.load_i hc1 ?_
    refine M.bin_i (xor_t (ft z1 f1) (.inr rfl)) ?_
    refine M.idxLV_i hrow rfl (by omega) (by simp) (x := z2) rfl (fun p2 o2 hA2 hc2 => ?_)
    refine M.load_i hc2 ?_
    refine M.idxLV_i hrow rfl (by omega) (by simp) (x := z3) rfl (fun p3 o3 hA3 hc3 => ?_)
    refine M.load_i hc3 ?_
    refine M.bin_i (xor_t (ft z3 f3) (.inr rfl)) ?_
    rw [show xt z1 1 = nt z1 from rfl, show xt z3 1 = nt z3 from rfl]
    refine ⟨?_, ?_⟩
    · refine M.buildSlice_i [vi z0, vi (nt z1), vi z2, vi (nt z3)] (by kernel_rfl) (fun w13 b13 k13 s13 => ?_)
      refine ⟨M.load_i (k13.cell (fun h => h) hc3) rfl, M.load_i (k13.cell (fun h => h) hc1) rfl, ?_, ?_⟩
      · refine M.call_i (cl w13 wd.heap.size (kd.trans k13 (fun _ _ h => h)) b13) ?_; rintro _ w14 ⟨v, K, I, rfl, hvo, hfull, k14⟩
        have k34 := k13.trans k14 (fun _ _ h => h)
        obtain ⟨va, vbb, rfl, h1a, h2a, h3a⟩ := id hvo
        obtain ⟨A1, c1, rfl, _, _⟩ := id h1a
        obtain ⟨A2, c2, rfl, _, _⟩ := id h2a
        refine ⟨M.load_i (k34.cell (fun h => h) hc3) rfl, M.load_i (k34.cell (fun h => h) hc1) rfl, ?_⟩
        refine M.extract_i (v := .agg ⟨[.slice A1 K.length c1, .slice A2 I.length c2]⟩) rfl ?_
        refine M.extract_i (v := vi 1) rfl ?_
        refine M.new_i (l := [.slice none 0 0, .slice none 0 0]) (fun w15 b15 k15 s15 => ?_)
        have k35 := k34.trans k15 (fun _ _ h => h)
        refine ⟨M.load_i (k35.cell (fun h => h) hc3) rfl, M.load_i (k35.cell (fun h => h) hc1) rfl, ?_⟩
        refine M.storeAll_i b15 rfl rfl (by simp; exact ⟨rfl, rfl⟩) (fun w16 b16 k16 s16 => ?_)
        have q34 := k34.size
        have qd := kd.size
        exact hK1 _ _ ⟨_, _, _, K, I, rfl, b16, (((hvo.mono (E' := fun x => x < w14.heap.size) (fun x hx _ => hx)).keep k15 (fun _ _ _ h => h)).keep k16 (fun x _ hx e => by have e : x = w14.heap.size := e; omega)).mono (fun _ _ _ => trivial), hfull, (kd.trans k35 (fun _ _ h => h)).trans k16 (fun x hx e => by have e : x = w14.heap.size := e; omega)⟩
      · refine M.new_i (l := [.slice none 0 0, .slice none 0 0]) (fun w14 b14 k14 s14 => ?_)
        have k34 := k13.trans k14 (fun _ _ h => h)
        refine ⟨M.load_i (k34.cell (fun h => h) hc3) rfl, M.load_i (k34.cell (fun h => h) hc1) rfl, ?_⟩
        refine M.call_i (cl w14 wd.heap.size (kd.trans k34 (fun _ _ h => h)) (b13.keep k14 (fun h => h))) ?_; rintro _ w15 ⟨v, K, I, rfl, hvo, hfull, k15⟩
        have k35 := k34.trans k15 (fun _ _ h => h)
        obtain ⟨va, vbb, rfl, h1a, h2a, h3a⟩ := id hvo
        obtain ⟨A1, c1, rfl, _, _⟩ := id h1a
        obtain ⟨A2, c2, rfl, _, _⟩ := id h2a
        refine ⟨M.load_i (k35.cell (fun h => h) hc3) rfl, M.load_i (k35.cell (fun h => h) hc1) rfl, ?_⟩
        refine M.extract_i (v := .agg ⟨[.slice A1 K.length c1, .slice A2 I.length c2]⟩) rfl ?_
        refine M.extract_i (v := vi 1) rfl ?_
        have hbl := b14.lt
        have q13 := k13.size
        have qd := kd.size
        refine M.storeAll_i (b14.keep k15 (fun h => h)) rfl rfl (by simp; exact ⟨rfl, rfl⟩) (fun w16 b16 k16 s16 => ?_)
        exact hK1 _ _ ⟨_, _, _, K, I, rfl, b16, (hvo.keep k16 (fun x _ hx e => by have e : x = w13.heap.size := e; have hx : w14.heap.size ≤ x := hx; omega)).mono (fun _ _ _ => trivial), hfull, (kd.trans k35 (fun _ _ h => h)).trans k16 (fun x hx e => by have e : x = w13.heap.size := e; omega)⟩
    · refine M.new_i (l := [.slice none 0 0, .slice none 0 0]) (fun w13 b13 k13 s13 => ?_)
      refine ⟨M.load_i (k13.cell (fun h => h) hc3) rfl, M.load_i (k13.cell (fun h => h) hc2) rfl, M.load_i (k13.cell (fun h => h) hc1) rfl, M.load_i (k13.cell (fun h => h) hc0) rfl, ?_⟩
      refine M.buildSlice_i [vi z0, vi (nt z1), vi z2, vi (nt z3)] (by kernel_rfl) (fun w14 b14 k14 s14 => ?_)
      have k34 := k13.trans k14 (fun _ _ h => h)
      refine ⟨M.load_i (k34.cell (fun h => h) hc3) rfl, M.load_i (k34.cell (fun h => h) hc1) rfl, ?_⟩
      refine M.call_i (cl w14 w13.heap.size (kd.trans k34 (fun _ _ h => h)) b14) ?_; rintro _ w15 ⟨v, K, I, rfl, hvo, hfull, k15⟩
      have k35 := k34.trans k15 (fun _ _ h => h)
      obtain ⟨va, vbb, rfl, h1a, h2a, h3a⟩ := id hvo
      obtain ⟨A1, c1, rfl, _, _⟩ := id h1a
      obtain ⟨A2, c2, rfl, _, _⟩ := id h2a
      refine ⟨M.load_i (k35.cell (fun h => h) hc3) rfl, M.load_i (k35.cell (fun h => h) hc1) rfl, ?_⟩
      refine M.extract_i (v := .agg ⟨[.slice A1 K.length c1, .slice A2 I.length c2]⟩) rfl ?_
      refine M.extract_i (v := vi 1) rfl ?_
      have hbl := b13.lt
      have q14 := k14.size
      have qd := kd.size
      refine M.storeAll_i ((b13.keep k14 (fun h => h)).keep k15 (fun h => h)) rfl rfl (by simp; exact ⟨rfl, rfl⟩) (fun w16 b16 k16 s16 => ?_)
      exact hK1 _ _ ⟨_, _, _, K, I, rfl, b16, (hvo.keep k16 (fun x _ hx e => by have e : x = wd.heap.size := e; have hx : w14.heap.size ≤ x := hx; omega)).mono (fun _ _ _ => trivial), hfull, (kd.trans k35 (fun _ _ h => h)).trans k16 (fun x hx e => by have e : x = wd.heap.size := e; omega)⟩
end Go.Proofs.YtnbcglnefoinlaaGreat
namespace Go.Proofs.YtnbcglnefoinlaaGreat
open Go.Mw Go.Maps Go.MapKept
set_option linter.unusedVariables false
set_option linter.unusedSimpArgs false
set_option maxRecDepth 100000
attribute [local irreducible] M.val M.unit M.next M.pick M.new M.nilCheck M.load1 M.loadA M.store M.fieldAddr M.indexSl M.indexArr M.slice M.makeSlice M.buildSlice M.len M.lenS M.cap M.append M.extract M.conv M.not M.neg M.bin M.shift M.eqB M.eqNil M.scat M.call M.callv M.gd M.share M.cond M.loop M.draw pureW readW Ret
def sh7 (x0 : Value) (R : Kt) (w : World) : Prop :=
  M.new 29 (Value.cells x0) (fun t1 w =>
  M.loop [(Value.int IntKind.i64 0)] (fun s1 K1 w => ∀ _ : List Value,
  M.fieldAddr 0 t1 (fun t6 w =>
  M.load1 t6 (fun t7 w =>
  M.len t7 (fun t8 w =>
  M.bin .lss (s1.getD 0 undef) t8 (fun t9 w =>
  M.cond t9
  (M.fieldAddr 0 t1 (fun t12 w =>
  M.load1 t12 (fun t13 w =>
  M.indexSl 6 t13 (s1.getD 0 undef) (fun t15 w =>
  M.loadA 6 t15 (fun t16 w =>
  M.new 73 #[.int .i64 0, .int .i64 0, .int .i64 0, .int .i64 0, .int .i64 0, .int .u64 0] (fun t4 w =>
  M.store 6 t4 t16 (fun _ w =>
  M.fieldAddr 0 t4 (fun t17 w =>
  M.load1 t17 (fun t18 w =>
  M.bin .eql t18 (Value.int IntKind.i64 3) (fun t19 w =>
  M.gd t19 false (fun k w => M.fieldAddr 0 t4 k w) (fun t21 w =>
  M.gd t19 false (fun k w => M.load1 t21 k w) (fun t22 w =>
  M.gd t19 false (fun k w => M.bin .eql t22 (Value.int IntKind.i64 4) k w) (fun t23 w =>
  M.pick t19 (Value.bool true) t23 (fun t24 w =>
  M.gd t24 false (fun k w => M.fieldAddr 0 t4 k w) (fun t26 w =>
  M.gd t24 false (fun k w => M.load1 t26 k w) (fun t27 w =>
  M.gd t24 false (fun k w => M.bin .eql t27 (Value.int IntKind.i64 5) k w) (fun t28 w =>
  M.pick t24 (Value.bool true) t28 (fun t29 w =>
  M.gd t29 true (fun k w => M.fieldAddr 1 t4 k w) (fun t31 w =>
  M.gd t29 true (fun k w => M.load1 t31 k w) (fun t32 w =>
  M.gd t29 true (fun k w => M.bin .gtr t32 (Value.int IntKind.i64 12) k w) (fun t33 w =>
  M.pick t29 t33 (Value.bool false) (fun t34 w =>
  M.cond t34
  (R (Value.bool true) w)
  (M.bin .add (s1.getD 0 undef) (Value.int IntKind.i64 1) (fun t11 w =>
  K1 [t11] w) w)) w) w) w) w) w) w) w) w) w) w) w) w) w) w) w) w) w) w) w) w) w)
  (R (Value.bool false) w)) w) w) w) w) w) w
theorem ok7 (x0 : Value) (R : Kt) (w : World) (h : sh7 x0 R w) : Ret Tryz.prog 7 #[x0] w R :=
  ret_mk <| calls_of_comp mixed (c := Tryz.f7.body.getD .skip) (args := [x0]) (rs := [(ResultVar.tmp 2)]) (Ann.seq Ann.text (Ann.seq (Ann.seq Ann.text (Ann.block (Ann.loop [3] [2, 4, 5, 6, 7, 8, 9, 10, 11, 12, 13, 14, 15, 16, 17, 18, 19, 20, 21, 22, 23, 24, 25, 26, 27, 28, 29, 30, 31, 32, 33, 34] (Ann.seq (Ann.seq Ann.text (Ann.cond Ann.leaf Ann.leaf)) (Ann.seq (Ann.block (Ann.seq Ann.text (Ann.seq Ann.text (Ann.cond (Ann.seq Ann.text Ann.leaf) Ann.leaf)))) Ann.text))))) (Ann.seq Ann.text Ann.leaf)))
    Tryz.func7 (by kernel_rfl) (by kernel_rfl)
    (Eq.mp (by kernel_rfl) h)
def sh11 (x0 x1 x2 : Value) (R : Kt) (w : World) : Prop :=
  M.new 29 (Value.cells x1) (fun t4 w =>
  M.call Tryz.prog 21 #[x0] (fun t18 w =>
  M.loop [(Value.slice none 0 0), (Value.int IntKind.i64 0)] (fun s1 K1 w => ∀ _ : List Value,
  M.len t18 (fun t21 w =>
  M.bin .lss (s1.getD 1 undef) t21 (fun t22 w =>
  M.cond t22
  (M.indexSl 1 t18 (s1.getD 1 undef) (fun t28 w =>
  M.load1 t28 (fun t29 w =>
  M.call Tryz.prog 20 #[x0, t29] (fun t30 w =>
  M.loop [(Value.int IntKind.i64 0), (Value.int IntKind.i64 0)] (fun s2 K2 w => ∀ _ : List Value,
  M.fieldAddr 0 t4 (fun t32 w =>
  M.load1 t32 (fun t33 w =>
  M.len t33 (fun t34 w =>
  M.bin .lss (s2.getD 1 undef) t34 (fun t35 w =>
  M.cond t35
  (M.share (fun K3 w =>
  M.draw (fun w =>
  M.fieldAddr 0 t4 (fun t38 w =>
  M.load1 t38 (fun t39 w =>
  M.indexSl 6 t39 (s2.getD 1 undef) (fun t41 w =>
  M.fieldAddr 0 t41 (fun t42 w =>
  M.load1 t42 (fun t43 w =>
  M.bin .eql t43 (Value.int IntKind.i64 21) (fun t44 w =>
  M.gd t44 true (fun k w => M.fieldAddr 0 t4 k w) (fun t46 w =>
  M.gd t44 true (fun k w => M.load1 t46 k w) (fun t47 w =>
  M.gd t44 true (fun k w => k (s2.getD 1 undef) w) (fun t48 w =>
  M.gd t44 true (fun k w => M.indexSl 6 t47 t48 k w) (fun t49 w =>
  M.gd t44 true (fun k w => M.fieldAddr 2 t49 k w) (fun t50 w =>
  M.gd t44 true (fun k w => M.load1 t50 k w) (fun t51 w =>
  M.gd t44 true (fun k w => k t18 w) (fun t52 w =>
  M.gd t44 true (fun k w => k (s1.getD 1 undef) w) (fun t53 w =>
  M.gd t44 true (fun k w => M.indexSl 1 t52 t53 k w) (fun t54 w =>
  M.gd t44 true (fun k w => M.load1 t54 k w) (fun t55 w =>
  M.gd t44 true (fun k w => M.bin .eql t51 t55 k w) (fun t56 w =>
  M.pick t44 t56 (Value.bool false) (fun t57 w =>
  M.cond t57
  (M.fieldAddr 0 t4 (fun t58 w =>
  M.load1 t58 (fun t59 w =>
  M.indexSl 6 t59 (s2.getD 1 undef) (fun t61 w =>
  M.fieldAddr 1 t61 (fun t62 w =>
  M.load1 t62 (fun t63 w =>
  K3 [t63] w) w) w) w) w) w)
  (K3 [(s2.getD 0 undef)] w)) w) w) w) w) w) w) w) w) w) w) w) w) w) w) w) w) w) w) w) (fun s3 w => ∀ _ : List Value,
  M.bin .add (s2.getD 1 undef) (Value.int IntKind.i64 1) (fun t37 w =>
  K2 [(s3.getD 0 undef), t37] w) w) w)
  (M.len t30 (fun t65 w =>
  M.bin .neq t65 (s2.getD 0 undef) (fun t67 w =>
  M.gd t67 false (fun k w => k (s2.getD 0 undef) w) (fun t69 w =>
  M.gd t67 false (fun k w => M.bin .eql t69 (Value.int IntKind.i64 0) k w) (fun t70 w =>
  M.pick t67 (Value.bool true) t70 (fun t71 w =>
  M.cond t71
  (R (.tuple #[(Value.slice none 0 0), (Value.int IntKind.i64 0)]) w)
  (M.share (fun K4 w =>
  M.indexSl 1 t18 (s1.getD 1 undef) (fun t74 w =>
  M.load1 t74 (fun t75 w =>
  M.len x2 (fun t77 w =>
  M.bin .lss t75 t77 (fun t78 w =>
  M.cond t78
  (M.indexSl 1 t18 (s1.getD 1 undef) (fun t82 w =>
  M.load1 t82 (fun t83 w =>
  M.indexSl 1 x2 t83 (fun t84 w =>
  M.load1 t84 (fun t85 w =>
  K4 [t85] w) w) w) w) w)
  (K4 [(Value.int IntKind.u64 0)] w)) w) w) w) w) (fun s4 w => ∀ _ : List Value,
  M.loop [(s1.getD 0 undef), (Value.int IntKind.i64 0)] (fun s5 K5 w => ∀ _ : List Value,
  M.bin .lss (s5.getD 1 undef) (s2.getD 0 undef) (fun t88 w =>
  M.cond t88
  (M.indexSl 1 t30 (s5.getD 1 undef) (fun t93 w =>
  M.load1 t93 (fun t94 w =>
  M.share (fun K6 w =>
  M.call Tryz.prog 31 #[(s4.getD 0 undef), (s5.getD 1 undef)] (fun t97 w =>
  M.not t97 (fun t98 w =>
  M.cond t98
  (M.bin .xor t94 (Value.int IntKind.i64 1) (fun t100 w =>
  K6 [t100] w) w)
  (K6 [t94] w)) w) w) (fun s6 w => ∀ _ : List Value,
  M.buildSlice 3 1 #[.int .i64 0] 1 [(0, (s6.getD 0 undef))] (fun t103 w =>
  M.append 3 1 8 #[.int .i64 0] (s5.getD 0 undef) t103 (fun t104 w =>
  M.bin .add (s5.getD 1 undef) (Value.int IntKind.i64 1) (fun t90 w =>
  K5 [t104, t90] w) w) w) w) w) w) w)
  (M.bin .add (s1.getD 1 undef) (Value.int IntKind.i64 1) (fun t24 w =>
  K1 [(s5.getD 0 undef), t24] w) w)) w) w) w)) w) w) w) w) w)) w) w) w) w) w) w) w) w)
  (R (.tuple #[(s1.getD 0 undef), (Value.int IntKind.i64 1)]) w)) w) w) w) w) w
theorem ok11 (x0 x1 x2 : Value) (R : Kt) (w : World) (h : sh11 x0 x1 x2 R w) : Ret Tryz.prog 11 #[x0, x1, x2] w R :=
  ret_mk <| calls_of_comp mixed (c := Tryz.f11.body.getD .skip) (args := [x0, x1, x2]) (rs := [(ResultVar.tmp 6), (ResultVar.tmp 7)]) (Ann.seq Ann.text (Ann.seq Ann.text (Ann.seq Ann.text (Ann.seq (Ann.seq Ann.text (Ann.block (Ann.loop [8, 10] [6, 7, 11, 12, 13, 14, 15, 16, 19, 20, 21, 22, 23, 24, 25, 26, 27, 28, 29, 30, 31, 32, 33, 34, 35, 36, 37, 38, 39, 40, 41, 42, 43, 44, 45, 46, 47, 48, 49, 50, 51, 52, 53, 54, 55, 56, 57, 58, 59, 60, 61, 62, 63, 64, 65, 66, 67, 68, 69, 70, 71, 72, 73, 74, 75, 76, 77, 78, 79, 80, 81, 82, 83, 84, 85, 86, 87, 88, 89, 90, 91, 92, 93, 94, 95, 96, 97, 98, 99, 100, 101, 102, 103, 104] (Ann.seq (Ann.seq Ann.text (Ann.cond Ann.leaf Ann.leaf)) (Ann.seq (Ann.block (Ann.seq Ann.text (Ann.seq Ann.text (Ann.seq (Ann.seq Ann.text (Ann.block (Ann.loop [12, 13] [31, 32, 33, 34, 35, 36, 37, 38, 39, 40, 41, 42, 43, 44, 45, 46, 47, 48, 49, 50, 51, 52, 53, 54, 55, 56, 57, 58, 59, 60, 61, 62, 63] (Ann.seq (Ann.seq Ann.text (Ann.cond Ann.leaf Ann.leaf)) (Ann.seq (Ann.jblock [12] [38, 39, 40, 41, 42, 43, 44, 45, 46, 47, 48, 49, 50, 51, 52, 53, 54, 55, 56, 57, 58, 59, 60, 61, 62, 63] (Ann.seq (Ann.draw (Sch.take 0 (Sch.take 1 (Sch.take 2 (Sch.take 3 (Sch.take 4 (Sch.take 5 (Sch.take 6 (Sch.take 7 (Sch.take 8 (Sch.take 9 (Sch.take 10 (Sch.take 11 (Sch.take 12 (Sch.take 13 (Sch.take 14 (Sch.take 15 (Sch.take 16 (Sch.take 17 (Sch.take 18 (Sch.take 19 Sch.done))))))))))))))))))))) (Ann.cond Ann.text Ann.leaf))) Ann.text))))) (Ann.seq (Ann.seq Ann.text (Ann.cond (Ann.seq Ann.text Ann.leaf) Ann.leaf)) (Ann.seq Ann.text (Ann.join [14] [72, 73, 74, 75, 76, 77, 78, 79, 80, 81, 82, 83, 84, 85] (Ann.seq Ann.text (Ann.cond Ann.text Ann.leaf)) (Ann.seq Ann.text (Ann.block (Ann.loop [8, 15] [16, 86, 87, 88, 89, 90, 91, 92, 93, 94, 95, 96, 97, 98, 99, 100, 101, 102, 103, 104] (Ann.seq (Ann.seq Ann.text (Ann.cond Ann.leaf Ann.leaf)) (Ann.seq (Ann.block (Ann.seq Ann.text (Ann.join [16] [95, 96, 97, 98, 99, 100] (Ann.seq Ann.text (Ann.cond Ann.text Ann.leaf)) Ann.text))) Ann.text)))))))))))) Ann.text))))) (Ann.seq Ann.text Ann.leaf)))))
    Tryz.func11 (by kernel_rfl) (by kernel_rfl)
    (Eq.mp (by kernel_rfl) h)
theorem heavy_ret {w : World} {Dm : Nat → Prop} {v : Value} {N : List Nd} {most : Int} (hd : RD w Dm v N most) (hN : N.length ≤ 1000000) : Ret Tryz.prog 7 #[v] w (fun r w' => ∃ b, r = .bool b ∧ Keep w w' No) := by
  obtain ⟨A, c, rfl, hr⟩ := id hd
  refine ok7 _ _ _ ?_
  unfold sh7
  refine M.new_i (l := [.slice A N.length c, vi most]) (fun w1 b1 k1 s1 => ?_)
  have hr1 := hr.keep k1 (fun _ _ _ h => h)
  refine M.loop_i (σ := Nat) (fun i vals w' => vals = [vi i] ∧ i ≤ N.length ∧ Keep w1 w' No) (fun i => N.length - i) 0 ⟨rfl, by omega, Keep.refl _ _⟩ ?_
  rintro i vals w2 K ⟨rfl, hi, k2⟩ hK _
  simp only [List.getD_cons_zero, List.getD_cons_succ]
  have b2 := b1.keep k2 (fun h => h)
  have hr2 := hr1.keep k2 (fun _ _ _ h => h)
  by_cases hlt : i < N.length
  · obtain ⟨n, hn⟩ : ∃ n, N[i]? = some n := ⟨_, List.getElem?_eq_getElem hlt⟩
    (repeat (first|refine ja ?_|refine jc ?_|refine jo ?_|refine jy ?_|refine jN (by assumption) rfl ?_))
    refine M.idxN_i hr2 rfl (by omega) (n := n) (by simpa using hn) (fun bb oo hc => ?_)
    refine M.loadN_i hc ?_
    refine M.new_i (l := zeroNd.cells) (fun w3 b3 k3 s3 => ?_)
    refine M.storeAll_i b3 rfl rfl (cells_one n) (fun w4 b4 k4 s4 => ?_)
    have b4 : Blk w4 w2.heap.size [vi n.op, vi n.wd, vi n.a, vi n.b, vi n.c, vw n.val] := b4
    have k24 : Keep w2 w4 No := k3.trans k4 (fun x hx e => by have e : x = w2.heap.size := e; omega)
    have k14 := k2.trans k24 (fun _ _ h => h)
    have k04 := k1.trans k14 (fun _ _ h => h)
    have next : K [vi ((i : Int) + 1)] w4 := hK (i + 1) _ _ (by omega) ⟨by rw [Int.natCast_add]; rfl, by omega, k14⟩
    rcases (by omega : n.op = 3 ∨ n.op = 4 ∨ n.op = 5 ∨ (n.op ≠ 3 ∧ n.op ≠ 4 ∧ n.op ≠ 5)) with h | h | h | ⟨h, h', h''⟩ <;> rcases (by omega : 12 < n.wd ∨ ¬ 12 < n.wd) with h12 | h12
    all_goals (repeat (first|refine jc ?_|refine jf ?_|refine jg ?_|refine jh ?_|refine ji ?_|refine jk ?_|refine jl ?_|refine jo ?_|refine jp ?_|refine jC ?_|refine jD ?_|refine jG ?_|refine jH ?_|refine jK ?_|refine jN (by assumption) rfl ?_))
    all_goals first | exact ⟨_, rfl, k04⟩ | exact next
  · (repeat (first|refine ja ?_|refine jc ?_|refine jp ?_|refine jz ?_|refine jN (by assumption) rfl ?_))
    exact ⟨_, rfl, k1.trans k2 (fun _ _ h => h)⟩
section
variable {Z : Nat → Prop} {w : World} {F : Nat → Prop} {p : Nat} {N : List Nd} {most : Int} {G : Nat → Prop} {g : Nat} {D : List GK} {bl r1 r2 : Nat} {R I : Int → Option (List Int)}
theorem wd_one (h : DagO w F p N most) {n m : Nd} (hn : n ∈ N) (hm : m ∈ N) (h1 : n.op = 21) (h2 : m.op = 21) (ha : n.a = m.a) : n.wd = m.wd := by
  obtain ⟨kw, _, ⟨g1, _⟩, _⟩ := h
  have a1 := g1 n hn h1
  have a2 := g1 m hm h2
  rw [ha, a2] at a1
  simp only [Option.some.injEq, Value.int.injEq, true_and] at a1
  exact a1.symm
def envW (env : List W64) (i : Int) : W64 := if i < (env.length : Int) then env.getD i.toNat 0 else 0
theorem inW_bit (env : List W64) (i : Int) {n : Nat} (h1 : 1 ≤ n) (h2 : n ≤ 64) {k : Nat} (hk : k < n) : (inW env i n).getLsbD k = (envW env i).getLsbD k := by
  unfold inW envW
  split
  · rw [cutW_bit h1 h2, decide_eq_true hk, Bool.and_true]
  · rfl
set_option maxHeartbeats 4000000 in
theorem holds23_ret {Dm De : Nat → Prop} {xv ev : Value} {env : List W64} {most' : Int} {ι : Nat → Bool} (h : BT Z w F p N most G g D bl r1 r2 R I) (hN : N.length ≤ 1000) (hd : RD w Dm xv N most') (he : LV vw w De ev env) (hel : env.length ≤ 1000)
    (hbit : ∀ i row (k : Nat) l, I i = some row → row[k]? = some l → lv ι D l = (inW env i row.length).getLsbD k) :
    Ret Tryz.prog 11 #[ptr bl, xv, ev] w (fun r w' => ∃ H hv, r = .tuple #[hv, vi 1] ∧ LV vi w' (fun _ => True) hv H ∧ H.length ≤ 1000000 ∧ (∀ l ∈ H, Ft D l ∧ lv ι D l = true) ∧ (∀ m : Nat, D[m]? = some .inp → (2 * (m : Int)) ∈ H ∨ nt (2 * (m : Int)) ∈ H) ∧ Keep w w' No) := by
  obtain ⟨A, c, rfl, hr⟩ := id hd
  obtain ⟨E, ce, rfl, hre, _⟩ := id he
  have hfew := h.few hN
  have hgood := h.bs.dag.good
  have hdag := h.bs.dag
  have hpf := h.pf
  refine ok11 _ _ _ _ _ ?_
  unfold sh11
  refine M.new_i (l := [.slice A N.length c, vi most']) (fun w1 b1 k1 s1 => ?_)
  have h1 := h.keepN k1
  refine M.call_i (inputs_ret h1.bs h1.pf) ?_; rintro vs w2 ⟨ks, hks, hnd, hksl, hmem, k2⟩
  have k02 := k1.trans k2 (fun _ _ h => h)
  obtain ⟨B, cb, rfl, hrk, _⟩ := id hks
  have b2 := b1.keep k2 (fun h => h)
  refine M.loop_i (σ := Nat) (fun i vals w' => ∃ (ov : Value) (H : List Int), vals = [ov, vi i] ∧ i ≤ ks.length ∧ GI w' (w2.heap.size ≤ ·) ov H ∧ H.length ≤ 64 * i ∧ (∀ l ∈ H, Ft D l ∧ lv ι D l = true) ∧ (∀ j ∈ ks.take i, ∀ row, I j = some row → ∀ l ∈ row, l ∈ H ∨ nt l ∈ H) ∧ Keep w2 w' No) (fun i => ks.length - i) 0
    ⟨_, [], rfl, by omega, GI.nil _ _, by simp, by simp, by simp, Keep.refl _ _⟩ ?_
  rintro i vals w3 K ⟨ov, H, rfl, hi, ho, hHl, hH, hin, k3⟩ hK _
  simp only [List.getD_cons_zero, List.getD_cons_succ]
  have k03 := k02.trans k3 (fun _ _ h => h)
  have b3 := b2.keep k3 (fun h => h)
  have hrk3 := hrk.keep k3 (fun _ _ _ h => h)
  by_cases hlt : i < ks.length
  · obtain ⟨j, hj⟩ : ∃ j, ks[i]? = some j := ⟨_, List.getElem?_eq_getElem hlt⟩
    have hjm := List.mem_of_getElem? hj
    obtain ⟨row, hrow⟩ := Option.isSome_iff_exists.1 (Option.isSome_iff_ne_none.2 ((hmem j).1 hjm))
    obtain ⟨rfr, hj0, ⟨n, hnm, h21, hna, hnw⟩, hinp⟩ := hpf.ins j row hrow
    obtain ⟨q, hq⟩ := List.mem_iff_getElem?.1 hnm
    have hw64 := (hgood q n hq).1
    have hjle : j ≤ 255 := by
      obtain ⟨_, _, hcase⟩ := hgood q n hq
      rcases hcase with hh | hh | hh | hh | hh | hh | hh | hh
      · omega
      · have := hh.2.2.1; omega
      all_goals omega
    have h3 := h.keepN k03
    (repeat (first|refine ja ?_|refine jo ?_|refine jy ?_))
    refine M.idxLV_i hrk3 rfl (by omega) (by omega) (x := j) (by simpa using hj) (fun bj oj hA hcj => ?_)
    refine M.load_i hcj ?_
    have e4 := binp_ret h3.bs h3.pf j
    rw [hrow] at e4
    refine M.call_i (e4) ?_; rintro rv' w4 ⟨hrv, k4⟩
    obtain ⟨C, cc, rfl, hrr, _⟩ := id hrv
    simp only [Option.getD_some] at hrr
    have hrr : Row w4 (w3.heap.size ≤ ·) C (row.map vi) := hrr
    simp only [Option.getD_some]
    have k34 : Keep w2 w4 No := k3.trans k4 (fun _ _ h => h)
    -- how wide it is
    refine M.loop_i (σ := Nat) (fun q vals w' => ∃ wd : Int, vals = [vi wd, vi q] ∧ q ≤ N.length ∧ ((wd = 0 ∧ ∀ m ∈ N.take q, ¬ (m.op = 21 ∧ m.a = j)) ∨ wd = (row.length : Int)) ∧ Keep w4 w' No) (fun q => N.length - q) 0 ⟨0, rfl, by omega, .inl ⟨rfl, by simp⟩, Keep.refl _ _⟩ ?_
    rintro q vals w5 K2 ⟨wd, rfl, hql, hwd, k5⟩ hK2 _
    simp only [List.getD_cons_zero, List.getD_cons_succ]
    have k25 := k34.trans k5 (fun _ _ h => h)
    have k05 := k02.trans k25 (fun _ _ h => h)
    have b5 := b2.keep k25 (fun h => h)
    by_cases hlq : q < N.length
    · obtain ⟨m, hm⟩ : ∃ m, N[q]? = some m := ⟨_, List.getElem?_eq_getElem hlq⟩
      have hmm := List.mem_of_getElem? hm
      have tk : ∀ x, x ∈ N.take (q + 1) ↔ x ∈ N.take q ∨ x = m := fun x => by
        rw [List.take_add_one, hm]; simp
      (repeat (first|refine ja ?_|refine jc ?_|refine jo ?_|refine jy ?_|refine jN (by assumption) rfl ?_))
      refine M.share_n ?_
      refine M.draw_i ?_
      have kd := Keep.drew w5 No
      have b6 := b5.keep kd (fun h => h)
      have hr6 := (hr.keep k05 (fun _ _ _ h => h)).keep kd (fun _ _ _ h => h)
      have hrk6 := (hrk.keep k25 (fun _ _ _ h => h)).keep kd (fun _ _ _ h => h)
      have k46 := k5.trans kd (fun _ _ h => h)
      revert kd b6 hr6 hrk6 k46
      generalize w5.drew = w6
      intro kd b6 hr6 hrk6 k46
      (repeat (first|refine jc ?_|refine jN (by assumption) rfl ?_))
      refine M.idxN_i hr6 rfl (by omega) (n := m) (by simpa using hm) (fun bb oo hc => ?_)
      refine M.field_i ?_
      refine M.load_i (hc 0 _ rfl) ?_
      by_cases hm21 : m.op = 21
      · (repeat (first|refine jc ?_|refine jf ?_|refine jG ?_|refine jN (by assumption) rfl ?_))
        refine M.idxN_i hr6 rfl (by omega) (n := m) (by simpa using hm) (fun bb2 oo2 hc2 => ?_)
        (repeat (first|refine jc ?_|refine jf ?_))
        refine M.load_i (hc2 2 _ rfl) ?_
        (repeat (refine jf ?_))
        refine M.idxLV_i hrk6 rfl (by omega) (by omega) (x := j) (by simpa using hj) (fun bj2 oj2 hA2 hcj2 => ?_)
        (repeat (first|refine jf ?_|refine jM (by assumption) ?_))
        by_cases hma : m.a = j
        · (repeat (first|refine jc ?_|refine jk ?_|refine jo ?_|refine jG ?_|refine jN (by assumption) rfl ?_))
          refine M.idxN_i hr6 rfl (by omega) (n := m) (by simpa using hm) (fun bb3 oo3 hc3 => ?_)
          refine M.field_i ?_
          refine M.load_i (hc3 1 _ rfl) ?_
          have hmw : m.wd = n.wd := wd_one hdag hmm hnm hm21 h21 (by rw [hma, hna])
          intro _
          simp only [List.getD_cons_zero, List.getD_cons_succ]
          (repeat (refine jK ?_))
          exact hK2 (q + 1) _ _ (by omega) ⟨m.wd, by rw [Int.natCast_add]; rfl, by omega, .inr (by rw [hmw, hnw]), k46⟩
        · (repeat (first|refine jk ?_|refine jp ?_|refine jH ?_))
          intro _
          simp only [List.getD_cons_zero, List.getD_cons_succ]
          (repeat (refine jK ?_))
          refine hK2 (q + 1) _ _ (by omega) ⟨wd, by rw [Int.natCast_add]; rfl, by omega, ?_, k46⟩
          rcases hwd with ⟨g1, g2⟩ | g1
          · refine .inl ⟨g1, fun x hx => ?_⟩
            rcases (tk x).1 hx with hx | rfl
            · exact g2 x hx
            · exact fun hh => hma hh.2
          · exact .inr g1
      · (repeat (first|refine jh ?_|refine jl ?_|refine jp ?_|refine jH ?_))
        intro _
        simp only [List.getD_cons_zero, List.getD_cons_succ]
        (repeat (refine jK ?_))
        refine hK2 (q + 1) _ _ (by omega) ⟨wd, by rw [Int.natCast_add]; rfl, by omega, ?_, k46⟩
        rcases hwd with ⟨g1, g2⟩ | g1
        · refine .inl ⟨g1, fun x hx => ?_⟩
          rcases (tk x).1 hx with hx | rfl
          · exact g2 x hx
          · exact fun hh => hm21 hh.1
        · exact .inr g1
    · have hwd : wd = (row.length : Int) := by
        rcases hwd with ⟨_, g2⟩ | g
        · exact absurd ⟨h21, hna⟩ (g2 n (by rw [List.take_of_length_le (by omega)]; exact hnm))
        · exact g
      subst hwd
      have hrk5 := hrk.keep k25 (fun _ _ _ h => h)
      have hre5 := hre.keep k05 (fun _ _ _ h => h)
      (repeat (first|refine ja ?_|refine jc ?_|refine jg ?_|refine jl ?_|refine jp ?_|refine jz ?_|refine jH ?_|refine jJ ?_|refine jN (by assumption) rfl ?_))
      refine M.share_j (fun vals w' => vals = [vw (envW env j)] ∧ w5 = w') ?_ ?_
      · rintro vals _ ⟨rfl, rfl⟩ _
        simp only [List.getD_cons_zero, List.getD_cons_succ]
        have ho5 := GC.keep ho (k4.trans k5 (fun _ _ h => h)) (fun _ _ _ h => h)
        have hov : ∀ x, blkOf ov x → w2.heap.size ≤ x ∧ x < w3.heap.size := fun x hx => by
          obtain ⟨g1, l, hl⟩ := GC.blkOf ho hx
          exact ⟨g1, hl.lt⟩
        have hrr5 := hrr.keep k5 (fun _ _ _ h => h)
        have q4 := k4.size
        have q5 := k5.size
        have hrl5 := hrr5.mono (D' := fun x => w3.heap.size ≤ x ∧ x < w5.heap.size) (fun x hx h => ⟨h, hx⟩)
        have tj : ∀ x, x ∈ ks.take (i + 1) ↔ x ∈ ks.take i ∨ x = j := fun x => by
          rw [List.take_add_one, hj]; simp
        refine M.loop_i (σ := Nat) (fun k vals w' => ∃ (ov' : Value) (H' : List Int), vals = [ov', vi k] ∧ k ≤ row.length ∧ GI w' (fun x => blkOf ov x ∨ w5.heap.size ≤ x) ov' H' ∧ H'.length ≤ H.length + k ∧ (∀ l ∈ H', Ft D l ∧ lv ι D l = true) ∧ (∀ l ∈ H, l ∈ H') ∧ (∀ l ∈ row.take k, l ∈ H' ∨ nt l ∈ H') ∧ Keep w5 w' (fun x => blkOf ov x)) (fun k => row.length - k) 0
          ⟨ov, H, rfl, by omega, (GC.own ho5).mono (fun x _ hx => .inl hx), by omega, hH, fun _ h => h, by simp, Keep.refl _ _⟩ ?_
        rintro k vals w6 K5 ⟨ov', H', rfl, hkl, ho6, hHl6, hH6, hsub6, hrow6, k6⟩ hK5 _
        simp only [List.getD_cons_zero, List.getD_cons_succ]
        by_cases hlk : k < row.length
        · obtain ⟨l, hl⟩ : ∃ l, row[k]? = some l := ⟨_, List.getElem?_eq_getElem hlk⟩
          have hlm := List.mem_of_getElem? hl
          have hfl := rfr l hlm
          have hb := hbit j row k l hrow hl
          rw [inW_bit env j (by omega) (by omega) hlk] at hb
          have hrl6 := hrl5.keep k6 (fun x hx h1 h2 => by have := hov x h2; omega)
          have tr : ∀ x, x ∈ row.take (k + 1) ↔ x ∈ row.take k ∨ x = l := fun x => by
            rw [List.take_add_one, hl]; simp
          (repeat (first|refine jo ?_|refine jy ?_))
          refine M.idxLV_i hrl6 rfl (by omega) (by omega) (x := l) (by simpa using hl) (fun bl2 ol2 hAl hcl => ?_)
          refine M.load_i hcl ?_
          have fin : ∀ z : Int, (Ft D z ∧ lv ι D z = true) → (z = l ∨ z = nt l) → M.buildSlice 3 1 #[.int .i64 0] 1 [(0, vi z)] (fun t103 w => M.append 3 1 8 #[.int .i64 0] ov' t103 (fun t104 w => M.bin .add (vi k) (Value.int IntKind.i64 1) (fun t90 w => K5 [t104, t90] w) w) w) w6 := by
            intro z hz hzl
            refine M.buildSlice_i [vi z] (by kernel_rfl) (fun w7 b7 k7 s7 => ?_)
            have ho7 := GC.keep ho6 k7 (fun _ _ _ h => h)
            refine M.append1_i (GC.own ho7) (Row.of_blk' (D := fun _ => True) b7 trivial) rfl (by omega) (fun v8 w8 g8 k8 => ?_)
            have q6 := k6.size
            have q7 := k7.size
            (repeat (refine jK ?_))
            have hov' : ∀ x, blkOf ov' x → blkOf ov x ∨ w5.heap.size ≤ x := fun x hx => (GC.blkOf ho6 hx).1
            refine hK5 (k + 1) _ _ (by omega) ⟨v8, H' ++ [z], by rw [Int.natCast_add]; rfl, by omega, g8.mono (fun x _ hx => by
              rcases hx with hx | hx
              · exact hov' x hx
              · exact .inr (by omega)), by rw [List.length_append, List.length_singleton]; omega, fun y hy => ?_, fun y hy => List.mem_append_left _ (hsub6 y hy), fun y hy => ?_, (k6.trans k7 (fun _ _ h => h.elim)).trans k8 (fun x hx h => by
                rcases hov' x h with h | h
                · exact h
                · omega)⟩
            · rcases List.mem_append.1 hy with hy | hy
              · exact hH6 y hy
              · rw [List.mem_singleton.1 hy]; exact hz
            · rcases (tr y).1 hy with hy | rfl
              · rcases hrow6 y hy with hh | hh
                · exact .inl (List.mem_append_left _ hh)
                · exact .inr (List.mem_append_left _ hh)
              · rcases hzl with rfl | rfl
                · exact .inl (List.mem_append_right _ (by simp))
                · exact .inr (List.mem_append_right _ (by simp))
          refine M.share_n ?_
          refine M.call_i (rbit_ret (envW env j) (k : Int) _) ?_; rintro _ _ ⟨rfl, rfl⟩
          rw [decide_eq_true (by omega : (0 : Int) ≤ (k : Int)), Bool.true_and, Int.toNat_natCast, ← hb]
          cases hlv : lv ι D l with
          | true =>
            (repeat (first|refine jm ?_|refine jp ?_))
            intro _
            simp only [List.getD_cons_zero, List.getD_cons_succ]
            exact fin l ⟨hfl, hlv⟩ (.inl rfl)
          | false =>
            (repeat (first|refine jn ?_|refine jo ?_))
            refine M.bin_i (xor_t ⟨hfl.1, by have := hfl.2; omega⟩ (.inr rfl)) ?_
            intro _
            simp only [List.getD_cons_zero, List.getD_cons_succ]
            exact fin (nt l) ⟨hfl.nt, by rw [lv_nt, hlv]; rfl⟩ (.inr rfl)
        · (repeat (first|refine jp ?_|refine jz ?_|refine jK ?_))
          refine hK (i + 1) _ _ (by omega) ⟨ov', H', by rw [Int.natCast_add]; rfl, by omega, ho6.mono (fun x _ hx => by
            rcases hx with hx | hx
            · exact (hov x hx).1
            · have := k25.size; exact Nat.le_trans this hx), by omega, hH6, fun y hy r hyr l hl => ?_, k25.trans k6 (fun x hx h => by have := hov x h; omega)⟩
          rcases (tj y).1 hy with hy | rfl
          · rcases hin y hy r hyr l hl with hh | hh
            · exact .inl (hsub6 _ hh)
            · exact .inr (hsub6 _ hh)
          · rw [hrow] at hyr
            obtain rfl := Option.some.inj hyr
            exact hrow6 l (by rw [List.take_of_length_le (by omega)]; exact hl)
      · intro K4 hK4
        refine M.idxLV_i hrk5 rfl (by omega) (by omega) (x := j) (by simpa using hj) (fun bj2 oj2 hA2 hcj2 => ?_)
        refine M.load_i hcj2 ?_
        by_cases hje : j < (env.length : Int)
        · obtain ⟨x, hx⟩ : ∃ x, env[j.toNat]? = some x := ⟨_, List.getElem?_eq_getElem (by omega)⟩
          (repeat (first|refine ja ?_|refine jo ?_|refine jy ?_))
          refine M.idxLV_i hrk5 rfl (by omega) (by omega) (x := j) (by simpa using hj) (fun bj3 oj3 hA3 hcj3 => ?_)
          refine M.load_i hcj3 ?_
          refine M.idxLV_i hre5 rfl (by omega) hje (x := x) hx (fun bj4 oj4 hA4 hcj4 => ?_)
          refine M.load_i hcj4 ?_
          refine hK4 _ _ ⟨?_, rfl⟩
          unfold envW
          rw [if_pos hje, List.getD_eq_getElem?_getD, hx]; rfl
        · (repeat (first|refine ja ?_|refine jp ?_|refine jz ?_))
          refine hK4 _ _ ⟨?_, rfl⟩
          unfold envW
          rw [if_neg hje]; rfl
  · (repeat (first|refine ja ?_|refine jp ?_|refine jz ?_))
    refine ⟨H, ov, rfl, (GI.lv ho).mono (fun _ _ _ => trivial), by omega, hH, fun m hm => ?_, k03⟩
    obtain ⟨j, row, hjr, hl⟩ := hpf.all m hm
    exact hin j (by rw [List.take_of_length_le (by omega)]; exact (hmem j).2 (by rw [hjr]; simp)) row hjr _ hl
end
end Go.Proofs.YtnbcglnefoinlaaGreat
namespace Go.Proofs.YtnbcglnefoinlaaGreat
open Go.Mw Go.Maps Go.MapKept
set_option linter.unusedVariables false
set_option linter.unusedSimpArgs false
set_option maxRecDepth 100000
attribute [local irreducible] M.val M.unit M.next M.pick M.new M.nilCheck M.load1 M.loadA M.store M.fieldAddr M.indexSl M.indexArr M.slice M.makeSlice M.buildSlice M.len M.lenS M.cap M.append M.extract M.conv M.not M.neg M.bin M.shift M.eqB M.eqNil M.scat M.call M.callv M.gd M.share M.cond M.loop M.draw pureW readW Ret
def sh3 (x0 x1 x2 : Value) (R : Kt) (w : World) : Prop :=
  M.len x0 (fun t25 w =>
  M.bin .gtr t25 (Value.int IntKind.i64 40) (fun t26 w =>
  M.gd t26 false (fun k w => k x1 w) (fun t28 w =>
  M.gd t26 false (fun k w => M.len t28 k w) (fun t29 w =>
  M.gd t26 false (fun k w => M.bin .gtr t29 (Value.int IntKind.i64 300) k w) (fun t30 w =>
  M.pick t26 (Value.bool true) t30 (fun t31 w =>
  M.gd t31 false (fun k w => k x2 w) (fun t33 w =>
  M.gd t31 false (fun k w => M.len t33 k w) (fun t34 w =>
  M.gd t31 false (fun k w => M.bin .gtr t34 (Value.int IntKind.i64 60) k w) (fun t35 w =>
  M.pick t31 (Value.bool true) t35 (fun t36 w =>
  M.cond t36
  (M.call Tryz.prog 4 #[] (fun t37 w =>
  R t37 w) w)
  (M.call Tryz.prog 5 #[(Value.int IntKind.i64 1000), x0] (fun t40 w =>
  M.extract 0 t40 (fun t41 w =>
  M.extract 1 t40 (fun t42 w =>
  M.new 29 #[.slice none 0 0, .int .i64 0] (fun t8 w =>
  M.store 2 t8 t42 (fun _ w =>
  M.call Tryz.prog 6 #[] (fun t43 w =>
  M.eqNil 0 false t41 (fun t45 w =>
  M.gd t45 false (fun k w => k t43 w) (fun t47 w =>
  M.gd t45 false (fun k w => M.eqNil 0 false t47 k w) (fun t48 w =>
  M.pick t45 (Value.bool true) t48 (fun t49 w =>
  M.cond t49
  (R (Value.bool false) w)
  (M.loadA 2 t8 (fun t50 w =>
  M.call Tryz.prog 7 #[t50] (fun t51 w =>
  M.cond t51
  (M.call Tryz.prog 4 #[] (fun t52 w =>
  R t52 w) w)
  (M.call Tryz.prog 8 #[t41, t43] (fun t55 w =>
  M.eqNil 0 false t55 (fun t57 w =>
  M.cond t57
  (R (Value.bool false) w)
  (M.loop [(Value.int IntKind.i64 0)] (fun s1 K1 w => ∀ _ : List Value,
  M.len x2 (fun t60 w =>
  M.bin .lss (s1.getD 0 undef) t60 (fun t61 w =>
  M.gd t61 true (fun k w => M.fieldAddr 0 t8 k w) (fun t63 w =>
  M.gd t61 true (fun k w => M.load1 t63 k w) (fun t64 w =>
  M.gd t61 true (fun k w => M.len t64 k w) (fun t65 w =>
  M.gd t61 true (fun k w => M.bin .gtr t65 (Value.int IntKind.i64 0) k w) (fun t66 w =>
  M.pick t61 t66 (Value.bool false) (fun t67 w =>
  M.cond t67
  (M.draw (fun w =>
  M.indexSl 1 x2 (s1.getD 0 undef) (fun t73 w =>
  M.load1 t73 (fun t74 w =>
  M.conv .i64 t74 (fun t75 w =>
  M.fieldAddr 0 t8 (fun t76 w =>
  M.load1 t76 (fun t77 w =>
  M.len t77 (fun t78 w =>
  M.bin .rem t75 t78 (fun t79 w =>
  M.call Tryz.prog 9 #[t55, t79] (fun t80 w =>
  ((M.load1 t76 (fun v' _ => v' = t77) w) ∧ ((M.load1 t73 (fun v' _ => v' = t74) w) ∧ M.bin .add (s1.getD 0 undef) (Value.int IntKind.i64 1) (fun t69 w =>
  K1 [t69] w) w))) w) w) w) w) w) w) w) w) w)
  (M.loop [(Value.slice none 0 0), (Value.int IntKind.i64 0)] (fun s2 K2 w => ∀ _ : List Value,
  M.fieldAddr 0 t8 (fun t82 w =>
  M.load1 t82 (fun t83 w =>
  M.len t83 (fun t84 w =>
  M.bin .lss (s2.getD 1 undef) t84 (fun t85 w =>
  M.cond t85
  (M.call Tryz.prog 9 #[t55, (s2.getD 1 undef)] (fun t91 w =>
  M.extract 0 t91 (fun t92 w =>
  M.extract 1 t91 (fun t93 w =>
  M.call Tryz.prog 9 #[t55, (s2.getD 1 undef)] (fun t97 w =>
  M.extract 0 t97 (fun t98 w =>
  M.extract 1 t97 (fun t99 w =>
  M.bin .neq t93 (Value.int IntKind.i64 0) (fun t101 w =>
  M.gd t101 false (fun k w => k t99 w) (fun t103 w =>
  M.gd t101 false (fun k w => M.bin .neq t103 (Value.int IntKind.i64 0) k w) (fun t104 w =>
  M.pick t101 (Value.bool true) t104 (fun t105 w =>
  M.gd t105 false (fun k w => k t92 w) (fun t107 w =>
  M.gd t105 false (fun k w => k t98 w) (fun t108 w =>
  M.gd t105 false (fun k w => M.call Tryz.prog 10 #[t107, t108] k w) (fun t109 w =>
  M.gd t105 false (fun k w => M.not t109 k w) (fun t110 w =>
  M.pick t105 (Value.bool true) t110 (fun t111 w =>
  M.cond t111
  (R (Value.bool false) w)
  (M.buildSlice 37 1 #[.slice none 0 0] 1 [(0, t92)] (fun t114 w =>
  M.append 37 1 24 #[.slice none 0 0] (s2.getD 0 undef) t114 (fun t115 w =>
  M.bin .add (s2.getD 1 undef) (Value.int IntKind.i64 1) (fun t87 w =>
  K2 [t115, t87] w) w) w) w)) w) w) w) w) w) w) w) w) w) w) w) w) w) w) w)
  (M.loadA 2 t8 (fun t118 w =>
  M.call Tryz.prog 11 #[t55, t118, x1] (fun t120 w =>
  M.extract 0 t120 (fun t121 w =>
  M.extract 1 t120 (fun t122 w =>
  M.bin .eql t122 (Value.int IntKind.i64 0) (fun t124 w =>
  M.cond t124
  (R (Value.bool false) w)
  (M.call Tryz.prog 12 #[t43, t121] (fun t128 w =>
  M.extract 0 t128 (fun t129 w =>
  M.extract 1 t128 (fun t130 w =>
  M.new 47 #[.slice none 0 0, .slice none 0 0] (fun t20 w =>
  M.store 2 t20 t129 (fun _ w =>
  M.bin .eql t130 (Value.int IntKind.i64 0) (fun t132 w =>
  M.cond t132
  (R (Value.bool false) w)
  (M.loadA 2 t8 (fun t133 w =>
  M.call Tryz.prog 13 #[t133, x1] (fun t135 w =>
  M.loop [(Value.int IntKind.i64 0)] (fun s3 K3 w => ∀ _ : List Value,
  M.len t135 (fun t138 w =>
  M.bin .lss (s3.getD 0 undef) t138 (fun t139 w =>
  M.cond t139
  (M.draw (fun w =>
  M.loadA 2 t20 (fun t142 w =>
  M.indexSl 1 (s2.getD 0 undef) (s3.getD 0 undef) (fun t145 w =>
  M.load1 t145 (fun t146 w =>
  M.loadA 2 t8 (fun t147 w =>
  M.indexSl 1 t135 (s3.getD 0 undef) (fun t152 w =>
  M.load1 t152 (fun t153 w =>
  M.call Tryz.prog 15 #[t147, (s3.getD 0 undef)] (fun t149 w =>
  ((M.load1 t152 (fun v' _ => v' = t153) w) ∧ ((M.load1 t145 (fun v' _ => v' = t146) w) ∧ ((M.loadA 2 t20 (fun v' _ => v' = t142) w) ∧ M.call Tryz.prog 14 #[t142, t146, t149, t153] (fun t154 w =>
  M.bin .eql t154 (Value.int IntKind.i64 0) (fun t155 w =>
  M.cond t155
  (R (Value.bool false) w)
  (M.bin .add (s3.getD 0 undef) (Value.int IntKind.i64 1) (fun t141 w =>
  K3 [t141] w) w)) w) w)))) w) w) w) w) w) w) w) w)
  (M.call Tryz.prog 4 #[] (fun t156 w =>
  R t156 w) w)) w) w) w) w) w)) w) w) w) w) w) w)) w) w) w) w) w)) w) w) w) w) w)) w) w) w) w) w) w) w) w)) w) w)) w) w)) w) w) w) w) w) w) w) w) w) w)) w) w) w) w) w) w) w) w) w) w
theorem ok3 (x0 x1 x2 : Value) (R : Kt) (w : World) (h : sh3 x0 x1 x2 R w) : Ret Tryz.prog 3 #[x0, x1, x2] w R :=
  ret_mk <| calls_of_comp mixed (c := Tryz.f3.body.getD .skip) (args := [x0, x1, x2]) (rs := [(ResultVar.tmp 6)]) (Ann.seq Ann.text (Ann.seq (Ann.seq Ann.text (Ann.cond (Ann.seq Ann.text Ann.leaf) Ann.leaf)) (Ann.seq Ann.text (Ann.seq Ann.text (Ann.seq (Ann.seq Ann.text (Ann.cond (Ann.seq Ann.text Ann.leaf) Ann.leaf)) (Ann.seq (Ann.seq Ann.text (Ann.cond (Ann.seq Ann.text Ann.leaf) Ann.leaf)) (Ann.seq Ann.text (Ann.seq (Ann.seq Ann.text (Ann.cond (Ann.seq Ann.text Ann.leaf) Ann.leaf)) (Ann.seq (Ann.seq Ann.text (Ann.block (Ann.loop [11] [58, 59, 60, 61, 62, 63, 64, 65, 66, 67, 68, 69, 70, 71, 72, 73, 74, 75, 76, 77, 78, 79, 80] (Ann.seq (Ann.seq Ann.text (Ann.cond Ann.leaf Ann.leaf)) (Ann.seq (Ann.block (Ann.draw (Sch.take 0 (Sch.take 1 (Sch.take 2 (Sch.take 3 (Sch.take 4 (Sch.take 5 (Sch.take 6 (Sch.take 7 (Sch.take 8 (Sch.take 9 (Sch.one 10 Sch.done))))))))))))) Ann.text))))) (Ann.seq Ann.text (Ann.seq (Ann.seq Ann.text (Ann.block (Ann.loop [12, 13] [6, 14, 15, 16, 17, 81, 82, 83, 84, 85, 86, 87, 88, 89, 90, 91, 92, 93, 94, 95, 96, 97, 98, 99, 100, 101, 102, 103, 104, 105, 106, 107, 108, 109, 110, 111, 112, 113, 114, 115] (Ann.seq (Ann.seq Ann.text (Ann.cond Ann.leaf Ann.leaf)) (Ann.seq (Ann.block (Ann.seq Ann.text (Ann.seq Ann.text (Ann.seq (Ann.seq Ann.text (Ann.cond (Ann.seq Ann.text Ann.leaf) Ann.leaf)) Ann.text)))) Ann.text))))) (Ann.seq Ann.text (Ann.seq (Ann.seq Ann.text (Ann.cond (Ann.seq Ann.text Ann.leaf) Ann.leaf)) (Ann.seq Ann.text (Ann.seq (Ann.seq Ann.text (Ann.cond (Ann.seq Ann.text Ann.leaf) Ann.leaf)) (Ann.seq Ann.text (Ann.seq (Ann.seq Ann.text (Ann.block (Ann.loop [23] [6, 136, 137, 138, 139, 140, 141, 142, 143, 144, 145, 146, 147, 148, 149, 150, 151, 152, 153, 154, 155] (Ann.seq (Ann.seq Ann.text (Ann.cond Ann.leaf Ann.leaf)) (Ann.seq (Ann.block (Ann.seq (Ann.draw (Sch.take 0 (Sch.take 1 (Sch.take 2 (Sch.take 3 (Sch.take 4 (Sch.take 5 (Sch.take 6 (Sch.take 8 (Sch.take 9 (Sch.take 10 (Sch.take 11 (Sch.one 7 (Sch.one 12 (Sch.take 13 Sch.done))))))))))))))) (Ann.cond (Ann.seq Ann.text Ann.leaf) Ann.leaf))) Ann.text))))) (Ann.seq Ann.text Ann.leaf))))))))))))))))))
    Tryz.func3 (by kernel_rfl) (by kernel_rfl)
    (Eq.mp (by kernel_rfl) h)
theorem M.idxLVd_i {α : Type} {f : α → Value} {k : Kt} {w : World} {D : Nat → Prop} {A : Option Addr} {xs : List α} {n c : Nat} {d : IntKind} {i : Int} (hr : Row w D A (xs.map f)) (hn : xs.length = n) (h0 : 0 ≤ i) (h1 : i < n) {x : α} (hx : xs[i.toNat]? = some x)
    (h : ∀ b o, D b → w.cell? ⟨b, o + i.toNat, none⟩ = some (f x) → k (.pointer (some ⟨b, o + i.toNat, none⟩)) w) : M.indexSl 1 (.slice A n c) (.int d i) k w := by
  have hd : ∀ b o, A = some ⟨b, o, none⟩ → D b := fun b o e => by
    rcases hr with hr | ⟨b', o', cc, T, fz, e', h2, _⟩
    · simp at hr; subst hr; simp at hn; omega
    · rw [e] at e'; cases e'; exact h2
  exact M.idxLV_i hr hn h0 h1 hx (fun b o hA hc => h b o (hd b o hA) hc)
structure RW (w : World) (Q : Nat → Prop) (v : Value) (us : List Value) (l : List (List Int)) : Prop where
  gc : GC w (blkOf v) 1 v us.length us
  own : ∀ b, blkOf v b → Q b
  len : us.length = l.length
  all : ∀ (i : Nat) c, l[i]? = some c → ∃ u, us[i]? = some u ∧ LV vi w (fun b => Q b ∧ ¬ blkOf v b) u c
theorem RW.nil (w : World) (Q : Nat → Prop) : RW w Q (.slice none 0 0) [] [] := ⟨GC.nil _ _ _, fun b hb => by obtain ⟨n, c, e⟩ := hb; simp at e, rfl, fun i c h => by simp at h⟩
theorem RW.lt {w : World} {Q : Nat → Prop} {v : Value} {us : List Value} {l : List (List Int)} (h : RW w Q v us l) {b : Nat} (hb : blkOf v b) : b < w.heap.size := (GC.blkOf h.gc hb).2.elim (fun _ hl => hl.lt)
theorem RW.keep {w w' : World} {Q Q' S : Nat → Prop} {v : Value} {us : List Value} {l : List (List Int)} (h : RW w Q v us l) (k : Keep w w' S) (hs : ∀ b, b < w.heap.size → Q b → ¬ S b) (hq : ∀ b, b < w.heap.size → Q b → Q' b) : RW w' Q' v us l :=
  ⟨h.gc.keep k (fun b hb hb2 => hs b hb (h.own b hb2)), fun b hb => hq b (h.lt hb) (h.own b hb), h.len, fun i c hc => by
    obtain ⟨u, h1, h2⟩ := h.all i c hc
    exact ⟨u, h1, ((h2.mono (D' := fun b => (Q b ∧ ¬ blkOf v b) ∧ b < w.heap.size) (fun b hb h => ⟨h, hb⟩)).keep k (fun b _ h => hs b h.2 h.1.1)).mono (fun b _ h => ⟨hq b h.2 h.1.1, h.1.2⟩)⟩⟩
theorem M.appendRW_i {k : Kt} {w : World} {Q : Nat → Prop} {el : Nat} {v u : Value} {us : List Value} {l : List (List Int)} {c : List Int} (h : RW w Q v us l) (hu : LV vi w (fun b => Q b ∧ ¬ blkOf v b) u c) (hQ : ∀ b, w.heap.size ≤ b → Q b) (hb : l.length ≤ 1000000)
    (hk : ∀ v' us' w', RW w' Q v' us' (l ++ [c]) → Keep w w' (blkOf v) → (∀ b, blkOf v' b → blkOf v b ∨ w.heap.size ≤ b) → k v' w') :
    M.buildSlice el 1 #[.slice none 0 0] 1 [(0, u)] (fun t w => M.append el 1 24 #[.slice none 0 0] v t (fun t' w => k t' w) w) w := by
  obtain ⟨B, nc, rfl, _⟩ := id hu
  refine M.buildSlice_i [.slice B c.length nc] (by kernel_rfl) (fun w1 b1 k1 s1 => ?_)
  have h1 := h.keep (Q' := Q) k1 (fun _ _ _ h => h) (fun _ _ h => h)
  have hu1 := hu.keep k1 (fun _ _ _ h => h)
  have e := h.len
  refine M.append_i (L := blkOf v) h1.gc (Row.of_blk' (D := fun _ => True) b1 trivial) rfl (by simp; rfl) rfl (by omega) (by omega) (fun v2 w2 g2 k2 => ?_)
  have q1 := k1.size
  have hsub : ∀ b, blkOf v2 b → blkOf v b ∨ w1.heap.size ≤ b := fun b hb2 => (GC.blkOf g2 hb2).1
  have hv2 : ∀ b, b < w1.heap.size → ¬ blkOf v b → ¬ blkOf v2 b := fun b hb hn hb2 => by
    rcases hsub b hb2 with h | h
    · exact hn h
    · omega
  refine hk _ (us ++ [.slice B c.length nc]) _ ⟨by
    have := GC.own g2
    simpa using this, fun b hb2 => by
      rcases hsub b hb2 with h3 | h3
      · exact h.own b h3
      · exact hQ b (by omega), by simp [e], fun i d hd => ?_⟩ ((k1.mono (fun _ _ h => h.elim)).trans k2 (fun b hb h => h)) (fun b hb2 => by
      rcases hsub b hb2 with h3 | h3
      · exact .inl h3
      · exact .inr (by omega))
  by_cases hi : i < l.length
  · rw [List.getElem?_append_left hi] at hd
    obtain ⟨x, g, gx⟩ := h1.all i d hd
    exact ⟨x, by rw [List.getElem?_append_left (by omega)]; exact g, ((gx.mono (D' := fun b => b < w1.heap.size ∧ (Q b ∧ ¬ blkOf v b)) (fun b hb h => ⟨hb, h⟩)).keep k2 (fun b hb h1 h2 => h1.2.2 h2)).mono (fun b hb h => ⟨h.2.1, hv2 b h.1 h.2.2⟩)⟩
  · rw [List.getElem?_append_right (by omega)] at hd
    have : i - l.length = 0 := by
      have := (List.getElem?_eq_some_iff.1 hd).1; simp at this; omega
    rw [this] at hd
    simp at hd; subst hd
    exact ⟨_, by rw [List.getElem?_append_right (by omega), e, this]; rfl, ((hu1.mono (D' := fun b => b < w1.heap.size ∧ (Q b ∧ ¬ blkOf v b)) (fun b hb h => ⟨hb, h⟩)).keep k2 (fun b hb h1 h2 => h1.2.2 h2)).mono (fun b hb h => ⟨h.2.1, hv2 b h.1 h.2.2⟩)⟩
theorem M.idxRW_i {k : Kt} {w : World} {Q : Nat → Prop} {v : Value} {us : List Value} {l : List (List Int)} {d : IntKind} {i : Int} (h : RW w Q v us l) (h0 : 0 ≤ i) {c : List Int} (hc : l[i.toNat]? = some c)
    (hk : ∀ b o u, w.cell? ⟨b, o + i.toNat, none⟩ = some u → LV vi w Q u c → k (.pointer (some ⟨b, o + i.toNat, none⟩)) w) : M.indexSl 1 v (.int d i) k w := by
  obtain ⟨u, g1, g2⟩ := h.all _ _ hc
  have hlt := (List.getElem?_eq_some_iff.1 hc).1
  have e := h.len
  obtain ⟨A, cp, rfl, hr, _⟩ := GC.row2 h.gc (by omega)
  refine M.idxRow_i hr rfl h0 (by omega) (fun b o hA hcc => hk b o u ?_ (g2.mono (fun _ _ h => h.1)))
  rw [hcc, g1]
structure BQ (Z : Nat → Prop) (w3 w : World) (F : Nat → Prop) (p : Nat) (N : List Nd) (most : Int) (G : Nat → Prop) (g : Nat) (D : List GK) (bl r1 r2 : Nat) (R I : Int → Option (List Int)) : Prop where
  bt : BT Z w F p N most G g D bl r1 r2 R I
  gx : ∀ x, x < w3.heap.size → ¬ G x
  rx : w3.heap.size ≤ r1 ∧ w3.heap.size ≤ r2
  kp : Keep w3 w No
section
variable {Z : Nat → Prop} {w3 w : World} {F : Nat → Prop} {p : Nat} {N : List Nd} {most : Int} {G : Nat → Prop} {g : Nat} {D : List GK} {bl r1 r2 : Nat} {R I : Int → Option (List Int)}
theorem BQ.keepN {w' : World} (h : BQ Z w3 w F p N most G g D bl r1 r2 R I) (k : Keep w w' No) : BQ Z w3 w' F p N most G g D bl r1 r2 R I := ⟨h.bt.keepN k, h.gx, h.rx, h.kp.trans k (fun _ _ h => h)⟩
def QB (G : Nat → Prop) (r1 r2 bl : Nat) (w3 : World) (b : Nat) : Prop := ¬ G b ∧ b ≠ r1 ∧ b ≠ r2 ∧ b ≠ bl ∧ w3.heap.size ≤ b
theorem QB.ns {w3 : World} {b : Nat} (h : QB G r1 r2 bl w3 b) : ¬ (G b ∨ b = r1 ∨ b = r2) := fun hh => by
  rcases hh with hh | hh | hh
  · exact h.1 hh
  · exact h.2.1 hh
  · exact h.2.2.1 hh
theorem BQ.rlt (h : BQ Z w3 w F p N most G g D bl r1 r2 R I) : r1 < w.heap.size ∧ r2 < w.heap.size ∧ bl < w.heap.size := by
  obtain ⟨_, a1, _⟩ := h.bt.bs.m1
  obtain ⟨_, b1, _⟩ := h.bt.bs.m2
  exact ⟨a1.lt, b1.lt, h.bt.bs.blk.lt⟩
theorem BQ.bits {id : Int} (h : BQ Z w3 w F p N most G g D bl r1 r2 R I) (hN : N.length ≤ 1000) (hid : isN N id = true) :
    Ret Tryz.prog 9 #[ptr bl, vi id] w (fun r w' => ∃ G' D' R' I' row v, r = .tuple #[v, vi 0] ∧ RowF w w' G' v row ∧ R' id = some row ∧ BQ Z w3 w' F p N most G' g D' bl r1 r2 R' I' ∧ Keep w w' (fun x => G x ∨ x = r1 ∨ x = r2) ∧ (∀ x, x < w.heap.size → G' x → G x) ∧ ∀ j r, R j = some r → R' j = some r) := by
  refine (bits_ret (P := fun _ => True) trivial (fun _ _ _ _ _ _ => trivial) h.bt hN hid).mono ?_
  rintro r w' ⟨G', D', R', I', row, v, e, hv, hr, hb, k, sG, mR, _, _⟩
  obtain ⟨x1, x2⟩ := h.rx
  have q := h.kp.size
  refine ⟨G', D', R', I', row, v, e, hv, hr, ⟨hb, fun x hx hG => h.gx x hx (sG x (by omega) hG), h.rx, h.kp.trans k (fun x hx hh => ?_)⟩, k, sG, mR⟩
  rcases hh with hh | rfl | rfl
  · exact h.gx x hx hh
  · omega
  · omega
end
abbrev v8 (z : Int) : Value := .int .u8 z
set_option maxHeartbeats 8000000 in
theorem blastMeans_ret {w : World} {D0 D1 D2 : Nat → Prop} {lv' ev ov : Value} {l : List Nd} {env : List W64} {ord : List Int} (hl : LN Nd.cells w D0 lv' l) (he : LV vw w D1 ev env) (ho : LV v8 w D2 ov ord) (hord : ∀ z ∈ ord, 0 ≤ z ∧ z < 256) :
    Ret Tryz.prog 3 #[lv', ev, ov] w (fun r w' => r = .bool true ∧ Keep w w' No) := by
  obtain ⟨A0, c0, rfl, hrl, hcl⟩ := id hl
  obtain ⟨A1, c1, rfl, hre, hce⟩ := id he
  obtain ⟨A2, c2, rfl, hro, hco⟩ := id ho
  refine ok3 _ _ _ _ _ ?_
  unfold sh3
  by_cases hb1 : 40 < l.length
  · (repeat (first|refine ja ?_|refine ji ?_|refine jk ?_|refine jo ?_|refine jC ?_))
    refine M.call_i (awake23_ret w) ?_; rintro _ w1 ⟨rfl, k1⟩
    exact ⟨rfl, k1⟩
  by_cases hb2 : 300 < env.length
  · (repeat (first|refine ja ?_|refine jg ?_|refine ji ?_|refine jk ?_|refine jl ?_|refine jo ?_|refine jC ?_|refine jD ?_))
    refine M.call_i (awake23_ret w) ?_; rintro _ w1 ⟨rfl, k1⟩
    exact ⟨rfl, k1⟩
  by_cases hb3 : 60 < ord.length
  · (repeat (first|refine ja ?_|refine jg ?_|refine jl ?_|refine jo ?_|refine jC ?_|refine jD ?_))
    refine M.call_i (awake23_ret w) ?_; rintro _ w1 ⟨rfl, k1⟩
    exact ⟨rfl, k1⟩
  (repeat (first|refine ja ?_|refine jg ?_|refine jl ?_|refine jp ?_|refine jD ?_))
  refine M.call_i (buildL_ret hl (by omega) 1000) ?_; rintro _ w1 ⟨F, p, xv, N, rfl, hd1, hx1, hNl, hF1, k1⟩
  rw [if_neg (by omega)] at hd1 hx1 hNl
  have hN : N.length ≤ 1000 := by
    rcases hNl with h | h
    · omega
    · rw [h]; decide
  obtain ⟨X, xc, rfl, _⟩ := id hx1
  refine M.extract_i (v := ptr p) rfl ?_
  refine M.extract_i (v := .agg ⟨[.slice X N.length xc, vi 1000]⟩) rfl ?_
  refine M.new_i (l := [.slice none 0 0, vi 0]) (fun w2 b2 k2 s2 => ?_)
  refine M.storeAll_i b2 rfl rfl (List.all_eq_true.1 rfl) (fun w3 b3 k3 s3 => ?_)
  have k13 : Keep w1 w3 No := k2.trans k3 (fun x hx e => by have e : x = w1.heap.size := e; omega)
  have k03 := k1.trans k13 (fun _ _ h => h)
  have hd3 := hd1.keepN k13
  have hx3 := hx1.keep k13 (fun _ _ _ h => h)
  refine M.call_i (gnew_ret w3) ?_; rintro _ w4 ⟨g, G0, rfl, hg4, hG4, k4⟩
  have hFl : ∀ x, F x → x < w3.heap.size := fun x hx => hd3.lt hx
  have b4 := b3.keep k4 (fun h => h)
  have hx4 := hx3.keep k4 (fun _ _ _ h => h)
  (repeat (first|refine jg ?_|refine jl ?_|refine jp ?_|refine jt ?_))
  refine M.loadAll_i b4 rfl ?_
  refine M.call_i (heavy_ret hx4 (by omega)) ?_; rintro _ w5 ⟨hv, rfl, k5⟩
  have k35 := k4.trans k5 (fun _ _ h => h)
  cases hv with
  | true =>
    (repeat (refine jo ?_))
    refine M.call_i (awake23_ret w5) ?_; rintro _ w6 ⟨rfl, k6⟩
    exact ⟨rfl, (k03.trans k35 (fun _ _ h => h)).trans k6 (fun _ _ h => h)⟩
  | false =>
  (repeat (refine jp ?_))
  have hg5 := hg4.keepN k5
  have hd5 := hd3.keepN k35
  refine M.call_i (bnew_ret hd5 hg5 (fun x hx hG => by have := hG4 x hG; have := hFl x hx; omega) (fun _ => True) (fun _ _ => trivial)) ?_; rintro _ w6 ⟨bl, r1, r2, rfl, hb6, l1, l2, l3, k6⟩
  (repeat (first|refine jp ?_|refine jt ?_))
  have q35 := k35.size
  have k36 := k35.trans k6 (fun _ _ h => h)
  have hblw3 : w3.heap.size ≤ bl := by omega
  have hB6 : BQ (fun _ => True) w3 w6 F p N 1000 G0 g [.tru] bl r1 r2 (fun _ => none) (fun _ => none) := ⟨hb6, fun x hx hG => by have := hG4 x hG; omega, ⟨by omega, by omega⟩, k36⟩
  -- in some order
  refine M.loop_i (σ := Nat) (fun i vals w' => ∃ (G : Nat → Prop) (D : List GK) (R I : Int → Option (List Int)), vals = [vi i] ∧ i ≤ ord.length ∧ BQ (fun _ => True) w3 w' F p N 1000 G g D bl r1 r2 R I) (fun i => ord.length - i) 0 ⟨_, _, _, _, rfl, by omega, hB6⟩ ?_
  rintro i vals w7 K1 ⟨G, D, R, I, rfl, hi, hB⟩ hK1 _
  simp only [List.getD_cons_zero, List.getD_cons_succ]
  have b7 := b3.keep hB.kp (fun h => h)
  by_cases hgo : i < ord.length ∧ 0 < N.length
  · obtain ⟨hlt, hN0⟩ := hgo
    obtain ⟨z, hz⟩ : ∃ z, ord[i]? = some z := ⟨_, List.getElem?_eq_getElem hlt⟩
    obtain ⟨z0, z1⟩ := hord z (List.mem_of_getElem? hz)
    (repeat (first|refine ja ?_|refine jc ?_|refine jd ?_|refine jf ?_|refine jk ?_|refine jo ?_|refine jy ?_|refine jC ?_|refine jN (by assumption) rfl ?_))
    have hBd := hB.keepN (Keep.drew w7 No)
    have b8 := b7.keep (Keep.drew w7 No) (fun h => h)
    revert hBd b8
    generalize w7.drew = w8
    intro hBd b8
    have hro8 := ((hro.mono (D' := fun x => x < w.heap.size) (fun x hx _ => hx)).keep k03 (fun _ _ _ h => h)).keep hBd.kp (fun _ _ _ h => h)
    refine M.idxLVd_i hro8 rfl (by omega) (by omega) (x := z) (by simpa using hz) (fun bb oo hbb hcc => ?_)
    refine M.load_i hcc ?_
    refine M.int8_i (by omega) (by omega) ?_
    refine M.field_i ?_
    refine M.loadB_i b8 rfl ?_
    refine M.len_i ?_
    have er : ibin .rem .i64 z (N.length : Int) = some (vi (z.tmod N.length)) := by
      simp only [ibin]
      rw [if_neg (by omega)]
    refine M.bin_i er ?_
    have et : z.tmod N.length = z % (N.length : Int) := Int.tmod_eq_emod_of_nonneg z0
    have m0 := Int.emod_nonneg z (show (N.length : Int) ≠ 0 by omega)
    have m1 := Int.emod_lt_of_pos z (show 0 < (N.length : Int) by omega)
    have q03 := k03.size
    refine M.call_i (hBd.bits hN (isN_iff.2 ⟨by rw [et]; exact m0, by rw [et]; exact m1⟩)) ?_; rintro _ w9 ⟨G', D', R', I', row, v, rfl, hvr, hrr, hB9, k9, sG9, mR9⟩
    refine ⟨M.loadB_i (b3.keep hB9.kp (fun h => h)) rfl rfl, ?_⟩
    refine ⟨M.load_i (k9.cell (fun hh => by
      rcases hh with hh | e | e
      · exact hBd.gx bb (by omega) hh
      · have := hBd.rx.1; omega
      · have := hBd.rx.2; omega) hcc) rfl, ?_⟩
    (repeat (refine jK ?_))
    exact hK1 (i + 1) _ _ (by omega) ⟨G', D', R', I', by rw [Int.natCast_add]; rfl, by omega, hB9⟩
  have hgo2 : ∀ (B C : World → Prop), C w7 → M.bin .lss (vi i) (vi ord.length) (fun t61 w =>
      M.gd t61 true (fun k w => M.fieldAddr 0 (.pointer (some ⟨w1.heap.size, 0, none⟩)) k w) (fun t63 w =>
      M.gd t61 true (fun k w => M.load1 t63 k w) (fun t64 w =>
      M.gd t61 true (fun k w => M.len t64 k w) (fun t65 w =>
      M.gd t61 true (fun k w => M.bin .gtr t65 (Value.int IntKind.i64 0) k w) (fun t66 w =>
      M.pick t61 t66 (Value.bool false) (fun t67 w => M.cond t67 (B w) (C w)) w) w) w) w) w) w7 := by
    intro B C hC
    by_cases hlt : i < ord.length
    · have hN0 : N.length = 0 := by
        apply Classical.byContradiction
        intro hne
        exact hgo ⟨hlt, by omega⟩
      (repeat (first|refine ja ?_|refine jc ?_|refine jf ?_|refine jk ?_|refine jp ?_|refine jy ?_|refine jD ?_|refine jN (by assumption) rfl ?_))
      exact hC
    · (repeat (first|refine jh ?_|refine jl ?_|refine jp ?_|refine jz ?_))
      exact hC
  refine M.len_i ?_
  refine hgo2 _ (fun w => _) ?_
  clear hgo2 hgo hK1
  have nob : ∀ x, ¬ blkOf (.slice none 0 0) x := fun x hb => by obtain ⟨n, c, e⟩ := hb; simp at e
  have hBz : BQ (fun x => ¬ blkOf (.slice none 0 0) x) w3 w7 F p N 1000 G g D bl r1 r2 R I := ⟨⟨hB.bt.bs.zset (Keep.refl _ _) (fun x _ _ => nob x) (fun x _ => nob x), hB.bt.pf, hB.bt.lb⟩, hB.gx, hB.rx, hB.kp⟩
  -- all rows
  refine M.loop_i (σ := Nat) (fun i vals w' => ∃ (G : Nat → Prop) (D : List GK) (R I : Int → Option (List Int)) (sv : Value) (us : List Value) (rows : List (List Int)), vals = [sv, vi i] ∧ i ≤ N.length ∧ BQ (fun x => ¬ blkOf sv x) w3 w' F p N 1000 G g D bl r1 r2 R I ∧ RW w' (QB G r1 r2 bl w3) sv us rows ∧ rows.length = i ∧ ∀ (k : Nat) row, rows[k]? = some row → R k = some row) (fun i => N.length - i) 0
    ⟨G, D, R, I, _, [], [], rfl, by omega, hBz, RW.nil _ _, rfl, by simp⟩ ?_
  clear hBz hB b7 hi
  rintro i vals w8 K2 ⟨G2, D2', R2, I2, sv, us, rows, rfl, hi2, hB2, hrw, hrl2, hrows⟩ hK2 _
  simp only [List.getD_cons_zero, List.getD_cons_succ]
  have b8 := b3.keep hB2.kp (fun h => h)
  have hgood := hB2.bt.bs.dag.good
  by_cases hlt : i < N.length
  · (repeat (first|refine ja ?_|refine jc ?_|refine jo ?_|refine jy ?_|refine jN (by assumption) rfl ?_))
    have hid : isN N (i : Int) = true := isN_iff.2 ⟨by omega, by omega⟩
    refine M.call_i (hB2.bits hN hid) ?_; rintro _ w9 ⟨G9, D9, R9, I9, row, v, rfl, hv9, hr9, hB9, k9, sG9, mR9⟩
    refine M.extract_i (v := v) rfl ?_
    refine M.extract_i (v := vi 0) rfl ?_
    refine M.call_i (hB9.bits hN hid) ?_; rintro _ w10 ⟨G10, D10, R10, I10, row', v', rfl, hv10, hr10, hB10, k10, sG10, mR10⟩
    refine M.extract_i (v := v') rfl ?_
    refine M.extract_i (v := vi 0) rfl ?_
    have er : row' = row := by
      have := mR10 _ _ hr9
      rw [hr10] at this
      exact Option.some.inj this
    subst er
    obtain ⟨_, rl, _, _⟩ := hB10.bt.pf.rows _ _ hr10
    have hw64 := hgood.wd hid
    have q9 := k9.size
    have q10 := k10.size
    obtain ⟨x1, x2, x3⟩ := hB2.rlt
    have hv9' : LV vi w10 (fun x => ¬ G10 x ∧ w8.heap.size ≤ x) v row' := (LV.keep (LV.mono (D' := fun x => (¬ G9 x ∧ w8.heap.size ≤ x) ∧ x < w9.heap.size) hv9 (fun x hx h => ⟨h, hx⟩)) k10 (fun x _ h hh => by
      rcases hh with hh | hh | hh
      · exact h.1.1 hh
      · have := h.1.2; omega
      · have := h.1.2; omega)).mono (fun x _ h => ⟨fun hG => h.1.1 (sG10 x h.2 hG), h.1.2⟩)
    have hrw9 : RW w9 (QB G9 r1 r2 bl w3) sv us rows := hrw.keep k9 (fun b _ h => h.ns) (fun b hb h => ⟨fun hG => h.1 (sG9 b hb hG), h.2⟩)
    have hrw10 : RW w10 (QB G10 r1 r2 bl w3) sv us rows := hrw9.keep k10 (fun b _ h => h.ns) (fun b hb h => ⟨fun hG => h.1 (sG10 b hb hG), h.2⟩)
    (repeat (first|refine jg ?_|refine jl ?_|refine jJ ?_))
    refine M.call_i (same_ret hv9' hv10 (by show row'.length ≤ _; omega)) ?_; rintro _ w11 ⟨rfl, k11⟩
    rw [decide_eq_true (rfl : row' = row')]
    (repeat (first|refine jg ?_|refine jl ?_|refine jm ?_|refine jp ?_))
    have hB11 := hB10.keepN k11
    have hrw11 := hrw10.keep (Q' := QB G10 r1 r2 bl w3) k11 (fun _ _ _ h => h) (fun _ _ h => h)
    have q11 := k11.size
    have hw38 := hB2.kp.size
    have hGl := hB11.bt.bs.ga.lt
    have hu : LV vi w11 (fun b => QB G10 r1 r2 bl w3 b ∧ ¬ blkOf sv b) v row' := (hv9'.keep k11 (fun _ _ _ h => h)).mono (fun b _ h => ⟨⟨h.1, by have := h.2; omega, by have := h.2; omega, by have := h.2; omega, by have := h.2; omega⟩, fun hb => by have := hrw.lt hb; have := h.2; omega⟩)
    refine M.appendRW_i hrw11 hu (fun b hb => ⟨fun hG => by have := hGl b hG; omega, by omega, by omega, by omega, by omega⟩) (by omega) (fun v2 us' w12 hrw12 k12 hsub => ?_)
    (repeat (refine jK ?_))
    refine hK2 (i + 1) _ _ (by omega) ⟨G10, D10, R10, I10, v2, us', rows ++ [row'], by rw [Int.natCast_add]; rfl, by omega, ⟨⟨hB11.bt.bs.move k12 (fun x hx hs => ?_) (fun x hx hz hb => ?_) (fun x hx hb => ?_), hB11.bt.pf, hB11.bt.lb⟩, hB11.gx, hB11.rx, hB11.kp.trans k12 (fun x hx h => ?_)⟩, hrw12, by rw [List.length_append, List.length_singleton, hrl2], fun k r hk => ?_⟩
    · have hq := hrw11.own x hs
      exact ⟨⟨fun hF => by have := hFl x hF; have := hq.2.2.2.2; omega, hq.1, hq.2.2.2.1, hq.2.1, hq.2.2.1⟩, fun hz => hz hs⟩
    · rcases hsub x hb with h | h
      · exact hz h
      · omega
    · have := hrw12.lt hb
      omega
    · have hq := hrw11.own x h
      have := hq.2.2.2.2
      omega
    · by_cases hkl : k < rows.length
      · rw [List.getElem?_append_left hkl] at hk
        exact mR10 _ _ (mR9 _ _ (hrows k r hk))
      · rw [List.getElem?_append_right (by omega)] at hk
        have h0 := (List.getElem?_eq_some_iff.1 hk).1
        simp only [List.length_singleton] at h0
        have ek : k = i := by omega
        subst ek
        rw [show k - rows.length = 0 by omega] at hk
        simp at hk
        subst hk
        exact hr10
  · have ei : i = N.length := by omega
    subst ei
    (repeat (first|refine ja ?_|refine jc ?_|refine jp ?_|refine jz ?_|refine jN (by assumption) rfl ?_))
    refine M.loadAll_i b8 rfl ?_
    obtain ⟨ι, hC, hbit⟩ := cmp_ex hB2.bt.pf hB2.bt.bs.ga.wf hgood env
    have hx8 := hx3.keep hB2.kp (fun _ _ _ h => h)
    have he8 := (he.keep k03 (fun _ _ _ h => h)).keep hB2.kp (fun _ _ _ h => h)
    have hfew := hB2.bt.few hN
    refine M.call_i (holds23_ret hB2.bt hN hx8 he8 (by omega) hbit) ?_; rintro _ w9 ⟨H, hv, rfl, hH, hHl, hHg, hHin, k9⟩
    refine M.extract_i (v := hv) rfl ?_
    refine M.extract_i (v := vi 1) rfl ?_
    (repeat (first|refine jp ?_|refine jH ?_))
    refine M.call_i (close20_ret (hB2.bt.keepN k9).bs.ga (by omega) hH hHl hHg hHin) ?_; rintro _ w10 ⟨vv, Kk, Ii, rfl, hvo, hfull, k10⟩
    obtain ⟨va, vbb, rfl, h1a, h2a, h3a⟩ := id hvo
    obtain ⟨B1, d1, rfl, _, _⟩ := id h1a
    obtain ⟨B2, d2, rfl, _, _⟩ := id h2a
    refine M.extract_i (v := .agg ⟨[.slice B1 Kk.length d1, .slice B2 Ii.length d2]⟩) rfl ?_
    refine M.extract_i (v := vi 1) rfl ?_
    refine M.new_i (l := [.slice none 0 0, .slice none 0 0]) (fun w11 b11 k11 s11 => ?_)
    refine M.storeAll_i b11 rfl rfl (by simp; exact ⟨rfl, rfl⟩) (fun w12 b12 k12 s12 => ?_)
    have k810 := k9.trans k10 (fun _ _ h => h)
    have k1012 : Keep w10 w12 No := k11.trans k12 (fun x hx e => by have e : x = w10.heap.size := e; omega)
    have k812 := k810.trans k1012 (fun _ _ h => h)
    have b12' := b8.keep k812 (fun h => h)
    have hx12 := hx8.keep k812 (fun _ _ _ h => h)
    have he12 := he8.keep k812 (fun _ _ _ h => h)
    have hvo12 := hvo.keep k1012 (fun _ _ _ h => h)
    have hrw12 := hrw.keep (Q' := fun _ => True) k812 (fun _ _ _ h => h) (fun _ _ _ => trivial)
    (repeat (first|refine jp ?_|refine jH ?_))
    refine M.loadAll_i b12' rfl ?_
    refine M.call_i (rall_ret hx12 (by omega) hgood he12 (by omega)) ?_; rintro _ w13 ⟨⟨E, ec, rfl, hrE, _⟩, k13⟩
    have hvl := valsU_len N env N.length
    rw [hvl]
    refine M.loop_i (σ := Nat) (fun i vals w' => vals = [vi i] ∧ i ≤ N.length ∧ Keep w13 w' No) (fun i => N.length - i) 0 ⟨rfl, by omega, Keep.refl _ _⟩ ?_
    rintro i vals w14 K3 ⟨rfl, hi3, k14⟩ hK3 _
    simp only [List.getD_cons_zero, List.getD_cons_succ]
    have k1214 := k13.trans k14 (fun _ _ h => h)
    by_cases hlt3 : i < N.length
    · obtain ⟨n, hn⟩ : ∃ n, N[i]? = some n := ⟨_, List.getElem?_eq_getElem hlt3⟩
      obtain ⟨row, hrow⟩ : ∃ row, rows[i]? = some row := ⟨_, List.getElem?_eq_getElem (by omega)⟩
      obtain ⟨_, rl, rf, rv⟩ := hB2.bt.pf.rows _ _ (hrows i row hrow)
      have hid : isN N (i : Int) = true := isN_iff.2 ⟨by omega, by omega⟩
      have hw64 := hgood.wd hid
      (repeat (first|refine ja ?_|refine jd ?_|refine jo ?_|refine jy ?_))
      have kd := Keep.drew w14 No
      have k1215 := k1214.trans kd (fun _ _ h => h)
      have k1315 := k14.trans kd (fun _ _ h => h)
      revert k1215 k1315 kd
      generalize w14.drew = w15
      intro kd k1215 k1315
      have bv := b12.keep k1215 (fun h => h)
      have bx := b12'.keep k1215 (fun h => h)
      have hx15 := hx12.keep k1215 (fun _ _ _ h => h)
      have hrw15 := hrw12.keep (Q' := fun _ => True) k1215 (fun _ _ _ h => h) (fun _ _ _ => trivial)
      have hrE15 := hrE.keep k1315 (fun _ _ _ h => h)
      refine M.loadAll_i bv rfl ?_
      refine M.idxRW_i hrw15 (by omega) (c := row) (by simpa using hrow) (fun bb oo u hu hru => ?_)
      refine M.load_i hu ?_
      refine M.loadAll_i bx rfl ?_
      have hval : (valsU N env N.length)[i]? = some (wordAt N env i) := by
        unfold wordAt
        rw [Int.toNat_natCast, List.getD_eq_getElem?_getD, List.getElem?_eq_getElem (by omega)]; rfl
      refine M.idxLV_i hrE15 hvl (by omega) (by omega) (x := wordAt N env i) (by simpa using hval) (fun bb2 oo2 hA2 hcc2 => ?_)
      refine M.load_i hcc2 ?_
      refine M.call_i (rwidth_ret hx15 (i : Int)) ?_; rintro _ w16 ⟨rfl, k16⟩
      refine ⟨M.load_i (k16.cell (fun h => h) hcc2) rfl, M.load_i (k16.cell (fun h => h) hu) rfl, M.loadAll_i (bv.keep k16 (fun h => h)) rfl rfl, ?_⟩
      rw [← rl]
      have hy := rv ι env hC
      have hcut : (wordAt N env i).toNat = (cutW row.length (wordAt N env i)).toNat := by
        rw [cut_sm (by omega) (by omega) (by rw [← hy]; exact rv_lt ι D2' row)]
      refine M.call_i (is20_ret (n := row.length) ((hvo12.keep k1215 (fun _ _ _ h => h)).keep k16 (fun _ _ _ h => h)) hfull (by omega) (hru.keep k16 (fun _ _ _ h => h)) rf rfl (by omega) (by rw [hy, hcut])) ?_; rintro _ w17 ⟨rfl, k17⟩
      (repeat (first|refine jp ?_|refine jH ?_|refine jK ?_))
      exact hK3 (i + 1) _ _ (by omega) ⟨by rw [Int.natCast_add]; rfl, by omega, (k1315.trans k16 (fun _ _ h => h)).trans k17 (fun _ _ h => h)⟩
    · (repeat (first|refine ja ?_|refine jp ?_|refine jz ?_))
      refine M.call_i (awake23_ret w14) ?_; rintro _ w15 ⟨rfl, k15⟩
      exact ⟨rfl, (((k03.trans hB2.kp (fun _ _ h => h)).trans k812 (fun _ _ h => h)).trans k1214 (fun _ _ h => h)).trans k15 (fun _ _ h => h)⟩
end Go.Proofs.YtnbcglnefoinlaaGreat
