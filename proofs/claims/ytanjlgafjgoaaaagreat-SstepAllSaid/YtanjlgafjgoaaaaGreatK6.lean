import Derived.Test.YtanjlgafjgoaaaaGreatK5
import Derived.Laws.IdiomStrings
import Derived.Laws.Externs
namespace Go.Proofs.YtanjlgafjgoaaaaGreat
open Go.Mw
set_option linter.unusedVariables false
set_option linter.unusedSimpArgs false
set_option maxRecDepth 100000
attribute [local irreducible] M.val M.unit M.next M.pick M.new M.nilCheck M.load1 M.loadA M.store M.fieldAddr M.indexSl M.indexArr M.slice M.makeSlice M.buildSlice M.len M.lenS M.cap M.append M.extract M.conv M.not M.neg M.bin M.shift M.eqB M.eqNil M.scat M.call M.callv M.gd M.share M.cond M.loop M.draw pureW readW Ret
theorem okI_a {i : Ins} {len : Int} (h : okI i len = true) (ha : hasA i.op = true) : 0 ≤ i.a ∧ i.a ≤ 7 := by
  unfold okI regOk at h
  simp only [Bool.and_eq_true] at h
  have := h.2.1
  rw [if_pos ha] at this
  simpa using this
theorem okI_b {i : Ins} {len : Int} (h : okI i len = true) (ha : hasB i.op = true) : 0 ≤ i.b ∧ i.b ≤ 7 := by
  unfold okI regOk at h
  simp only [Bool.and_eq_true] at h
  have := h.2.2.1
  rw [if_pos ha] at this
  simpa using this
theorem okI_c {i : Ins} {len : Int} (h : okI i len = true) (ha : hasC i.op = true) : 0 ≤ i.c ∧ i.c ≤ 7 := by
  unfold okI regOk at h
  simp only [Bool.and_eq_true] at h
  have := h.2.2.2.1
  rw [if_pos ha] at this
  simpa using this
theorem okI_imm {i : Ins} {len : Int} (h : okI i len = true) : immOk i len = true := by
  unfold okI at h
  simp only [Bool.and_eq_true] at h
  exact h.2.2.2.2.2
theorem okI_op {i : Ins} {len : Int} (h : okI i len = true) : 1 ≤ i.op ∧ i.op ≤ 15 := by
  unfold okI at h
  simp only [Bool.and_eq_true] at h
  simpa using h.1
section
variable {most : Int} {N : List Nd} {env : List W64} {k : Nat} {s : Sy} {i : Ins}
theorem setR_acc {r : Rs} {x : W64} (hs : WfS N s) (hb : B1 k s) (hr : KG N env 0 r 64 x) :
    Acc N env (k + 1) s 0 (setR r s i) (if stHolds N env s then [(stOf N env s).set i x] else []) := by
  have h1 : ∀ h0 : r.2.2 = 0, stOf r.1 env (s.set i r.2.1) = (stOf N env s).set i x := fun h0 => by
    obtain ⟨_, M, hM, hG, hv, h3, h4, h5⟩ := hr.ok h0
    rw [stOf_set, h5]
    rw [hM] at hG ⊢
    rw [hs.stOf_ext hG]
  have := plainR_acc (N := N) (N1 := r.1) (env := env) (k := k + 1) (s := s) (o := s.set i r.2.1) (e := r.2.2) (M := if h0 : r.2.2 = 0 then (hr.ok h0).2.choose else []) hr.err (fun h0 => by
    have hc := (hr.ok h0).2.choose_spec
    rw [dif_pos h0]
    obtain ⟨hM, hG, hv, h3, h4, h5⟩ := hc
    refine ⟨hM, hG, hv, ?_, Bd.next hb, rfl, hs⟩
    have hs2 := hs.ext ((hr.ok h0).2.choose)
    rw [← hM] at hs2
    exact hs2.set i h4)
  refine ⟨this.err, fun h0 => ?_⟩
  have h00 : r.2.2 = 0 := h0
  have t := this.ok h0
  rw [h1 h00] at t
  exact t
theorem plain_acc {o : Sy} {t : St} (hG : GoodN N) (hv : Var8 N) (hs : WfS N s) (ho : WfS N o) (hb : Bd (k + 1) o) (hc : o.conds = s.conds) (ht : stOf N env o = t) :
    Acc N env (k + 1) s 0 (plainR N 0 o) (if stHolds N env s then [t] else []) := by
  subst ht
  exact plainR_acc (M := []) (.inl rfl) (fun _ => ⟨by simp, hG, hv, ho, hb, hc, hs⟩)
theorem binP_kg (hG : GoodN N) (hv : Var8 N) (hs : WfS N s) (hb : 0 ≤ i.b ∧ i.b ≤ 7) (hc : 0 ≤ i.c ∧ i.c ≤ 7) (hi : 1 ≤ i.imm.toNat ∧ i.imm.toNat ≤ 14) :
    KG N env 0 (binP most N 0 s i) 64 (binW (i.imm.toNat : Int) 64 ((stOf N env s).reg i.b) ((stOf N env s).reg i.c)) := by
  have hwb := hs.reg hb
  have hwc := hs.reg hc
  have h1 : KG N env 0 (kp 0 (foldBin most N (i.imm.toNat : Int) (s.reg i.b) (s.reg i.c))) (if (12 : Int) ≤ (i.imm.toNat : Int) then 1 else 64) (binW (i.imm.toNat : Int) 64 ((stOf N env s).reg i.b) ((stOf N env s).reg i.c)) :=
    kp_got (most := most) (.inl rfl) (fun _ => by
      have := got_foldBin (most := most) (env := env) hG (op := (i.imm.toNat : Int)) (by omega) (is_of64 hwb) (is_of64 hwc) (by rw [hwb, hwc])
      rw [hwb, ← stOf_reg hs hb, ← stOf_reg hs hc] at this
      exact ⟨hv, this⟩)
  show KG N env 0 (if (kp 0 (foldBin most N (i.imm.toNat : Int) (s.reg i.b) (s.reg i.c))).2.2 = 0 ∧ (i.imm.toNat = 12 ∨ i.imm.toNat = 13 ∨ i.imm.toNat = 14) then kp (kp 0 (foldBin most N (i.imm.toNat : Int) (s.reg i.b) (s.reg i.c))).2.2 (foldExt most (kp 0 (foldBin most N (i.imm.toNat : Int) (s.reg i.b) (s.reg i.c))).1 (kp 0 (foldBin most N (i.imm.toNat : Int) (s.reg i.b) (s.reg i.c))).2.1 64) else kp 0 (foldBin most N (i.imm.toNat : Int) (s.reg i.b) (s.reg i.c))) 64 _
  generalize kp 0 (foldBin most N (i.imm.toNat : Int) (s.reg i.b) (s.reg i.c)) = r at h1 ⊢
  by_cases hcmp : i.imm.toNat = 12 ∨ i.imm.toNat = 13 ∨ i.imm.toNat = 14
  · rw [if_pos (by omega)] at h1
    by_cases h0 : r.2.2 = 0
    · rw [if_pos ⟨h0, hcmp⟩]
      refine KG.chain (most := most) h1 (fun M hM hG' hv' h3 h4 h5 _ => ?_)
      have := got_foldExt (most := most) (env := env) hG' (w := 64) h3 (by rw [h4]; decide) (by decide)
      rwa [h5] at this
    · rw [if_neg (fun h => h0 h.1)]
      exact ⟨h1.err, fun h => absurd h h0⟩
  · rw [if_neg (by omega)] at h1
    rw [if_neg (fun h => hcmp h.2)]
    exact h1
theorem inputP_kg (hG : GoodN N) (hv : Var8 N) (hi : i.imm.toNat < 4) (inputs : Int) : KG N env 0 (inputP most N 0 i inputs) 64 (inputC (bytesC inputs env) i) := by
  unfold inputP inputC
  have hbl : (bytesC inputs env).length = inputs.toNat := by simp [bytesC]
  rw [hbl]
  by_cases h : inputs < 0 ∨ inputs ≤ (i.imm.toNat : Int)
  · rw [if_pos h, if_neg (by omega)]
    exact wordP_kg 0 (.inl rfl) (fun _ => ⟨hG, hv⟩)
  · have h2 : i.imm.toNat < inputs.toNat := by omega
    rw [if_neg h, if_pos h2]
    have hval : (bytesC inputs env).getD i.imm.toNat 0 = if i.imm.toNat < env.length then cutW 8 (env.getD i.imm.toNat 0) else 0 := by
      unfold bytesC
      rw [List.getD_eq_getElem?_getD, List.getElem?_map, List.getElem?_range (by omega)]
      rfl
    rw [hval]
    obtain ⟨g1, ⟨M, g2⟩, g3, g4, g5, _⟩ := got_var (most := most) (env := env) hG (k := (i.imm.toNat : Int)) (by omega) (by omega) hv
    have h1 : KG N env 0 (kp 0 (varN most N 8 (i.imm.toNat : Int))) 8 (if i.imm.toNat < env.length then cutW 8 (env.getD i.imm.toNat 0) else 0) := by
      unfold kp
      rw [if_pos rfl]
      refine ⟨g3, fun h0 => ⟨rfl, M, g2, g1, g5, (g4 h0).1, (g4 h0).2.1, ?_⟩⟩
      rw [(g4 h0).2.2, Int.toNat_natCast]
      by_cases hl : i.imm.toNat < env.length
      · rw [if_pos hl, if_pos (by omega)]
      · rw [if_neg hl, if_neg (by omega)]
    show KG N env 0 (if (kp 0 (varN most N 8 (i.imm.toNat : Int))).2.2 ≠ 0 then ((kp 0 (varN most N 8 (i.imm.toNat : Int))).1, 0, (kp 0 (varN most N 8 (i.imm.toNat : Int))).2.2) else kp (kp 0 (varN most N 8 (i.imm.toNat : Int))).2.2 (foldExt most (kp 0 (varN most N 8 (i.imm.toNat : Int))).1 (kp 0 (varN most N 8 (i.imm.toNat : Int))).2.1 64)) 64 _
    generalize kp 0 (varN most N 8 (i.imm.toNat : Int)) = r at h1 ⊢
    by_cases h0 : r.2.2 = 0
    · rw [if_neg (fun h => h h0)]
      refine KG.chain (most := most) h1 (fun M hM hG' hv' h3 h4 h5 _ => ?_)
      have := got_foldExt (most := most) (env := env) hG' (w := 64) h3 (by rw [h4]; decide) (by decide)
      rwa [h5] at this
    · rw [if_pos h0]
      exact ⟨h1.err, fun h => absurd h h0⟩
theorem branchP_acc (hG : GoodN N) (hv : Var8 N) (hs : WfS N s) (hb : B1 k s) (ha : 0 ≤ i.a ∧ i.a ≤ 7) (hi : i.imm.toNat < 70) :
    Acc N env (k + 1) s 0 (branchP most N 0 s i) (if stHolds N env s then [if (stOf N env s).reg i.a = 0 then (stOf N env s).next else (stOf N env s).at i] else []) := by
  have hz := isP_kg (most := most) (env := env) (N := N) (e := 0) (id := s.reg i.a) (y := (stOf N env s).reg i.a) 0 (.inl rfl) (fun _ => ⟨hG, hv, hs.reg ha, (stOf_reg hs ha).symm⟩)
  unfold branchP
  simp only
  generalize isP most N 0 (s.reg i.a) 0 = z at hz ⊢
  have ht := notP_kg (most := most) (env := env) (N := z.1) (e := z.2.2) (c := z.2.1) (decide ((stOf N env s).reg i.a = 0)) hz.err (fun h0 => by
    obtain ⟨_, M, hM, hG1, hv1, h3, h4, h5⟩ := hz.ok h0
    refine ⟨hG1, hv1, h3, h4, ?_⟩
    rw [h5]
    by_cases h : (stOf N env s).reg i.a = 0 <;> simp [h])
  generalize notP most z.1 z.2.2 z.2.1 = t at ht ⊢
  refine ⟨ht.err, fun h0 => ?_⟩
  have h0 : t.2.2 = 0 := h0
  obtain ⟨hz0, M2, hM2, hG2, hv2, t3, t4, t5⟩ := ht.ok h0
  obtain ⟨_, M, hM, hG1, hv1, z3, z4, z5⟩ := hz.ok hz0
  have hM3 : t.1 = N ++ (M ++ M2) := by rw [hM2, hM, List.append_assoc]
  have z3' : isN t.1 z.2.1 = true := by rw [hM2]; exact isN_ext M2 z3
  have z5' : valW t.1 env z.2.1 = if decide ((stOf N env s).reg i.a = 0) then 1 else 0 := by
    have hGG := hG2
    rw [hM2] at hGG ⊢
    rw [valW_ext hGG z3, z5]
    by_cases h : (stOf N env s).reg i.a = 0 <;> simp [h]
  have t5' : valW t.1 env t.2.1 = if !decide ((stOf N env s).reg i.a = 0) then 1 else 0 := by
    rw [t5]
    by_cases h : (stOf N env s).reg i.a = 0 <;> simp [h]
  have fa : Fs N (k + 1) s (s.at i) := ⟨hs.at i, Bd.at hb hi, rfl⟩
  have fn : Fs N (k + 1) s s.next := ⟨hs.next, Bd.next hb, rfl⟩
  obtain ⟨a1, a2⟩ := addP_acc hM3 hG2 (out := []) (T := []) (fun o h => absurd h (by simp)) (Hd_nil _ _) fa t3 t5'
  obtain ⟨b1, b2⟩ := addP_acc hM3 hG2 a1 a2 fn z3' z5'
  refine ⟨rfl, _, hM3, hG2, hv2, ?_⟩
  simp only [h0]
  refine ⟨b1, ?_⟩
  rw [b2]
  by_cases h : (stOf N env s).reg i.a = 0
  · rw [decide_eq_true h, if_pos h]
    cases stHolds N env s <;> simp [stOf_next]
  · rw [decide_eq_false h, if_neg h]
    cases stHolds N env s <;> simp [stOf_at]
theorem eachS_acc {n : Nat} {r code : Int} {f : Nat → Sy} {g : Nat → St} (hG : GoodN N) (hv : Var8 N) (hs : WfS N s) (h0 : s.en = 0) (hb : B1 k s) (hr : 0 ≤ r ∧ r ≤ 7) (hn : n ≤ 1000) (hf : ∀ j, j < n → WfS N (f j) ∧ Bd (k + 1) (f j) ∧ (f j).conds = s.conds ∧ stOf N env (f j) = g j) :
    Acc N env (k + 1) s 0 (eachP most N 0 s (s.reg r) n code f) (if stHolds N env s then [eachC (stOf N env s) ((stOf N env s).reg r) n code g] else []) := by
  refine Acc.congr (eachP_acc (most := most) (y := (stOf N env s).reg r) hG hv (hs.reg hr) (stOf_reg hs hr).symm hn hs (fun j hj => ⟨(hf j hj).1, (hf j hj).2.1, (hf j hj).2.2.1⟩) ⟨hs.trap code, Bd.trap hb, rfl⟩) ?_
  unfold eachC
  rw [stOf_trap h0]
  by_cases h : ((stOf N env s).reg r).toNat < n
  · rw [if_pos h, if_pos h, (hf _ h).2.2.2]
  · rw [if_neg h, if_neg h]
theorem stepI_acc {inputs mw : Int} {len : Int} (hG : GoodN N) (hv : Var8 N) (hs : WfS N s) (h0 : s.en = 0) (hb : B1 k s) (hi : okI i len = true) (hl : len ≤ 70) :
    Acc N env (k + 1) s 0 (stepI most N s i inputs mw) (if stHolds N env s then [execC (bytesC inputs env) mw (stOf N env s) i] else []) := by
  have hop := okI_op hi
  have him := okI_imm hi
  obtain ⟨b1, b2, b3, b4, b5, b6, b7⟩ := id hb
  have hlc : (stOf N env s).cells.length = s.cells.length := by simp [stOf]
  have hld : (stOf N env s).dev.disk.length = s.dev.disk.length := by simp [stOf, devOf]
  have hlp : (stOf N env s).dev.pend.length = s.dev.pend.length := by simp [stOf, devOf]
  unfold stepI execC
  by_cases o1 : i.op = 1
  · rw [if_pos o1, if_pos o1]
    exact setR_acc hs hb (wordP_kg _ (.inl rfl) (fun _ => ⟨hG, hv⟩))
  rw [if_neg o1, if_neg o1]
  by_cases o2 : i.op = 2
  · rw [if_pos o2, if_pos o2]
    have hb2 := okI_b hi (by rw [o2]; decide)
    exact plain_acc hG hv hs (hs.set i (hs.reg hb2)) (Bd.next hb) rfl (by rw [stOf_set, stOf_reg hs hb2])
  rw [if_neg o2, if_neg o2]
  by_cases o3 : i.op = 3
  · rw [if_pos o3, if_pos o3]
    have hb2 := okI_b hi (by rw [o3]; decide)
    have hc2 := okI_c hi (by rw [o3]; decide)
    unfold immOk at him
    rw [if_pos o3] at him
    exact setR_acc hs hb (binP_kg hG hv hs hb2 hc2 (by simpa using him))
  rw [if_neg o3, if_neg o3]
  by_cases o4 : i.op = 4
  · rw [if_pos o4, if_pos o4]
    have hb2 := okI_b hi (by rw [o4]; decide)
    unfold immOk at him
    rw [if_neg o3, if_pos o4] at him
    have him : i.imm.toNat = 15 ∨ i.imm.toNat = 16 := by simpa using him
    refine setR_acc hs hb (kp_got (most := most) (.inl rfl) (fun _ => ⟨hv, ?_⟩))
    have := got_foldUn (most := most) (env := env) hG (op := (i.imm.toNat : Int)) (by omega) (is_of64 (hs.reg hb2))
    rw [hs.reg hb2, ← stOf_reg hs hb2] at this
    exact this
  rw [if_neg o4, if_neg o4]
  by_cases o5 : i.op = 5
  · rw [if_pos o5, if_pos o5]
    unfold immOk at him
    rw [if_neg o3, if_neg o4, if_pos (.inl o5)] at him
    have him : 0 ≤ len ∧ (i.imm.toNat : Int) < len := by simpa using him
    exact plain_acc hG hv hs (hs.at i) (Bd.at hb (by omega)) rfl rfl
  rw [if_neg o5, if_neg o5]
  by_cases o6 : i.op = 6
  · rw [if_pos o6, if_pos o6]
    have ha2 := okI_a hi (by rw [o6]; decide)
    unfold immOk at him
    rw [if_neg o3, if_neg o4, if_pos (.inr o6)] at him
    have him : 0 ≤ len ∧ (i.imm.toNat : Int) < len := by simpa using him
    exact branchP_acc hG hv hs hb ha2 (by omega)
  rw [if_neg o6, if_neg o6]
  by_cases o7 : i.op = 7
  · rw [if_pos o7, if_pos o7, hlc]
    have hb2 := okI_b hi (by rw [o7]; decide)
    refine eachS_acc hG hv hs h0 hb hb2 (by omega) (fun j hj => ⟨hs.set i (hs.mem (.inr (.inl (getD_mem hj)))), Bd.next hb, rfl, ?_⟩)
    unfold Sy.load St.load
    rw [stOf_set, map_getD0 (valW N env) hj]
    rfl
  rw [if_neg o7, if_neg o7]
  by_cases o8 : i.op = 8
  · rw [if_pos o8, if_pos o8, hlc]
    have ha2 := okI_a hi (by rw [o8]; decide)
    have hb2 := okI_b hi (by rw [o8]; decide)
    refine eachS_acc hG hv hs h0 hb ha2 (by omega) (fun j hj => ⟨?_, ?_, rfl, stOf_store hs hb2⟩)
    · refine WfS.of hs.r8 (fun id hi => hs.mem (.inl hi)) (fun id hi => ?_) (fun id hi => hs.mem (.inr (.inr (.inl hi)))) (fun x hx => hs.pend hx) hs.conds hs.val
      rcases List.mem_or_eq_of_mem_set hi with hi | rfl
      · exact hs.mem (.inr (.inl hi))
      · exact hs.reg hb2
    · have := Bd.next hb
      obtain ⟨c1, c2⟩ := this
      refine ⟨?_, c2⟩
      simp only [Sy.store, List.length_set]
      exact c1
  rw [if_neg o8, if_neg o8]
  by_cases o9 : i.op = 9
  · rw [if_pos o9, if_pos o9]
    unfold immOk at him
    rw [if_neg o3, if_neg o4, if_neg (by omega), if_pos o9] at him
    exact setR_acc hs hb (inputP_kg hG hv (by simpa using him) inputs)
  rw [if_neg o9, if_neg o9]
  by_cases o10 : i.op = 10
  · rw [if_pos o10, if_pos o10, hld]
    have hb2 := okI_b hi (by rw [o10]; decide)
    refine eachS_acc hG hv hs h0 hb hb2 (by omega) (fun j hj => ⟨hs.set i (readN_wd hs hj), Bd.next hb, rfl, ?_⟩)
    unfold Sy.read St.read
    rw [stOf_set, readN_val hj]
  rw [if_neg o10, if_neg o10]
  by_cases o11 : i.op = 11
  · rw [if_pos o11, if_pos o11, hld]
    have ha2 := okI_a hi (by rw [o11]; decide)
    have hb2 := okI_b hi (by rw [o11]; decide)
    refine eachS_acc hG hv hs h0 hb ha2 (by omega) (fun j hj => ?_)
    unfold Sy.write St.write
    rw [hlp]
    by_cases hm : mw ≤ (s.dev.pend.length : Int)
    · rw [if_pos hm, if_pos hm]
      exact ⟨hs.trap _, Bd.trap hb, rfl, stOf_trap h0⟩
    · rw [if_neg hm, if_neg hm]
      refine ⟨hs.call (fun id hi => hs.mem (.inr (.inr (.inl hi)))) (fun x hx => ?_), Bd.call hb b2 (by simp; omega) (by show 0 ≤ s.dev.ep ∧ s.dev.ep ≤ (k : Int) + 1; omega), rfl, ?_⟩
      · rcases List.mem_append.1 hx with hx | hx
        · exact hs.pend hx
        · rw [List.mem_singleton.1 hx]; exact hs.reg hb2
      · rw [stOf_call, stOf_reg hs hb2]
        unfold devOf pdOf
        simp only [List.map_append, List.map_cons, List.map_nil]
        rfl
  rw [if_neg o11, if_neg o11]
  by_cases o12 : i.op = 12
  · rw [if_pos o12, if_pos o12]
    obtain ⟨p1, p2, p3⟩ := putN_facts (env := env) s.dev.pend s.dev.disk (fun x hx => hs.pend hx) (fun id hi => hs.mem (.inr (.inr (.inl hi))))
    refine plain_acc hG hv hs (hs.call p3 (fun x hx => absurd hx (by simp))) (Bd.call hb (by rw [p2]; exact b2) (by simp) (by show (0 : Int) ≤ 0 ∧ (0 : Int) ≤ (k : Int) + 1; omega)) rfl ?_
    unfold Sy.flush St.flush
    rw [stOf_call]
    unfold devOf
    rw [p1]
    rfl
  rw [if_neg o12, if_neg o12]
  by_cases o13 : i.op = 13
  · rw [if_pos o13, if_pos o13]
    have e1 : (barN s.dev).disk = s.dev.disk := by unfold barN; split <;> rfl
    have e2 : (barN s.dev).pend = s.dev.pend := by unfold barN; split <;> rfl
    have e3 : (barN s.dev).ep = s.dev.ep ∨ (barN s.dev).ep = s.dev.ep + 1 := by
      unfold barN
      split
      · exact .inr rfl
      · exact .inl rfl
    refine plain_acc hG hv hs (hs.call (by rw [e1]; exact fun id hi => hs.mem (.inr (.inr (.inl hi)))) (by rw [e2]; exact fun x hx => hs.pend hx)) (Bd.call hb (by rw [e1]; exact b2) (by rw [e2]; omega) (by omega)) rfl ?_
    rw [stOf_call, barN_val]
    rfl
  rw [if_neg o13, if_neg o13]
  by_cases o14 : i.op = 14
  · rw [if_pos o14, if_pos o14]
    have ha2 := okI_a hi (by rw [o14]; decide)
    refine plain_acc hG hv hs (hs.keepD rfl rfl rfl rfl (fun _ => is_of64 (hs.reg ha2))) ?_ rfl ?_
    · refine ⟨b1, b2, ?_, ?_, ?_, ?_, ?_⟩ <;> (first | omega | (simp only; omega))
    · rw [stOf_reg hs ha2]
      rfl
  rw [if_neg o14, if_neg o14]
  exact plain_acc hG hv hs (hs.trap _) (Bd.trap hb) rfl (stOf_trap h0)
end
theorem step_means {most : Int} {N : List Nd} {env : List W64} {k : Nat} {s : Sy} {code : List Ins} {inputs mw : Int} (hG : GoodN N) (hv : Var8 N) (hs : WfS N s) (h0 : s.en = 0) (hb : Bd k s) (hcl : code.length ≤ 70) :
    Acc N env (k + 1) s 0 (stepN most N code s inputs mw) (if stHolds N env s then [stepC code (bytesC inputs env) mw (stOf N env s)] else []) := by
  unfold stepN stepC
  rw [if_neg (fun h => h h0), if_neg (by rw [hs.fine]; decide), if_neg (show ¬ (stOf N env s).en ≠ 0 from fun h => h h0)]
  have hpc : (stOf N env s).pc = s.pc := rfl
  rw [hpc]
  obtain ⟨b1, b2, b3, b4, b5, b6, b7⟩ := hb
  have hs1 : WfS N { s with steps := s.steps + 1 } := hs.keepD rfl rfl rfl rfl hs.val
  have hb1 : B1 k { s with steps := s.steps + 1 } := ⟨b1, b2, b3, b4, b5, b6, by show 0 ≤ s.steps + 1 ∧ s.steps + 1 ≤ (k : Int) + 1; omega⟩
  cases hi : insAt code s.pc with
  | none =>
    refine ⟨.inl rfl, fun _ => ⟨rfl, [], by simp, hG, hv, fun o ho => ?_, ?_⟩⟩
    · rw [List.mem_singleton.1 ho]
      exact ⟨hs1.trap _, Bd.trap hb1, by show s.conds.length ≤ s.conds.length + 1; omega⟩
    · show Hd N env [_] = _
      have e := stOf_trap (N := N) (env := env) (s := { s with steps := s.steps + 1 }) (c := 256) h0
      rw [Hd_one, e]
      rfl
  | some i =>
    have hok : okI i code.length = true := by
      unfold insAt at hi
      split at hi
      · split at hi
        · split at hi
          · rename_i hh
            rw [← Option.some.inj hi]; exact hh
          · cases hi
        · cases hi
      · cases hi
    have := stepI_acc (most := most) (env := env) (inputs := inputs) (mw := mw) hG hv hs1 h0 hb1 hok (by omega)
    show Acc N env (k + 1) s 0 (if (stepI most N { s with steps := s.steps + 1 } i inputs mw).2.1 = 0 then stepI most N { s with steps := s.steps + 1 } i inputs mw else ((stepI most N { s with steps := s.steps + 1 } i inputs mw).1, (stepI most N { s with steps := s.steps + 1 } i inputs mw).2.1, [])) (if stHolds N env s then [execC (bytesC inputs env) mw (stOf N env { s with steps := s.steps + 1 }) i] else [])
    generalize stepI most N { s with steps := s.steps + 1 } i inputs mw = r at this ⊢
    by_cases he : r.2.1 = 0
    · rw [if_pos he]
      exact ⟨this.err, fun h => by
        obtain ⟨q1, M, q2, q3, q4, q5, q6⟩ := this.ok h
        exact ⟨q1, M, q2, q3, q4, fun o ho => ⟨(q5 o ho).wf, (q5 o ho).bd, (q5 o ho).cn⟩, q6⟩⟩
    · rw [if_neg he]
      exact ⟨this.err, fun h => absurd h he⟩
end Go.Proofs.YtanjlgafjgoaaaaGreat
namespace Go.Proofs.YtanjlgafjgoaaaaGreat
open Go.Mw
set_option linter.unusedVariables false
set_option linter.unusedSimpArgs false
set_option maxRecDepth 100000
attribute [local irreducible] M.val M.unit M.next M.pick M.new M.nilCheck M.load1 M.loadA M.store M.fieldAddr M.indexSl M.indexArr M.slice M.makeSlice M.buildSlice M.len M.lenS M.cap M.append M.extract M.conv M.not M.neg M.bin M.shift M.eqB M.eqNil M.scat M.call M.callv M.gd M.share M.cond M.loop M.draw pureW readW Ret
def sh82 (x0 x1 : Value) (R : Kt) (w : World) : Prop :=
  M.call Tryz.prog 71 #[x0, x1] (fun t11 w =>
  M.extract 0 t11 (fun t12 w =>
  M.extract 1 t11 (fun t13 w =>
  M.new 93 #[.int .i64 0, .int .i64 0, .int .i64 0, .int .i64 0, .int .i64 0, .int .u64 0] (fun t6 w =>
  M.store 6 t6 t12 (fun _ w =>
  M.not t13 (fun t15 w =>
  M.gd t15 false (fun k w => M.fieldAddr 0 t6 k w) (fun t17 w =>
  M.gd t15 false (fun k w => M.load1 t17 k w) (fun t18 w =>
  M.gd t15 false (fun k w => M.bin .neq t18 (Value.int IntKind.i64 20) k w) (fun t19 w =>
  M.pick t15 (Value.bool true) t19 (fun t20 w =>
  M.cond t20
  (R (.tuple #[(Value.int IntKind.u64 0), (Value.bool false)]) w)
  (M.fieldAddr 5 t6 (fun t21 w =>
  M.load1 t21 (fun t22 w =>
  R (.tuple #[t22, (Value.bool true)]) w) w) w)) w) w) w) w) w) w) w) w) w) w
theorem ok82 (x0 x1 : Value) (R : Kt) (w : World) (h : sh82 x0 x1 R w) : Ret Tryz.prog 82 #[x0, x1] w R :=
  ret_mk <| calls_of_comp mixed (c := Tryz.f82.body.getD .skip) (args := [x0, x1]) (rs := [(ResultVar.tmp 4), (ResultVar.tmp 5)]) (Ann.seq Ann.text (Ann.seq Ann.text (Ann.seq (Ann.seq Ann.text (Ann.cond (Ann.seq Ann.text Ann.leaf) Ann.leaf)) (Ann.seq Ann.text Ann.leaf))))
    Tryz.func82 (by kernel_rfl) (by kernel_rfl)
    (Eq.mp (by kernel_rfl) h)
def sh122 (x0 x1 x2 : Value) (R : Kt) (w : World) : Prop :=
  M.call Tryz.prog 82 #[x0, x1] (fun t12 w =>
  M.extract 0 t12 (fun t13 w =>
  M.extract 1 t12 (fun t14 w =>
  M.gd t14 true (fun k w => k t13 w) (fun t17 w =>
  M.gd t14 true (fun k w => k x2 w) (fun t18 w =>
  M.gd t14 true (fun k w => M.bin .eql t17 t18 k w) (fun t19 w =>
  M.pick t14 t19 (Value.bool false) (fun t20 w =>
  R t20 w) w) w) w) w) w) w) w
theorem ok122 (x0 x1 x2 : Value) (R : Kt) (w : World) (h : sh122 x0 x1 x2 R w) : Ret Tryz.prog 122 #[x0, x1, x2] w R :=
  ret_mk <| calls_of_comp mixed (c := Tryz.f122.body.getD .skip) (args := [x0, x1, x2]) (rs := [(ResultVar.tmp 6)]) (Ann.seq Ann.text (Ann.seq Ann.text (Ann.seq Ann.text Ann.leaf)))
    Tryz.func122 (by kernel_rfl) (by kernel_rfl)
    (Eq.mp (by kernel_rfl) h)
def sh114 (x0 x1 x2 : Value) (R : Kt) (w : World) : Prop :=
  M.share (fun K1 w =>
  M.bin .eql x1 (Value.int IntKind.i64 1) (fun t9 w =>
  M.cond t9
  (K1 [t9] w)
  (M.bin .eql x1 (Value.int IntKind.i64 2) (fun t10 w =>
  M.cond t10
  (K1 [t10] w)
  (M.bin .eql x1 (Value.int IntKind.i64 7) (fun t11 w =>
  M.cond t11
  (K1 [t11] w)
  (M.bin .eql x1 (Value.int IntKind.i64 8) (fun t12 w =>
  M.cond t12
  (K1 [t12] w)
  (M.bin .eql x1 (Value.int IntKind.i64 9) (fun t13 w =>
  M.cond t13
  (K1 [t13] w)
  (M.bin .eql x1 (Value.int IntKind.i64 10) (fun t14 w =>
  M.cond t14
  (K1 [t14] w)
  (M.bin .eql x1 (Value.int IntKind.i64 11) (fun t15 w =>
  K1 [t15] w) w)) w)) w)) w)) w)) w)) w) (fun s1 w => ∀ _ : List Value,
  M.cond (s1.getD 0 undef)
  (M.call Tryz.prog 122 #[x0, x2, (Value.int IntKind.u64 0)] (fun t18 w =>
  R t18 w) w)
  (M.share (fun K2 w =>
  M.bin .eql x1 (Value.int IntKind.i64 3) (fun t20 w =>
  M.cond t20
  (K2 [t20] w)
  (M.bin .eql x1 (Value.int IntKind.i64 4) (fun t21 w =>
  K2 [t21] w) w)) w) (fun s2 w => ∀ _ : List Value,
  M.cond (s2.getD 0 undef)
  (M.call Tryz.prog 122 #[x0, x2, (Value.int IntKind.u64 1)] (fun t24 w =>
  R t24 w) w)
  (M.bin .eql x1 (Value.int IntKind.i64 6) (fun t26 w =>
  M.cond t26
  (M.call Tryz.prog 41 #[x0, x2] (fun t31 w =>
  M.call Tryz.prog 32 #[t31] (fun t32 w =>
  M.call Tryz.prog 122 #[x0, x2, t32] (fun t33 w =>
  R t33 w) w) w) w)
  (R (Value.bool false) w)) w)) w)) w
theorem ok114 (x0 x1 x2 : Value) (R : Kt) (w : World) (h : sh114 x0 x1 x2 R w) : Ret Tryz.prog 114 #[x0, x1, x2] w R :=
  ret_mk <| calls_of_comp mixed (c := Tryz.f114.body.getD .skip) (args := [x0, x1, x2]) (rs := [(ResultVar.tmp 6)]) (Ann.seq Ann.text (Ann.seq (Ann.seq Ann.text (Ann.block (Ann.join [8] [9, 10, 11, 12, 13, 14, 15] (Ann.seq Ann.text (Ann.cond Ann.leaf (Ann.seq Ann.text (Ann.cond Ann.leaf (Ann.seq Ann.text (Ann.cond Ann.leaf (Ann.seq Ann.text (Ann.cond Ann.leaf (Ann.seq Ann.text (Ann.cond Ann.leaf (Ann.seq Ann.text (Ann.cond Ann.leaf Ann.text)))))))))))) (Ann.cond (Ann.seq Ann.text Ann.leaf) (Ann.join [19] [20, 21] (Ann.seq Ann.text (Ann.cond Ann.leaf Ann.text)) (Ann.cond (Ann.seq Ann.text Ann.leaf) (Ann.seq Ann.text (Ann.cond (Ann.seq Ann.text Ann.leaf) Ann.leaf)))))))) (Ann.seq Ann.text Ann.leaf)))
    Tryz.func114 (by kernel_rfl) (by kernel_rfl)
    (Eq.mp (by kernel_rfl) h)
def sh115 (x0 : Value) (R : Kt) (w : World) : Prop :=
  M.share (fun K1 w =>
  M.bin .eql x0 (Value.int IntKind.i64 1) (fun t5 w =>
  M.cond t5
  (K1 [t5] w)
  (M.bin .eql x0 (Value.int IntKind.i64 3) (fun t6 w =>
  M.cond t6
  (K1 [t6] w)
  (M.bin .eql x0 (Value.int IntKind.i64 6) (fun t7 w =>
  M.cond t7
  (K1 [t7] w)
  (M.bin .eql x0 (Value.int IntKind.i64 7) (fun t8 w =>
  M.cond t8
  (K1 [t8] w)
  (M.bin .eql x0 (Value.int IntKind.i64 8) (fun t9 w =>
  M.cond t9
  (K1 [t9] w)
  (M.bin .eql x0 (Value.int IntKind.i64 12) (fun t10 w =>
  K1 [t10] w) w)) w)) w)) w)) w)) w) (fun s1 w => ∀ _ : List Value,
  M.cond (s1.getD 0 undef)
  (R (Value.bool true) w)
  (R (Value.bool false) w)) w
theorem ok115 (x0 : Value) (R : Kt) (w : World) (h : sh115 x0 R w) : Ret Tryz.prog 115 #[x0] w R :=
  ret_mk <| calls_of_comp mixed (c := Tryz.f115.body.getD .skip) (args := [x0]) (rs := [(ResultVar.tmp 2)]) (Ann.seq Ann.text (Ann.seq (Ann.seq Ann.text (Ann.block (Ann.join [4] [5, 6, 7, 8, 9, 10] (Ann.seq Ann.text (Ann.cond Ann.leaf (Ann.seq Ann.text (Ann.cond Ann.leaf (Ann.seq Ann.text (Ann.cond Ann.leaf (Ann.seq Ann.text (Ann.cond Ann.leaf (Ann.seq Ann.text (Ann.cond Ann.leaf Ann.text)))))))))) (Ann.cond (Ann.seq Ann.text Ann.leaf) Ann.leaf)))) (Ann.seq Ann.text Ann.leaf)))
    Tryz.func115 (by kernel_rfl) (by kernel_rfl)
    (Eq.mp (by kernel_rfl) h)
def sh116 (x0 x1 x2 x3 : Value) (R : Kt) (w : World) : Prop :=
  M.share (fun K1 w =>
  M.share (fun K2 w =>
  M.share (fun K3 w =>
  M.bin .eql x1 (Value.int IntKind.i64 8) (fun t11 w =>
  M.cond t11
  (K3 [t11] w)
  (M.bin .eql x1 (Value.int IntKind.i64 2) (fun t12 w =>
  M.cond t12
  (K3 [t12] w)
  (M.bin .eql x1 (Value.int IntKind.i64 13) (fun t13 w =>
  M.cond t13
  (K3 [t13] w)
  (M.bin .eql x1 (Value.int IntKind.i64 14) (fun t14 w =>
  K3 [t14] w) w)) w)) w)) w) (fun s3 w => ∀ _ : List Value,
  M.cond (s3.getD 0 undef)
  (M.bin .eql x2 x3 (fun t30 w =>
  M.cond t30
  (R (Value.bool true) w)
  (K2 [] w)) w)
  (M.share (fun K4 w =>
  M.bin .eql x1 (Value.int IntKind.i64 1) (fun t16 w =>
  M.cond t16
  (K4 [t16] w)
  (M.bin .eql x1 (Value.int IntKind.i64 7) (fun t17 w =>
  M.cond t17
  (K4 [t17] w)
  (M.bin .eql x1 (Value.int IntKind.i64 12) (fun t18 w =>
  M.cond t18
  (K4 [t18] w)
  (M.bin .eql x1 (Value.int IntKind.i64 4) (fun t19 w =>
  M.cond t19
  (K4 [t19] w)
  (M.bin .eql x1 (Value.int IntKind.i64 5) (fun t20 w =>
  M.cond t20
  (K4 [t20] w)
  (M.bin .eql x1 (Value.int IntKind.i64 11) (fun t21 w =>
  K4 [t21] w) w)) w)) w)) w)) w)) w) (fun s4 w => ∀ _ : List Value,
  M.cond (s4.getD 0 undef)
  (K2 [] w)
  (M.share (fun K5 w =>
  M.bin .eql x1 (Value.int IntKind.i64 3) (fun t23 w =>
  M.cond t23
  (K5 [t23] w)
  (M.bin .eql x1 (Value.int IntKind.i64 6) (fun t24 w =>
  K5 [t24] w) w)) w) (fun s5 w => ∀ _ : List Value,
  M.cond (s5.getD 0 undef)
  (M.call Tryz.prog 122 #[x0, x2, (Value.int IntKind.u64 0)] (fun t40 w =>
  M.gd t40 false (fun k w => k x0 w) (fun t42 w =>
  M.gd t40 false (fun k w => k x3 w) (fun t43 w =>
  M.gd t40 false (fun k w => M.call Tryz.prog 122 #[t42, t43, (Value.int IntKind.u64 0)] k w) (fun t44 w =>
  M.pick t40 (Value.bool true) t44 (fun t45 w =>
  R t45 w) w) w) w) w) w)
  (M.share (fun K6 w =>
  M.bin .eql x1 (Value.int IntKind.i64 9) (fun t26 w =>
  M.cond t26
  (K6 [t26] w)
  (M.bin .eql x1 (Value.int IntKind.i64 10) (fun t27 w =>
  K6 [t27] w) w)) w) (fun s6 w => ∀ _ : List Value,
  M.cond (s6.getD 0 undef)
  (M.call Tryz.prog 122 #[x0, x2, (Value.int IntKind.u64 0)] (fun t48 w =>
  R t48 w) w)
  (K1 [] w)) w)) w)) w)) w) (fun s2 w => ∀ _ : List Value,
  M.bin .eql x1 (Value.int IntKind.i64 13) (fun t32 w =>
  M.gd t32 true (fun k w => k x0 w) (fun t34 w =>
  M.gd t32 true (fun k w => k x3 w) (fun t35 w =>
  M.gd t32 true (fun k w => M.call Tryz.prog 122 #[t34, t35, (Value.int IntKind.u64 0)] k w) (fun t36 w =>
  M.pick t32 t36 (Value.bool false) (fun t37 w =>
  R t37 w) w) w) w) w) w) w) (fun s1 w => ∀ _ : List Value,
  R (Value.bool false) w) w
theorem ok116 (x0 x1 x2 x3 : Value) (R : Kt) (w : World) (h : sh116 x0 x1 x2 x3 R w) : Ret Tryz.prog 116 #[x0, x1, x2, x3] w R :=
  ret_mk <| calls_of_comp mixed (c := Tryz.f116.body.getD .skip) (args := [x0, x1, x2, x3]) (rs := [(ResultVar.tmp 8)]) (Ann.seq Ann.text (Ann.seq (Ann.seq Ann.text (Ann.jblock [] [8, 10, 11, 12, 13, 14, 15, 16, 17, 18, 19, 20, 21, 22, 23, 24, 25, 26, 27, 28, 29, 30, 31, 32, 33, 34, 35, 36, 37, 38, 39, 40, 41, 42, 43, 44, 45, 46, 47, 48] (Ann.seq (Ann.block (Ann.seq (Ann.block (Ann.seq (Ann.jblock [] [8, 10, 11, 12, 13, 14, 15, 16, 17, 18, 19, 20, 21, 22, 23, 24, 25, 26, 27, 28, 29, 30] (Ann.seq (Ann.block (Ann.seq (Ann.seq (Ann.join [10] [11, 12, 13, 14] (Ann.seq Ann.text (Ann.cond Ann.leaf (Ann.seq Ann.text (Ann.cond Ann.leaf (Ann.seq Ann.text (Ann.cond Ann.leaf Ann.text)))))) (Ann.cond Ann.leaf Ann.leaf)) (Ann.seq (Ann.join [15] [16, 17, 18, 19, 20, 21] (Ann.seq Ann.text (Ann.cond Ann.leaf (Ann.seq Ann.text (Ann.cond Ann.leaf (Ann.seq Ann.text (Ann.cond Ann.leaf (Ann.seq Ann.text (Ann.cond Ann.leaf (Ann.seq Ann.text (Ann.cond Ann.leaf Ann.text)))))))))) (Ann.cond Ann.leaf Ann.leaf)) (Ann.seq (Ann.join [22] [23, 24] (Ann.seq Ann.text (Ann.cond Ann.leaf Ann.text)) (Ann.cond Ann.leaf Ann.leaf)) (Ann.join [25] [26, 27] (Ann.seq Ann.text (Ann.cond Ann.leaf Ann.text)) (Ann.cond Ann.leaf Ann.leaf))))) Ann.leaf)) (Ann.seq Ann.text (Ann.cond (Ann.seq Ann.text Ann.leaf) Ann.leaf)))) (Ann.seq (Ann.seq Ann.text Ann.leaf) Ann.leaf))) (Ann.seq (Ann.seq Ann.text Ann.leaf) Ann.leaf))) (Ann.seq (Ann.seq Ann.text Ann.leaf) Ann.leaf)))) (Ann.seq Ann.text Ann.leaf)))
    Tryz.func116 (by kernel_rfl) (by kernel_rfl)
    (Eq.mp (by kernel_rfl) h)
def sh48 (x0 x1 x2 : Value) (R : Kt) (w : World) : Prop :=
  M.call Tryz.prog 71 #[x0, x2] (fun t17 w =>
  M.extract 0 t17 (fun t18 w =>
  M.extract 1 t17 (fun t19 w =>
  M.new 93 #[.int .i64 0, .int .i64 0, .int .i64 0, .int .i64 0, .int .i64 0, .int .u64 0] (fun t8 w =>
  M.store 6 t8 t18 (fun _ w =>
  M.not t19 (fun t21 w =>
  M.gd t21 false (fun k w => k x1 w) (fun t23 w =>
  M.gd t21 false (fun k w => M.bin .neq t23 (Value.int IntKind.i64 15) k w) (fun t24 w =>
  M.gd t21 false (fun k w => k t24 w) (fun t25 w =>
  M.gd t25 true (fun k w => k x1 w) (fun t26 w =>
  M.gd t25 true (fun k w => M.bin .neq t26 (Value.int IntKind.i64 16) k w) (fun t27 w =>
  M.gd t21 false (fun k w => M.pick t25 t27 (Value.bool false) k w) (fun t28 w =>
  M.pick t21 (Value.bool true) t28 (fun t29 w =>
  M.cond t29
  (M.call Tryz.prog 87 #[x0, x1, x2] (fun t33 w =>
  M.extract 0 t33 (fun t34 w =>
  M.extract 1 t33 (fun t35 w =>
  R (.tuple #[t34, t35]) w) w) w) w)
  (M.call Tryz.prog 82 #[x0, x2] (fun t39 w =>
  M.extract 0 t39 (fun t40 w =>
  M.extract 1 t39 (fun t41 w =>
  M.cond t41
  (M.fieldAddr 1 t8 (fun t45 w =>
  M.load1 t45 (fun t46 w =>
  M.call Tryz.prog 75 #[x1, t46, t40] (fun t48 w =>
  M.extract 0 t48 (fun t49 w =>
  M.extract 1 t48 (fun t50 w =>
  M.fieldAddr 1 t8 (fun t52 w =>
  M.load1 t52 (fun t53 w =>
  M.call Tryz.prog 16 #[x0, t53, t49] (fun t55 w =>
  M.extract 0 t55 (fun t56 w =>
  M.extract 1 t55 (fun t57 w =>
  R (.tuple #[t56, t57]) w) w) w) w) w) w) w) w) w) w) w)
  (M.fieldAddr 0 t8 (fun t58 w =>
  M.load1 t58 (fun t59 w =>
  M.bin .eql t59 x1 (fun t61 w =>
  M.cond t61
  (M.fieldAddr 2 t8 (fun t62 w =>
  M.load1 t62 (fun t63 w =>
  R (.tuple #[t63, (Value.int IntKind.i64 0)]) w) w) w)
  (M.call Tryz.prog 87 #[x0, x1, x2] (fun t67 w =>
  M.extract 0 t67 (fun t68 w =>
  M.extract 1 t67 (fun t69 w =>
  R (.tuple #[t68, t69]) w) w) w) w)) w) w) w)) w) w) w)) w) w) w) w) w) w) w) w) w) w) w) w) w
theorem ok48 (x0 x1 x2 : Value) (R : Kt) (w : World) (h : sh48 x0 x1 x2 R w) : Ret Tryz.prog 48 #[x0, x1, x2] w R :=
  ret_mk <| calls_of_comp mixed (c := Tryz.f48.body.getD .skip) (args := [x0, x1, x2]) (rs := [(ResultVar.tmp 6), (ResultVar.tmp 7)]) (Ann.seq Ann.text (Ann.seq Ann.text (Ann.seq (Ann.seq Ann.text (Ann.cond (Ann.seq Ann.text Ann.leaf) Ann.leaf)) (Ann.seq (Ann.seq Ann.text (Ann.seq Ann.text (Ann.cond (Ann.seq Ann.text (Ann.seq Ann.text Ann.leaf)) Ann.leaf))) (Ann.seq (Ann.seq Ann.text (Ann.cond (Ann.seq Ann.text Ann.leaf) Ann.leaf)) (Ann.seq Ann.text Ann.leaf))))))
    Tryz.func48 (by kernel_rfl) (by kernel_rfl)
    (Eq.mp (by kernel_rfl) h)
def sh85 (x0 x1 x2 x3 : Value) (R : Kt) (w : World) : Prop :=
  M.call Tryz.prog 71 #[x0, x2] (fun t24 w =>
  M.extract 0 t24 (fun t25 w =>
  M.extract 1 t24 (fun t26 w =>
  M.new 93 #[.int .i64 0, .int .i64 0, .int .i64 0, .int .i64 0, .int .i64 0, .int .u64 0] (fun t10 w =>
  M.store 6 t10 t25 (fun _ w =>
  M.call Tryz.prog 71 #[x0, x3] (fun t30 w =>
  M.extract 0 t30 (fun t31 w =>
  M.extract 1 t30 (fun t32 w =>
  M.new 93 #[.int .i64 0, .int .i64 0, .int .i64 0, .int .i64 0, .int .i64 0, .int .u64 0] (fun t12 w =>
  M.store 6 t12 t31 (fun _ w =>
  M.not t26 (fun t34 w =>
  M.gd t34 false (fun k w => k t32 w) (fun t36 w =>
  M.gd t34 false (fun k w => M.not t36 k w) (fun t37 w =>
  M.pick t34 (Value.bool true) t37 (fun t38 w =>
  M.gd t38 false (fun k w => M.fieldAddr 1 t10 k w) (fun t40 w =>
  M.gd t38 false (fun k w => M.load1 t40 k w) (fun t41 w =>
  M.gd t38 false (fun k w => M.fieldAddr 1 t12 k w) (fun t42 w =>
  M.gd t38 false (fun k w => M.load1 t42 k w) (fun t43 w =>
  M.gd t38 false (fun k w => M.bin .neq t41 t43 k w) (fun t44 w =>
  M.pick t38 (Value.bool true) t44 (fun t45 w =>
  M.gd t45 false (fun k w => k x1 w) (fun t47 w =>
  M.gd t45 false (fun k w => M.bin .lss t47 (Value.int IntKind.i64 1) k w) (fun t48 w =>
  M.pick t45 (Value.bool true) t48 (fun t49 w =>
  M.gd t49 false (fun k w => k x1 w) (fun t51 w =>
  M.gd t49 false (fun k w => M.bin .gtr t51 (Value.int IntKind.i64 14) k w) (fun t52 w =>
  M.pick t49 (Value.bool true) t52 (fun t53 w =>
  M.cond t53
  (M.call Tryz.prog 113 #[x0, x1, x2, x3] (fun t58 w =>
  M.extract 0 t58 (fun t59 w =>
  M.extract 1 t58 (fun t60 w =>
  R (.tuple #[t59, t60]) w) w) w) w)
  (M.fieldAddr 1 t10 (fun t61 w =>
  M.load1 t61 (fun t62 w =>
  M.share (fun K1 w =>
  M.bin .geq x1 (Value.int IntKind.i64 12) (fun t64 w =>
  M.cond t64
  (K1 [(Value.int IntKind.i64 1)] w)
  (K1 [t62] w)) w) (fun s1 w => ∀ _ : List Value,
  M.call Tryz.prog 82 #[x0, x2] (fun t68 w =>
  M.extract 0 t68 (fun t69 w =>
  M.extract 1 t68 (fun t70 w =>
  M.call Tryz.prog 82 #[x0, x3] (fun t74 w =>
  M.extract 0 t74 (fun t75 w =>
  M.extract 1 t74 (fun t76 w =>
  M.gd t70 true (fun k w => k t76 w) (fun t80 w =>
  M.pick t70 t80 (Value.bool false) (fun t81 w =>
  M.cond t81
  (M.fieldAddr 1 t10 (fun t84 w =>
  M.load1 t84 (fun t85 w =>
  M.call Tryz.prog 76 #[x1, t85, t69, t75] (fun t88 w =>
  M.extract 0 t88 (fun t89 w =>
  M.extract 1 t88 (fun t90 w =>
  M.call Tryz.prog 16 #[x0, (s1.getD 0 undef), t89] (fun t94 w =>
  M.extract 0 t94 (fun t95 w =>
  M.extract 1 t94 (fun t96 w =>
  R (.tuple #[t95, t96]) w) w) w) w) w) w) w) w) w)
  (M.call Tryz.prog 114 #[x0, x1, x3] (fun t101 w =>
  M.cond t101
  (R (.tuple #[x2, (Value.int IntKind.i64 0)]) w)
  (M.call Tryz.prog 115 #[x1] (fun t105 w =>
  M.gd t105 true (fun k w => k x0 w) (fun t107 w =>
  M.gd t105 true (fun k w => k x1 w) (fun t108 w =>
  M.gd t105 true (fun k w => k x2 w) (fun t109 w =>
  M.gd t105 true (fun k w => M.call Tryz.prog 114 #[t107, t108, t109] k w) (fun t110 w =>
  M.pick t105 t110 (Value.bool false) (fun t111 w =>
  M.cond t111
  (R (.tuple #[x3, (Value.int IntKind.i64 0)]) w)
  (M.call Tryz.prog 116 #[x0, x1, x2, x3] (fun t118 w =>
  M.cond t118
  (M.call Tryz.prog 16 #[x0, (s1.getD 0 undef), (Value.int IntKind.u64 0)] (fun t121 w =>
  M.extract 0 t121 (fun t122 w =>
  M.extract 1 t121 (fun t123 w =>
  R (.tuple #[t122, t123]) w) w) w) w)
  (M.bin .eql x1 (Value.int IntKind.i64 12) (fun t126 w =>
  M.gd t126 true (fun k w => k x2 w) (fun t128 w =>
  M.gd t126 true (fun k w => k x3 w) (fun t129 w =>
  M.gd t126 true (fun k w => M.bin .eql t128 t129 k w) (fun t130 w =>
  M.pick t126 t130 (Value.bool false) (fun t131 w =>
  M.cond t131
  (M.call Tryz.prog 16 #[x0, (Value.int IntKind.i64 1), (Value.int IntKind.u64 1)] (fun t133 w =>
  M.extract 0 t133 (fun t134 w =>
  M.extract 1 t133 (fun t135 w =>
  R (.tuple #[t134, t135]) w) w) w) w)
  (M.bin .eql x1 (Value.int IntKind.i64 6) (fun t138 w =>
  M.gd t138 false (fun k w => k x1 w) (fun t140 w =>
  M.gd t138 false (fun k w => M.bin .eql t140 (Value.int IntKind.i64 7) k w) (fun t141 w =>
  M.pick t138 (Value.bool true) t141 (fun t142 w =>
  M.gd t142 true (fun k w => k x2 w) (fun t144 w =>
  M.gd t142 true (fun k w => k x3 w) (fun t145 w =>
  M.gd t142 true (fun k w => M.bin .eql t144 t145 k w) (fun t146 w =>
  M.pick t142 t146 (Value.bool false) (fun t147 w =>
  M.cond t147
  (R (.tuple #[x2, (Value.int IntKind.i64 0)]) w)
  (M.call Tryz.prog 113 #[x0, x1, x2, x3] (fun t153 w =>
  M.extract 0 t153 (fun t154 w =>
  M.extract 1 t153 (fun t155 w =>
  R (.tuple #[t154, t155]) w) w) w) w)) w) w) w) w) w) w) w) w)) w) w) w) w) w)) w)) w) w) w) w) w) w)) w)) w) w) w) w) w) w) w) w) w) w) w)) w) w) w) w) w) w) w) w) w) w) w) w) w) w) w) w) w) w) w) w) w) w) w) w) w) w
theorem ok85 (x0 x1 x2 x3 : Value) (R : Kt) (w : World) (h : sh85 x0 x1 x2 x3 R w) : Ret Tryz.prog 85 #[x0, x1, x2, x3] w R :=
  ret_mk <| calls_of_comp mixed (c := Tryz.f85.body.getD .skip) (args := [x0, x1, x2, x3]) (rs := [(ResultVar.tmp 8), (ResultVar.tmp 9)]) (Ann.seq Ann.text (Ann.seq Ann.text (Ann.seq Ann.text (Ann.seq (Ann.seq Ann.text (Ann.cond (Ann.seq Ann.text Ann.leaf) Ann.leaf)) (Ann.seq Ann.text (Ann.join [14] [63, 64] (Ann.seq Ann.text (Ann.cond Ann.text Ann.leaf)) (Ann.seq Ann.text (Ann.seq Ann.text (Ann.seq (Ann.block (Ann.seq Ann.text (Ann.cond (Ann.seq Ann.text (Ann.seq Ann.text Ann.leaf)) (Ann.seq Ann.text (Ann.cond (Ann.seq Ann.text Ann.leaf) (Ann.seq Ann.text (Ann.cond (Ann.seq Ann.text Ann.leaf) (Ann.seq Ann.text (Ann.cond (Ann.seq Ann.text Ann.leaf) (Ann.seq Ann.text (Ann.cond (Ann.seq Ann.text Ann.leaf) (Ann.seq Ann.text (Ann.cond (Ann.seq Ann.text Ann.leaf) Ann.leaf))))))))))))) (Ann.seq Ann.text Ann.leaf))))))))))
    Tryz.func85 (by kernel_rfl) (by kernel_rfl)
    (Eq.mp (by kernel_rfl) h)
def sh86 (x0 x1 x2 x3 : Value) (R : Kt) (w : World) : Prop :=
  M.call Tryz.prog 71 #[x0, x1] (fun t17 w =>
  M.extract 0 t17 (fun t18 w =>
  M.extract 1 t17 (fun t19 w =>
  M.new 93 #[.int .i64 0, .int .i64 0, .int .i64 0, .int .i64 0, .int .i64 0, .int .u64 0] (fun t10 w =>
  M.store 6 t10 t18 (fun _ w =>
  M.not t19 (fun t21 w =>
  M.gd t21 false (fun k w => k x2 w) (fun t23 w =>
  M.gd t21 false (fun k w => M.fieldAddr 1 t10 k w) (fun t24 w =>
  M.gd t21 false (fun k w => M.load1 t24 k w) (fun t25 w =>
  M.gd t21 false (fun k w => M.bin .lss t23 t25 k w) (fun t26 w =>
  M.pick t21 (Value.bool true) t26 (fun t27 w =>
  M.gd t27 false (fun k w => k x2 w) (fun t29 w =>
  M.gd t27 false (fun k w => M.bin .gtr t29 (Value.int IntKind.i64 64) k w) (fun t30 w =>
  M.pick t27 (Value.bool true) t30 (fun t31 w =>
  M.cond t31
  (M.call Tryz.prog 117 #[x0, x1, x2, x3] (fun t36 w =>
  M.extract 0 t36 (fun t37 w =>
  M.extract 1 t36 (fun t38 w =>
  R (.tuple #[t37, t38]) w) w) w) w)
  (M.call Tryz.prog 82 #[x0, x1] (fun t42 w =>
  M.extract 0 t42 (fun t43 w =>
  M.extract 1 t42 (fun t44 w =>
  M.cond t44
  (M.share (fun K1 w =>
  M.cond x3
  (M.fieldAddr 1 t10 (fun t47 w =>
  M.load1 t47 (fun t48 w =>
  M.call Tryz.prog 74 #[t48, t43] (fun t50 w =>
  M.conv .u64 t50 (fun t51 w =>
  K1 [t51] w) w) w) w) w)
  (K1 [t43] w)) (fun s1 w => ∀ _ : List Value,
  M.call Tryz.prog 16 #[x0, x2, (s1.getD 0 undef)] (fun t55 w =>
  M.extract 0 t55 (fun t56 w =>
  M.extract 1 t55 (fun t57 w =>
  R (.tuple #[t56, t57]) w) w) w) w) w)
  (M.call Tryz.prog 117 #[x0, x1, x2, x3] (fun t62 w =>
  M.extract 0 t62 (fun t63 w =>
  M.extract 1 t62 (fun t64 w =>
  R (.tuple #[t63, t64]) w) w) w) w)) w) w) w)) w) w) w) w) w) w) w) w) w) w) w) w) w) w
theorem ok86 (x0 x1 x2 x3 : Value) (R : Kt) (w : World) (h : sh86 x0 x1 x2 x3 R w) : Ret Tryz.prog 86 #[x0, x1, x2, x3] w R :=
  ret_mk <| calls_of_comp mixed (c := Tryz.f86.body.getD .skip) (args := [x0, x1, x2, x3]) (rs := [(ResultVar.tmp 8), (ResultVar.tmp 9)]) (Ann.seq Ann.text (Ann.seq Ann.text (Ann.seq (Ann.seq Ann.text (Ann.cond (Ann.seq Ann.text Ann.leaf) Ann.leaf)) (Ann.seq (Ann.seq Ann.text (Ann.seq Ann.text (Ann.cond (Ann.join [12] [46, 47, 48, 49, 50, 51] (Ann.seq Ann.text (Ann.cond Ann.text Ann.leaf)) (Ann.seq Ann.text Ann.leaf)) Ann.leaf))) (Ann.seq Ann.text Ann.leaf)))))
    Tryz.func86 (by kernel_rfl) (by kernel_rfl)
    (Eq.mp (by kernel_rfl) h)
section
variable {w : World} {F : Nat → Prop} {p : Nat} {N : List Nd} {most : Int}
theorem keepT1 {w w1 w2 : World} {c : Nat} (q : Keep w w1 No) (k : Keep w1 w2 (· = c)) (h : w.heap.size ≤ c) : Keep w w2 No := q.trans k (fun j hj e => by have e : j = c := e; omega)
theorem known_ret (hd : DagO w F p N most) (i : Int) :
    Ret Tryz.prog 82 #[ptr p, vi i] w (fun r w' => r = .tuple #[vw ((knownN N i).getD 0), .bool (knownN N i).isSome] ∧ Keep w w' No) := by
  refine ok82 _ _ _ _ ?_
  unfold sh82
  refine M.call_i (hd.node i) ?_; rintro _ w1 ⟨rfl, k1⟩
  refine M.extract_i (v := encN (nodeAt N i)) rfl ?_
  refine M.extract_i (v := .bool (isN N i)) rfl ?_
  refine M.new_i (l := zeroNd.cells) (fun w2 b2 k2 s2 => ?_)
  refine M.storeAll_i b2 rfl rfl (cells_one _) (fun w3 b3 k3 s3 => ?_)
  have k := keepT1 (k1.trans k2 (fun _ _ h => h)) k3 k1.size
  have b3 : Blk w3 w1.heap.size [vi (nodeAt N i).op, vi (nodeAt N i).wd, vi (nodeAt N i).a, vi (nodeAt N i).b, vi (nodeAt N i).c, vw (nodeAt N i).val] := b3
  unfold knownN
  cases hi : isN N i with
  | false =>
    (repeat (first|refine ji ?_|refine jk ?_|refine jn ?_|refine jo ?_))
    exact ⟨rfl, k⟩
  | true =>
    by_cases h20 : (nodeAt N i).op = 20
    · rw [if_pos rfl, if_pos h20]
      (repeat (first|refine jc ?_|refine jg ?_|refine jl ?_|refine jm ?_|refine jp ?_|refine jJ ?_|refine jN (by assumption) rfl ?_))
      exact ⟨rfl, k⟩
    · rw [if_pos rfl, if_neg h20]
      (repeat (first|refine jc ?_|refine jg ?_|refine jl ?_|refine jm ?_|refine jo ?_|refine jI ?_|refine jN (by assumption) rfl ?_))
      exact ⟨rfl, k⟩
theorem is_ret (hd : DagO w F p N most) (i : Int) (x : W64) :
    Ret Tryz.prog 122 #[ptr p, vi i, vw x] w (fun r w' => r = .bool (isK N i x) ∧ Keep w w' No) := by
  refine ok122 _ _ _ _ _ ?_
  unfold sh122
  refine M.call_i (known_ret hd i) ?_; rintro _ w1 ⟨rfl, k1⟩
  refine M.extract_i (v := vw ((knownN N i).getD 0)) rfl ?_
  refine M.extract_i (v := .bool (knownN N i).isSome) rfl ?_
  unfold isK
  cases knownN N i with
  | none => (repeat (first|refine jh ?_|refine jl ?_)); exact ⟨rfl, k1⟩
  | some v =>
    (repeat (refine jf ?_))
    refine M.eqlW_i ?_
    (repeat (refine jk ?_))
    exact ⟨rfl, k1⟩
theorem right_ret (hd : DagO w F p N most) (op b : Int) :
    Ret Tryz.prog 114 #[ptr p, vi op, vi b] w (fun r w' => r = .bool (rightN N op b) ∧ Keep w w' No) := by
  refine ok114 _ _ _ _ _ ?_
  unfold sh114
  unfold rightN
  by_cases g1 : op = 1 ∨ op = 2 ∨ op = 7 ∨ op = 8 ∨ op = 9 ∨ op = 10 ∨ op = 11
  · rw [if_pos g1]
    refine M.share_j (fun vals w' => vals = [.bool true] ∧ w = w') ?_ ?_
    · rintro vals w' ⟨rfl, rfl⟩ _
      simp only [List.getD_cons_zero, List.getD_cons_succ]
      (repeat (refine jo ?_))
      refine M.call_i (is_ret hd b 0) ?_; rintro _ w1 ⟨rfl, k1⟩
      exact ⟨rfl, k1⟩
    · intro K hK
      have hK := hK _ _ ⟨rfl, rfl⟩
      rcases g1 with e | e | e | e | e | e | e
      all_goals
        (repeat (first|refine jo ?_|refine jp ?_|refine jG ?_|refine jH ?_))
        exact hK
  · rw [if_neg g1]
    refine M.share_j (fun vals w' => vals = [.bool false] ∧ w = w') ?_ ?_
    · rintro vals w' ⟨rfl, rfl⟩ _
      simp only [List.getD_cons_zero, List.getD_cons_succ]
      (repeat (refine jp ?_))
      by_cases g2 : op = 3 ∨ op = 4
      · rw [if_pos g2]
        refine M.share_j (fun vals w' => vals = [.bool true] ∧ w = w') ?_ ?_
        · rintro vals w' ⟨rfl, rfl⟩ _
          simp only [List.getD_cons_zero, List.getD_cons_succ]
          (repeat (refine jo ?_))
          refine M.call_i (is_ret hd b 1) ?_; rintro _ w1 ⟨rfl, k1⟩
          exact ⟨rfl, k1⟩
        · intro K hK
          have hK := hK _ _ ⟨rfl, rfl⟩
          rcases g2 with e | e
          all_goals
            (repeat (first|refine jo ?_|refine jp ?_|refine jG ?_|refine jH ?_))
            exact hK
      · rw [if_neg g2]
        refine M.share_j (fun vals w' => vals = [.bool false] ∧ w = w') ?_ ?_
        · rintro vals w' ⟨rfl, rfl⟩ _
          simp only [List.getD_cons_zero, List.getD_cons_succ]
          (repeat (refine jp ?_))
          by_cases g3 : op = 6
          · rw [if_pos g3]
            (repeat (first|refine jo ?_|refine jG ?_))
            refine M.call_i (hd.width b) ?_; rintro _ w1 ⟨rfl, k1⟩
            refine M.call_i (mask_ret (wdN N b) w1) ?_; rintro _ w2 ⟨rfl, rfl⟩
            refine M.call_i (is_ret (hd.keepN k1) b (maskW (wdN N b))) ?_; rintro _ w3 ⟨rfl, k3⟩
            exact ⟨rfl, k1.trans k3 (fun _ _ h => h)⟩
          · rw [if_neg g3]
            (repeat (first|refine jp ?_|refine jH ?_))
            exact ⟨rfl, Keep.refl _ _⟩
        · intro K hK
          have hK := hK _ _ ⟨rfl, rfl⟩
          (repeat (first|refine jp ?_|refine jH ?_))
          exact hK
    · intro K hK
      have hK := hK _ _ ⟨rfl, rfl⟩
      (repeat (first|refine jp ?_|refine jH ?_))
      exact hK
theorem twins_ret (op : Int) (w : World) : Ret Tryz.prog 115 #[vi op] w (fun r w' => r = .bool (twinsN op) ∧ w' = w) := by
  refine ok115 _ _ _ ?_
  unfold sh115
  unfold twinsN
  refine M.share_j (fun vals w' => vals = [.bool (decide (op = 1 ∨ op = 3 ∨ op = 6 ∨ op = 7 ∨ op = 8 ∨ op = 12))] ∧ w = w') ?_ ?_
  · rintro vals w' ⟨rfl, rfl⟩ _
    simp only [List.getD_cons_zero, List.getD_cons_succ]
    by_cases g : op = 1 ∨ op = 3 ∨ op = 6 ∨ op = 7 ∨ op = 8 ∨ op = 12
    · rw [decide_eq_true g]
      (repeat (refine jo ?_))
      first | exact ⟨rfl, rfl⟩ | exact ⟨rfl, trivial⟩
    · rw [decide_eq_false g]
      (repeat (refine jp ?_))
      first | exact ⟨rfl, rfl⟩ | exact ⟨rfl, trivial⟩
  · intro K hK
    have hK := hK _ _ ⟨rfl, rfl⟩
    by_cases g : op = 1 ∨ op = 3 ∨ op = 6 ∨ op = 7 ∨ op = 8 ∨ op = 12
    · rw [decide_eq_true g] at hK
      rcases g with e | e | e | e | e | e
      all_goals
        (repeat (first|refine jo ?_|refine jp ?_|refine jG ?_|refine jH ?_))
        exact hK
    · rw [decide_eq_false g] at hK
      (repeat (first|refine jp ?_|refine jH ?_))
      exact hK
theorem nought_ret (hd : DagO w F p N most) (op a b : Int) :
    Ret Tryz.prog 116 #[ptr p, vi op, vi a, vi b] w (fun r w' => r = .bool (noughtN N op a b) ∧ Keep w w' No) := by
  refine ok116 _ _ _ _ _ _ ?_
  unfold sh116
  refine M.share_j (fun vals w' => noughtN N op a b = false ∧ Keep w w' No) ?_ ?_
  · rintro vals w' ⟨hn, k⟩ _
    exact ⟨by rw [hn], k⟩
  intro K1 hK1
  have hK1 : noughtN N op a b = false → K1 [] w := fun h => hK1 _ _ ⟨h, Keep.refl _ _⟩
  refine M.share_j (fun vals w' => vals = [] ∧ w = w' ∧ noughtN N op a b = (decide (op = 13) && isK N b 0)) ?_ ?_
  · rintro vals w' ⟨rfl, rfl, hn⟩ _
    by_cases g : op = 13
    · (repeat (first|refine jf ?_|refine jG ?_))
      refine M.call_i (is_ret hd b 0) ?_; rintro _ w1 ⟨rfl, k1⟩
      (repeat (refine jk ?_))
      exact ⟨by rw [hn, decide_eq_true g]; rfl, k1⟩
    · (repeat (first|refine jh ?_|refine jl ?_|refine jH ?_))
      exact ⟨by rw [hn, decide_eq_false g]; rfl, Keep.refl _ _⟩
  intro K2 hK2
  have hK2 : noughtN N op a b = (decide (op = 13) && isK N b 0) → K2 [] w := fun h => hK2 _ _ ⟨rfl, rfl, h⟩
  by_cases g1 : op = 8 ∨ op = 2 ∨ op = 13 ∨ op = 14
  · refine M.share_j (fun vals w' => vals = [.bool true] ∧ w = w') ?_ ?_
    · rintro vals w' ⟨rfl, rfl⟩ _
      simp only [List.getD_cons_zero, List.getD_cons_succ]
      by_cases hab : a = b
      · (repeat (first|refine jo ?_|refine jG ?_))
        exact ⟨by unfold noughtN; rw [if_pos ⟨g1, hab⟩], Keep.refl _ _⟩
      · (repeat (first|refine jo ?_|refine jp ?_|refine jH ?_))
        refine hK2 ?_
        unfold noughtN
        rw [if_neg (fun h => hab h.2), if_neg (by omega), if_neg (by omega)]
    · intro K hK
      have hK := hK _ _ ⟨rfl, rfl⟩
      rcases g1 with e | e | e | e
      all_goals
        (repeat (first|refine jo ?_|refine jp ?_|refine jG ?_|refine jH ?_))
        exact hK
  · refine M.share_j (fun vals w' => vals = [.bool false] ∧ w = w') ?_ ?_
    · rintro vals w' ⟨rfl, rfl⟩ _
      simp only [List.getD_cons_zero, List.getD_cons_succ]
      (repeat (refine jp ?_))
      by_cases g2 : op = 1 ∨ op = 7 ∨ op = 12 ∨ op = 4 ∨ op = 5 ∨ op = 11
      · refine M.share_j (fun vals w' => vals = [.bool true] ∧ w = w') ?_ ?_
        · rintro vals w' ⟨rfl, rfl⟩ _
          simp only [List.getD_cons_zero, List.getD_cons_succ]
          (repeat (refine jo ?_))
          refine hK2 ?_
          unfold noughtN
          rw [if_neg (fun h => g1 h.1), if_neg (by omega), if_neg (by omega)]
        · intro K hK
          have hK := hK _ _ ⟨rfl, rfl⟩
          rcases g2 with e | e | e | e | e | e
          all_goals
            (repeat (first|refine jo ?_|refine jp ?_|refine jG ?_|refine jH ?_))
            exact hK
      · refine M.share_j (fun vals w' => vals = [.bool false] ∧ w = w') ?_ ?_
        · rintro vals w' ⟨rfl, rfl⟩ _
          simp only [List.getD_cons_zero, List.getD_cons_succ]
          (repeat (refine jp ?_))
          by_cases g3 : op = 3 ∨ op = 6
          · have hn : noughtN N op a b = (isK N a 0 || isK N b 0) := by
              unfold noughtN
              rw [if_neg (fun h => g1 h.1), if_pos g3]
            refine M.share_j (fun vals w' => vals = [.bool true] ∧ w = w') ?_ ?_
            · rintro vals w' ⟨rfl, rfl⟩ _
              simp only [List.getD_cons_zero, List.getD_cons_succ]
              (repeat (refine jo ?_))
              refine M.call_i (is_ret hd a 0) ?_; rintro _ w1 ⟨rfl, k1⟩
              cases ha : isK N a 0 with
              | true =>
                (repeat (first|refine ji ?_|refine jk ?_))
                exact ⟨by rw [hn, ha]; rfl, k1⟩
              | false =>
                (repeat (refine jg ?_))
                refine M.call_i (is_ret (hd.keepN k1) b 0) ?_; rintro _ w2 ⟨rfl, k2⟩
                (repeat (refine jl ?_))
                exact ⟨by rw [hn, ha]; rfl, k1.trans k2 (fun _ _ h => h)⟩
            · intro K hK
              have hK := hK _ _ ⟨rfl, rfl⟩
              rcases g3 with e | e
              all_goals
                (repeat (first|refine jo ?_|refine jp ?_|refine jG ?_|refine jH ?_))
                exact hK
          · refine M.share_j (fun vals w' => vals = [.bool false] ∧ w = w') ?_ ?_
            · rintro vals w' ⟨rfl, rfl⟩ _
              simp only [List.getD_cons_zero, List.getD_cons_succ]
              (repeat (refine jp ?_))
              by_cases g4 : op = 9 ∨ op = 10
              · have hn : noughtN N op a b = isK N a 0 := by
                  unfold noughtN
                  rw [if_neg (fun h => g1 h.1), if_neg g3, if_pos g4]
                refine M.share_j (fun vals w' => vals = [.bool true] ∧ w = w') ?_ ?_
                · rintro vals w' ⟨rfl, rfl⟩ _
                  simp only [List.getD_cons_zero, List.getD_cons_succ]
                  (repeat (refine jo ?_))
                  refine M.call_i (is_ret hd a 0) ?_; rintro _ w1 ⟨rfl, k1⟩
                  exact ⟨by rw [hn], k1⟩
                · intro K hK
                  have hK := hK _ _ ⟨rfl, rfl⟩
                  rcases g4 with e | e
                  all_goals
                    (repeat (first|refine jo ?_|refine jp ?_|refine jG ?_|refine jH ?_))
                    exact hK
              · have hn : noughtN N op a b = false := by
                  unfold noughtN
                  rw [if_neg (fun h => g1 h.1), if_neg g3, if_neg g4, decide_eq_false (by omega)]; rfl
                refine M.share_j (fun vals w' => vals = [.bool false] ∧ w = w') ?_ ?_
                · rintro vals w' ⟨rfl, rfl⟩ _
                  simp only [List.getD_cons_zero, List.getD_cons_succ]
                  (repeat (refine jp ?_))
                  exact hK1 hn
                · intro K hK
                  have hK := hK _ _ ⟨rfl, rfl⟩
                  (repeat (first|refine jp ?_|refine jH ?_))
                  exact hK
            · intro K hK
              have hK := hK _ _ ⟨rfl, rfl⟩
              (repeat (first|refine jp ?_|refine jH ?_))
              exact hK
        · intro K hK
          have hK := hK _ _ ⟨rfl, rfl⟩
          (repeat (first|refine jp ?_|refine jH ?_))
          exact hK
    · intro K hK
      have hK := hK _ _ ⟨rfl, rfl⟩
      (repeat (first|refine jp ?_|refine jH ?_))
      exact hK
theorem AskO.stay {res : Rs} {r : Value} {w' : World} (hd : DagO w F p N most) (k : Keep w w' No) (hr : r = .tuple #[vi res.2.1, vi res.2.2]) (hN : res.1 = N) : AskO w F p most res r w' :=
  ⟨F, hr, by rw [hN]; exact hd.keepN k, fun _ _ h => h, k.mono (fun _ _ h => h.elim)⟩
theorem nodeAt_width (N : List Nd) (i : Int) : (nodeAt N i).wd = wdN N i := nodeAt_wd N i
theorem M.pass_i {f : FuncId} {args : Array Value} {R : Kt} {w0 : World} {res : Rs} (k : Keep w0 w No) (h : Ret Tryz.prog f args w (AskO w F p most res)) (hR : ∀ r w', AskO w0 F p most res r w' → R r w') :
    M.call Tryz.prog f args (fun t w => M.extract 0 t (fun x w => M.extract 1 t (fun y w => R (.tuple #[x, y]) w) w) w) w := by
  refine M.call_i h ?_
  rintro r w1 ⟨F1, rfl, h2, h3, h4⟩
  refine M.extract_i (v := vi res.2.1) rfl ?_
  refine M.extract_i (v := vi res.2.2) rfl ?_
  exact hR _ _ (AskO.from k ⟨F1, rfl, h2, h3, h4⟩)
theorem foldUn_ret (hd : DagO w F p N most) (op a : Int) :
    Ret Tryz.prog 48 #[ptr p, vi op, vi a] w (AskO w F p most (foldUn most N op a)) := by
  refine ok48 _ _ _ _ _ ?_
  unfold sh48
  refine M.call_i (hd.node a) ?_; rintro _ w1 ⟨rfl, k1⟩
  refine M.extract_i (v := encN (nodeAt N a)) rfl ?_
  refine M.extract_i (v := .bool (isN N a)) rfl ?_
  refine M.new_i (l := zeroNd.cells) (fun w2 b2 k2 s2 => ?_)
  refine M.storeAll_i b2 rfl rfl (cells_one _) (fun w3 b3 k3 s3 => ?_)
  have k := keepT1 (k1.trans k2 (fun _ _ h => h)) k3 k1.size
  have b3 : Blk w3 w1.heap.size [vi (nodeAt N a).op, vi (nodeAt N a).wd, vi (nodeAt N a).a, vi (nodeAt N a).b, vi (nodeAt N a).c, vw (nodeAt N a).val] := b3
  have hd3 := hd.keepN k
  unfold foldUn
  cases hi : isN N a with
  | false =>
    rw [if_neg (by simp)]
    (repeat (first|refine ji ?_|refine jj ?_|refine jk ?_|refine jn ?_|refine jo ?_))
    exact M.pass_i k (unary_ret hd3 op a) (fun _ _ h => h)
  | true =>
    by_cases ho : op = 15 ∨ op = 16
    · rw [if_pos ⟨rfl, ho⟩]
      rcases ho with e | e
      all_goals
        (repeat (first|refine jf ?_|refine jg ?_|refine jh ?_|refine jk ?_|refine jl ?_|refine jm ?_|refine jp ?_|refine jI ?_|refine jJ ?_))
        refine M.call_i (known_ret hd3 a) ?_; rintro _ w4 ⟨rfl, k4⟩
        refine M.extract_i (v := vw ((knownN N a).getD 0)) rfl ?_
        refine M.extract_i (v := .bool (knownN N a).isSome) rfl ?_
        have b4 := b3.keep k4 (fun h => h)
        have k04 := k.trans k4 (fun _ _ h => h)
        have hd4 := hd.keepN k04
        cases hk : knownN N a with
        | some v =>
          (repeat (first|refine jc ?_|refine jo ?_|refine jN (by assumption) rfl ?_))
          refine M.call_i (wunary_ret op (nodeAt N a).wd v w4) ?_; rintro _ w5 ⟨rfl, rfl⟩
          refine M.extract_i (v := vw (unW op (nodeAt N a).wd v)) rfl ?_
          refine M.extract_i (v := vi (unE op (nodeAt N a).wd)) rfl ?_
          (repeat (first|refine jc ?_|refine jN (by assumption) rfl ?_))
          rw [nodeAt_width]
          exact M.pass_i k04 (const_ret hd4 (wdN N a) _) (fun _ _ h => h)
        | none =>
          by_cases hop : (nodeAt N a).op = op
          · (repeat (first|refine jc ?_|refine jo ?_|refine jp ?_|refine jG ?_|refine jN (by assumption) rfl ?_))
            refine AskO.stay hd k04 ?_ ?_
            · simp only [if_pos hop]
            · simp only [if_pos hop]
          · (repeat (first|refine jc ?_|refine jp ?_|refine jH ?_|refine jN (by assumption) rfl ?_))
            simp only [if_neg hop]
            exact M.pass_i k04 (unary_ret hd4 op a) (fun _ _ h => h)
    · rw [if_neg (fun h => ho h.2)]
      (repeat (first|refine jf ?_|refine jg ?_|refine jk ?_|refine jl ?_|refine jm ?_|refine jo ?_|refine jI ?_))
      exact M.pass_i k (unary_ret hd3 op a) (fun _ _ h => h)
end
end Go.Proofs.YtanjlgafjgoaaaaGreat
namespace Go.Proofs.YtanjlgafjgoaaaaGreat
open Go.Mw
set_option linter.unusedVariables false
set_option linter.unusedSimpArgs false
set_option maxRecDepth 100000
attribute [local irreducible] M.val M.unit M.next M.pick M.new M.nilCheck M.load1 M.loadA M.store M.fieldAddr M.indexSl M.indexArr M.slice M.makeSlice M.buildSlice M.len M.lenS M.cap M.append M.extract M.conv M.not M.neg M.bin M.shift M.eqB M.eqNil M.scat M.call M.callv M.gd M.share M.cond M.loop M.draw pureW readW Ret
section
variable {w : World} {F : Nat → Prop} {p : Nat} {N : List Nd} {most : Int}
def tailB (N : List Nd) (x0 : Value) (op a b W : Int) (R : Kt) (w : World) : Prop :=
  M.call Tryz.prog 116 #[x0, vi op, vi a, vi b] (fun t118 w =>
  M.cond t118
  (M.call Tryz.prog 16 #[x0, vi W, (Value.int IntKind.u64 0)] (fun t121 w =>
  M.extract 0 t121 (fun t122 w =>
  M.extract 1 t121 (fun t123 w =>
  R (.tuple #[t122, t123]) w) w) w) w)
  (M.bin .eql (vi op) (Value.int IntKind.i64 12) (fun t126 w =>
  M.gd t126 true (fun k w => k (vi a) w) (fun t128 w =>
  M.gd t126 true (fun k w => k (vi b) w) (fun t129 w =>
  M.gd t126 true (fun k w => M.bin .eql t128 t129 k w) (fun t130 w =>
  M.pick t126 t130 (Value.bool false) (fun t131 w =>
  M.cond t131
  (M.call Tryz.prog 16 #[x0, (Value.int IntKind.i64 1), (Value.int IntKind.u64 1)] (fun t133 w =>
  M.extract 0 t133 (fun t134 w =>
  M.extract 1 t133 (fun t135 w =>
  R (.tuple #[t134, t135]) w) w) w) w)
  (M.bin .eql (vi op) (Value.int IntKind.i64 6) (fun t138 w =>
  M.gd t138 false (fun k w => k (vi op) w) (fun t140 w =>
  M.gd t138 false (fun k w => M.bin .eql t140 (Value.int IntKind.i64 7) k w) (fun t141 w =>
  M.pick t138 (Value.bool true) t141 (fun t142 w =>
  M.gd t142 true (fun k w => k (vi a) w) (fun t144 w =>
  M.gd t142 true (fun k w => k (vi b) w) (fun t145 w =>
  M.gd t142 true (fun k w => M.bin .eql t144 t145 k w) (fun t146 w =>
  M.pick t142 t146 (Value.bool false) (fun t147 w =>
  M.cond t147
  (R (.tuple #[vi a, (Value.int IntKind.i64 0)]) w)
  (M.call Tryz.prog 113 #[x0, vi op, vi a, vi b] (fun t153 w =>
  M.extract 0 t153 (fun t154 w =>
  M.extract 1 t153 (fun t155 w =>
  R (.tuple #[t154, t155]) w) w) w) w)) w) w) w) w) w) w) w) w)) w) w) w) w) w)) w
theorem tailB_ret {w0 : World} (hd0 : DagO w0 F p N most) (k : Keep w0 w No) (op a b W : Int) : tailB N (ptr p) op a b W (AskO w0 F p most (
      if noughtN N op a b then constN most N W 0
      else if op = 12 ∧ a = b then constN most N 1 1
      else if (op = 6 ∨ op = 7) ∧ a = b then (N, a, 0)
      else binaryN most N op a b)) w := by
  unfold tailB
  refine M.call_i (nought_ret (hd0.keepN k) op a b) ?_; rintro _ w1 ⟨rfl, k1⟩
  have k01 := k.trans k1 (fun _ _ h => h)
  have hd1 := hd0.keepN k01
  cases hn : noughtN N op a b with
  | true =>
    rw [if_pos rfl]
    (repeat (refine jo ?_))
    exact M.pass_i k01 (const_ret hd1 _ 0) (fun _ _ h => h)
  | false =>
    rw [if_neg (by decide)]
    by_cases h12 : op = 12
    · by_cases hab : a = b
      · rw [if_pos ⟨h12, hab⟩]
        (repeat (first|refine jf ?_|refine jk ?_|refine jo ?_|refine jp ?_|refine jG ?_))
        exact M.pass_i k01 (const_ret hd1 1 1) (fun _ _ h => h)
      · rw [if_neg (fun h => hab h.2), if_neg (fun h => hab h.2)]
        (repeat (first|refine jf ?_|refine jg ?_|refine jh ?_|refine jk ?_|refine jl ?_|refine jp ?_|refine jG ?_|refine jH ?_))
        exact M.pass_i k01 (binary_ret hd1 op a b) (fun _ _ h => h)
    · rw [if_neg (fun h => h12 h.1)]
      by_cases h67 : op = 6 ∨ op = 7
      · by_cases hab : a = b
        · rw [if_pos ⟨h67, hab⟩]
          rcases h67 with e | e
          all_goals
            (repeat (first|refine jf ?_|refine jg ?_|refine jh ?_|refine ji ?_|refine jk ?_|refine jl ?_|refine jo ?_|refine jp ?_|refine jG ?_|refine jH ?_))
            exact AskO.stay hd0 k01 rfl rfl
        · rw [if_neg (fun h => hab h.2)]
          rcases h67 with e | e
          all_goals
            (repeat (first|refine jf ?_|refine jg ?_|refine jh ?_|refine ji ?_|refine jk ?_|refine jl ?_|refine jp ?_|refine jG ?_|refine jH ?_))
            exact M.pass_i k01 (binary_ret hd1 op a b) (fun _ _ h => h)
      · rw [if_neg (fun h => h67 h.1)]
        (repeat (first|refine jg ?_|refine jh ?_|refine jl ?_|refine jp ?_|refine jH ?_))
        exact M.pass_i k01 (binary_ret hd1 op a b) (fun _ _ h => h)
theorem foldBin_bad {op a b : Int} (h : isN N a = false ∨ isN N b = false ∨ wdN N a ≠ wdN N b ∨ op < 1 ∨ 14 < op) : foldBin most N op a b = binaryN most N op a b := by
  unfold foldBin
  rw [if_pos h]
theorem foldBin_two {op a b : Int} {x y : W64} (h : ¬ (isN N a = false ∨ isN N b = false ∨ wdN N a ≠ wdN N b ∨ op < 1 ∨ 14 < op)) (hx : knownN N a = some x) (hy : knownN N b = some y) : foldBin most N op a b = constN most N (if 12 ≤ op then 1 else wdN N a) (binW op (wdN N a) x y) := by
  unfold foldBin
  rw [if_neg h, hx, hy]
theorem foldBin_rest {op a b : Int} (h : ¬ (isN N a = false ∨ isN N b = false ∨ wdN N a ≠ wdN N b ∨ op < 1 ∨ 14 < op)) (hk : ¬ ∃ x y, knownN N a = some x ∧ knownN N b = some y) : foldBin most N op a b = (if rightN N op b then (N, a, 0)
      else if twinsN op && rightN N op a then (N, b, 0)
      else if noughtN N op a b then constN most N (if 12 ≤ op then 1 else wdN N a) 0
      else if op = 12 ∧ a = b then constN most N 1 1
      else if (op = 6 ∨ op = 7) ∧ a = b then (N, a, 0)
      else binaryN most N op a b) := by
  unfold foldBin
  rw [if_neg h]
  cases hx : knownN N a with
  | none => rfl
  | some x =>
    cases hy : knownN N b with
    | none => rfl
    | some y => exact absurd ⟨x, y, hx, hy⟩ hk
set_option maxHeartbeats 4000000 in
theorem foldBin_ret (hd : DagO w F p N most) (op a b : Int) :
    Ret Tryz.prog 85 #[ptr p, vi op, vi a, vi b] w (AskO w F p most (foldBin most N op a b)) := by
  refine ok85 _ _ _ _ _ _ ?_
  unfold sh85
  refine M.call_i (hd.node a) ?_; rintro _ w1 ⟨rfl, k1⟩
  refine M.extract_i (v := encN (nodeAt N a)) rfl ?_
  refine M.extract_i (v := .bool (isN N a)) rfl ?_
  refine M.new_i (l := zeroNd.cells) (fun w2 b2 k2 s2 => ?_)
  refine M.storeAll_i b2 rfl rfl (cells_one _) (fun w3 b3 k3 s3 => ?_)
  have k03 := keepT1 (k1.trans k2 (fun _ _ h => h)) k3 k1.size
  refine M.call_i ((hd.keepN k03).node b) ?_; rintro _ w4 ⟨rfl, k4⟩
  refine M.extract_i (v := encN (nodeAt N b)) rfl ?_
  refine M.extract_i (v := .bool (isN N b)) rfl ?_
  have b4 := b3.keep k4 (fun h => h)
  have k04 := k03.trans k4 (fun _ _ h => h)
  refine M.new_i (l := zeroNd.cells) (fun w5 b5 k5 s5 => ?_)
  have b5a := b4.keep k5 (fun h => h)
  have hne : w1.heap.size ≠ w4.heap.size := by have := b4.lt; omega
  refine M.storeAll_i b5 rfl rfl (cells_one _) (fun w6 b6 k6 s6 => ?_)
  have k := keepT1 (k04.trans k5 (fun _ _ h => h)) k6 k04.size
  have b6a : Blk w6 w1.heap.size [vi (nodeAt N a).op, vi (nodeAt N a).wd, vi (nodeAt N a).a, vi (nodeAt N a).b, vi (nodeAt N a).c, vw (nodeAt N a).val] := b5a.keep k6 hne
  have b6 : Blk w6 w4.heap.size [vi (nodeAt N b).op, vi (nodeAt N b).wd, vi (nodeAt N b).a, vi (nodeAt N b).b, vi (nodeAt N b).c, vw (nodeAt N b).val] := b6
  have hd6 := hd.keepN k
  have ea := nodeAt_width N a
  have eb := nodeAt_width N b
  cases ha : isN N a with
  | false =>
    rw [foldBin_bad (.inl ha)]
    (repeat (first|refine ji ?_|refine jk ?_|refine jn ?_|refine jo ?_))
    exact M.pass_i k (binary_ret hd6 op a b) (fun _ _ h => h)
  | true =>
  cases hb : isN N b with
  | false =>
    rw [foldBin_bad (.inr (.inl hb))]
    (repeat (first|refine jg ?_|refine ji ?_|refine jk ?_|refine jl ?_|refine jm ?_|refine jn ?_|refine jo ?_))
    exact M.pass_i k (binary_ret hd6 op a b) (fun _ _ h => h)
  | true =>
  by_cases hw : wdN N a = wdN N b
  case neg =>
    rw [foldBin_bad (.inr (.inr (.inl hw)))]
    (repeat (first|refine jc ?_|refine jg ?_|refine ji ?_|refine jk ?_|refine jl ?_|refine jm ?_|refine jo ?_|refine jI ?_|refine jN (by assumption) rfl ?_))
    exact M.pass_i k (binary_ret hd6 op a b) (fun _ _ h => h)
  by_cases h1 : op < 1
  · rw [foldBin_bad (.inr (.inr (.inr (.inl h1))))]
    (repeat (first|refine jc ?_|refine jg ?_|refine ji ?_|refine jk ?_|refine jl ?_|refine jm ?_|refine jo ?_|refine jy ?_|refine jJ ?_|refine jN (by assumption) rfl ?_))
    exact M.pass_i k (binary_ret hd6 op a b) (fun _ _ h => h)
  by_cases h14 : 14 < op
  · rw [foldBin_bad (.inr (.inr (.inr (.inr h14))))]
    (repeat (first|refine jc ?_|refine jg ?_|refine jl ?_|refine jm ?_|refine jo ?_|refine jz ?_|refine jC ?_|refine jJ ?_|refine jN (by assumption) rfl ?_))
    exact M.pass_i k (binary_ret hd6 op a b) (fun _ _ h => h)
  have hgd : ¬ (isN N a = false ∨ isN N b = false ∨ wdN N a ≠ wdN N b ∨ op < 1 ∨ 14 < op) := by rw [ha, hb]; simp; omega
  (repeat (first|refine jc ?_|refine jg ?_|refine jl ?_|refine jm ?_|refine jp ?_|refine jz ?_|refine jD ?_|refine jJ ?_|refine jN (by assumption) rfl ?_))
  refine M.share_j (fun vals w' => vals = [vi (if 12 ≤ op then 1 else wdN N a)] ∧ w6 = w') ?_ ?_
  case refine_2 =>
    intro K hK
    have hK := hK _ _ ⟨rfl, rfl⟩
    by_cases h12 : 12 ≤ op
    · rw [if_pos h12] at hK
      (repeat (first|refine jo ?_|refine jE ?_))
      exact hK
    · rw [if_neg h12, ← ea] at hK
      (repeat (first|refine jp ?_|refine jF ?_))
      exact hK
  rintro vals w' ⟨rfl, rfl⟩ _
  simp only [List.getD_cons_zero, List.getD_cons_succ]
  refine M.call_i (known_ret hd6 a) ?_; rintro _ w7 ⟨rfl, k7⟩
  refine M.extract_i (v := vw ((knownN N a).getD 0)) rfl ?_
  refine M.extract_i (v := .bool (knownN N a).isSome) rfl ?_
  have k07 := k.trans k7 (fun _ _ h => h)
  refine M.call_i (known_ret (hd.keepN k07) b) ?_; rintro _ w8 ⟨rfl, k8⟩
  refine M.extract_i (v := vw ((knownN N b).getD 0)) rfl ?_
  refine M.extract_i (v := .bool (knownN N b).isSome) rfl ?_
  have k08 := k07.trans k8 (fun _ _ h => h)
  have b8a := (b6a.keep k7 (fun h => h)).keep k8 (fun h => h)
  have hd8 := hd.keepN k08
  by_cases hk : ∃ x y, knownN N a = some x ∧ knownN N b = some y
  · obtain ⟨x, y, hx, hy⟩ := hk
    rw [foldBin_two hgd hx hy, hx, hy]
    (repeat (first|refine jc ?_|refine jf ?_|refine jk ?_|refine jo ?_|refine jN (by assumption) rfl ?_))
    refine M.call_i (wbinary_ret op (nodeAt N a).wd x y w8) ?_; rintro _ w9 ⟨rfl, rfl⟩
    refine M.extract_i (v := vw (binW op (nodeAt N a).wd x y)) rfl ?_
    refine M.extract_i (v := vi (binE op (nodeAt N a).wd)) rfl ?_
    rw [ea]
    exact M.pass_i k08 (const_ret hd8 _ _) (fun _ _ h => h)
  · rw [foldBin_rest hgd hk]
    have h2 : (knownN N a).isSome = false ∨ ((knownN N a).isSome = true ∧ (knownN N b).isSome = false) := by
      cases hx : knownN N a with
      | none => exact .inl rfl
      | some x =>
        cases hy : knownN N b with
        | none => exact .inr ⟨rfl, rfl⟩
        | some y => exact absurd ⟨x, y, hx, hy⟩ hk
    rcases h2 with e | ⟨e, e2⟩
    all_goals
      rw [e]
      first | rw [e2] | skip
      (repeat (first|refine jf ?_|refine jh ?_|refine jk ?_|refine jl ?_|refine jp ?_))
      refine M.call_i (right_ret hd8 op b) ?_; rintro _ w9 ⟨rfl, k9⟩
      have k09 := k08.trans k9 (fun _ _ h => h)
      have hd9 := hd.keepN k09
      cases hr : rightN N op b with
      | true =>
        rw [if_pos rfl]
        (repeat (refine jo ?_))
        exact AskO.stay hd k09 rfl rfl
      | false =>
        rw [if_neg (by decide)]
        (repeat (refine jp ?_))
        refine M.call_i (twins_ret op w9) ?_; rintro _ w10 ⟨rfl, rfl⟩
        cases ht : twinsN op with
        | false =>
          rw [Bool.false_and, if_neg (by decide)]
          (repeat (first|refine jh ?_|refine jl ?_|refine jp ?_))
          exact tailB_ret hd k09 op a b _
        | true =>
          (repeat (refine jf ?_))
          refine M.call_i (right_ret hd9 op a) ?_; rintro _ w11 ⟨rfl, k11⟩
          have k011 := k09.trans k11 (fun _ _ h => h)
          rw [Bool.true_and]
          cases hr2 : rightN N op a with
          | true =>
            rw [if_pos rfl]
            (repeat (first|refine jk ?_|refine jo ?_))
            exact AskO.stay hd k011 rfl rfl
          | false =>
            rw [if_neg (by decide)]
            (repeat (first|refine jk ?_|refine jp ?_))
            exact tailB_ret hd k011 op a b _
set_option maxHeartbeats 1000000 in
theorem foldExt_ret (hd : DagO w F p N most) (a n : Int) :
    Ret Tryz.prog 86 #[ptr p, vi a, vi n, .bool false] w (AskO w F p most (foldExt most N a n)) := by
  refine ok86 _ _ _ _ _ _ ?_
  unfold sh86
  refine M.call_i (hd.node a) ?_; rintro _ w1 ⟨rfl, k1⟩
  refine M.extract_i (v := encN (nodeAt N a)) rfl ?_
  refine M.extract_i (v := .bool (isN N a)) rfl ?_
  refine M.new_i (l := zeroNd.cells) (fun w2 b2 k2 s2 => ?_)
  refine M.storeAll_i b2 rfl rfl (cells_one _) (fun w3 b3 k3 s3 => ?_)
  have k := keepT1 (k1.trans k2 (fun _ _ h => h)) k3 k1.size
  have b3 : Blk w3 w1.heap.size [vi (nodeAt N a).op, vi (nodeAt N a).wd, vi (nodeAt N a).a, vi (nodeAt N a).b, vi (nodeAt N a).c, vw (nodeAt N a).val] := b3
  have hd3 := hd.keepN k
  have ea := nodeAt_width N a
  unfold foldExt
  cases hi : isN N a with
  | false =>
    rw [if_pos (.inl rfl)]
    (repeat (first|refine ji ?_|refine jk ?_|refine jn ?_|refine jo ?_))
    exact M.pass_i k (extend_ret hd3 a n false) (fun _ _ h => h)
  | true =>
    by_cases h1 : n < wdN N a
    · rw [if_pos (.inr (.inl h1))]
      (repeat (first|refine jc ?_|refine jg ?_|refine ji ?_|refine jk ?_|refine jl ?_|refine jm ?_|refine jo ?_|refine jy ?_|refine jN (by assumption) rfl ?_))
      exact M.pass_i k (extend_ret hd3 a n false) (fun _ _ h => h)
    by_cases h2 : 64 < n
    · rw [if_pos (.inr (.inr h2))]
      (repeat (first|refine jc ?_|refine jg ?_|refine jl ?_|refine jm ?_|refine jo ?_|refine jz ?_|refine jC ?_|refine jN (by assumption) rfl ?_))
      exact M.pass_i k (extend_ret hd3 a n false) (fun _ _ h => h)
    rw [if_neg (by simp; omega)]
    (repeat (first|refine jc ?_|refine jg ?_|refine jl ?_|refine jm ?_|refine jp ?_|refine jz ?_|refine jD ?_|refine jN (by assumption) rfl ?_))
    refine M.call_i (known_ret hd3 a) ?_; rintro _ w4 ⟨rfl, k4⟩
    refine M.extract_i (v := vw ((knownN N a).getD 0)) rfl ?_
    refine M.extract_i (v := .bool (knownN N a).isSome) rfl ?_
    have k04 := k.trans k4 (fun _ _ h => h)
    have hd4 := hd.keepN k04
    cases hk : knownN N a with
    | none =>
      (repeat (refine jp ?_))
      exact M.pass_i k04 (extend_ret hd4 a n false) (fun _ _ h => h)
    | some v =>
      (repeat (refine jo ?_))
      refine M.share_j (fun vals w' => vals = [vw v] ∧ w4 = w') ?_ ?_
      · rintro vals w' ⟨rfl, rfl⟩ _
        simp only [List.getD_cons_zero, List.getD_cons_succ]
        exact M.pass_i k04 (const_ret hd4 n v) (fun _ _ h => h)
      · intro K hK
        (repeat (refine jp ?_))
        exact hK _ _ ⟨rfl, rfl⟩
end
end Go.Proofs.YtanjlgafjgoaaaaGreat
namespace Go.Proofs.YtanjlgafjgoaaaaGreat
open Go.Mw
set_option linter.unusedVariables false
set_option linter.unusedSimpArgs false
set_option maxRecDepth 100000
attribute [local irreducible] M.val M.unit M.next M.pick M.new M.nilCheck M.load1 M.loadA M.store M.fieldAddr M.indexSl M.indexArr M.slice M.makeSlice M.buildSlice M.len M.lenS M.cap M.append M.extract M.conv M.not M.neg M.bin M.shift M.eqB M.eqNil M.scat M.call M.callv M.gd M.share M.cond M.loop M.draw pureW readW Ret
def sh81 (x0 x1 : Value) (R : Kt) (w : World) : Prop :=
  M.call Tryz.prog 112 #[x0, x1] (fun t7 w =>
  M.bin .geq t7 (Value.int IntKind.i64 0) (fun t8 w =>
  R t8 w) w) w
theorem ok81 (x0 x1 : Value) (R : Kt) (w : World) (h : sh81 x0 x1 R w) : Ret Tryz.prog 81 #[x0, x1] w R :=
  ret_mk <| calls_of_comp mixed (c := Tryz.f81.body.getD .skip) (args := [x0, x1]) (rs := [(ResultVar.tmp 4)]) (Ann.seq Ann.text (Ann.seq Ann.text Ann.leaf))
    Tryz.func81 (by kernel_rfl) (by kernel_rfl)
    (Eq.mp (by kernel_rfl) h)
def sh112 (x0 x1 : Value) (R : Kt) (w : World) : Prop :=
  M.call Tryz.prog 121 #[x0, x1] (fun t7 w =>
  R t7 w) w
theorem ok112 (x0 x1 : Value) (R : Kt) (w : World) (h : sh112 x0 x1 R w) : Ret Tryz.prog 112 #[x0, x1] w R :=
  ret_mk <| calls_of_comp mixed (c := Tryz.f112.body.getD .skip) (args := [x0, x1]) (rs := [(ResultVar.tmp 4)]) (Ann.seq Ann.text (Ann.seq Ann.text Ann.leaf))
    Tryz.func112 (by kernel_rfl) (by kernel_rfl)
    (Eq.mp (by kernel_rfl) h)
def sh121 (x0 x1 : Value) (R : Kt) (w : World) : Prop :=
  M.lenS x1 (fun t15 w =>
  M.bin .eql t15 (Value.int IntKind.i64 0) (fun t18 w =>
  M.gd t18 false (fun k w => k x1 w) (fun t20 w =>
  M.gd t18 false (fun k w => k x0 w) (fun t21 w =>
  M.gd t18 false (fun k w => M.val Tryz.prog (do eqGuard .eql 9 (Operand.tmp 20) (Operand.tmp 21) t20 t21; binOp .eql 9 t20 t21) k w) (fun t22 w =>
  M.pick t18 (Value.bool true) t22 (fun t23 w =>
  M.cond t23
  (R (Value.int IntKind.i64 0) w)
  (M.bin .eql t15 (Value.int IntKind.i64 1) (fun t26 w =>
  M.cond t26
  (pureW Tryz.prog (Instr.index 9 x1 (Value.int IntKind.i64 0)) (fun t29 w =>
  M.call Tryz.prog 124 #[x0, t29] (fun t30 w =>
  R t30 w) w) w)
  (M.lenS x0 (fun t34 w =>
  M.bin .geq t15 t34 (fun t35 w =>
  M.cond t35
  (R (Value.int IntKind.i64 (-1)) w)
  (M.load1 (.pointer (some ⟨0, 0, none⟩)) (fun t38 w =>
  M.bin .leq t15 t38 (fun t39 w =>
  M.gd t39 true (fun k w => k x0 w) (fun t41 w =>
  M.gd t39 true (fun k w => M.lenS t41 k w) (fun t42 w =>
  M.gd t39 true (fun k w => M.bin .leq t42 (Value.int IntKind.i64 64) k w) (fun t43 w =>
  M.pick t39 t43 (Value.bool false) (fun t44 w =>
  M.cond t44
  (M.next Tryz.prog (callFunc 125 #[x0, x1]) (fun t47 w =>
  R t47 w) w)
  (pureW Tryz.prog (Instr.index 9 x1 (Value.int IntKind.i64 0)) (fun t49 w =>
  pureW Tryz.prog (Instr.index 9 x1 (Value.int IntKind.i64 1)) (fun t51 w =>
  M.lenS x0 (fun t53 w =>
  M.bin .sub t53 t15 (fun t55 w =>
  M.bin .add t55 (Value.int IntKind.i64 1) (fun t56 w =>
  M.loop [(Value.int IntKind.i64 0), (Value.int IntKind.i64 0)] (fun s1 K1 w => ∀ _ : List Value,
  M.bin .lss (s1.getD 0 undef) t56 (fun t59 w =>
  M.cond t59
  (M.share (fun K2 w =>
  pureW Tryz.prog (Instr.index 9 x0 (s1.getD 0 undef)) (fun t62 w =>
  M.bin .neq t62 t49 (fun t64 w =>
  M.cond t64
  (M.bin .add (s1.getD 0 undef) (Value.int IntKind.i64 1) (fun t67 w =>
  M.val Tryz.prog (Instr.sliceAt 9 x0 (some t67) (some t56) none) (fun t69 w =>
  M.call Tryz.prog 124 #[t69, t49] (fun t71 w =>
  M.bin .lss t71 (Value.int IntKind.i64 0) (fun t73 w =>
  M.cond t73
  (R (Value.int IntKind.i64 (-1)) w)
  (M.bin .add t71 (Value.int IntKind.i64 1) (fun t76 w =>
  M.bin .add (s1.getD 0 undef) t76 (fun t77 w =>
  K2 [t77] w) w) w)) w) w) w) w)
  (K2 [(s1.getD 0 undef)] w)) w) w) (fun s2 w => ∀ _ : List Value,
  M.bin .add (s2.getD 0 undef) (Value.int IntKind.i64 1) (fun t80 w =>
  pureW Tryz.prog (Instr.index 9 x0 t80) (fun t81 w =>
  M.bin .eql t81 t51 (fun t83 w =>
  M.gd t83 true (fun k w => k x0 w) (fun t85 w =>
  M.gd t83 true (fun k w => k (s2.getD 0 undef) w) (fun t86 w =>
  M.gd t83 true (fun k w => k (s2.getD 0 undef) w) (fun t87 w =>
  M.gd t83 true (fun k w => k t15 w) (fun t88 w =>
  M.gd t83 true (fun k w => M.bin .add t87 t88 k w) (fun t89 w =>
  M.gd t83 true (fun k w => M.val Tryz.prog (Instr.sliceAt 9 t85 (some t86) (some t89) none) k w) (fun t90 w =>
  M.gd t83 true (fun k w => k x1 w) (fun t91 w =>
  M.gd t83 true (fun k w => M.val Tryz.prog (do eqGuard .eql 9 (Operand.tmp 90) (Operand.tmp 91) t90 t91; binOp .eql 9 t90 t91) k w) (fun t92 w =>
  M.pick t83 t92 (Value.bool false) (fun t93 w =>
  M.cond t93
  (R (s2.getD 0 undef) w)
  (M.bin .add (s2.getD 0 undef) (Value.int IntKind.i64 1) (fun t96 w =>
  M.bin .add (s1.getD 1 undef) (Value.int IntKind.i64 1) (fun t98 w =>
  M.load1 (.pointer (some ⟨0, 0, none⟩)) (fun t100 w =>
  M.bin .leq t15 t100 (fun t101 w =>
  M.gd t101 true (fun k w => k t98 w) (fun t103 w =>
  M.gd t101 true (fun k w => k t96 w) (fun t104 w =>
  M.gd t101 true (fun k w => M.call Tryz.prog 126 #[t104] k w) (fun t105 w =>
  M.gd t101 true (fun k w => M.bin .gtr t103 t105 k w) (fun t106 w =>
  M.pick t101 t106 (Value.bool false) (fun t107 w =>
  M.cond t107
  (M.val Tryz.prog (Instr.sliceAt 9 x0 (some t96) none none) (fun t110 w =>
  M.next Tryz.prog (callFunc 125 #[t110, x1]) (fun t112 w =>
  M.bin .geq t112 (Value.int IntKind.i64 0) (fun t114 w =>
  M.cond t114
  (M.bin .add t112 t96 (fun t117 w =>
  R t117 w) w)
  (R (Value.int IntKind.i64 (-1)) w)) w) w) w)
  (M.load1 (.pointer (some ⟨0, 0, none⟩)) (fun t119 w =>
  M.bin .gtr t15 t119 (fun t120 w =>
  M.gd t120 true (fun k w => k t98 w) (fun t122 w =>
  M.gd t120 true (fun k w => k t96 w) (fun t123 w =>
  M.gd t120 true (fun k w => M.shift .shr t123 (Value.int IntKind.u64 4) k w) (fun t124 w =>
  M.gd t120 true (fun k w => M.bin .add (Value.int IntKind.i64 4) t124 k w) (fun t125 w =>
  M.gd t120 true (fun k w => M.bin .geq t122 t125 k w) (fun t126 w =>
  M.pick t120 t126 (Value.bool false) (fun t127 w =>
  M.gd t127 true (fun k w => k t96 w) (fun t129 w =>
  M.gd t127 true (fun k w => k t56 w) (fun t130 w =>
  M.gd t127 true (fun k w => M.bin .lss t129 t130 k w) (fun t131 w =>
  M.pick t127 t131 (Value.bool false) (fun t132 w =>
  M.cond t132
  (M.val Tryz.prog (Instr.sliceAt 9 x0 (some t96) none none) (fun t135 w =>
  M.call Tryz.prog 127 #[t135, x1] (fun t137 w =>
  M.bin .lss t137 (Value.int IntKind.i64 0) (fun t139 w =>
  M.cond t139
  (R (Value.int IntKind.i64 (-1)) w)
  (M.bin .add t96 t137 (fun t142 w =>
  R t142 w) w)) w) w) w)
  (K1 [t96, t98] w)) w) w) w) w) w) w) w) w) w) w) w) w)) w) w) w) w) w) w) w) w) w)) w) w) w) w) w) w) w) w) w) w) w) w) w)
  (R (Value.int IntKind.i64 (-1)) w)) w) w) w) w) w) w) w)) w) w) w) w) w) w)) w) w)) w)) w) w) w) w) w) w
theorem ok121 (x0 x1 : Value) (R : Kt) (w : World) (h : sh121 x0 x1 R w) : Ret Tryz.prog 121 #[x0, x1] w R :=
  ret_mk <| calls_of_comp mixed (c := Tryz.f121.body.getD .skip) (args := [x0, x1]) (rs := [(ResultVar.tmp 4)]) (Ann.seq Ann.text (Ann.seq Ann.text (Ann.seq (Ann.block (Ann.seq Ann.text (Ann.cond (Ann.seq Ann.text Ann.leaf) (Ann.seq Ann.text (Ann.cond (Ann.seq Ann.text Ann.leaf) (Ann.seq Ann.text (Ann.cond (Ann.seq Ann.text Ann.leaf) (Ann.seq Ann.text (Ann.cond (Ann.seq Ann.text Ann.leaf) Ann.leaf))))))))) (Ann.seq Ann.text (Ann.seq Ann.text (Ann.seq Ann.text (Ann.seq Ann.text (Ann.seq Ann.text (Ann.seq (Ann.block (Ann.loop [8, 10] [4, 11, 12, 13, 57, 58, 59, 60, 61, 62, 63, 64, 65, 66, 67, 68, 69, 70, 71, 72, 73, 74, 75, 76, 77, 78, 79, 80, 81, 82, 83, 84, 85, 86, 87, 88, 89, 90, 91, 92, 93, 94, 95, 96, 97, 98, 99, 100, 101, 102, 103, 104, 105, 106, 107, 108, 109, 110, 111, 112, 113, 114, 115, 116, 117, 118, 119, 120, 121, 122, 123, 124, 125, 126, 127, 128, 129, 130, 131, 132, 133, 134, 135, 136, 137, 138, 139, 140, 141, 142] (Ann.seq (Ann.seq Ann.text (Ann.cond Ann.leaf Ann.leaf)) (Ann.block (Ann.join [8] [4, 11, 60, 61, 62, 63, 64, 65, 66, 67, 68, 69, 70, 71, 72, 73, 74, 75, 76, 77] (Ann.seq Ann.text (Ann.cond (Ann.seq Ann.text (Ann.seq (Ann.seq Ann.text (Ann.cond (Ann.seq Ann.text Ann.leaf) Ann.leaf)) Ann.text)) Ann.leaf)) (Ann.seq (Ann.seq Ann.text (Ann.cond (Ann.seq Ann.text Ann.leaf) Ann.leaf)) (Ann.seq Ann.text (Ann.seq Ann.text (Ann.seq Ann.text (Ann.cond (Ann.seq Ann.text (Ann.seq (Ann.seq Ann.text (Ann.cond (Ann.seq Ann.text Ann.leaf) Ann.leaf)) (Ann.seq Ann.text Ann.leaf))) (Ann.seq Ann.text (Ann.cond (Ann.seq Ann.text (Ann.seq (Ann.seq Ann.text (Ann.cond (Ann.seq Ann.text Ann.leaf) Ann.leaf)) (Ann.seq Ann.text Ann.leaf))) Ann.leaf)))))))))))) (Ann.seq Ann.text Ann.leaf))))))))))
    Tryz.func121 (by kernel_rfl) (by kernel_rfl)
    (Eq.mp (by kernel_rfl) h)
def sh124 (x0 x1 : Value) (R : Kt) (w : World) : Prop :=
  M.next Tryz.prog (callFunc 128 #[x0, x1]) (fun t7 w =>
  R t7 w) w
theorem ok124 (x0 x1 : Value) (R : Kt) (w : World) (h : sh124 x0 x1 R w) : Ret Tryz.prog 124 #[x0, x1] w R :=
  ret_mk <| calls_of_comp mixed (c := Tryz.f124.body.getD .skip) (args := [x0, x1]) (rs := [(ResultVar.tmp 4)]) (Ann.seq Ann.text (Ann.seq Ann.text Ann.leaf))
    Tryz.func124 (by kernel_rfl) (by kernel_rfl)
    (Eq.mp (by kernel_rfl) h)
abbrev Tx := List UInt8
abbrev xs8 (l : Tx) : Value := .string ⟨l.toArray⟩
theorem M.seq8_i {k : Kt} {w : World} {x y : Operand} {a b : Tx} (h : k (.bool (decide (a = b))) w) :
    M.val Tryz.prog (do eqGuard .eql 9 x y (xs8 a) (xs8 b); binOp .eql 9 (xs8 a) (xs8 b)) k w := by
  refine M.val_i ?_ h
  have e1 : (do eqGuard .eql 9 x y (xs8 a) (xs8 b); binOp .eql 9 (xs8 a) (xs8 b) : Sem Value).run Tryz.prog w = (binOp .eql 9 (xs8 a) (xs8 b)).run Tryz.prog w := rfl
  rw [e1, binOp_string_eql, ByteArray.toList_mk, ByteArray.toList_mk]
  have : (a == b) = decide (a = b) := by
    by_cases e : a = b
    · subst e; simp
    · rw [decide_eq_false e]; simpa using e
  rw [this]; rfl
theorem M.lenS8_i {k : Kt} {w : World} {a : Tx} (h : k (vi a.length) w) : M.lenS (xs8 a) k w := by
  unfold M.lenS
  simpa [ByteArray.size] using h
theorem M.idxG_i {k : Kt} {w : World} {t e : TypeId} {n sz : Nat} {d : IntKind} {i : Int} {l : List Value} (hu : Tryz.prog.underlying t = some (.array n e)) (hs : ∀ w, (sizeOf e).run Tryz.prog w = .ok sz w) (ha : ∀ w, (isAgg e).run Tryz.prog w = .ok true w) (h0 : 0 ≤ i) (h1 : i < n) (hk : k (.agg ⟨(l.drop (i.toNat * sz)).take sz⟩) w) :
    pureW Tryz.prog (Instr.index t (.agg ⟨l⟩) (.int d i)) k w := by
  have h2 : 0 ≤ i ∧ i < (n : Int) := ⟨h0, h1⟩
  refine M.pure_i _ (fun w' => ?_) hk
  simp [Instr.index, run_underlying hu, asIntOf, h2, hs, ha, go_sem]
theorem strHas_ret (s : Tx) (c : UInt8) (w : World) : Ret Tryz.prog 81 #[xs8 s, xs8 [c]] w (fun r w' => (r = .bool (decide (0 ≤ firstIdx ⟨s.toArray⟩ c)) ∨ (s = [c] ∧ r = .bool true)) ∧ w' = w) := by
  refine ok81 _ _ _ _ ?_
  unfold sh81
  refine M.call_i (Q := fun r w' => (r = vi (firstIdx ⟨s.toArray⟩ c) ∨ (s = [c] ∧ r = vi 0)) ∧ w' = w) ?_ ?_
  · refine ok112 _ _ _ _ ?_
    unfold sh112
    refine M.call_i (Q := fun r w' => (r = vi (firstIdx ⟨s.toArray⟩ c) ∨ (s = [c] ∧ r = vi 0)) ∧ w' = w) ?_ (fun v w' h => h)
    refine ok121 _ _ _ _ ?_
    unfold sh121
    refine M.lenS8_i ?_
    have e1 : (([c] : Tx).length : Int) = 1 := rfl
    rw [e1]
    (repeat (first|refine jg ?_|refine jH ?_))
    refine M.seq8_i ?_
    by_cases hsc : [c] = s
    · rw [decide_eq_true hsc]
      (repeat (first|refine jl ?_|refine jo ?_))
      exact ⟨.inr ⟨hsc.symm, rfl⟩, rfl⟩
    · rw [decide_eq_false hsc]
      (repeat (first|refine jl ?_|refine jo ?_|refine jp ?_|refine jG ?_))
      refine M.pure_i (.int .u8 c.toNat) (fun w' => ?_) ?_
      · rw [run_index_string _ _ _ _ _ (by kernel_rfl), dif_pos ⟨by decide, by show (0 : Int) < ((1 : Nat) : Int); decide⟩]; rfl
      refine M.call_i (Q := fun r w' => r = vi (firstIdx ⟨s.toArray⟩ c) ∧ w' = w) ?_ (fun v w' h => ⟨.inl h.1, h.2⟩)
      refine ok124 _ _ _ _ ?_
      unfold sh124
      have hx : (callFunc 128 #[xs8 s, .int .u8 c.toNat]).run Tryz.prog w = .ok (.value (vi (firstIdx ⟨s.toArray⟩ c))) w := by
        rw [run_callFunc_extern (e := Extern.BytealgIndexByte.indexByte) Tryz.func128 (by kernel_rfl) (by kernel_rfl) (by kernel_rfl) (by kernel_rfl), run_indexByte_string]
        simp [Result.andThen]
      unfold M.next execW
      rw [hx]
      exact ⟨rfl, rfl⟩
  · rintro v w' ⟨h | ⟨h1, rfl⟩, rfl⟩
    · subst h
      refine M.bin_i (v := .bool (decide (0 ≤ firstIdx ⟨s.toArray⟩ c))) ?_ ⟨.inl rfl, rfl⟩
      simp only [ibin]
      try rfl
    · (repeat (refine jE ?_))
      exact ⟨.inr ⟨h1, rfl⟩, rfl⟩
end Go.Proofs.YtanjlgafjgoaaaaGreat
