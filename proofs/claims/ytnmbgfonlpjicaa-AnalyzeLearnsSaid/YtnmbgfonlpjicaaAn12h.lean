import Derived.Test.YtnmbgfonlpjicaaAn12s
namespace Go.Proofs.Ytnmbgfonlpjicaa
open Go.Mw Go.Shelf
set_option linter.unusedVariables false
set_option linter.unusedSimpArgs false
set_option maxRecDepth 100000
attribute [local irreducible] M.val M.unit M.next M.pick M.new M.nilCheck M.load1 M.loadA M.store M.fieldAddr M.indexSl M.indexArr M.slice M.makeSlice M.buildSlice M.len M.lenS M.cap M.append M.extract M.conv M.not M.neg M.bin M.shift M.eqB M.eqNil M.call M.callv M.gd M.share M.cond M.loop M.draw pureW readW Ret
section
variable {p : Nat} {w : World} {lv : Value} {t : Tr} {lab : Nat → Nat}
set_option maxHeartbeats 4000000 in
theorem learn_ret (hT : TRep w p lab t) (hf : t.Fine) (hv : t.vars ≤ 64) {l : List (List Int)} {D : Nat → Prop} (hl : LL w D lv l) (hlc : ∀ c ∈ l, c.length ≤ 1000) (hll : l.length ≤ 1000000) (conflict : Int)
    (hO : ∀ m x, lastL t l (t.L.map (·.lit)).reverse (meetL t (-1) (l.getD conflict.toNat []) ⟨[], [], 0⟩).1 = (m, some x) → I64 x) :
    Ret Try.prog 7 #[ptr p, lv, vi conflict] w (LearnR w (learnL t l conflict)) := by
  have hl := hl.mono (D' := (· < w.heap.size)) (fun b hb _ => hb)
  have hlab : ∀ x, lab x ≠ 0 → x < w.heap.size := fun x hx => tr_lt hT hx
  obtain ⟨Al, cl, us, rfl, hll0, _⟩ := id hl
  have fl := hf.len
  have hbl : t.begins.length ≤ 65 := by
    obtain ⟨_, _, _, ok⟩ := hf
    have := ok.lbeg
    have := ok.llen
    omega
  refine ok7 _ _ _ _ _ ?_
  unfold sh7
  refine M.new_i (l := [ptr p]) (fun w1 b3 k1 s1 => ?_)
  (repeat (first|refine ja ?_|refine jb ?_|refine jc ?_|refine jd ?_|refine je ?_|refine jf ?_|refine jg ?_|refine jh ?_|refine ji ?_|refine jj ?_|refine jk ?_|refine jl ?_|refine jm ?_|refine jn ?_|refine jo ?_|refine jp ?_|refine jq ?_|refine jr ?_|refine js ?_|refine jt ?_|refine ju ?_|refine jv ?_|refine jw ?_|refine jx ?_|refine jy ?_|refine jz ?_|refine jA ?_|refine jB ?_|refine jC ?_|refine jD ?_|refine jE ?_|refine jF ?_|refine jG ?_|refine jH ?_|refine jI ?_|refine jJ ?_|refine jK ?_|refine jL ?_|refine jM (by assumption) ?_|refine jN (by assumption) rfl ?_|refine jO (by assumption) ?_|refine jP (by assumption) rfl ?_|refine jQ ?_|refine jR ?_|refine jS ?_|refine jT ?_|refine jU (by assumption) rfl ?_))
  refine M.call_i (levels_ret (hT.keep k1 (fun _ _ _ h => h))) ?_; rintro _ w2 ⟨rfl, k2⟩
  have k02 := k1.trans k2 (fun _ _ h => h)
  have b3 := b3.keep k2 (fun h => h)
  have none_of : ∀ w', learnL t l conflict = none → Keep w w' No → LearnR w (learnL t l conflict) (.tuple #[.slice none 0 0, vi 0, .slice none 0 0, .bool false]) w' := fun w' e k => by
    rw [e]; exact ⟨rfl, k⟩
  by_cases h0 : t.begins.length = 0
  · (repeat (first|refine ja ?_|refine jb ?_|refine jc ?_|refine jd ?_|refine je ?_|refine jf ?_|refine jg ?_|refine jh ?_|refine ji ?_|refine jj ?_|refine jk ?_|refine jl ?_|refine jm ?_|refine jn ?_|refine jo ?_|refine jp ?_|refine jq ?_|refine jr ?_|refine js ?_|refine jt ?_|refine ju ?_|refine jv ?_|refine jw ?_|refine jx ?_|refine jy ?_|refine jz ?_|refine jA ?_|refine jB ?_|refine jC ?_|refine jD ?_|refine jE ?_|refine jF ?_|refine jG ?_|refine jH ?_|refine jI ?_|refine jJ ?_|refine jK ?_|refine jL ?_|refine jM (by assumption) ?_|refine jN (by assumption) rfl ?_|refine jO (by assumption) ?_|refine jP (by assumption) rfl ?_|refine jQ ?_|refine jR ?_|refine jS ?_|refine jT ?_|refine jU (by assumption) rfl ?_))
    exact none_of _ (by unfold learnL; rw [if_pos (.inl h0)]) k02
  by_cases h1 : conflict < 0
  · (repeat (first|refine ja ?_|refine jb ?_|refine jc ?_|refine jd ?_|refine je ?_|refine jf ?_|refine jg ?_|refine jh ?_|refine ji ?_|refine jj ?_|refine jk ?_|refine jl ?_|refine jm ?_|refine jn ?_|refine jo ?_|refine jp ?_|refine jq ?_|refine jr ?_|refine js ?_|refine jt ?_|refine ju ?_|refine jv ?_|refine jw ?_|refine jx ?_|refine jy ?_|refine jz ?_|refine jA ?_|refine jB ?_|refine jC ?_|refine jD ?_|refine jE ?_|refine jF ?_|refine jG ?_|refine jH ?_|refine jI ?_|refine jJ ?_|refine jK ?_|refine jL ?_|refine jM (by assumption) ?_|refine jN (by assumption) rfl ?_|refine jO (by assumption) ?_|refine jP (by assumption) rfl ?_|refine jQ ?_|refine jR ?_|refine jS ?_|refine jT ?_|refine jU (by assumption) rfl ?_))
    exact none_of _ (by unfold learnL; rw [if_pos (.inr (.inl h1))]) k02
  by_cases h2 : (l.length : Int) ≤ conflict
  · (repeat (first|refine ja ?_|refine jb ?_|refine jc ?_|refine jd ?_|refine je ?_|refine jf ?_|refine jg ?_|refine jh ?_|refine ji ?_|refine jj ?_|refine jk ?_|refine jl ?_|refine jm ?_|refine jn ?_|refine jo ?_|refine jp ?_|refine jq ?_|refine jr ?_|refine js ?_|refine jt ?_|refine ju ?_|refine jv ?_|refine jw ?_|refine jx ?_|refine jy ?_|refine jz ?_|refine jA ?_|refine jB ?_|refine jC ?_|refine jD ?_|refine jE ?_|refine jF ?_|refine jG ?_|refine jH ?_|refine jI ?_|refine jJ ?_|refine jK ?_|refine jL ?_|refine jM (by assumption) ?_|refine jN (by assumption) rfl ?_|refine jO (by assumption) ?_|refine jP (by assumption) rfl ?_|refine jQ ?_|refine jR ?_|refine jS ?_|refine jT ?_|refine jU (by assumption) rfl ?_))
    exact none_of _ (by unfold learnL; rw [if_pos (.inr (.inr h2))]) k02
  have hcond : ¬ (t.begins.length = 0 ∨ conflict < 0 ∨ (l.length : Int) ≤ conflict) := by omega
  obtain ⟨c, hc⟩ : ∃ c, l[conflict.toNat]? = some c := ⟨_, List.getElem?_eq_getElem (by omega)⟩
  have hgd : l.getD conflict.toNat [] = c := by rw [List.getD_eq_getElem?_getD, hc]; rfl
  rw [hgd] at hO
  have hlearn : learnL t l conflict = if (meetL t (-1) c ⟨[], [], 0⟩).2 = false ∨ (meetL t (-1) c ⟨[], [], 0⟩).1.left = 0 then none else
      match lastL t l (t.L.map (·.lit)).reverse (meetL t (-1) c ⟨[], [], 0⟩).1 with
      | (_, none) => none
      | (m, some x) => some (notOf x :: sortO t m.others, (match sortO t m.others with | [] => 0 | y :: _ => t.lev (varOf y)), m.met.mergeSort (fun a b => decide (a ≤ b))) := by
    unfold learnL
    rw [if_neg hcond, hgd]
    rfl
  (repeat (first|refine ja ?_|refine jb ?_|refine jc ?_|refine jd ?_|refine je ?_|refine jf ?_|refine jg ?_|refine jh ?_|refine ji ?_|refine jj ?_|refine jk ?_|refine jl ?_|refine jm ?_|refine jn ?_|refine jo ?_|refine jp ?_|refine jq ?_|refine jr ?_|refine js ?_|refine jt ?_|refine ju ?_|refine jv ?_|refine jw ?_|refine jx ?_|refine jy ?_|refine jz ?_|refine jA ?_|refine jB ?_|refine jC ?_|refine jD ?_|refine jE ?_|refine jF ?_|refine jG ?_|refine jH ?_|refine jI ?_|refine jJ ?_|refine jK ?_|refine jL ?_|refine jM (by assumption) ?_|refine jN (by assumption) rfl ?_|refine jO (by assumption) ?_|refine jP (by assumption) rfl ?_|refine jQ ?_|refine jR ?_|refine jS ?_|refine jT ?_|refine jU (by assumption) rfl ?_))
  refine M.makeMap_i (fun w3 m3 k3 s3 => ?_)
  have k03 := k02.trans k3 (fun _ _ h => h)
  have b3 := b3.keep k3 (fun h => h)
  refine M.pure_i (.agg ⟨List.replicate 64 (Value.bool false) ++ [.map (some w2.heap.size)]⟩) (fun _ => by kernel_rfl) ?_
  refine M.pure_i (.agg ⟨[ptr p, .slice Al l.length cl] ++ (List.replicate 64 (Value.bool false) ++ [.map (some w2.heap.size), .slice none 0 0, .slice none 0 0, vi 0])⟩) (fun _ => by kernel_rfl) ?_
  refine M.new_i (l := [ptr p, .slice Al l.length cl] ++ (List.replicate 64 (Value.bool false) ++ [.map (some w2.heap.size), .slice none 0 0, .slice none 0 0, vi 0])) (fun w4 b4 k4 s4 => ?_)
  have k04 := k03.trans k4 (fun _ _ h => h)
  have b3 := b3.keep k4 (fun h => h)
  have q3 := k03.size
  have q31 : w1.heap.size ≤ w3.heap.size := by have := k2.size; have := k3.size; omega
  have hlab1 : ∀ x, lab x ≠ 0 → x < w1.heap.size := fun x hx => by have := hlab x hx; omega
  have hl1 := hl.mono (D' := (· < w1.heap.size)) (fun b hb e => by have e : b < w.heap.size := e; show b < w1.heap.size; omega)
  have R4 : LRn w1.heap.size w4 w3.heap.size _ p (.slice Al l.length cl) (.map (some w2.heap.size)) (.slice none 0 0) (.slice none 0 0) ⟨[], [], 0⟩ :=
    ⟨b4, lc_new _ _ _, GC.nil _ _ _, GC.nil _ _ _, fun y h => (no_blk h).elim, fun y h => (no_blk h).elim, q31⟩
  clear b4
  refine M.idxLL_i ((hll0.mono (D' := (· < w1.heap.size)) (fun b hb e => by have e : b < w.heap.size := e; show b < w1.heap.size; omega)).keep k04 (fun _ _ _ h => h)) rfl (by omega) hc (fun bb oo u hcc g => ?_)
  (repeat (first|refine ja ?_|refine jb ?_|refine jc ?_|refine jd ?_|refine je ?_|refine jf ?_|refine jg ?_|refine jh ?_|refine ji ?_|refine jj ?_|refine jk ?_|refine jl ?_|refine jm ?_|refine jn ?_|refine jo ?_|refine jp ?_|refine jq ?_|refine jr ?_|refine js ?_|refine jt ?_|refine ju ?_|refine jv ?_|refine jw ?_|refine jx ?_|refine jy ?_|refine jz ?_|refine jA ?_|refine jB ?_|refine jC ?_|refine jD ?_|refine jE ?_|refine jF ?_|refine jG ?_|refine jH ?_|refine jI ?_|refine jJ ?_|refine jK ?_|refine jL ?_|refine jM (by assumption) ?_|refine jN (by assumption) rfl ?_|refine jO (by assumption) ?_|refine jP (by assumption) rfl ?_|refine jQ ?_|refine jR ?_|refine jS ?_|refine jT ?_|refine jU (by assumption) rfl ?_))
  refine M.call_i (meet12_ret (hT.keep k04 (fun _ _ _ h => h)) hlab1 hf hv R4 (LSok.ne (m := ⟨[], [], 0⟩)) g (hlc c (List.mem_of_getElem? hc)) (-1)) ?_; rintro _ w5 ⟨rfl, cs5, vs5, os5, R5, M5⟩
  have hm5 := (LSok.ne (m := ⟨[], [], 0⟩)).meetL hf hv (but := -1) (c := c)
  generalize hmm : meetL t (-1) c ⟨[], [], 0⟩ = mm at *
  obtain ⟨m5, ok5⟩ := mm
  simp only at R5 hm5 hO hlearn
  have k45 : Keep w4 w5 (w1.heap.size ≤ ·) := M5.keep R4
  have k05 : Keep w w5 No := k04.trans k45 (fun y hy e => by have e : w1.heap.size ≤ y := e; omega)
  have b3 := b3.keep k45 (fun e => by have e : w1.heap.size ≤ w.heap.size := e; omega)
  have hT5 := hT.keep k05 (fun _ _ _ h => h)
  refine M.not_i ?_
  cases ok5 with
  | false =>
    (repeat (first|refine ja ?_|refine jb ?_|refine jc ?_|refine jd ?_|refine je ?_|refine jf ?_|refine jg ?_|refine jh ?_|refine ji ?_|refine jj ?_|refine jk ?_|refine jl ?_|refine jm ?_|refine jn ?_|refine jo ?_|refine jp ?_|refine jq ?_|refine jr ?_|refine js ?_|refine jt ?_|refine ju ?_|refine jv ?_|refine jw ?_|refine jx ?_|refine jy ?_|refine jz ?_|refine jA ?_|refine jB ?_|refine jC ?_|refine jD ?_|refine jE ?_|refine jF ?_|refine jG ?_|refine jH ?_|refine jI ?_|refine jJ ?_|refine jK ?_|refine jL ?_|refine jM (by assumption) ?_|refine jN (by assumption) rfl ?_|refine jO (by assumption) ?_|refine jP (by assumption) rfl ?_|refine jQ ?_|refine jR ?_|refine jS ?_|refine jT ?_|refine jU (by assumption) rfl ?_))
    exact none_of _ (by rw [hlearn, if_pos (.inl rfl)]) k05
  | true =>
    have c69 : w5.cell? ⟨w3.heap.size, 69, none⟩ = some (vi m5.left) := R5.blk.cell R5.lc.c69
    (repeat (first|refine ja ?_|refine jb ?_|refine jc ?_|refine jd ?_|refine je ?_|refine jf ?_|refine jg ?_|refine jh ?_|refine ji ?_|refine jj ?_|refine jk ?_|refine jl ?_|refine jm ?_|refine jn ?_|refine jo ?_|refine jp ?_|refine jq ?_|refine jr ?_|refine js ?_|refine jt ?_|refine ju ?_|refine jv ?_|refine jw ?_|refine jx ?_|refine jy ?_|refine jz ?_|refine jA ?_|refine jB ?_|refine jC ?_|refine jD ?_|refine jE ?_|refine jF ?_|refine jG ?_|refine jH ?_|refine jI ?_|refine jJ ?_|refine jK ?_|refine jL ?_|refine jM (by assumption) ?_|refine jN (by assumption) rfl ?_|refine jO (by assumption) ?_|refine jP (by assumption) rfl ?_|refine jQ ?_|refine jR ?_|refine jS ?_|refine jT ?_|refine jU (by assumption) rfl ?_))
    by_cases hz : m5.left = 0
    · (repeat (first|refine ja ?_|refine jb ?_|refine jc ?_|refine jd ?_|refine je ?_|refine jf ?_|refine jg ?_|refine jh ?_|refine ji ?_|refine jj ?_|refine jk ?_|refine jl ?_|refine jm ?_|refine jn ?_|refine jo ?_|refine jp ?_|refine jq ?_|refine jr ?_|refine js ?_|refine jt ?_|refine ju ?_|refine jv ?_|refine jw ?_|refine jx ?_|refine jy ?_|refine jz ?_|refine jA ?_|refine jB ?_|refine jC ?_|refine jD ?_|refine jE ?_|refine jF ?_|refine jG ?_|refine jH ?_|refine jI ?_|refine jJ ?_|refine jK ?_|refine jL ?_|refine jM (by assumption) ?_|refine jN (by assumption) rfl ?_|refine jO (by assumption) ?_|refine jP (by assumption) rfl ?_|refine jQ ?_|refine jR ?_|refine jS ?_|refine jT ?_|refine jU (by assumption) rfl ?_))
      exact none_of _ (by rw [hlearn, if_pos (.inr hz)]) k05
    have hml := hm5.left
    (repeat (first|refine ja ?_|refine jb ?_|refine jc ?_|refine jd ?_|refine je ?_|refine jf ?_|refine jg ?_|refine jh ?_|refine ji ?_|refine jj ?_|refine jk ?_|refine jl ?_|refine jm ?_|refine jn ?_|refine jo ?_|refine jp ?_|refine jq ?_|refine jr ?_|refine js ?_|refine jt ?_|refine ju ?_|refine jv ?_|refine jw ?_|refine jx ?_|refine jy ?_|refine jz ?_|refine jA ?_|refine jB ?_|refine jC ?_|refine jD ?_|refine jE ?_|refine jF ?_|refine jG ?_|refine jH ?_|refine jI ?_|refine jJ ?_|refine jK ?_|refine jL ?_|refine jM (by assumption) ?_|refine jN (by assumption) rfl ?_|refine jO (by assumption) ?_|refine jP (by assumption) rfl ?_|refine jQ ?_|refine jR ?_|refine jS ?_|refine jT ?_|refine jU (by assumption) rfl ?_))
    refine M.call_i (last12_ret hT5 hlab1 hf hv R5 hm5 (by omega) (hl1.keep k05 (fun _ _ _ h => h)) hlc) ?_; rintro _ w6 ⟨cs6, vs6, os6, R6, M6, rfl⟩
    have k56 : Keep w5 w6 (w1.heap.size ≤ ·) := M6.keep R5
    have k06 : Keep w w6 No := k05.trans k56 (fun y hy e => by have e : w1.heap.size ≤ y := e; omega)
    have b3 := b3.keep k56 (fun e => by have e : w1.heap.size ≤ w.heap.size := e; omega)
    rw [if_neg (by simp [hz])] at hlearn
    generalize hLL : lastL t l (t.L.map (·.lit)).reverse m5 = LR at *
    obtain ⟨m6, res⟩ := LR
    simp only at R6
    have hm6 := LSok.lastL hf hv l (t.L.map (·.lit)).reverse m5 hm5 (by omega)
    rw [hLL] at hm6
    have hm6 : LSok m6 := hm6
    refine M.extract_i rfl ?_
    refine M.extract_i rfl ?_
    cases res with
    | none =>
      refine M.not_i ?_
      simp only [Option.isSome_none, Bool.not_false]
      (repeat (first|refine ja ?_|refine jb ?_|refine jc ?_|refine jd ?_|refine je ?_|refine jf ?_|refine jg ?_|refine jh ?_|refine ji ?_|refine jj ?_|refine jk ?_|refine jl ?_|refine jm ?_|refine jn ?_|refine jo ?_|refine jp ?_|refine jq ?_|refine jr ?_|refine js ?_|refine jt ?_|refine ju ?_|refine jv ?_|refine jw ?_|refine jx ?_|refine jy ?_|refine jz ?_|refine jA ?_|refine jB ?_|refine jC ?_|refine jD ?_|refine jE ?_|refine jF ?_|refine jG ?_|refine jH ?_|refine jI ?_|refine jJ ?_|refine jK ?_|refine jL ?_|refine jM (by assumption) ?_|refine jN (by assumption) rfl ?_|refine jO (by assumption) ?_|refine jP (by assumption) rfl ?_|refine jQ ?_|refine jR ?_|refine jS ?_|refine jT ?_|refine jU (by assumption) rfl ?_))
      exact none_of _ hlearn k06
    | some x =>
      have hx64 := hO m6 x rfl
      refine M.not_i ?_
      simp only [Option.isSome_some, Bool.not_true]
      have hlearn : learnL t l conflict = some (notOf x :: sortO t m6.others, (match sortO t m6.others with | [] => 0 | y :: _ => t.lev (varOf y)), m6.met.mergeSort (fun a b => decide (a ≤ b))) := by
        rw [hlearn]
      have hml6 : m6.met.length ≤ 64 := hm6.len
      have hol6 : m6.others.length ≤ 64 := Nat.le_trans hm6.oth hml6
      have hsl : (sortO t m6.others).length = m6.others.length := List.length_mergeSort _
      (repeat (first|refine ja ?_|refine jb ?_|refine jc ?_|refine jd ?_|refine je ?_|refine jf ?_|refine jg ?_|refine jh ?_|refine ji ?_|refine jj ?_|refine jk ?_|refine jl ?_|refine jm ?_|refine jn ?_|refine jo ?_|refine jp ?_|refine jq ?_|refine jr ?_|refine js ?_|refine jt ?_|refine ju ?_|refine jv ?_|refine jw ?_|refine jx ?_|refine jy ?_|refine jz ?_|refine jA ?_|refine jB ?_|refine jC ?_|refine jD ?_|refine jE ?_|refine jF ?_|refine jG ?_|refine jH ?_|refine jI ?_|refine jJ ?_|refine jK ?_|refine jL ?_|refine jM (by assumption) ?_|refine jN (by assumption) rfl ?_|refine jO (by assumption) ?_|refine jP (by assumption) rfl ?_|refine jQ ?_|refine jR ?_|refine jS ?_|refine jT ?_|refine jU (by assumption) rfl ?_))
      refine M.new_i (l := [.nilFunc]) (fun w7 b7 k7 s7 => ?_)
      have b3 := b3.keep k7 (fun h => h)
      refine M.store_i b7 (by simp) rfl (fun w8 b8 k8 s8 => ?_)
      have b8 : Blk w8 w6.heap.size [.func (.func 20) #[] #[ptr w.heap.size]] := b8
      have R7 := R6.keep k7
      have q6 := R6.blk.lt
      have q06 := k06.size
      have b3 := b3.keep k8 (by have := b3.lt; have := k05.size; omega)
      have R8 := R7.keepS k8 (fun y e e2 => by
        have e2 : y = w6.heap.size := e2
        rcases e with e | e | e
        · omega
        · have := (GC.blkOf R6.gv e).2; omega
        · have := (GC.blkOf R6.go e).2; omega)
      have c68 : w8.cell? ⟨w3.heap.size, 68, none⟩ = some os6 := R8.blk.cell R8.lc.c68
      have k08 : Keep w w8 No := (k06.trans k7 (fun _ _ h => h)).trans k8 (fun y hy e => by have e : y = w6.heap.size := e; omega)
      have hT8 := hT.keep k08 (fun _ _ _ h => h)
      (repeat (first|refine ja ?_|refine jb ?_|refine jc ?_|refine jd ?_|refine je ?_|refine jf ?_|refine jg ?_|refine jh ?_|refine ji ?_|refine jj ?_|refine jk ?_|refine jl ?_|refine jm ?_|refine jn ?_|refine jo ?_|refine jp ?_|refine jq ?_|refine jr ?_|refine js ?_|refine jt ?_|refine ju ?_|refine jv ?_|refine jw ?_|refine jx ?_|refine jy ?_|refine jz ?_|refine jA ?_|refine jB ?_|refine jC ?_|refine jD ?_|refine jE ?_|refine jF ?_|refine jG ?_|refine jH ?_|refine jI ?_|refine jJ ?_|refine jK ?_|refine jL ?_|refine jM (by assumption) ?_|refine jN (by assumption) rfl ?_|refine jO (by assumption) ?_|refine jP (by assumption) rfl ?_|refine jQ ?_|refine jR ?_|refine jS ?_|refine jT ?_|refine jU (by assumption) rfl ?_))
      have hLo : ∀ y, blkOf os6 y → lab y = 0 ∧ y ≠ w.heap.size ∧ y ≠ w6.heap.size := fun y hy => by
        have h1 := (R6.dd y hy).1
        have h2 := (GC.blkOf R6.go hy).2
        refine ⟨Classical.byContradiction fun h => ?_, by omega, by omega⟩
        have := hlab1 y h
        omega
      refine M.call_i (sortO_ret hT8 b3 b8 R8.go (by omega) hLo) ?_; rintro _ w9 ⟨rfl, g9, k9⟩
      have hno : ∀ y, ¬ (y = w3.heap.size ∧ blkOf os6 y) := fun y e => (R6.dd y e.2).2 e.1
      have bL9 := R8.blk.keep k9 (fun e => (R8.dd _ e).2 rfl)
      have gv9 := R8.gv.keep k9 (fun y _ e e2 => (R8.dv y e).2.2 e2)
      have hT9 := hT8.keep k9 (fun y _ hy e => hy (hLo y e).1)
      have b39 := b3.keep k9 (fun e => (hLo _ e).2.1 rfl)
      have b89 := b8.keep k9 (fun e => (hLo _ e).2.2 rfl)
      have k09 : Keep w w9 No := k08.trans k9 (fun y hy e => by have := (R8.dd y e).1; omega)
      have c68 : w9.cell? ⟨w3.heap.size, 68, none⟩ = some os6 := bL9.cell R8.lc.c68
      obtain ⟨Ao, co, eo, hro, hco⟩ := GC.row2 g9 (by omega)
      subst eo
      refine M.share_j (fun vals w' => vals = [vi (match sortO t m6.others with | [] => 0 | y :: _ => t.lev (varOf y))] ∧ Keep w9 w' No) ?_ ?_
      · rintro vals w' ⟨rfl, kw⟩ _
        simp only [List.getD_cons_zero, List.getD_cons_succ]
        have bLw := bL9.keep kw (fun h => h)
        have gvw := gv9.keep kw (fun _ _ _ h => h)
        have gow := g9.keep kw (fun _ _ _ h => h)
        have k0w : Keep w w' No := k09.trans kw (fun _ _ h => h)
        have c67 : w'.cell? ⟨w3.heap.size, 67, none⟩ = some vs6 := bLw.cell R8.lc.c67
        (repeat (first|refine ja ?_|refine jb ?_|refine jc ?_|refine jd ?_|refine je ?_|refine jf ?_|refine jg ?_|refine jh ?_|refine ji ?_|refine jj ?_|refine jk ?_|refine jl ?_|refine jm ?_|refine jn ?_|refine jo ?_|refine jp ?_|refine jq ?_|refine jr ?_|refine js ?_|refine jt ?_|refine ju ?_|refine jv ?_|refine jw ?_|refine jx ?_|refine jy ?_|refine jz ?_|refine jA ?_|refine jB ?_|refine jC ?_|refine jD ?_|refine jE ?_|refine jF ?_|refine jG ?_|refine jH ?_|refine jI ?_|refine jJ ?_|refine jK ?_|refine jL ?_|refine jM (by assumption) ?_|refine jN (by assumption) rfl ?_|refine jO (by assumption) ?_|refine jP (by assumption) rfl ?_|refine jQ ?_|refine jR ?_|refine jS ?_|refine jT ?_|refine jU (by assumption) rfl ?_))
        refine M.call_i (sort_ret gvw (by omega)) ?_; rintro _ w10 ⟨rfl, g10, k10⟩
        have k10' := k10.to_drew
        have b10 := bLw.keep k10' (fun e => (R8.dv _ e).2.1 rfl)
        have go10 := gow.keep k10' (fun y _ e e2 => (R8.dv y e2).2.2 e)
        have c67 : w10.drew.cell? ⟨w3.heap.size, 67, none⟩ = some vs6 := b10.cell R8.lc.c67
        have c68 : w10.drew.cell? ⟨w3.heap.size, 68, none⟩ = some (.slice Ao (sortO t m6.others).length co) := b10.cell R8.lc.c68
        have k0d : Keep w w10.drew No := k0w.trans k10' (fun y hy e => by have := (R8.dv y e).1; omega)
        have gd : GI w10.drew (blkOf vs6) vs6 (m6.met.mergeSort leI) := g10
        (repeat (first|refine ja ?_|refine jb ?_|refine jc ?_|refine jd ?_|refine je ?_|refine jf ?_|refine jg ?_|refine jh ?_|refine ji ?_|refine jj ?_|refine jk ?_|refine jl ?_|refine jm ?_|refine jn ?_|refine jo ?_|refine jp ?_|refine jq ?_|refine jr ?_|refine js ?_|refine jt ?_|refine ju ?_|refine jv ?_|refine jw ?_|refine jx ?_|refine jy ?_|refine jz ?_|refine jA ?_|refine jB ?_|refine jC ?_|refine jD ?_|refine jE ?_|refine jF ?_|refine jG ?_|refine jH ?_|refine jI ?_|refine jJ ?_|refine jK ?_|refine jL ?_|refine jM (by assumption) ?_|refine jN (by assumption) rfl ?_|refine jO (by assumption) ?_|refine jP (by assumption) rfl ?_|refine jQ ?_|refine jR ?_|refine jS ?_|refine jT ?_|refine jU (by assumption) rfl ?_))
        refine M.call_i (not_ret hx64 w10.drew) ?_; rintro _ w11 ⟨rfl, k11⟩
        have b11 := b10.keep k11 (fun h => h)
        have g11 := gd.keep k11 (fun _ _ _ h => h)
        have go11 := go10.keep k11 (fun _ _ _ h => h)
        have c67 : w11.cell? ⟨w3.heap.size, 67, none⟩ = some vs6 := b11.cell R8.lc.c67
        have c68 : w11.cell? ⟨w3.heap.size, 68, none⟩ = some (.slice Ao (sortO t m6.others).length co) := b11.cell R8.lc.c68
        (repeat (first|refine ja ?_|refine jb ?_|refine jc ?_|refine jd ?_|refine je ?_|refine jf ?_|refine jg ?_|refine jh ?_|refine ji ?_|refine jj ?_|refine jk ?_|refine jl ?_|refine jm ?_|refine jn ?_|refine jo ?_|refine jp ?_|refine jq ?_|refine jr ?_|refine js ?_|refine jt ?_|refine ju ?_|refine jv ?_|refine jw ?_|refine jx ?_|refine jy ?_|refine jz ?_|refine jA ?_|refine jB ?_|refine jC ?_|refine jD ?_|refine jE ?_|refine jF ?_|refine jG ?_|refine jH ?_|refine jI ?_|refine jJ ?_|refine jK ?_|refine jL ?_|refine jM (by assumption) ?_|refine jN (by assumption) rfl ?_|refine jO (by assumption) ?_|refine jP (by assumption) rfl ?_|refine jQ ?_|refine jR ?_|refine jS ?_|refine jT ?_|refine jU (by assumption) rfl ?_))
        refine M.buildSlice_i [vi (notOf x)] (by kernel_rfl) (fun w12 b12 k12 s12 => ?_)
        have b13 := b11.keep k12 (fun h => h)
        have g12 := g11.keep k12 (fun _ _ _ h => h)
        have go12 := go11.keep k12 (fun _ _ _ h => h)
        have c67 : w12.cell? ⟨w3.heap.size, 67, none⟩ = some vs6 := b13.cell R8.lc.c67
        have c68 : w12.cell? ⟨w3.heap.size, 68, none⟩ = some (.slice Ao (sortO t m6.others).length co) := b13.cell R8.lc.c68
        (repeat (first|refine ja ?_|refine jb ?_|refine jc ?_|refine jd ?_|refine je ?_|refine jf ?_|refine jg ?_|refine jh ?_|refine ji ?_|refine jj ?_|refine jk ?_|refine jl ?_|refine jm ?_|refine jn ?_|refine jo ?_|refine jp ?_|refine jq ?_|refine jr ?_|refine js ?_|refine jt ?_|refine ju ?_|refine jv ?_|refine jw ?_|refine jx ?_|refine jy ?_|refine jz ?_|refine jA ?_|refine jB ?_|refine jC ?_|refine jD ?_|refine jE ?_|refine jF ?_|refine jG ?_|refine jH ?_|refine jI ?_|refine jJ ?_|refine jK ?_|refine jL ?_|refine jM (by assumption) ?_|refine jN (by assumption) rfl ?_|refine jO (by assumption) ?_|refine jP (by assumption) rfl ?_|refine jQ ?_|refine jR ?_|refine jS ?_|refine jT ?_|refine jU (by assumption) rfl ?_))
        have gb : GC w12 (· = w11.heap.size) 1 (.slice (some ⟨w11.heap.size, 0, none⟩) 1 1) 1 [vi (notOf x)] := GC.of_blk b12 rfl rfl
        obtain ⟨A2, c2, e2, hr2, _⟩ := GC.row2 go12 (by omega)
        simp only [Value.slice.injEq] at e2
        obtain ⟨rfl, _, rfl⟩ := e2
        refine M.append_i gb hr2 (by simp) (fun y hy => by obtain ⟨_, _, rfl⟩ := List.mem_map.1 hy; rfl) rfl (by omega) (by omega) (fun v13 w13 g13 k13 => ?_)
        have q11 := k11.size
        have q08 := k0d.size
        have b14 := b13.keep k13 (fun e => by have := b11.lt; omega)
        have g14 := g12.keep k13 (fun y hy e e2 => by
          have e2 : y = w11.heap.size := e2
          have := (GC.blkOf g11 e).2
          omega)
        have c67 : w13.cell? ⟨w3.heap.size, 67, none⟩ = some vs6 := b14.cell R8.lc.c67
        (repeat (first|refine ja ?_|refine jb ?_|refine jc ?_|refine jd ?_|refine je ?_|refine jf ?_|refine jg ?_|refine jh ?_|refine ji ?_|refine jj ?_|refine jk ?_|refine jl ?_|refine jm ?_|refine jn ?_|refine jo ?_|refine jp ?_|refine jq ?_|refine jr ?_|refine js ?_|refine jt ?_|refine ju ?_|refine jv ?_|refine jw ?_|refine jx ?_|refine jy ?_|refine jz ?_|refine jA ?_|refine jB ?_|refine jC ?_|refine jD ?_|refine jE ?_|refine jF ?_|refine jG ?_|refine jH ?_|refine jI ?_|refine jJ ?_|refine jK ?_|refine jL ?_|refine jM (by assumption) ?_|refine jN (by assumption) rfl ?_|refine jO (by assumption) ?_|refine jP (by assumption) rfl ?_|refine jQ ?_|refine jR ?_|refine jS ?_|refine jT ?_|refine jU (by assumption) rfl ?_))
        refine ⟨?_, ((k0d.trans k11 (fun _ _ h => h)).trans k12 (fun _ _ h => h)).trans k13 (fun y hy e => by have e : y = w11.heap.size := e; omega)⟩
        rw [hlearn]
        refine ⟨v13, vs6, rfl, ?_, ?_⟩
        · have g13' : GC w13 (w.heap.size ≤ ·) 1 v13 (notOf x :: sortO t m6.others).length ((notOf x :: sortO t m6.others).map vi) := by
            have := g13.mono (L' := (w.heap.size ≤ ·)) (fun y hy e => by
              rcases e with e | e
              · have e : y = w11.heap.size := e; omega
              · omega)
            rw [List.length_cons, Nat.add_comm]
            simpa using this
          exact g13'
        · exact g14.mono (fun y hy e => by have := (R8.dv y e).1; omega)
      · intro K hK
        have hlenS : (sortO t m6.others).length ≤ 64 := by omega
        (repeat (first|refine ja ?_|refine jb ?_|refine jc ?_|refine jd ?_|refine je ?_|refine jf ?_|refine jg ?_|refine jh ?_|refine ji ?_|refine jj ?_|refine jk ?_|refine jl ?_|refine jm ?_|refine jn ?_|refine jo ?_|refine jp ?_|refine jq ?_|refine jr ?_|refine js ?_|refine jt ?_|refine ju ?_|refine jv ?_|refine jw ?_|refine jx ?_|refine jy ?_|refine jz ?_|refine jA ?_|refine jB ?_|refine jC ?_|refine jD ?_|refine jE ?_|refine jF ?_|refine jG ?_|refine jH ?_|refine jI ?_|refine jJ ?_|refine jK ?_|refine jL ?_|refine jM (by assumption) ?_|refine jN (by assumption) rfl ?_|refine jO (by assumption) ?_|refine jP (by assumption) rfl ?_|refine jQ ?_|refine jR ?_|refine jS ?_|refine jT ?_|refine jU (by assumption) rfl ?_))
        cases hs : sortO t m6.others with
        | nil =>
          rw [hs] at hK
          simp only [List.length_nil]
          (repeat (first|refine ja ?_|refine jb ?_|refine jc ?_|refine jd ?_|refine je ?_|refine jf ?_|refine jg ?_|refine jh ?_|refine ji ?_|refine jj ?_|refine jk ?_|refine jl ?_|refine jm ?_|refine jn ?_|refine jo ?_|refine jp ?_|refine jq ?_|refine jr ?_|refine js ?_|refine jt ?_|refine ju ?_|refine jv ?_|refine jw ?_|refine jx ?_|refine jy ?_|refine jz ?_|refine jA ?_|refine jB ?_|refine jC ?_|refine jD ?_|refine jE ?_|refine jF ?_|refine jG ?_|refine jH ?_|refine jI ?_|refine jJ ?_|refine jK ?_|refine jL ?_|refine jM (by assumption) ?_|refine jN (by assumption) rfl ?_|refine jO (by assumption) ?_|refine jP (by assumption) rfl ?_|refine jQ ?_|refine jR ?_|refine jS ?_|refine jT ?_|refine jU (by assumption) rfl ?_|refine jG ?_ (by decide)|refine jH ?_ (by decide)|refine jI ?_ (by decide)|refine jJ ?_ (by decide)|refine jC ?_ (by decide)|refine jy ?_ (by decide)))
          exact hK _ _ ⟨rfl, Keep.refl _ _⟩
        | cons y0 ys =>
          rw [hs] at hK hro
          have kd := Keep.drew w9 No
          have b89d := b89.keep kd (fun h => h)
          have b39d := b39.keep kd (fun h => h)
          have bL9d := bL9.keep kd (fun h => h)
          have hrod := hro.keep kd (fun _ _ _ h => h)
          have hTd := hT9.keep kd (fun _ _ _ h => h)
          have c68d : w9.drew.cell? ⟨w3.heap.size, 68, none⟩ = some (.slice Ao (sortO t m6.others).length co) := bL9d.cell R8.lc.c68
          rw [hs] at c68d
          simp only [List.length_cons] at c68d ⊢
          (repeat (first|refine ja ?_|refine jb ?_|refine jc ?_|refine jd ?_|refine je ?_|refine jf ?_|refine jg ?_|refine jh ?_|refine ji ?_|refine jj ?_|refine jk ?_|refine jl ?_|refine jm ?_|refine jn ?_|refine jo ?_|refine jp ?_|refine jq ?_|refine jr ?_|refine js ?_|refine jt ?_|refine ju ?_|refine jv ?_|refine jw ?_|refine jx ?_|refine jy ?_|refine jz ?_|refine jA ?_|refine jB ?_|refine jC ?_|refine jD ?_|refine jE ?_|refine jF ?_|refine jG ?_|refine jH ?_|refine jI ?_|refine jJ ?_|refine jK ?_|refine jL ?_|refine jM (by assumption) ?_|refine jN (by assumption) rfl ?_|refine jO (by assumption) ?_|refine jP (by assumption) rfl ?_|refine jQ ?_|refine jR ?_|refine jS ?_|refine jT ?_|refine jU (by assumption) rfl ?_))
          refine M.idxLV_i (xs := y0 :: ys) hrod (by simp) (by decide) (by omega) (x := y0) rfl (fun bb oo hA hcc => ?_)
          (repeat (first|refine ja ?_|refine jb ?_|refine jc ?_|refine jd ?_|refine je ?_|refine jf ?_|refine jg ?_|refine jh ?_|refine ji ?_|refine jj ?_|refine jk ?_|refine jl ?_|refine jm ?_|refine jn ?_|refine jo ?_|refine jp ?_|refine jq ?_|refine jr ?_|refine js ?_|refine jt ?_|refine ju ?_|refine jv ?_|refine jw ?_|refine jx ?_|refine jy ?_|refine jz ?_|refine jA ?_|refine jB ?_|refine jC ?_|refine jD ?_|refine jE ?_|refine jF ?_|refine jG ?_|refine jH ?_|refine jI ?_|refine jJ ?_|refine jK ?_|refine jL ?_|refine jM (by assumption) ?_|refine jN (by assumption) rfl ?_|refine jO (by assumption) ?_|refine jP (by assumption) rfl ?_|refine jQ ?_|refine jR ?_|refine jS ?_|refine jT ?_|refine jU (by assumption) rfl ?_))
          refine M.callv_i enter20 (lvl_d hTd b39d y0) ?_
          rintro _ w10 ⟨rfl, k10⟩
          have bL10 := bL9d.keep k10.1 (fun h => h)
          have c68e : w10.cell? ⟨w3.heap.size, 68, none⟩ = some (.slice Ao (sortO t m6.others).length co) := bL10.cell R8.lc.c68
          rw [hs] at c68e
          simp only [List.length_cons] at c68e
          (repeat (first|refine ja ?_|refine jb ?_|refine jc ?_|refine jd ?_|refine je ?_|refine jf ?_|refine jg ?_|refine jh ?_|refine ji ?_|refine jj ?_|refine jk ?_|refine jl ?_|refine jm ?_|refine jn ?_|refine jo ?_|refine jp ?_|refine jq ?_|refine jr ?_|refine js ?_|refine jt ?_|refine ju ?_|refine jv ?_|refine jw ?_|refine jx ?_|refine jy ?_|refine jz ?_|refine jA ?_|refine jB ?_|refine jC ?_|refine jD ?_|refine jE ?_|refine jF ?_|refine jG ?_|refine jH ?_|refine jI ?_|refine jJ ?_|refine jK ?_|refine jL ?_|refine jM (by assumption) ?_|refine jN (by assumption) rfl ?_|refine jO (by assumption) ?_|refine jP (by assumption) rfl ?_|refine jQ ?_|refine jR ?_|refine jS ?_|refine jT ?_|refine jU (by assumption) rfl ?_))
          exact hK _ _ ⟨rfl, kd.trans k10.1 (fun _ _ h => h)⟩
end
end Go.Proofs.Ytnmbgfonlpjicaa
