import Derived.Test.YtfffepeloiefiaaSem16c
namespace Go.Proofs.Ytfffepeloiefiaa
open Go.Mw Go.Maps Go.MapKept
set_option linter.unusedVariables false
set_option linter.unusedSimpArgs false
set_option maxRecDepth 100000
attribute [local irreducible] M.val M.unit M.next M.pick M.new M.nilCheck M.load1 M.loadA M.store M.fieldAddr M.indexSl M.indexArr M.slice M.makeSlice M.buildSlice M.len M.lenS M.cap M.append M.extract M.conv M.not M.neg M.bin M.shift M.eqB M.eqNil M.call M.callv M.gd M.share M.cond M.loop M.draw pureW readW Ret
def valW (N : List Nd) (env : List W64) (id : Int) : W64 := if isN N id then wordAt N env id else 0
theorem of_F {F De : Nat → Prop} {p pe pd : Nat} {N : List Nd} {most : Int} {ev : Value} {env : List W64} (hG : GoodN N) (hel : env.length ≤ 1000000) :
    OfF (.func (.func 75) #[] #[ptr pe, ptr pd]) N (fun w => DagO w F p N most ∧ Blk w pe [ev] ∧ Blk w pd [ptr p] ∧ LV vw w De ev env) (wordAt N env) := by
  rintro i n w I kt gv hn ⟨hd, be, bd, he⟩ hI hIk hg hkt
  refine M.callv_i (fun a w => rfl) (Q := fun x w' => x = vw (wordAt N env i) ∧ Keep w w' No) ?_ ?_
  · show Ret Try.prog 75 #[encN n, gv, ptr pe, ptr pd] w _
    refine (val1_ret (hG i n hn) hg hI hIk hd (fun k hk => ?_) be bd he hel).mono ?_
    · have := kids_lt hG hn hk
      have hl := (List.getElem?_eq_some_iff.1 hn).1
      exact hG.wd (isN_iff.2 ⟨by omega, by omega⟩)
    · rintro x w' ⟨rfl, k⟩
      exact ⟨by rw [wordAt_one hG hn], k⟩
  · rintro x w1 ⟨rfl, k1⟩
    exact hkt w1 (hIk _ _ hI k1) k1
theorem value_ret {w : World} {F De : Nat → Prop} {p : Nat} {N : List Nd} {most : Int} {ev : Value} {env : List W64} (hd : DagO w F p N most) (he : LV vw w De ev env) (hel : env.length ≤ 1000000) (it : Int) :
    Ret Try.prog 67 #[ptr p, vi it, ev] w (fun r w' => r = .tuple #[vw (valW N env it), vi (if isN N it then 0 else 11)] ∧ Keep w w' No) := by
  obtain ⟨E, ce, rfl, _, _⟩ := id he
  refine ok67 _ _ _ _ _ ?_
  unfold sh67
  refine M.new_i (l := [ptr p]) (fun w1 b1 k1 s1 => ?_)
  refine M.new_i (l := [.slice E env.length ce]) (fun w2 b2 k2 s2 => ?_)
  have b1 := b1.keep k2 (fun h => h)
  have k12 := k1.trans k2 (fun _ _ h => h)
  (repeat (first|refine ja ?_|refine jb ?_|refine jc ?_|refine jd ?_|refine je ?_|refine jf ?_|refine jg ?_|refine jh ?_|refine ji ?_|refine jj ?_|refine jk ?_|refine jl ?_|refine jm ?_|refine jn ?_|refine jo ?_|refine jp ?_|refine jq ?_|refine jr ?_|refine js ?_|refine jt ?_|refine ju ?_|refine jv ?_|refine jw ?_|refine jx ?_|refine jy ?_|refine jz ?_|refine jA ?_|refine jB ?_|refine jC ?_|refine jD ?_|refine jE ?_|refine jF ?_|refine jG ?_|refine jH ?_|refine jI ?_|refine jJ ?_|refine jK ?_|refine jL ?_|refine jM (by assumption) ?_|refine jN (by assumption) rfl ?_|refine jO (by assumption) ?_|refine jP (by assumption) rfl ?_|refine jQ ?_|refine jR ?_|refine jS ?_|refine jT ?_|refine jU (by assumption) rfl ?_))
  refine M.call_i ((hd.keepN k12).node it) ?_; rintro _ w3 ⟨rfl, k3⟩
  refine M.extract_i rfl ?_
  refine M.extract_i rfl ?_
  refine M.new_i (l := zeroNd.cells) (fun w4 b4 k4 s4 => ?_)
  refine M.storeAll_i b4 rfl rfl (cells_one _) (fun w5 b5 k5 s5 => ?_)
  have q12 := k12.size; have q3 := k3.size
  have k35 : Keep w2 w5 No := (k3.trans k4 (fun _ _ h => h)).trans k5 (fun b hb h => by omega)
  have b1 := b1.keep k35 (fun h => h)
  have b2 := b2.keep k35 (fun h => h)
  have k05 := k12.trans k35 (fun _ _ h => h)
  refine M.not_i ?_
  unfold valW
  cases hi : isN N it with
  | false =>
    (repeat (first|refine ja ?_|refine jb ?_|refine jc ?_|refine jd ?_|refine je ?_|refine jf ?_|refine jg ?_|refine jh ?_|refine ji ?_|refine jj ?_|refine jk ?_|refine jl ?_|refine jm ?_|refine jn ?_|refine jo ?_|refine jp ?_|refine jq ?_|refine jr ?_|refine js ?_|refine jt ?_|refine ju ?_|refine jv ?_|refine jw ?_|refine jx ?_|refine jy ?_|refine jz ?_|refine jA ?_|refine jB ?_|refine jC ?_|refine jD ?_|refine jE ?_|refine jF ?_|refine jG ?_|refine jH ?_|refine jI ?_|refine jJ ?_|refine jK ?_|refine jL ?_|refine jM (by assumption) ?_|refine jN (by assumption) rfl ?_|refine jO (by assumption) ?_|refine jP (by assumption) rfl ?_|refine jQ ?_|refine jR ?_|refine jS ?_|refine jT ?_|refine jU (by assumption) rfl ?_))
    exact ⟨rfl, k05⟩
  | true =>
    (repeat (first|refine ja ?_|refine jb ?_|refine jc ?_|refine jd ?_|refine je ?_|refine jf ?_|refine jg ?_|refine jh ?_|refine ji ?_|refine jj ?_|refine jk ?_|refine jl ?_|refine jm ?_|refine jn ?_|refine jo ?_|refine jp ?_|refine jq ?_|refine jr ?_|refine js ?_|refine jt ?_|refine ju ?_|refine jv ?_|refine jw ?_|refine jx ?_|refine jy ?_|refine jz ?_|refine jA ?_|refine jB ?_|refine jC ?_|refine jD ?_|refine jE ?_|refine jF ?_|refine jG ?_|refine jH ?_|refine jI ?_|refine jJ ?_|refine jK ?_|refine jL ?_|refine jM (by assumption) ?_|refine jN (by assumption) rfl ?_|refine jO (by assumption) ?_|refine jP (by assumption) rfl ?_|refine jQ ?_|refine jR ?_|refine jS ?_|refine jT ?_|refine jU (by assumption) rfl ?_))
    refine M.makeMap_i (fun w6 m6 k6 s6 => ?_)
    have b1 := b1.keep k6 (fun h => h)
    have b2 := b2.keep k6 (fun h => h)
    have k06 := k05.trans k6 (fun _ _ h => h)
    (repeat (first|refine ja ?_|refine jb ?_|refine jc ?_|refine jd ?_|refine je ?_|refine jf ?_|refine jg ?_|refine jh ?_|refine ji ?_|refine jj ?_|refine jk ?_|refine jl ?_|refine jm ?_|refine jn ?_|refine jo ?_|refine jp ?_|refine jq ?_|refine jr ?_|refine js ?_|refine jt ?_|refine ju ?_|refine jv ?_|refine jw ?_|refine jx ?_|refine jy ?_|refine jz ?_|refine jA ?_|refine jB ?_|refine jC ?_|refine jD ?_|refine jE ?_|refine jF ?_|refine jG ?_|refine jH ?_|refine jI ?_|refine jJ ?_|refine jK ?_|refine jL ?_|refine jM (by assumption) ?_|refine jN (by assumption) rfl ?_|refine jO (by assumption) ?_|refine jP (by assumption) rfl ?_|refine jQ ?_|refine jR ?_|refine jS ?_|refine jT ?_|refine jU (by assumption) rfl ?_))
    have hd6 := hd.keepN k06
    have he6 := (he.mono (D' := fun b => De b ∧ b < w.heap.size) (fun b hb h => ⟨h, hb⟩)).keep k06 (fun _ _ _ h => h)
    have q5 := k05.size
    have hF : ¬ F w5.heap.size := fun h => by have := hd.lt h; omega
    refine M.call_i (once_ret (r := w5.heap.size) (f := wordAt N env) (J := fun w' => DagO w' F p N most ∧ Blk w' w1.heap.size [.slice E env.length ce] ∧ Blk w' w.heap.size [ptr p] ∧ LV vw w' (fun b => De b ∧ b < w.heap.size) (.slice E env.length ce) env) hd6 hi m6 hF ⟨hd6, b2, b1, he6⟩ (fun w' k => ⟨hd6.keep k (fun b hb h => hF (h ▸ hb)), b2.keep k (fun h => by omega), b1.keep k (fun h => by omega), he6.keep k (fun b _ h1 h2 => by omega)⟩) (of_F hd.good hel)) ?_
    rintro _ w7 ⟨rfl, k7⟩
    exact ⟨rfl, k06.trans k7 (fun b hb h => by omega)⟩
end Go.Proofs.Ytfffepeloiefiaa
