import Derived.Test.YtanjlgafjgoaaaaRef03
namespace Go.Proofs.Ytanjlgafjgoaaaa
open Go.Mw
set_option linter.unusedVariables false
set_option linter.unusedSimpArgs false
set_option maxRecDepth 100000
attribute [local irreducible] M.val M.unit M.next M.pick M.new M.nilCheck M.load1 M.loadA M.store M.fieldAddr M.indexSl M.indexArr M.slice M.makeSlice M.buildSlice M.len M.lenS M.cap M.append M.extract M.conv M.not M.neg M.bin M.shift M.eqB M.eqNil M.scat M.call M.callv M.gd M.share M.cond M.loop M.draw pureW readW Ret
/-! slices.IndexFunc[[]int,int]: function 41 -/
def sh41 (x0 x1 : Value) (R : Kt) (w : World) : Prop :=
  M.len x0 (fun t7 w =>
  M.loop [(Value.int IntKind.i64 0)] (fun s1 K1 w => ∀ _ : List Value,
  M.bin .lss (s1.getD 0 undef) t7 (fun t9 w =>
  M.cond t9
  (M.indexSl 1 x0 (s1.getD 0 undef) (fun t14 w =>
  M.load1 t14 (fun t15 w =>
  M.callv Try.prog x1 #[t15] (fun t16 w =>
  M.cond t16
  (R (s1.getD 0 undef) w)
  (M.bin .add (s1.getD 0 undef) (Value.int IntKind.i64 1) (fun t18 w =>
  K1 [t18] w) w)) w) w) w)
  (R (Value.int IntKind.i64 (-1)) w)) w) w) w
theorem ok41 (x0 x1 : Value) (R : Kt) (w : World) (h : sh41 x0 x1 R w) : Ret Try.prog 41 #[x0, x1] w R :=
  ret_mk <| calls_of_comp mixed (c := Try.f41.body.getD .skip) (args := [x0, x1]) (rs := [(ResultVar.tmp 4)]) (Ann.seq Ann.text (Ann.seq (Ann.seq Ann.text (Ann.block (Ann.loop [8] [4, 5, 9, 10, 11, 12, 13, 14, 15, 16, 17, 18] (Ann.seq Ann.text (Ann.seq (Ann.cond Ann.leaf Ann.leaf) (Ann.seq (Ann.block (Ann.seq Ann.text (Ann.seq Ann.text (Ann.cond (Ann.seq Ann.text Ann.leaf) Ann.leaf)))) Ann.text)))))) (Ann.seq Ann.text Ann.leaf)))
    Try.func41 (by kernel_rfl) (by kernel_rfl)
    (Eq.mp (by kernel_rfl) h)
/-! slices.ContainsFunc[[]int,int]: function 21 -/
def sh21 (x0 x1 : Value) (R : Kt) (w : World) : Prop :=
  M.call Try.prog 41 #[x0, x1] (fun t7 w =>
  M.bin .geq t7 (Value.int IntKind.i64 0) (fun t8 w =>
  R t8 w) w) w
theorem ok21 (x0 x1 : Value) (R : Kt) (w : World) (h : sh21 x0 x1 R w) : Ret Try.prog 21 #[x0, x1] w R :=
  ret_mk <| calls_of_comp mixed (c := Try.f21.body.getD .skip) (args := [x0, x1]) (rs := [(ResultVar.tmp 4)]) (Ann.seq Ann.text (Ann.seq Ann.text Ann.leaf))
    Try.func21 (by kernel_rfl) (by kernel_rfl)
    (Eq.mp (by kernel_rfl) h)

/-- 'g' answers p of any number, wherever I holds. -/
def PredF (g : Value) (I : World → Prop) (p : Int → Bool) : Prop := ∀ (x : Int) (w : World) (k : Kt), I w → (∀ w', I w' → Keep w w' No → k (.bool (p x)) w') → M.callv Try.prog g #[vi x] k w
def idxI (p : Int → Bool) (xs : List Int) : Int := match xs.findIdx? p with
  | some i => i
  | none => -1
theorem idxI_lt (p : Int → Bool) (xs : List Int) : -1 ≤ idxI p xs ∧ idxI p xs < xs.length := by
  unfold idxI
  split
  · rename_i i h
    have := (List.findIdx?_eq_some_iff_getElem.1 h).1
    omega
  · omega
theorem idxI_any (p : Int → Bool) (xs : List Int) : decide (0 ≤ idxI p xs) = xs.any p := by
  unfold idxI
  cases h : xs.findIdx? p with
  | some i =>
    obtain ⟨h1, h2, _⟩ := List.findIdx?_eq_some_iff_getElem.1 h
    have : xs.any p = true := List.any_eq_true.2 ⟨_, List.getElem_mem h1, h2⟩
    simp [this]
  | none =>
    have : xs.any p = false := by
      rw [List.any_eq_false]
      intro x hx
      simpa using List.findIdx?_eq_none_iff.1 h x hx
    simp [this]
theorem indexFunc_ret {w : World} {D : Nat → Prop} {v g : Value} {xs : List Int} {I : World → Prop} {p : Int → Bool} (h : LV vi w D v xs) (hf : Few xs.length) (hp : PredF g I p) (hi0 : I w) :
    Ret Try.prog 41 #[v, g] w (fun r w' => r = vi (idxI p xs) ∧ I w' ∧ Keep w w' No) := by
  obtain ⟨A, c, rfl, hr, hc⟩ := h
  refine ok41 _ _ _ _ ?_
  unfold sh41
  (repeat (first|refine ja ?_|refine jb ?_|refine jc ?_|refine jd ?_|refine je ?_|refine jf ?_|refine jg ?_|refine jh ?_|refine ji ?_|refine jj ?_|refine jk ?_|refine jl ?_|refine jm ?_|refine jn ?_|refine jo ?_|refine jp ?_|refine jq ?_|refine jr ?_|refine js ?_|refine jt ?_|refine ju ?_|refine jv ?_|refine jw ?_|refine jx ?_|refine jy ?_|refine jz ?_|refine jA ?_|refine jB ?_|refine jC ?_|refine jD ?_|refine jE ?_|refine jF ?_|refine jG ?_|refine jH ?_|refine jI ?_|refine jJ ?_|refine jK ?_|refine jL ?_|refine jM (by assumption) ?_|refine jN (by assumption) rfl ?_|refine jO (by assumption) ?_|refine jP (by assumption) rfl ?_|refine jQ ?_|refine jR ?_|refine jS ?_|refine jT ?_|refine jU (by assumption) rfl ?_))
  refine M.loop_i (σ := Nat) (fun i vals w' => vals = [vi i] ∧ i ≤ xs.length ∧ (∀ x ∈ xs.take i, p x = false) ∧ I w' ∧ Keep w w' No) (fun i => xs.length - i) 0 ⟨rfl, by omega, by simp, hi0, Keep.refl _ _⟩ ?_
  rintro i vals w1 K ⟨rfl, hi, hno, hI, k1⟩ hK _
  simp only [List.getD_cons_zero, List.getD_cons_succ]
  by_cases hlt : i < xs.length
  · obtain ⟨e, he⟩ : ∃ e, xs[i]? = some e := ⟨_, List.getElem?_eq_getElem hlt⟩
    have hr := hr.keep k1 (fun _ _ _ h => h)
    (repeat (first|refine ja ?_|refine jb ?_|refine jc ?_|refine jd ?_|refine je ?_|refine jf ?_|refine jg ?_|refine jh ?_|refine ji ?_|refine jj ?_|refine jk ?_|refine jl ?_|refine jm ?_|refine jn ?_|refine jo ?_|refine jp ?_|refine jq ?_|refine jr ?_|refine js ?_|refine jt ?_|refine ju ?_|refine jv ?_|refine jw ?_|refine jx ?_|refine jy ?_|refine jz ?_|refine jA ?_|refine jB ?_|refine jC ?_|refine jD ?_|refine jE ?_|refine jF ?_|refine jG ?_|refine jH ?_|refine jI ?_|refine jJ ?_|refine jK ?_|refine jL ?_|refine jM (by assumption) ?_|refine jN (by assumption) rfl ?_|refine jO (by assumption) ?_|refine jP (by assumption) rfl ?_|refine jQ ?_|refine jR ?_|refine jS ?_|refine jT ?_|refine jU (by assumption) rfl ?_))
    refine M.idxLV_i hr rfl (by omega) (by omega) (x := e) (by simpa using he) (fun b o hA hc => ?_)
    (repeat (first|refine ja ?_|refine jb ?_|refine jc ?_|refine jd ?_|refine je ?_|refine jf ?_|refine jg ?_|refine jh ?_|refine ji ?_|refine jj ?_|refine jk ?_|refine jl ?_|refine jm ?_|refine jn ?_|refine jo ?_|refine jp ?_|refine jq ?_|refine jr ?_|refine js ?_|refine jt ?_|refine ju ?_|refine jv ?_|refine jw ?_|refine jx ?_|refine jy ?_|refine jz ?_|refine jA ?_|refine jB ?_|refine jC ?_|refine jD ?_|refine jE ?_|refine jF ?_|refine jG ?_|refine jH ?_|refine jI ?_|refine jJ ?_|refine jK ?_|refine jL ?_|refine jM (by assumption) ?_|refine jN (by assumption) rfl ?_|refine jO (by assumption) ?_|refine jP (by assumption) rfl ?_|refine jQ ?_|refine jR ?_|refine jS ?_|refine jT ?_|refine jU (by assumption) rfl ?_))
    refine hp e _ _ hI (fun w2 hI k2 => ?_)
    refine M.condB_i (fun hx => ?_) (fun hx => ?_)
    · refine ⟨?_, hI, k1.trans k2 (fun _ _ h => h)⟩
      have : xs.findIdx? p = some i := by
        rw [List.findIdx?_eq_some_iff_getElem]
        obtain ⟨h1, h2⟩ := List.getElem?_eq_some_iff.1 he
        refine ⟨h1, by rw [h2]; exact hx, fun j hj => ?_⟩
        have := hno xs[j] (List.mem_take_iff_getElem.2 ⟨j, by omega, rfl⟩)
        simpa using this
      simp [idxI, this]
    · (repeat (first|refine ja ?_|refine jb ?_|refine jc ?_|refine jd ?_|refine je ?_|refine jf ?_|refine jg ?_|refine jh ?_|refine ji ?_|refine jj ?_|refine jk ?_|refine jl ?_|refine jm ?_|refine jn ?_|refine jo ?_|refine jp ?_|refine jq ?_|refine jr ?_|refine js ?_|refine jt ?_|refine ju ?_|refine jv ?_|refine jw ?_|refine jx ?_|refine jy ?_|refine jz ?_|refine jA ?_|refine jB ?_|refine jC ?_|refine jD ?_|refine jE ?_|refine jF ?_|refine jG ?_|refine jH ?_|refine jI ?_|refine jJ ?_|refine jK ?_|refine jL ?_|refine jM (by assumption) ?_|refine jN (by assumption) rfl ?_|refine jO (by assumption) ?_|refine jP (by assumption) rfl ?_|refine jQ ?_|refine jR ?_|refine jS ?_|refine jT ?_|refine jU (by assumption) rfl ?_))
      refine hK (i + 1) _ _ (by omega) ⟨by simp, by omega, fun x hx' => ?_, hI, k1.trans k2 (fun _ _ h => h)⟩
      rcases (mem_take_succ he).1 hx' with h | h
      · exact hno x h
      · exact h ▸ hx
  · (repeat (first|refine ja ?_|refine jb ?_|refine jc ?_|refine jd ?_|refine je ?_|refine jf ?_|refine jg ?_|refine jh ?_|refine ji ?_|refine jj ?_|refine jk ?_|refine jl ?_|refine jm ?_|refine jn ?_|refine jo ?_|refine jp ?_|refine jq ?_|refine jr ?_|refine js ?_|refine jt ?_|refine ju ?_|refine jv ?_|refine jw ?_|refine jx ?_|refine jy ?_|refine jz ?_|refine jA ?_|refine jB ?_|refine jC ?_|refine jD ?_|refine jE ?_|refine jF ?_|refine jG ?_|refine jH ?_|refine jI ?_|refine jJ ?_|refine jK ?_|refine jL ?_|refine jM (by assumption) ?_|refine jN (by assumption) rfl ?_|refine jO (by assumption) ?_|refine jP (by assumption) rfl ?_|refine jQ ?_|refine jR ?_|refine jS ?_|refine jT ?_|refine jU (by assumption) rfl ?_))
    have : i = xs.length := by omega
    subst this
    rw [List.take_length] at hno
    refine ⟨?_, hI, k1⟩
    have : xs.findIdx? p = none := List.findIdx?_eq_none_iff.2 hno
    simp [idxI, this]
theorem containsFunc_ret {w : World} {D : Nat → Prop} {v g : Value} {xs : List Int} {I : World → Prop} {p : Int → Bool} (h : LV vi w D v xs) (hf : Few xs.length) (hp : PredF g I p) (hi0 : I w) :
    Ret Try.prog 21 #[v, g] w (fun r w' => r = .bool (xs.any p) ∧ I w' ∧ Keep w w' No) := by
  refine ok21 _ _ _ _ ?_
  unfold sh21
  refine M.call_i (indexFunc_ret h hf hp hi0) ?_; rintro _ w1 ⟨rfl, hI, k1⟩
  refine M.geq_i ⟨?_, hI, k1⟩
  rw [idxI_any]
theorem set_take {α : Type} {l : List α} {i : Nat} (x : α) (h : i < l.length) : (l.set i x).take (i + 1) = l.take i ++ [x] := by
  rw [List.take_add_one, List.take_set, List.set_eq_of_length_le (by simp; omega)]
  simp [h]
theorem set_drop {α : Type} {l : List α} {i j : Nat} (x : α) (h : i < j) : (l.set i x).drop j = l.drop j := by
  rw [List.drop_set, if_pos h]
theorem drop_get {α : Type} {l m : List α} {i j : Nat} (h : l.drop i = m.drop i) (hij : i ≤ j) : l[j]? = m[j]? := by
  have := congrArg (fun z => z[j - i]?) h
  simp only [List.getElem?_drop] at this
  rwa [show i + (j - i) = j by omega] at this
theorem drop_more {α : Type} {l m : List α} {i j : Nat} (h : l.drop i = m.drop i) (hij : i ≤ j) : l.drop j = m.drop j := by
  apply List.ext_getElem?
  intro n
  rw [List.getElem?_drop, List.getElem?_drop]
  exact drop_get h (by omega)
/-- 's = s[:n]' behind 'clear(s[n:])'. -/
theorem tail_out {P : Program} {R : Kt} {w : World} {T ty elem : TypeId} {cs : Array Bool} {L : Nat → Prop} {A : Option Addr} {c n m : Nat} {ys zs : List Int} (hu : P.underlying T = some (.slice elem)) (hz : ∀ w, (zeroValue elem).run P w = .ok (vi 0) w)
    (hm : m = ys.length) (h : GI w L (.slice A ys.length c) ys) (hn : n ≤ ys.length) (hzs : ys.take n = zs) (hR : ∀ r w', GI w' L r zs → Keep w w' L → R r w') :
    M.slice 1 (.slice A m c) (some (vi n)) none none (fun t w => M.next P (builtin .clear #[T] ty cs #[t]) (fun _ w => M.slice 1 (.slice A m c) none (some (vi n)) none (fun r w => R r w) w) w) w := by
  subst hm
  refine M.slice_i n ys.length c (sl3_l hn) ?_
  refine M.clearTail_i hu hz h hn (fun w1 g1 k1 s1 => ?_)
  have hlen : (ys.take n ++ List.replicate (ys.length - n) 0).length = ys.length := by simp; omega
  have hcap := GI.cap_le h
  refine M.slice_i 0 n c (sl3_h (by omega)) ?_
  have g1 : GI w1 L (.slice A (ys.take n ++ List.replicate (ys.length - n) 0).length c) (ys.take n ++ List.replicate (ys.length - n) 0) := by rw [hlen]; exact g1
  have := GI.cut g1 (m := n) (by omega)
  rw [List.take_append_of_le_length (by simp; omega), List.take_take, Nat.min_self, hzs] at this
  exact hR _ _ this k1
end Go.Proofs.Ytanjlgafjgoaaaa
