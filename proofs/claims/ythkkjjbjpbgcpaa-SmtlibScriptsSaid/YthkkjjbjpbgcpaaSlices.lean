import Derived.Test.YthkkjjbjpbgcpaaRef03
namespace Go.Proofs.Ythkkjjbjpbgcpaa
open Go.Mw
set_option linter.unusedVariables false
set_option linter.unusedSimpArgs false
set_option maxRecDepth 100000
attribute [local irreducible] M.val M.unit M.next M.pick M.new M.nilCheck M.load1 M.loadA M.store M.fieldAddr M.indexSl M.indexArr M.slice M.makeSlice M.buildSlice M.len M.lenS M.cap M.append M.extract M.conv M.not M.neg M.bin M.shift M.eqB M.eqNil M.scat M.call M.callv M.gd M.share M.cond M.loop M.draw pureW readW Ret
/-! slices.Compact[[]int,int]: function 60 -/
def sh60 (x0 : Value) (R : Kt) (w : World) : Prop :=
  M.len x0 (fun t7 w =>
  M.bin .lss t7 (Value.int IntKind.i64 2) (fun t8 w =>
  M.cond t8
  (R x0 w)
  (M.loop [(Value.int IntKind.i64 1)] (fun s1 K1 w => ∀ _ : List Value,
  M.len x0 (fun t12 w =>
  M.bin .lss (s1.getD 0 undef) t12 (fun t13 w =>
  M.cond t13
  (M.draw (fun w =>
  M.indexSl 1 x0 (s1.getD 0 undef) (fun t18 w =>
  M.load1 t18 (fun t19 w =>
  M.bin .sub (s1.getD 0 undef) (Value.int IntKind.i64 1) (fun t22 w =>
  M.indexSl 1 x0 t22 (fun t23 w =>
  M.load1 t23 (fun t24 w =>
  M.bin .eql t19 t24 (fun t25 w =>
  M.cond t25
  (M.slice 1 x0 (some (s1.getD 0 undef)) none none (fun t28 w =>
  M.loop [(s1.getD 0 undef), (Value.int IntKind.i64 1)] (fun s2 K2 w => ∀ _ : List Value,
  M.len t28 (fun t31 w =>
  M.bin .lss (s2.getD 1 undef) t31 (fun t32 w =>
  M.cond t32
  (M.share (fun K3 w =>
  M.draw (fun w =>
  M.indexSl 1 t28 (s2.getD 1 undef) (fun t37 w =>
  M.load1 t37 (fun t38 w =>
  M.bin .sub (s2.getD 1 undef) (Value.int IntKind.i64 1) (fun t41 w =>
  M.indexSl 1 t28 t41 (fun t42 w =>
  M.load1 t42 (fun t43 w =>
  M.bin .neq t38 t43 (fun t44 w =>
  M.cond t44
  (M.indexSl 1 t28 (s2.getD 1 undef) (fun t49 w =>
  M.load1 t49 (fun t50 w =>
  M.indexSl 1 x0 (s2.getD 0 undef) (fun t51 w =>
  M.store 1 t51 t50 (fun _ w =>
  M.bin .add (s2.getD 0 undef) (Value.int IntKind.i64 1) (fun t53 w =>
  K3 [t53] w) w) w) w) w) w)
  (K3 [(s2.getD 0 undef)] w)) w) w) w) w) w) w) w) (fun s3 w => ∀ _ : List Value,
  M.bin .add (s2.getD 1 undef) (Value.int IntKind.i64 1) (fun t34 w =>
  K2 [(s3.getD 0 undef), t34] w) w) w)
  (M.slice 1 x0 (some (s2.getD 0 undef)) none none (fun t56 w =>
  M.next Try.prog (builtin .clear #[36] 0 #[false] #[t56]) (fun _ w =>
  M.slice 1 x0 none (some (s2.getD 0 undef)) none (fun t59 w =>
  R t59 w) w) w) w)) w) w) w) w)
  (M.bin .add (s1.getD 0 undef) (Value.int IntKind.i64 1) (fun t15 w =>
  K1 [t15] w) w)) w) w) w) w) w) w) w)
  (R x0 w)) w) w) w)) w) w
theorem ok60 (x0 : Value) (R : Kt) (w : World) (h : sh60 x0 R w) : Ret Try.prog 60 #[x0] w R :=
  ret_mk <| calls_of_comp mixed (c := Try.f60.body.getD .skip) (args := [x0]) (rs := [(ResultVar.tmp 2)]) (Ann.seq Ann.text (Ann.seq (Ann.seq Ann.text (Ann.cond (Ann.seq Ann.text Ann.leaf) Ann.leaf)) (Ann.seq (Ann.seq Ann.text (Ann.block (Ann.loop [3] [2, 4, 5, 10, 11, 12, 13, 14, 15, 16, 17, 18, 19, 20, 21, 22, 23, 24, 25, 26, 27, 28, 29, 30, 31, 32, 33, 34, 35, 36, 37, 38, 39, 40, 41, 42, 43, 44, 45, 46, 47, 48, 49, 50, 51, 52, 53, 54, 55, 56, 57, 58, 59] (Ann.seq (Ann.seq Ann.text (Ann.cond Ann.leaf Ann.leaf)) (Ann.seq (Ann.block (Ann.seq (Ann.draw (Sch.take 0 (Sch.take 1 (Sch.take 2 (Sch.take 3 (Sch.take 4 (Sch.take 5 (Sch.take 6 (Sch.take 7 (Sch.take 8 (Sch.take 9 Sch.done))))))))))) (Ann.cond (Ann.seq Ann.text (Ann.seq (Ann.seq Ann.text (Ann.block (Ann.loop [3, 5] [29, 30, 31, 32, 33, 34, 35, 36, 37, 38, 39, 40, 41, 42, 43, 44, 45, 46, 47, 48, 49, 50, 51, 52, 53] (Ann.seq (Ann.seq Ann.text (Ann.cond Ann.leaf Ann.leaf)) (Ann.seq (Ann.jblock [3] [35, 36, 37, 38, 39, 40, 41, 42, 43, 44, 45, 46, 47, 48, 49, 50, 51, 52, 53] (Ann.seq (Ann.draw (Sch.take 0 (Sch.take 1 (Sch.take 2 (Sch.take 3 (Sch.take 4 (Sch.take 5 (Sch.take 6 (Sch.take 7 (Sch.take 8 (Sch.take 9 Sch.done))))))))))) (Ann.cond (Ann.seq Ann.text Ann.text) Ann.leaf))) Ann.text))))) (Ann.seq Ann.text (Ann.seq Ann.text Ann.leaf)))) Ann.leaf))) Ann.text))))) (Ann.seq Ann.text Ann.leaf))))
    Try.func60 (by kernel_rfl) (by kernel_rfl)
    (Eq.mp (by kernel_rfl) h)

/-- 'g' answers p of any number, wherever I holds. -/
def PredF (g : Value) (I : World → Prop) (p : Int → Bool) : Prop := ∀ (x : Int) (w : World) (k : Kt), I w → (∀ w', I w' → Keep w w' No → k (.bool (p x)) w') → M.callv Try.prog g #[vi x] k w
def idxI (p : Int → Bool) (xs : List Int) : Int := match xs.findIdx? p with
  | some i => i
  | none => -1
theorem idxI_lt (p : Int → Bool) (xs : List Int) : -1 ≤ idxI p xs ∧ idxI p xs < xs.length := by
  unfold idxI
  split
  · rename_i i h
    have := (List.findIdx?_eq_some_iff_getElem.1 h).1
    omega
  · omega
theorem idxI_any (p : Int → Bool) (xs : List Int) : decide (0 ≤ idxI p xs) = xs.any p := by
  unfold idxI
  cases h : xs.findIdx? p with
  | some i =>
    obtain ⟨h1, h2, _⟩ := List.findIdx?_eq_some_iff_getElem.1 h
    have : xs.any p = true := List.any_eq_true.2 ⟨_, List.getElem_mem h1, h2⟩
    simp [this]
  | none =>
    have : xs.any p = false := by
      rw [List.any_eq_false]
      intro x hx
      simpa using List.findIdx?_eq_none_iff.1 h x hx
    simp [this]
theorem set_take {α : Type} {l : List α} {i : Nat} (x : α) (h : i < l.length) : (l.set i x).take (i + 1) = l.take i ++ [x] := by
  rw [List.take_add_one, List.take_set, List.set_eq_of_length_le (by simp; omega)]
  simp [h]
theorem set_drop {α : Type} {l : List α} {i j : Nat} (x : α) (h : i < j) : (l.set i x).drop j = l.drop j := by
  rw [List.drop_set, if_pos h]
theorem drop_get {α : Type} {l m : List α} {i j : Nat} (h : l.drop i = m.drop i) (hij : i ≤ j) : l[j]? = m[j]? := by
  have := congrArg (fun z => z[j - i]?) h
  simp only [List.getElem?_drop] at this
  rwa [show i + (j - i) = j by omega] at this
theorem drop_more {α : Type} {l m : List α} {i j : Nat} (h : l.drop i = m.drop i) (hij : i ≤ j) : l.drop j = m.drop j := by
  apply List.ext_getElem?
  intro n
  rw [List.getElem?_drop, List.getElem?_drop]
  exact drop_get h (by omega)
/-- 's = s[:n]' behind 'clear(s[n:])'. -/
theorem tail_out {P : Program} {R : Kt} {w : World} {T ty elem : TypeId} {cs : Array Bool} {L : Nat → Prop} {A : Option Addr} {c n m : Nat} {ys zs : List Int} (hu : P.underlying T = some (.slice elem)) (hz : ∀ w, (zeroValue elem).run P w = .ok (vi 0) w)
    (hm : m = ys.length) (h : GI w L (.slice A ys.length c) ys) (hn : n ≤ ys.length) (hzs : ys.take n = zs) (hR : ∀ r w', GI w' L r zs → Keep w w' L → R r w') :
    M.slice 1 (.slice A m c) (some (vi n)) none none (fun t w => M.next P (builtin .clear #[T] ty cs #[t]) (fun _ w => M.slice 1 (.slice A m c) none (some (vi n)) none (fun r w => R r w) w) w) w := by
  subst hm
  refine M.slice_i n ys.length c (sl3_l hn) ?_
  refine M.clearTail_i hu hz h hn (fun w1 g1 k1 s1 => ?_)
  have hlen : (ys.take n ++ List.replicate (ys.length - n) 0).length = ys.length := by simp; omega
  have hcap := GI.cap_le h
  refine M.slice_i 0 n c (sl3_h (by omega)) ?_
  have g1 : GI w1 L (.slice A (ys.take n ++ List.replicate (ys.length - n) 0).length c) (ys.take n ++ List.replicate (ys.length - n) 0) := by rw [hlen]; exact g1
  have := GI.cut g1 (m := n) (by omega)
  rw [List.take_append_of_le_length (by simp; omega), List.take_take, Nat.min_self, hzs] at this
  exact hR _ _ this k1
end Go.Proofs.Ythkkjjbjpbgcpaa
