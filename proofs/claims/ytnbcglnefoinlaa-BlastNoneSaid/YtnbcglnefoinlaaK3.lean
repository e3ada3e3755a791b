import Derived.Test.YtnbcglnefoinlaaK2
import Derived.Lib.AppendZerosOnto
import Derived.Shelf.Sort.Plain
import Derived.Shelf.Slices.In.SortNone
import Derived.Shelf.Lay
import Derived.Lib.SortBridge
import Derived.Laws.Small
namespace Go.Proofs.Ytnbcglnefoinlaa
open Go.Mw Go.Lib
set_option linter.unusedVariables false
set_option linter.unusedSimpArgs false
set_option maxRecDepth 100000
attribute [local irreducible] M.val M.unit M.next M.pick M.new M.nilCheck M.load1 M.loadA M.store M.fieldAddr M.indexSl M.indexArr M.slice M.makeSlice M.buildSlice M.len M.lenS M.cap M.append M.extract M.conv M.not M.neg M.bin M.shift M.eqB M.eqNil M.scat M.call M.callv M.gd M.share M.cond M.loop M.draw pureW readW Ret
def sh59 (x0 x1 : Value) (R : Kt) (w : World) : Prop :=
  M.share (fun K1 w =>
  M.bin .lss x1 (Value.int IntKind.i64 0) (fun t6 w =>
  M.cond t6
  (M.val Try.prog (Instr.makeInterface 9 (Value.string { data := #[99, 97, 110, 110, 111, 116, 32, 98, 101, 32, 110, 101, 103, 97, 116, 105, 118, 101] })) (fun t7 w =>
  M.panic (fun _ w =>
  K1 [] w) w) w)
  (K1 [] w)) w) (fun s1 w => ∀ _ : List Value,
  M.share (fun K2 w =>
  M.cap x0 (fun t10 w =>
  M.len x0 (fun t12 w =>
  M.bin .sub t10 t12 (fun t13 w =>
  M.bin .sub x1 t13 (fun t14 w =>
  M.bin .gtr t14 (Value.int IntKind.i64 0) (fun t16 w =>
  M.cond t16
  (M.cap x0 (fun t19 w =>
  M.slice 1 x0 none (some t19) none (fun t20 w =>
  M.next Try.prog (builtin .append #[23, 3] 23 #[false, false] #[t20, t14]) (fun t22 w =>
  M.len x0 (fun t24 w =>
  M.slice 1 t22 none (some t24) none (fun t25 w =>
  K2 [t25] w) w) w) w) w) w)
  (K2 [x0] w)) w) w) w) w) w) (fun s2 w => ∀ _ : List Value,
  R (s2.getD 0 undef) w) w) w
theorem ok59 (x0 x1 : Value) (R : Kt) (w : World) (h : sh59 x0 x1 R w) : Ret Try.prog 59 #[x0, x1] w R :=
  ret_mk <| calls_of_comp mixed (c := Try.f59.body.getD .skip) (args := [x0, x1]) (rs := [(ResultVar.tmp 4)]) (Ann.seq Ann.text (Ann.join [] [5, 6, 7] (Ann.seq Ann.text (Ann.cond Ann.text Ann.leaf)) (Ann.join [0] [1, 8, 9, 10, 11, 12, 13, 14, 15, 16, 17, 18, 19, 20, 21, 22, 23, 24, 25] (Ann.seq Ann.text (Ann.seq Ann.text (Ann.cond Ann.text Ann.leaf))) (Ann.seq Ann.text Ann.leaf))))
    Try.func59 (by kernel_rfl) (by kernel_rfl)
    (Eq.mp (by kernel_rfl) h)
def sh31 (x0 : Value) (R : Kt) (w : World) : Prop :=
  M.len x0 (fun t10 w =>
  M.loop [(Value.int IntKind.i64 0), (Value.int IntKind.i64 0)] (fun s1 K1 w => ∀ _ : List Value,
  M.bin .lss (s1.getD 1 undef) t10 (fun t12 w =>
  M.cond t12
  (M.share (fun K2 w =>
  M.indexSl 1 x0 (s1.getD 1 undef) (fun t13 w =>
  M.load1 t13 (fun t14 w =>
  M.len t14 (fun t17 w =>
  M.bin .add (s1.getD 0 undef) t17 (fun t18 w =>
  M.bin .lss t18 (Value.int IntKind.i64 0) (fun t20 w =>
  M.cond t20
  (M.val Try.prog (Instr.makeInterface 9 (Value.string { data := #[108, 101, 110, 32, 111, 117, 116, 32, 111, 102, 32, 114, 97, 110, 103, 101] })) (fun t21 w =>
  M.panic (fun _ w =>
  K2 [t18] w) w) w)
  (K2 [t18] w)) w) w) w) w) w) (fun s2 w => ∀ _ : List Value,
  M.bin .add (s1.getD 1 undef) (Value.int IntKind.i64 1) (fun t22 w =>
  K1 [(s2.getD 0 undef), t22] w) w) w)
  (M.call Try.prog 59 #[(Value.slice none 0 0), (s1.getD 0 undef)] (fun t24 w =>
  M.len x0 (fun t26 w =>
  M.loop [t24, (Value.int IntKind.i64 0)] (fun s3 K3 w => ∀ _ : List Value,
  M.bin .lss (s3.getD 1 undef) t26 (fun t28 w =>
  M.cond t28
  (M.indexSl 1 x0 (s3.getD 1 undef) (fun t29 w =>
  M.load1 t29 (fun t30 w =>
  M.append 3 1 8 #[.int .i64 0] (s3.getD 0 undef) t30 (fun t33 w =>
  M.bin .add (s3.getD 1 undef) (Value.int IntKind.i64 1) (fun t34 w =>
  K3 [t33, t34] w) w) w) w) w)
  (R (s3.getD 0 undef) w)) w) w) w) w)) w) w) w
theorem ok31 (x0 : Value) (R : Kt) (w : World) (h : sh31 x0 R w) : Ret Try.prog 31 #[x0] w R :=
  ret_mk <| calls_of_comp mixed (c := Try.f31.body.getD .skip) (args := [x0]) (rs := [(ResultVar.tmp 2)]) (Ann.seq Ann.text (Ann.seq Ann.text (Ann.seq (Ann.seq Ann.text (Ann.block (Ann.loop [3, 11] [5, 12, 13, 14, 15, 16, 17, 18, 19, 20, 21, 22] (Ann.seq Ann.text (Ann.seq (Ann.cond Ann.leaf Ann.leaf) (Ann.seq (Ann.jblock [3] [5, 13, 14, 15, 16, 17, 18, 19, 20, 21] (Ann.seq Ann.text (Ann.seq Ann.text (Ann.seq Ann.text (Ann.cond Ann.text Ann.leaf))))) Ann.text)))))) (Ann.seq Ann.text (Ann.seq (Ann.seq Ann.text (Ann.block (Ann.loop [6, 27] [8, 28, 29, 30, 31, 32, 33, 34] (Ann.seq Ann.text (Ann.seq (Ann.cond Ann.leaf Ann.leaf) (Ann.seq (Ann.block (Ann.seq Ann.text Ann.text)) Ann.text)))))) (Ann.seq Ann.text Ann.leaf))))))
    Try.func31 (by kernel_rfl) (by kernel_rfl)
    (Eq.mp (by kernel_rfl) h)
theorem grow_ret {w : World} (n : Nat) (hn : n ≤ 1000000) :
    Ret Try.prog 59 #[.slice none 0 0, vi n] w (fun r w' => GI w' (w.heap.size ≤ ·) r [] ∧ Keep w w' No) := by
  refine ok59 _ _ _ _ ?_
  unfold sh59
  refine M.share_j (fun vals w' => vals = [] ∧ w = w') ?_ ?_
  case refine_2 =>
    intro K hK
    (repeat (first|refine jp ?_|refine jz ?_))
    exact hK _ _ ⟨rfl, rfl⟩
  rintro vals w' ⟨rfl, rfl⟩ _
  refine M.share_j (fun vals w' => ∃ v, vals = [v] ∧ GI w' (w.heap.size ≤ ·) v [] ∧ Keep w w' No) ?_ ?_
  case refine_1 =>
    rintro vals w' ⟨v, rfl, h1, h2⟩ _
    exact ⟨h1, h2⟩
  intro K hK
  (repeat (first|refine ja ?_|refine je ?_|refine jL ?_))
  by_cases h0 : n = 0
  · subst h0
    (repeat (first|refine jp ?_|refine jD ?_))
    exact hK _ _ ⟨_, rfl, GI.nil _ _, Keep.refl _ _⟩
  · (repeat (first|refine je ?_|refine jo ?_|refine jC ?_))
    refine M.slice_i 0 0 0 (by rfl) ?_
    have e0 : (((n : Nat) : Int) - (((0 : Nat) : Int) - ((0 : Nat) : Int))) = (n : Int) := by omega
    have hinf : ∃ i z, Try.prog.info? 3 = some i ∧ i.zero = some z ∧ i.size = 1 ∧ i.bytes = 8 ∧ z.cells = #[vi 0] := by
      have h1 : (Try.prog.info? 3).isSome = true := by kernel_rfl
      obtain ⟨i, hi⟩ := Option.isSome_iff_exists.1 h1
      have h2 : ((Try.prog.info? 3).bind (·.zero)).map (·.cells) = some #[vi 0] := by kernel_rfl
      have h3 : (Try.prog.info? 3).map (fun i => (i.size, i.bytes)) = some (1, 8) := by kernel_rfl
      rw [hi] at h2 h3
      simp only [Option.bind_some, Option.map_some, Option.some.injEq, Prod.mk.injEq] at h2 h3
      obtain ⟨z, hz, hc⟩ := Option.map_eq_some_iff.1 h2
      exact ⟨i, z, hi, hz, h3.1, h3.2, hc⟩
    obtain ⟨i, z, hi, hz, hs, hb, hc⟩ := hinf
    have hcap : Builtin.nextslicecap (0 + n) 0 = n := by unfold Builtin.nextslicecap; rw [if_pos (by omega)]; omega
    have run := run_append_grow_zeros (P := Try.prog) w 23 3 23 3 i z .i64 .i64 (by kernel_rfl) (by kernel_rfl) hi hz none 0 0 [] (by simp [Builtin.firstCells]) n (by omega) (by omega) (by omega) (by omega) (by rw [hb]; omega) (by rw [hcap, hb]; omega)
    refine M.next_i (v := .slice (some ⟨w.heap.size, 0, none⟩) (0 + n) (grownCap w (0 + n) 0 3)) (w' := _) run ?_
    have hge := grownCap_ge w (0 + n) 0 3
    generalize grownCap w (0 + n) 0 3 = c at hge ⊢
    rw [hc]
    have hcells : ([].toArray ++ Builtin.zeroCells #[vi 0] n ++ Builtin.zeroCells #[vi 0] (c - (0 + n)) : Array Value) = ⟨List.replicate c (vi 0)⟩ := by
      apply Array.ext'
      have hz0 : ∀ m : Nat, (Builtin.zeroCells #[vi 0] m).toList = List.replicate m (vi 0) := fun m => by
        apply List.ext_getElem?
        intro j
        by_cases hj : j < m
        · simp [Builtin.zeroCells, hj, Nat.mod_one]
        · simp [Builtin.zeroCells, hj]
      simp only [Array.toList_append, hz0, List.nil_append]
      rw [List.replicate_append_replicate]
      congr 1
      omega
    have b : Blk (w.drew.alloc (.cells ([].toArray ++ Builtin.zeroCells #[vi 0] n ++ Builtin.zeroCells #[vi 0] (c - (0 + n))) 3)) w.heap.size (List.replicate c (vi 0)) := by
      rw [hcells]
      exact ⟨3, alloc_new w.drew _⟩
    have k : Keep w (w.drew.alloc (.cells ([].toArray ++ Builtin.zeroCells #[vi 0] n ++ Builtin.zeroCells #[vi 0] (c - (0 + n))) 3)) No := (Keep.drew w No).trans (Keep.alloc w.drew _ _) (fun _ _ h => h)
    generalize (w.drew.alloc (.cells ([].toArray ++ Builtin.zeroCells #[vi 0] n ++ Builtin.zeroCells #[vi 0] (c - (0 + n))) 3)) = w1 at b k ⊢
    (repeat (refine ja ?_))
    refine M.slice_i 0 0 c (sl3_h (h := 0) (Nat.zero_le c)) ?_
    refine hK _ _ ⟨_, rfl, ?_, k⟩
    refine ⟨rfl, .inr ⟨w.heap.size, c, List.replicate c (vi 0), ?_, Nat.le_refl _, by simpa using b, by simp⟩⟩
    rw [if_neg (by omega)]
    simp [add_mk]
theorem scon_ret {w : World} {D : Nat → Prop} {b : Nat} {vs : List Value} {ls : List (List Int)} (hb : Blk w b vs) (hl : vs.length = ls.length) (hv : ∀ (k : Nat) v l, vs[k]? = some v → ls[k]? = some l → LV vi w D v l) (hf : ls.flatten.length ≤ 1000000) (hn : ls.length ≤ 1000000) (m : Nat) (hm : m = ls.length) :
    Ret Try.prog 31 #[.slice (some ⟨b, 0, none⟩) m m] w (fun r w' => GI w' (w.heap.size ≤ ·) r ls.flatten ∧ Keep w w' No) := by
  subst hm
  have hv : ∀ (k : Nat) v l, vs[k]? = some v → ls[k]? = some l → LV vi w (· < w.heap.size) v l := fun k v l h1 h2 => (hv k v l h1 h2).mono (fun b hb _ => hb)
  have hblt := hb.lt
  have hlen : ∀ k, k ≤ ls.length → (ls.take k).flatten.length ≤ ls.flatten.length := fun k hk => by
    have : ls.flatten = (ls.take k).flatten ++ (ls.drop k).flatten := by rw [← List.flatten_append, List.take_append_drop]
    rw [this, List.length_append]; omega
  have hcell : ∀ w', Keep w w' No → ∀ k v, vs[k]? = some v → w'.cell? ⟨b, 0 + k * 1, none⟩ = some v := fun w' k' k v h => by
    have := (hb.keep k' (fun h => h)).cell (o := k) h
    rwa [Nat.zero_add, Nat.mul_one]
  refine ok31 _ _ _ ?_
  unfold sh31
  (repeat (refine ja ?_))
  refine M.loop_i (σ := Nat) (fun k vals w' => vals = [vi (((ls.take k).flatten.length : Nat) : Int), vi k] ∧ k ≤ ls.length ∧ w' = w) (fun k => ls.length - k) 0 ⟨by simp, by omega, rfl⟩ ?_
  rintro k vals w1 K ⟨rfl, hk, e1⟩ hK _
  subst e1
  simp only [List.getD_cons_zero, List.getD_cons_succ]
  by_cases hlt : k < ls.length
  · obtain ⟨l, hlk⟩ : ∃ l, ls[k]? = some l := ⟨_, List.getElem?_eq_getElem hlt⟩
    obtain ⟨v, hvk⟩ : ∃ v, vs[k]? = some v := ⟨_, List.getElem?_eq_getElem (by omega)⟩
    have et : (ls.take (k + 1)).flatten = (ls.take k).flatten ++ l := by rw [List.take_add_one, hlk, List.flatten_append]; simp
    have h1 := hlen (k + 1) (by omega)
    rw [et, List.length_append] at h1
    obtain ⟨A, c, rfl, hr, _⟩ := hv k v l hvk hlk
    (repeat (first|refine jo ?_|refine jy ?_))
    refine M.share_j (fun vals w' => vals = [vi (((ls.take (k + 1)).flatten.length : Nat) : Int)] ∧ w' = w1) ?_ ?_
    · rintro vals w' ⟨rfl, e⟩ _
      subst e
      simp only [List.getD_cons_zero, List.getD_cons_succ]
      (repeat (refine jK ?_))
      exact hK (k + 1) _ _ (by omega) ⟨rfl, by omega, rfl⟩
    · intro K2 hK2
      refine M.idx_i (by omega) (by omega) ?_
      refine M.load_i (hcell w1 (Keep.refl _ _) _ _ (by rw [Int.toNat_natCast]; exact hvk)) ?_
      (repeat (first|refine ja ?_|refine jp ?_|refine jz ?_|refine jK ?_))
      refine hK2 _ _ ⟨?_, rfl⟩
      rw [et, List.length_append]
      congr 2
  · have e : k = ls.length := by omega
    subst e
    rw [List.take_length]
    (repeat (first|refine jp ?_|refine jz ?_))
    refine M.call_i (grow_ret ls.flatten.length hf) ?_; rintro v0 w2 ⟨g2, k2⟩
    (repeat (refine ja ?_))
    refine M.loop_i (σ := Nat) (fun k vals w' => ∃ v, vals = [v, vi k] ∧ k ≤ ls.length ∧ GI w' (w1.heap.size ≤ ·) v (ls.take k).flatten ∧ Keep w1 w' No) (fun k => ls.length - k) 0 ⟨v0, rfl, by omega, by simpa using g2, k2⟩ ?_
    rintro k vals w3 K3 ⟨v, rfl, hk, g3, k3⟩ hK3 _
    simp only [List.getD_cons_zero, List.getD_cons_succ]
    by_cases hlt : k < ls.length
    · obtain ⟨l, hlk⟩ : ∃ l, ls[k]? = some l := ⟨_, List.getElem?_eq_getElem hlt⟩
      obtain ⟨v2, hvk⟩ : ∃ v, vs[k]? = some v := ⟨_, List.getElem?_eq_getElem (by omega)⟩
      have et : (ls.take (k + 1)).flatten = (ls.take k).flatten ++ l := by rw [List.take_add_one, hlk, List.flatten_append]; simp
      have h1 := hlen (k + 1) (by omega)
      rw [et, List.length_append] at h1
      obtain ⟨A, c, rfl, hr, _⟩ := hv k v2 l hvk hlk
      have q3 := k3.size
      (repeat (first|refine jo ?_|refine jy ?_))
      refine M.idx_i (by omega) (by omega) ?_
      refine M.load_i (hcell w3 k3 _ _ (by rw [Int.toNat_natCast]; exact hvk)) ?_
      refine M.appendI_i rfl g3 (hr.keep k3 (fun _ _ _ h => h)) rfl (by omega) (fun v4 w4 g4 k4 => ?_)
      rw [← et] at g4
      (repeat (refine jK ?_))
      exact hK3 (k + 1) _ _ (by omega) ⟨v4, rfl, by omega, g4.mono (fun b hb h => by rcases h with h | h <;> omega), k3.trans k4 (fun b hb h => by omega)⟩
    · have e : k = ls.length := by omega
      subst e
      rw [List.take_length] at g3
      (repeat (first|refine jp ?_|refine jz ?_))
      exact ⟨g3, k3⟩
end Go.Proofs.Ytnbcglnefoinlaa
namespace Go.Proofs.Ytnbcglnefoinlaa
open Go.Mw Go.Shelf Go.Sort Go.Lib
set_option linter.unusedVariables false
set_option linter.unusedSimpArgs false
set_option maxRecDepth 100000
attribute [local irreducible] M.val M.unit M.next M.pick M.new M.nilCheck M.load1 M.loadA M.store M.fieldAddr M.indexSl M.indexArr M.slice M.makeSlice M.buildSlice M.len M.lenS M.cap M.append M.extract M.conv M.not M.neg M.bin M.shift M.eqB M.eqNil M.scat M.call M.callv M.gd M.share M.cond M.loop M.draw pureW readW Ret
shelf_lay Lays.n189 Nm 189 at Try as Try.lays189
abbrev leI (x y : Int) : Bool := decide (x ≤ y)
theorem sort_ret {w : World} {L : Nat → Prop} {v : Value} {xs : List Int} (h : GI w L v xs) (hf : xs.length < 4611686018427387904) :
    Ret Try.prog 14 #[v] w (fun r w' => r = .tuple #[] ∧ GI w' L v (xs.mergeSort leI) ∧ Keep w w' L) := by
  obtain ⟨h0, ⟨rfl, h2⟩ | ⟨b, c, rest, rfl, hL, hB, hl⟩⟩ := h
  · have hx : xs = [] := List.length_eq_zero_iff.1 h2
    subst hx
    refine ret_mk ((Any.slices_Sort_int_none Try.lays189 none 0 w).mono ?_)
    rintro e w' ⟨rfl, rfl⟩
    exact ⟨_, rfl, rfl, by simpa using GI.nil _ _, Keep.refl _ _⟩
  · have hcell : ∀ j (hj : j < xs.length), w.cell? ⟨b, 0 + j, none⟩ = some (vi xs[j]) := fun j hj => by
      rw [Nat.zero_add]
      exact hB.cell (by rw [List.getElem?_append_left (by simpa using hj)]; simp [hj])
    have hH : Holds (Value.int .i64) w b 0 xs.toArray := by
      intro j hj
      have hj : j < xs.length := by simpa using hj
      refine ⟨?_, hB.frozen⟩
      rw [hcell j hj]
      simp [hj]
    refine ret_mk ((Any.slices_Sort_int Try.lays189 b 0 c xs w hH hB.lt hf).mono ?_)
    rintro e w' ⟨rfl, q, os, rfl⟩
    have hlen : (xs.mergeSort fun x y => decide (x ≤ y)).length = xs.length := List.length_mergeSort ..
    rw [sorted_world (Value.int .i64) w b 0 q xs.toArray (xs.mergeSort fun x y => decide (x ≤ y)) os hH (by rw [hlen]; rfl)]
    generalize hys : (xs.mergeSort fun x y => decide (x ≤ y)) = ys at *
    have hB' : Blk (w.drewN q) b (xs.map vi ++ rest) := hB
    obtain ⟨g1, g2, g3⟩ := setCells_blk (ys.map vi) 0 (w.drewN q) (xs.map vi ++ rest) hB' (by simp; omega)
    have hlt : b < ((w.drewN q).setCells b 0 (ys.map vi)).heap.size := by rw [g3]; exact hB.lt
    refine ⟨_, rfl, rfl, ?_, ?_⟩
    · refine ⟨by simp, .inr ⟨b, c, rest, by simp [hlen], hL, ?_, by simp [hlen] at hl ⊢; omega⟩⟩
      have e1 : splice (xs.map vi ++ rest) 0 (ys.map vi) = ys.map vi ++ rest := by
        unfold splice
        simp [hlen]
      rw [e1] at g1
      obtain ⟨T, hT⟩ := g1
      exact ⟨T, by rw [heap_grow_old _ _ hlt]; exact hT⟩
    · refine ⟨g2.os, g2.tape, g2.output, ?_, fun i hi hi2 => ?_⟩
      · have : (grow ((w.drewN q).setCells b 0 (ys.map vi)) os).heap.size = ((w.drewN q).setCells b 0 (ys.map vi)).heap.size + os.size := by simp [grow]
        rw [this, g3]
        show w.heap.size ≤ w.heap.size + os.size
        omega
      · rw [heap_grow_old _ _ (by rw [g3]; exact hi)]
        exact g2.blk i hi (fun h => hi2 (by subst h; exact hL))
end Go.Proofs.Ytnbcglnefoinlaa
namespace Go.Proofs.Ytnbcglnefoinlaa
open Go.Mw
set_option linter.unusedVariables false
set_option linter.unusedSimpArgs false
theorem M.share_n {A : (List Value → World → Prop) → World → Prop} {R : List Value → World → Prop} {w : World} (h : A R w) : M.share A R w := h
inductive GK where
  | tru
  | inp
  | and (a b : Int)
  | xor (a b : Int)
  | ite (c a b : Int)
deriving DecidableEq
def nt (l : Int) : Int := if l % 2 = 0 then l + 1 else l - 1
def lvl (V : List Bool) (l : Int) : Bool := V.getD (l / 2).toNat false != decide (l % 2 = 1)
def GK.val (i : Nat → Bool) (V : List Bool) : GK → Bool
  | .tru => true
  | .inp => i V.length
  | .and a b => lvl V a && lvl V b
  | .xor a b => lvl V a != lvl V b
  | .ite c a b => if lvl V c then lvl V a else lvl V b
def GK.fit (n : Nat) : GK → Prop
  | .tru => n = 0
  | .inp => 0 < n
  | .and a b => 0 < n ∧ (0 ≤ a ∧ a < 2 * (n : Int)) ∧ (0 ≤ b ∧ b < 2 * (n : Int))
  | .xor a b => 0 < n ∧ (0 ≤ a ∧ a < 2 * (n : Int)) ∧ (0 ≤ b ∧ b < 2 * (n : Int))
  | .ite c a b => 0 < n ∧ (0 ≤ c ∧ c < 2 * (n : Int)) ∧ (0 ≤ a ∧ a < 2 * (n : Int)) ∧ (0 ≤ b ∧ b < 2 * (n : Int))
def GK.cls (x : Int) : GK → List (List Int)
  | .tru => [[x]]
  | .inp => []
  | .and a b => [[nt x, a], [nt x, b], [x, nt a, nt b]]
  | .xor a b => [[nt x, a, b], [nt x, nt a, nt b], [x, nt a, b], [x, a, nt b]]
  | .ite c a b => [[nt c, nt a, x], [nt c, a, nt x], [c, nt b, x], [c, b, nt x], [nt a, nt b, x], [a, b, nt x]]
def evD (i : Nat → Bool) (D : List GK) : List Bool := D.foldl (fun V k => V ++ [k.val i V]) []
def cksF (D : List GK) (n : Nat) : List (List Int) := match D with
  | [] => []
  | k :: D => k.cls (2 * (n : Int)) ++ cksF D (n + 1)
def clsD (D : List GK) : List (List Int) := cksF D 0
structure WfD (D : List GK) : Prop where
  pos : 0 < D.length
  fit : ∀ (n : Nat) (k : GK), D[n]? = some k → k.fit n
def Ft (D : List GK) (l : Int) : Prop := 0 ≤ l ∧ l < 2 * (D.length : Int)
theorem nt_div (l : Int) : nt l / 2 = l / 2 := by unfold nt; split <;> omega
theorem lvl_nt (V : List Bool) (l : Int) : lvl V (nt l) = !lvl V l := by
  unfold lvl
  rw [nt_div]
  unfold nt
  by_cases h : l % 2 = 0
  · rw [if_pos h]
    have h1 : (l + 1) % 2 = 1 := by omega
    have h2 : ¬ l % 2 = 1 := by omega
    simp [h1, h2]
  · rw [if_neg h]
    have h1 : ¬ (l - 1) % 2 = 1 := by omega
    have h2 : l % 2 = 1 := by omega
    simp [h1, h2]
theorem nt_fit {n l : Int} (h : 0 ≤ l ∧ l < 2 * n) : 0 ≤ nt l ∧ nt l < 2 * n := by unfold nt; split <;> omega
theorem Ft.nt {D : List GK} {l : Int} (h : Ft D l) : Ft D (nt l) := nt_fit h
theorem Ft.ext {D : List GK} {l : Int} (E : List GK) (h : Ft D l) : Ft (D ++ E) l := by
  unfold Ft at *; rw [List.length_append]; omega
theorem evD_snoc (i : Nat → Bool) (D : List GK) (k : GK) : evD i (D ++ [k]) = evD i D ++ [k.val i (evD i D)] := by
  unfold evD; rw [List.foldl_append]; rfl
theorem evD_len (i : Nat → Bool) : ∀ D : List GK, (evD i D).length = D.length := by
  intro D
  have : ∀ (n : Nat) (D : List GK), D.length = n → (evD i D).length = D.length := by
    intro n
    induction n with
    | zero => intro D h; rw [List.length_eq_zero_iff.1 h]; rfl
    | succ n ih =>
      intro D h
      obtain ⟨E, k, rfl⟩ : ∃ E k, D = E ++ [k] := ⟨D.dropLast, D.getLast (by intro e; rw [e] at h; simp at h), (List.dropLast_concat_getLast _).symm⟩
      rw [evD_snoc]; simp at h ⊢; exact ih E h
  exact this _ D rfl
theorem evD_ext (i : Nat → Bool) (D E : List GK) : ∃ V, evD i (D ++ E) = evD i D ++ V := by
  induction E generalizing D with
  | nil => exact ⟨[], by simp⟩
  | cons k E ih =>
    obtain ⟨V, hV⟩ := ih (D ++ [k])
    rw [evD_snoc] at hV
    exact ⟨k.val i (evD i D) :: V, by rw [show D ++ k :: E = D ++ [k] ++ E by simp, hV]; simp⟩
theorem lvl_app {V W : List Bool} {l : Int} (h : 0 ≤ l ∧ l < 2 * (V.length : Int)) : lvl (V ++ W) l = lvl V l := by
  unfold lvl
  have : (l / 2).toNat < V.length := by omega
  rw [List.getD_eq_getElem?_getD, List.getD_eq_getElem?_getD, List.getElem?_append_left this]
def lv (i : Nat → Bool) (D : List GK) (l : Int) : Bool := lvl (evD i D) l
theorem lv_ext {i : Nat → Bool} {D : List GK} (E : List GK) {l : Int} (h : Ft D l) : lv i (D ++ E) l = lv i D l := by
  obtain ⟨V, hV⟩ := evD_ext i D E
  unfold lv
  rw [hV]
  exact lvl_app (by rw [evD_len]; exact h)
theorem lv_nt (i : Nat → Bool) (D : List GK) (l : Int) : lv i D (nt l) = !lv i D l := lvl_nt _ _
theorem lv_new {i : Nat → Bool} {D : List GK} {k : GK} : lv i (D ++ [k]) (2 * (D.length : Int)) = k.val i (evD i D) := by
  unfold lv lvl
  rw [evD_snoc, show (2 * (D.length : Int) / 2).toNat = (evD i D).length by rw [evD_len]; omega]
  have : ¬ (2 * (D.length : Int)) % 2 = 1 := by omega
  simp [this]
theorem cksF_app : ∀ (D E : List GK) (n : Nat), cksF (D ++ E) n = cksF D n ++ cksF E (n + D.length)
  | [], E, n => by simp [cksF]
  | k :: D, E, n => by
    show k.cls _ ++ cksF (D ++ E) (n + 1) = (k.cls _ ++ cksF D (n + 1)) ++ _
    rw [cksF_app D E (n + 1), List.append_assoc]
    congr 3
    simp; omega
theorem clsD_snoc (D : List GK) (k : GK) : clsD (D ++ [k]) = clsD D ++ k.cls (2 * (D.length : Int)) := by
  unfold clsD
  rw [cksF_app]
  simp [cksF]
theorem cksF_mem {c : List Int} : ∀ {D : List GK} {n : Nat}, c ∈ cksF D n ↔ ∃ (j : Nat) (k : GK), D[j]? = some k ∧ c ∈ k.cls (2 * ((n + j : Nat) : Int))
  | [], n => by simp [cksF]
  | k :: D, n => by
    show c ∈ k.cls _ ++ cksF D (n + 1) ↔ _
    rw [List.mem_append, cksF_mem (D := D) (n := n + 1)]
    constructor
    · rintro (h | ⟨j, k', h1, h2⟩)
      · exact ⟨0, k, rfl, by simpa using h⟩
      · exact ⟨j + 1, k', by simpa using h1, by rw [show n + (j + 1) = n + 1 + j by omega]; exact h2⟩
    · rintro ⟨j, k', h1, h2⟩
      cases j with
      | zero => simp at h1; subst h1; exact .inl (by simpa using h2)
      | succ j => exact .inr ⟨j, k', by simpa using h1, by rw [show n + 1 + j = n + (j + 1) by omega]; exact h2⟩
theorem clsD_mem {D : List GK} {c : List Int} : c ∈ clsD D ↔ ∃ (j : Nat) (k : GK), D[j]? = some k ∧ c ∈ k.cls (2 * (j : Int)) := by
  unfold clsD; rw [cksF_mem]; simp
theorem WfD.snoc {D : List GK} {k : GK} (h : WfD D) (hk : k.fit D.length) : WfD (D ++ [k]) := by
  refine ⟨by simp, fun n k' hn => ?_⟩
  by_cases h1 : n < D.length
  · rw [List.getElem?_append_left h1] at hn
    exact h.fit n k' hn
  · rw [List.getElem?_append_right (by omega)] at hn
    have h2 := (List.getElem?_eq_some_iff.1 hn).1
    simp at h2
    have : n = D.length := by omega
    subst this
    simp at hn; subst hn; exact hk
theorem lv_at {i : Nat → Bool} {D : List GK} (h : WfD D) {n : Nat} {k : GK} (hn : D[n]? = some k) : lv i D (2 * (n : Int)) = k.val i (evD i (D.take n)) ∧ ∃ E, D = D.take n ++ E ∧ (D.take n).length = n := by
  have hlt := (List.getElem?_eq_some_iff.1 hn).1
  have e : D = D.take n ++ [k] ++ D.drop (n + 1) := by
    have := (List.getElem?_eq_some_iff.1 hn).2
    rw [← this, List.append_assoc, List.singleton_append, List.getElem_cons_drop, List.take_append_drop]
  have hl : (D.take n).length = n := by rw [List.length_take]; omega
  refine ⟨?_, D.drop n, (List.take_append_drop n D).symm, hl⟩
  have h2 : lv i (D.take n ++ [k] ++ D.drop (n + 1)) (2 * (n : Int)) = lv i (D.take n ++ [k]) (2 * (n : Int)) := lv_ext _ (by unfold Ft; rw [List.length_append, hl]; simp; omega)
  have h3 : lv i D (2 * (n : Int)) = lv i (D.take n ++ [k] ++ D.drop (n + 1)) (2 * (n : Int)) := congrArg (fun X => lv i X (2 * (n : Int))) e
  have h4 := lv_new (i := i) (D := D.take n) (k := k)
  rw [hl] at h4
  rw [h3, h2, h4]
theorem lv_and {i : Nat → Bool} {D : List GK} (h : WfD D) {n : Nat} {a b : Int} (hn : D[n]? = some (.and a b)) : lv i D (2 * (n : Int)) = (lv i D a && lv i D b) := by
  obtain ⟨h1, E, h2, h3⟩ := lv_at (i := i) h hn
  obtain ⟨_, ha, hb⟩ := h.fit n _ hn
  rw [h1]
  have ea := lv_ext (i := i) (D := D.take n) E (l := a) (by unfold Ft; rw [h3]; exact ha)
  have eb := lv_ext (i := i) (D := D.take n) E (l := b) (by unfold Ft; rw [h3]; exact hb)
  rw [← h2] at ea eb
  rw [ea, eb]; rfl
theorem lv_xor {i : Nat → Bool} {D : List GK} (h : WfD D) {n : Nat} {a b : Int} (hn : D[n]? = some (.xor a b)) : lv i D (2 * (n : Int)) = (lv i D a != lv i D b) := by
  obtain ⟨h1, E, h2, h3⟩ := lv_at (i := i) h hn
  obtain ⟨_, ha, hb⟩ := h.fit n _ hn
  rw [h1]
  have ea := lv_ext (i := i) (D := D.take n) E (l := a) (by unfold Ft; rw [h3]; exact ha)
  have eb := lv_ext (i := i) (D := D.take n) E (l := b) (by unfold Ft; rw [h3]; exact hb)
  rw [← h2] at ea eb
  rw [ea, eb]; rfl
theorem lv_ite {i : Nat → Bool} {D : List GK} (h : WfD D) {n : Nat} {c a b : Int} (hn : D[n]? = some (.ite c a b)) : lv i D (2 * (n : Int)) = if lv i D c then lv i D a else lv i D b := by
  obtain ⟨h1, E, h2, h3⟩ := lv_at (i := i) h hn
  obtain ⟨_, hc, ha, hb⟩ := h.fit n _ hn
  rw [h1]
  have ec := lv_ext (i := i) (D := D.take n) E (l := c) (by unfold Ft; rw [h3]; exact hc)
  have ea := lv_ext (i := i) (D := D.take n) E (l := a) (by unfold Ft; rw [h3]; exact ha)
  have eb := lv_ext (i := i) (D := D.take n) E (l := b) (by unfold Ft; rw [h3]; exact hb)
  rw [← h2] at ec ea eb
  rw [ea, eb, ec]; rfl
theorem lv_tru {i : Nat → Bool} {D : List GK} (h : WfD D) {n : Nat} (hn : D[n]? = some .tru) : lv i D (2 * (n : Int)) = true := (lv_at (i := i) h hn).1
theorem lv_inp {i : Nat → Bool} {D : List GK} (h : WfD D) {n : Nat} (hn : D[n]? = some .inp) : lv i D (2 * (n : Int)) = i n := by
  obtain ⟨h1, E, h2, h3⟩ := lv_at (i := i) h hn
  rw [h1]
  show i (evD i (D.take n)).length = _
  rw [evD_len, h3]
theorem WfD.zero {D : List GK} (h : WfD D) : D[0]? = some .tru := by
  cases hd : D[0]? with
  | none => rw [List.getElem?_eq_none_iff] at hd; have := h.pos; omega
  | some k =>
    have := h.fit 0 k hd
    cases k with
    | tru => rfl
    | inp => exact absurd this (by show ¬ 0 < 0; decide)
    | and a b => exact absurd this.1 (by decide)
    | xor a b => exact absurd this.1 (by decide)
    | ite c a b => exact absurd this.1 (by decide)
theorem lv_zero {i : Nat → Bool} {D : List GK} (h : WfD D) : lv i D 0 = true := lv_tru (n := 0) h h.zero
theorem lv_one {i : Nat → Bool} {D : List GK} (h : WfD D) : lv i D 1 = false := by
  have := lv_nt i D 0
  rw [lv_zero h] at this
  exact this
theorem cls_holds {i : Nat → Bool} {D : List GK} (h : WfD D) {c : List Int} (hc : c ∈ clsD D) : (∃ l ∈ c, lv i D l = true) ∧ ∀ l ∈ c, Ft D l := by
  obtain ⟨j, k, hj, hm⟩ := clsD_mem.1 hc
  have hlt := (List.getElem?_eq_some_iff.1 hj).1
  have hx : Ft D (2 * (j : Int)) := by unfold Ft; omega
  have hf := h.fit j k hj
  have up : ∀ {l : Int}, (0 ≤ l ∧ l < 2 * (j : Int)) → Ft D l := fun {l} hl => by unfold Ft; omega
  cases k with
  | tru =>
    simp only [GK.cls, List.mem_singleton] at hm; subst hm
    exact ⟨⟨_, List.mem_singleton.2 rfl, lv_tru h hj⟩, fun l hl => by rw [List.mem_singleton.1 hl]; exact hx⟩
  | inp => simp [GK.cls] at hm
  | and a b =>
    have hv := lv_and (i := i) h hj
    obtain ⟨_, ha, hb⟩ := hf
    have na := lv_nt i D a
    have nb := lv_nt i D b
    have nx := lv_nt i D (2 * (j : Int))
    simp only [GK.cls, List.mem_cons, List.not_mem_nil, or_false] at hm
    rcases hm with rfl | rfl | rfl
    · refine ⟨?_, by simp only [List.mem_cons, List.not_mem_nil, or_false, forall_eq_or_imp, forall_eq]; exact ⟨hx.nt, up ha⟩⟩
      simp only [List.mem_cons, List.not_mem_nil, or_false, exists_eq_or_imp, exists_eq_left, nx, hv]
      cases lv i D a <;> cases lv i D b <;> decide
    · refine ⟨?_, by simp only [List.mem_cons, List.not_mem_nil, or_false, forall_eq_or_imp, forall_eq]; exact ⟨hx.nt, up hb⟩⟩
      simp only [List.mem_cons, List.not_mem_nil, or_false, exists_eq_or_imp, exists_eq_left, nx, hv]
      cases lv i D a <;> cases lv i D b <;> decide
    · refine ⟨?_, by simp only [List.mem_cons, List.not_mem_nil, or_false, forall_eq_or_imp, forall_eq]; exact ⟨hx, (up ha).nt, (up hb).nt⟩⟩
      simp only [List.mem_cons, List.not_mem_nil, or_false, exists_eq_or_imp, exists_eq_left, na, nb, hv]
      cases lv i D a <;> cases lv i D b <;> decide
  | xor a b =>
    have hv := lv_xor (i := i) h hj
    obtain ⟨_, ha, hb⟩ := hf
    have na := lv_nt i D a
    have nb := lv_nt i D b
    have nx := lv_nt i D (2 * (j : Int))
    simp only [GK.cls, List.mem_cons, List.not_mem_nil, or_false] at hm
    rcases hm with rfl | rfl | rfl | rfl
    all_goals
      refine ⟨?_, by simp only [List.mem_cons, List.not_mem_nil, or_false, forall_eq_or_imp, forall_eq]; exact ⟨by first | exact hx | exact hx.nt, by first | exact up ha | exact (up ha).nt, by first | exact up hb | exact (up hb).nt⟩⟩
      simp only [List.mem_cons, List.not_mem_nil, or_false, exists_eq_or_imp, exists_eq_left, nx, na, nb, hv]
      cases lv i D a <;> cases lv i D b <;> decide
  | ite c a b =>
    have hv := lv_ite (i := i) h hj
    obtain ⟨_, hc', ha, hb⟩ := hf
    have na := lv_nt i D a
    have nb := lv_nt i D b
    have nc := lv_nt i D c
    have nx := lv_nt i D (2 * (j : Int))
    simp only [GK.cls, List.mem_cons, List.not_mem_nil, or_false] at hm
    rcases hm with rfl | rfl | rfl | rfl | rfl | rfl
    all_goals
      refine ⟨?_, by simp only [List.mem_cons, List.not_mem_nil, or_false, forall_eq_or_imp, forall_eq]; exact ⟨by first | exact up hc' | exact (up hc').nt | exact up ha | exact (up ha).nt, by first | exact up ha | exact (up ha).nt | exact up hb | exact (up hb).nt, by first | exact hx | exact hx.nt⟩⟩
      simp only [List.mem_cons, List.not_mem_nil, or_false, exists_eq_or_imp, exists_eq_left, nx, na, nb, nc, hv]
      cases lv i D c <;> cases lv i D a <;> cases lv i D b <;> decide
end Go.Proofs.Ytnbcglnefoinlaa
namespace Go.Proofs.Ytnbcglnefoinlaa
open Go.Mw
set_option linter.unusedVariables false
set_option linter.unusedSimpArgs false
def knL (K : List Bool) (l : Int) : Bool := K.getD (l / 2).toNat false
theorem knL_nt (K : List Bool) (l : Int) : knL K (nt l) = knL K l := by unfold knL; rw [nt_div]
def Cons (K I B : List Bool) : Prop := ∀ n, K.getD n false = true → I.getD n false = B.getD n false
theorem Cons.lit {K I B : List Bool} (h : Cons K I B) {l : Int} (hl : knL K l = true) : lvl I l = lvl B l := by
  unfold lvl; rw [h _ hl]
def Rest (K I : List Bool) (c : List Int) : Prop := (∃ l ∈ c, knL K l = true ∧ lvl I l = true) ∨ ∃ l ∈ c, ∃ m ∈ c, l ≠ m ∧ knL K l = false ∧ knL K m = false
theorem no_unit {K I : List Bool} {c : List Int} {x : Int} (hx : ∀ l ∈ c, l = x ∨ (knL K l = true ∧ lvl I l = false)) (hu : knL K x = false) (h : Rest K I c) : False := by
  rcases h with ⟨l, h1, h2, h3⟩ | ⟨l, h1, m, h2, h3, h4, h5⟩
  · rcases hx l h1 with rfl | ⟨_, h⟩
    · rw [hu] at h2; cases h2
    · rw [h] at h3; cases h3
  · rcases hx l h1 with rfl | ⟨h, _⟩
    · rcases hx m h2 with rfl | ⟨h, _⟩
      · exact h3 rfl
      · rw [h5] at h; cases h
    · rw [h4] at h; cases h
theorem sat_all {i : Nat → Bool} {D : List GK} {K I : List Bool} (hD : WfD D) (hC : Cons K I (evD i D)) (hin : ∀ n, D[n]? = some .inp → K.getD n false = true) (hs : ∀ c ∈ clsD D, Rest K I c) : ∀ n, n < D.length → K.getD n false = true := by
  intro n
  induction n using Nat.strongRecOn with
  | ind n ih =>
    intro hn
    obtain ⟨k, hk⟩ : ∃ k, D[n]? = some k := ⟨_, List.getElem?_eq_getElem hn⟩
    cases hK : K.getD n false with
    | true => rfl
    | false =>
      have hu : knL K (2 * (n : Int)) = false := by
        unfold knL
        rw [show (2 * (n : Int) / 2).toNat = n by omega]; exact hK
      have hu' : knL K (nt (2 * (n : Int))) = false := by rw [knL_nt]; exact hu
      have known : ∀ {l : Int}, (0 ≤ l ∧ l < 2 * (n : Int)) → knL K l = true ∧ lvl I l = lv i D l ∧ knL K (nt l) = true ∧ lvl I (nt l) = !lv i D l := by
        intro l hl
        have h1 : knL K l = true := ih (l / 2).toNat (by omega) (by omega)
        have h2 := hC.lit h1
        exact ⟨h1, h2, by rw [knL_nt]; exact h1, by rw [lvl_nt, h2]; rfl⟩
      have cl : ∀ c ∈ k.cls (2 * (n : Int)), Rest K I c := fun c hc => hs c (clsD_mem.2 ⟨n, k, hk, hc⟩)
      have hf := hD.fit n k hk
      exfalso
      cases k with
      | tru => exact no_unit (x := 2 * (n : Int)) (fun l hl => .inl (List.mem_singleton.1 hl)) hu (cl [2 * (n : Int)] (by simp [GK.cls]))
      | inp => rw [hin n hk] at hK; cases hK
      | and a b =>
        obtain ⟨_, ha, hb⟩ := hf
        obtain ⟨a1, a2, a3, a4⟩ := known ha
        obtain ⟨b1, b2, b3, b4⟩ := known hb
        cases va : lv i D a with
        | false => exact no_unit (x := nt (2 * (n : Int))) (by simp [a1, a2, va]) hu' (cl [nt (2 * (n : Int)), a] (by simp [GK.cls]))
        | true =>
          cases vb : lv i D b with
          | false => exact no_unit (x := nt (2 * (n : Int))) (by simp [b1, b2, vb]) hu' (cl [nt (2 * (n : Int)), b] (by simp [GK.cls]))
          | true => exact no_unit (x := 2 * (n : Int)) (by simp [a3, a4, va, b3, b4, vb]) hu (cl [2 * (n : Int), nt a, nt b] (by simp [GK.cls]))
      | xor a b =>
        obtain ⟨_, ha, hb⟩ := hf
        obtain ⟨a1, a2, a3, a4⟩ := known ha
        obtain ⟨b1, b2, b3, b4⟩ := known hb
        cases va : lv i D a with
        | false =>
          cases vb : lv i D b with
          | false => exact no_unit (x := nt (2 * (n : Int))) (by simp [a1, a2, va, b1, b2, vb]) hu' (cl [nt (2 * (n : Int)), a, b] (by simp [GK.cls]))
          | true => exact no_unit (x := 2 * (n : Int)) (by simp [a1, a2, va, b3, b4, vb]) hu (cl [2 * (n : Int), a, nt b] (by simp [GK.cls]))
        | true =>
          cases vb : lv i D b with
          | false => exact no_unit (x := 2 * (n : Int)) (by simp [a3, a4, va, b1, b2, vb]) hu (cl [2 * (n : Int), nt a, b] (by simp [GK.cls]))
          | true => exact no_unit (x := nt (2 * (n : Int))) (by simp [a3, a4, va, b3, b4, vb]) hu' (cl [nt (2 * (n : Int)), nt a, nt b] (by simp [GK.cls]))
      | ite c a b =>
        obtain ⟨_, hc, ha, hb⟩ := hf
        obtain ⟨a1, a2, a3, a4⟩ := known ha
        obtain ⟨b1, b2, b3, b4⟩ := known hb
        obtain ⟨c1, c2, c3, c4⟩ := known hc
        cases vc : lv i D c with
        | true =>
          cases va : lv i D a with
          | true => exact no_unit (x := 2 * (n : Int)) (by simp [a3, a4, va, c3, c4, vc]) hu (cl [nt c, nt a, 2 * (n : Int)] (by simp [GK.cls]))
          | false => exact no_unit (x := nt (2 * (n : Int))) (by simp [a1, a2, va, c3, c4, vc]) hu' (cl [nt c, a, nt (2 * (n : Int))] (by simp [GK.cls]))
        | false =>
          cases vb : lv i D b with
          | true => exact no_unit (x := 2 * (n : Int)) (by simp [b3, b4, vb, c1, c2, vc]) hu (cl [c, nt b, 2 * (n : Int)] (by simp [GK.cls]))
          | false => exact no_unit (x := nt (2 * (n : Int))) (by simp [b1, b2, vb, c1, c2, vc]) hu' (cl [c, b, nt (2 * (n : Int))] (by simp [GK.cls]))
def unk (K : List Bool) : Nat := (K.filter (fun b => !b)).length
theorem unk_set : ∀ (K : List Bool) (n : Nat), n < K.length → K.getD n false = false → unk (K.set n true) + 1 = unk K
  | [], n, h, _ => by simp at h
  | b :: K, 0, h, hb => by
    simp only [List.getD_cons_zero] at hb
    subst hb
    simp [unk]
  | b :: K, n + 1, h, hb => by
    simp only [List.getD_cons_succ] at hb
    have := unk_set K n (by simpa using h) hb
    unfold unk at this ⊢
    cases b <;> simp at this ⊢ <;> omega
theorem unk_le (K : List Bool) : unk K ≤ K.length := List.length_filter_le _ _
theorem getD_set {α : Type} (K : List α) (n m : Nat) (x d : α) (hn : n < K.length) : (K.set n x).getD m d = if m = n then x else K.getD m d := by
  rw [List.getD_eq_getElem?_getD, List.getD_eq_getElem?_getD, List.getElem?_set]
  by_cases h : n = m
  · subst h; simp [hn]
  · have h2 : ¬ m = n := fun e => h e.symm
    rw [if_neg h, if_neg h2]
theorem Cons.set {K I B : List Bool} (h : Cons K I B) {l : Int} (hl : 0 ≤ l ∧ l < 2 * (K.length : Int)) (hIK : I.length = K.length) (hv : lvl B l = true) : Cons (K.set (l / 2).toNat true) (I.set (l / 2).toNat (decide (l % 2 = 0))) B := by
  intro n hn
  rw [getD_set _ _ _ _ _ (by omega)] at hn
  rw [getD_set _ _ _ _ _ (by omega)]
  by_cases e : n = (l / 2).toNat
  · rw [if_pos e]
    unfold lvl at hv
    rw [← e] at hv
    by_cases h2 : l % 2 = 1
    · have h3 : ¬ l % 2 = 0 := by omega
      generalize B.getD n false = y at hv ⊢
      simp [h2] at hv
      rw [hv]; simp [h3]
    · have h3 : l % 2 = 0 := by omega
      generalize B.getD n false = y at hv ⊢
      simp [h2] at hv
      rw [hv]; simp [h3]
  · rw [if_neg e] at hn ⊢
    exact h n hn
end Go.Proofs.Ytnbcglnefoinlaa
namespace Go.Proofs.Ytnbcglnefoinlaa
open Go.Mw
set_option linter.unusedVariables false
set_option linter.unusedSimpArgs false
def nvB : List Bool → Nat
  | [] => 0
  | b :: l => b.toNat + 2 * nvB l
theorem nvB_lt : ∀ l : List Bool, nvB l < 2 ^ l.length
  | [] => by simp [nvB]
  | b :: l => by
    have := nvB_lt l
    have e : 2 ^ (b :: l).length = 2 * 2 ^ l.length := by rw [List.length_cons, Nat.pow_succ]; omega
    rw [e]
    simp only [nvB]
    cases b <;> simp <;> omega
theorem nvB_app : ∀ (a b : List Bool), nvB (a ++ b) = nvB a + 2 ^ a.length * nvB b
  | [], b => by simp [nvB]
  | x :: a, b => by
    have e : 2 ^ (x :: a).length = 2 * 2 ^ a.length := by rw [List.length_cons, Nat.pow_succ]; omega
    rw [e, List.cons_append]
    simp only [nvB]
    rw [nvB_app a b, Nat.mul_add, Nat.mul_assoc]
    omega
theorem nvB_take {l : List Bool} {i : Nat} (h : i < l.length) : nvB (l.take (i + 1)) = nvB (l.take i) + 2 ^ i * (l.getD i false).toNat := by
  have : l.take (i + 1) = l.take i ++ [l[i]] := by rw [List.take_add_one, List.getElem?_eq_getElem h]; rfl
  rw [this, nvB_app, List.length_take, Nat.min_eq_left (by omega), List.getD_eq_getElem?_getD, List.getElem?_eq_getElem h]
  simp [nvB]
theorem nvB_bit : ∀ (l : List Bool) (i : Nat), (nvB l).testBit i = l.getD i false
  | [], i => by simp [nvB]
  | b :: l, 0 => by
    simp only [nvB, Nat.testBit_zero, List.getD_cons_zero]
    cases b <;> simp <;> omega
  | b :: l, i + 1 => by
    rw [List.getD_cons_succ, ← nvB_bit l i, Nat.testBit_succ]
    congr 1
    simp only [nvB]
    cases b <;> simp <;> omega
theorem nvB_inj : ∀ {a b : List Bool}, a.length = b.length → nvB a = nvB b → a = b
  | [], [], _, _ => rfl
  | [], y :: b, h, _ => by simp at h
  | x :: a, [], h, _ => by simp at h
  | x :: a, y :: b, h, e => by
    simp only [nvB] at e
    have h1 : x = y := by cases x <;> cases y <;> simp at e ⊢ <;> omega
    subst h1
    rw [nvB_inj (by simpa using h) (show nvB a = nvB b by omega)]
theorem nvB_not : ∀ l : List Bool, nvB (l.map (!·)) + nvB l + 1 = 2 ^ l.length
  | [] => by simp [nvB]
  | b :: l => by
    have := nvB_not l
    have e : 2 ^ (b :: l).length = 2 * 2 ^ l.length := by rw [List.length_cons, Nat.pow_succ]; omega
    rw [e]
    simp only [List.map_cons, nvB]
    cases b <;> simp <;> omega
theorem nvB_zeros (n : Nat) : nvB (List.replicate n false) = 0 := by
  induction n with
  | zero => rfl
  | succ n ih => simp [List.replicate_succ, nvB, ih]
theorem bit_add (a b c : Bool) : ((a != b) != c).toNat + 2 * ((a && b) || ((a != b) && c)).toNat = a.toNat + b.toNat + c.toNat := by cases a <;> cases b <;> cases c <;> rfl
theorem bit_less (a b : Bool) (x y n : Nat) (hx : x < 2 ^ n) (hy : y < 2 ^ n) : decide (x + 2 ^ n * a.toNat < y + 2 ^ n * b.toNat) = if (a != b) then b else decide (x < y) := by
  cases a <;> cases b <;> simp <;> omega
theorem nvB_of (n x : Nat) (hx : x < 2 ^ n) : nvB ((List.range n).map (fun i => x.testBit i)) = x := by
  apply Nat.eq_of_testBit_eq
  intro i
  rw [nvB_bit, List.getD_eq_getElem?_getD, List.getElem?_map]
  by_cases h : i < n
  · rw [List.getElem?_range h]; rfl
  · rw [List.getElem?_eq_none (by simp; omega)]
    symm
    exact Nat.testBit_lt_two_pow (Nat.lt_of_lt_of_le hx (Nat.pow_le_pow_right (by decide) (by omega)))
def rv (i : Nat → Bool) (D : List GK) (r : List Int) : Nat := nvB (r.map (lv i D))
def RF (D : List GK) (r : List Int) : Prop := ∀ l ∈ r, Ft D l
theorem RF.ext {D : List GK} {r : List Int} (E : List GK) (h : RF D r) : RF (D ++ E) r := fun l hl => (h l hl).ext E
theorem rv_ext {i : Nat → Bool} {D : List GK} (E : List GK) {r : List Int} (h : RF D r) : rv i (D ++ E) r = rv i D r := by
  unfold rv
  rw [List.map_congr_left (fun l hl => lv_ext E (h l hl))]
theorem rv_lt (i : Nat → Bool) (D : List GK) (r : List Int) : rv i D r < 2 ^ r.length := by
  have := nvB_lt (r.map (lv i D))
  rwa [List.length_map] at this
theorem rv_take {i : Nat → Bool} {D : List GK} {r : List Int} {k : Nat} (h : k < r.length) : rv i D (r.take (k + 1)) = rv i D (r.take k) + 2 ^ k * (lv i D r[k]).toNat := by
  unfold rv
  rw [List.map_take, nvB_take (by simpa using h), List.map_take]
  congr 3
  rw [List.getD_eq_getElem?_getD, List.getElem?_map, List.getElem?_eq_getElem h]; rfl
theorem rv_app (i : Nat → Bool) (D : List GK) (a b : List Int) : rv i D (a ++ b) = rv i D a + 2 ^ a.length * rv i D b := by
  unfold rv
  rw [List.map_append, nvB_app, List.length_map]
theorem rv_not (i : Nat → Bool) (D : List GK) (r : List Int) : rv i D (r.map nt) + rv i D r + 1 = 2 ^ r.length := by
  have := nvB_not (r.map (lv i D))
  rw [List.length_map] at this
  rw [← this]
  unfold rv
  congr 3
  rw [List.map_map, List.map_map]
  exact List.map_congr_left (fun l _ => lv_nt i D l)
theorem rv_bit (i : Nat → Bool) (D : List GK) (r : List Int) (k : Nat) (h : k < r.length) : (rv i D r).testBit k = lv i D r[k] := by
  unfold rv
  rw [nvB_bit, List.getD_eq_getElem?_getD, List.getElem?_map, List.getElem?_eq_getElem h]; rfl
theorem RF.take {D : List GK} {r : List Int} (h : RF D r) (k : Nat) : RF D (r.take k) := fun l hl => h l (List.mem_of_mem_take hl)
theorem RF.nots {D : List GK} {r : List Int} (h : RF D r) : RF D (r.map nt) := fun l hl => by
  obtain ⟨x, hx, rfl⟩ := List.mem_map.1 hl
  exact (h x hx).nt
def NI (E : List GK) : Prop := ∀ k ∈ E, k ≠ .inp
theorem NI.nil : NI [] := fun k h => by cases h
theorem NI.app {E F : List GK} (h : NI E) (h2 : NI F) : NI (E ++ F) := fun k hk => by
  rcases List.mem_append.1 hk with hk | hk
  · exact h k hk
  · exact h2 k hk
end Go.Proofs.Ytnbcglnefoinlaa
namespace Go.Proofs.Ytnbcglnefoinlaa
open Go.Mw Go.Maps Go.MapKept
set_option linter.unusedVariables false
set_option linter.unusedSimpArgs false
set_option maxRecDepth 100000
attribute [local irreducible] M.val M.unit M.next M.pick M.new M.nilCheck M.load1 M.loadA M.store M.fieldAddr M.indexSl M.indexArr M.slice M.makeSlice M.buildSlice M.len M.lenS M.cap M.append M.extract M.conv M.not M.neg M.bin M.shift M.eqB M.eqNil M.scat M.call M.callv M.gd M.share M.cond M.loop M.draw pureW readW Ret
def sh16 (x0 : Value) (R : Kt) (w : World) : Prop :=
  M.nilCheck x0 (fun t5 w =>
  M.fieldAddr 0 t5 (fun t6 w =>
  M.load1 t6 (fun t7 w =>
  M.shift .shl t7 (Value.int IntKind.u64 1) (fun t8 w =>
  M.nilCheck x0 (fun t10 w =>
  M.fieldAddr 0 t10 (fun t11 w =>
  M.load1 t11 (fun t12 w =>
  M.bin .add t12 (Value.int IntKind.i64 1) (fun t13 w =>
  M.nilCheck x0 (fun t14 w =>
  M.fieldAddr 0 t14 (fun t15 w =>
  M.store 1 t15 t13 (fun _ w =>
  R t8 w) w) w) w) w) w) w) w) w) w) w) w
theorem ok16 (x0 : Value) (R : Kt) (w : World) (h : sh16 x0 R w) : Ret Try.prog 16 #[x0] w R :=
  ret_mk <| calls_of_comp mixed (c := Try.f16.body.getD .skip) (args := [x0]) (rs := [(ResultVar.tmp 2)]) (Ann.seq Ann.text (Ann.seq Ann.text (Ann.seq Ann.text (Ann.seq Ann.text Ann.leaf))))
    Try.func16 (by kernel_rfl) (by kernel_rfl)
    (Eq.mp (by kernel_rfl) h)
def sh84 (x0 x1 : Value) (R : Kt) (w : World) : Prop :=
  M.len x1 (fun t8 w =>
  M.loop [(Value.int IntKind.i64 0)] (fun s1 K1 w => ∀ _ : List Value,
  M.bin .lss (s1.getD 0 undef) t8 (fun t10 w =>
  M.cond t10
  (M.indexSl 1 x1 (s1.getD 0 undef) (fun t11 w =>
  M.load1 t11 (fun t12 w =>
  M.draw (fun w =>
  M.eqNil 0 false x0 (fun t14 w =>
  M.gd t14 false (fun k w => k t12 w) (fun t16 w =>
  M.gd t14 false (fun k w => M.bin .lss t16 (Value.int IntKind.i64 0) k w) (fun t17 w =>
  M.pick t14 (Value.bool true) t17 (fun t18 w =>
  M.gd t18 false (fun k w => k t12 w) (fun t20 w =>
  M.gd t18 false (fun k w => k x0 w) (fun t22 w =>
  M.gd t18 false (fun k w => M.nilCheck t22 k w) (fun t23 w =>
  M.gd t18 false (fun k w => M.fieldAddr 0 t23 k w) (fun t24 w =>
  M.gd t18 false (fun k w => M.load1 t24 k w) (fun t25 w =>
  M.gd t18 false (fun k w => M.call Try.prog 96 #[t20] k w) (fun t21 w =>
  ((M.gd t18 false (fun k w => M.load1 t24 k w) (fun v' _ => v' = t25) w) ∧ M.gd t18 false (fun k w => M.bin .geq t21 t25 k w) (fun t26 w =>
  M.pick t18 (Value.bool true) t26 (fun t27 w =>
  M.cond t27
  (R (Value.bool true) w)
  (M.bin .add (s1.getD 0 undef) (Value.int IntKind.i64 1) (fun t28 w =>
  K1 [t28] w) w)) w) w)) w) w) w) w) w) w) w) w) w) w) w) w) w)
  (R (Value.bool false) w)) w) w) w
theorem ok84 (x0 x1 : Value) (R : Kt) (w : World) (h : sh84 x0 x1 R w) : Ret Try.prog 84 #[x0, x1] w R :=
  ret_mk <| calls_of_comp mixed (c := Try.f84.body.getD .skip) (args := [x0, x1]) (rs := [(ResultVar.tmp 4)]) (Ann.seq Ann.text (Ann.seq (Ann.seq Ann.text (Ann.block (Ann.loop [9] [4, 6, 10, 11, 12, 13, 14, 15, 16, 17, 18, 19, 20, 21, 22, 23, 24, 25, 26, 27, 28] (Ann.seq Ann.text (Ann.seq (Ann.cond Ann.leaf Ann.leaf) (Ann.seq (Ann.block (Ann.seq Ann.text (Ann.seq (Ann.draw (Sch.take 0 (Sch.take 1 (Sch.take 2 (Sch.take 3 (Sch.take 4 (Sch.take 5 (Sch.take 6 (Sch.take 7 (Sch.take 9 (Sch.take 10 (Sch.take 11 (Sch.take 12 (Sch.one 8 (Sch.take 13 (Sch.take 14 Sch.done)))))))))))))))) (Ann.cond (Ann.seq Ann.text Ann.leaf) Ann.leaf)))) Ann.text)))))) (Ann.seq Ann.text Ann.leaf)))
    Try.func84 (by kernel_rfl) (by kernel_rfl)
    (Eq.mp (by kernel_rfl) h)
def sh27 (x0 : Value) (R : Kt) (w : World) : Prop :=
  M.eqNil 0 false x0 (fun t4 w =>
  M.cond t4
  (R (Value.int IntKind.i64 (-1)) w)
  (R (Value.int IntKind.i64 0) w)) w
theorem ok27 (x0 : Value) (R : Kt) (w : World) (h : sh27 x0 R w) : Ret Try.prog 27 #[x0] w R :=
  ret_mk <| calls_of_comp mixed (c := Try.f27.body.getD .skip) (args := [x0]) (rs := [(ResultVar.tmp 2)]) (Ann.seq Ann.text (Ann.seq (Ann.seq Ann.text (Ann.cond (Ann.seq Ann.text Ann.leaf) Ann.leaf)) (Ann.seq Ann.text Ann.leaf)))
    Try.func27 (by kernel_rfl) (by kernel_rfl)
    (Eq.mp (by kernel_rfl) h)
def sh56 (x0 : Value) (R : Kt) (w : World) : Prop :=
  M.eqNil 0 false x0 (fun t4 w =>
  M.cond t4
  (R (Value.int IntKind.i64 (-1)) w)
  (M.call Try.prog 16 #[x0] (fun t6 w =>
  R t6 w) w)) w
theorem ok56 (x0 : Value) (R : Kt) (w : World) (h : sh56 x0 R w) : Ret Try.prog 56 #[x0] w R :=
  ret_mk <| calls_of_comp mixed (c := Try.f56.body.getD .skip) (args := [x0]) (rs := [(ResultVar.tmp 2)]) (Ann.seq Ann.text (Ann.seq (Ann.seq Ann.text (Ann.cond (Ann.seq Ann.text Ann.leaf) Ann.leaf)) (Ann.seq Ann.text Ann.leaf)))
    Try.func56 (by kernel_rfl) (by kernel_rfl)
    (Eq.mp (by kernel_rfl) h)
def sh41 (x0 : Value) (R : Kt) (w : World) : Prop :=
  M.eqNil 0 false x0 (fun t4 w =>
  M.cond t4
  (R (Value.int IntKind.i64 0) w)
  (M.nilCheck x0 (fun t6 w =>
  M.fieldAddr 0 t6 (fun t7 w =>
  M.load1 t7 (fun t8 w =>
  R t8 w) w) w) w)) w
theorem ok41 (x0 : Value) (R : Kt) (w : World) (h : sh41 x0 R w) : Ret Try.prog 41 #[x0] w R :=
  ret_mk <| calls_of_comp mixed (c := Try.f41.body.getD .skip) (args := [x0]) (rs := [(ResultVar.tmp 2)]) (Ann.seq Ann.text (Ann.seq (Ann.seq Ann.text (Ann.cond (Ann.seq Ann.text Ann.leaf) Ann.leaf)) (Ann.seq Ann.text Ann.leaf)))
    Try.func41 (by kernel_rfl) (by kernel_rfl)
    (Eq.mp (by kernel_rfl) h)
def sh98 (x0 x1 : Value) (R : Kt) (w : World) : Prop :=
  M.draw (fun w =>
  M.load1 x1 (fun t3 w =>
  M.load1 x1 (fun t4 w =>
  M.nilCheck t4 (fun t5 w =>
  M.fieldAddr 1 t5 (fun t6 w =>
  M.load1 t6 (fun t7 w =>
  M.buildSlice 23 1 #[.slice none 0 0] 1 [(0, x0)] (fun t9 w =>
  ((M.load1 t6 (fun v' _ => v' = t7) w) ∧ ((M.load1 x1 (fun v' _ => v' = t4) w) ∧ ((M.load1 x1 (fun v' _ => v' = t3) w) ∧ M.append 23 1 24 #[.slice none 0 0] t7 t9 (fun t10 w =>
  ((M.load1 x1 (fun v' _ => v' = t4) w) ∧ ((M.load1 x1 (fun v' _ => v' = t3) w) ∧ M.nilCheck t3 (fun t11 w =>
  M.fieldAddr 1 t11 (fun t12 w =>
  M.store 1 t12 t10 (fun _ w =>
  R (.tuple #[]) w) w) w) w))) w)))) w) w) w) w) w) w) w
theorem ok98 (x0 x1 : Value) (R : Kt) (w : World) (h : sh98 x0 x1 R w) : Ret Try.prog 98 #[x0, x1] w R :=
  ret_mk <| calls_of_comp mixed (c := Try.f98.body.getD .skip) (args := [x0, x1]) (rs := []) (Ann.draw (Sch.take 0 (Sch.take 1 (Sch.take 2 (Sch.take 3 (Sch.take 4 (Sch.take 5 (Sch.one 6 (Sch.one 7 (Sch.take 8 (Sch.take 9 (Sch.one 10 Sch.done))))))))))))
    Try.func98 (by kernel_rfl) (by kernel_rfl)
    (Eq.mp (by kernel_rfl) h)
abbrev K4 := Int × Int × Int × Int
def encK (q : K4) : Value := .agg ⟨[vi q.1, vi q.2.1, vi q.2.2.1, vi q.2.2.2]⟩
def K4.Ok (q : K4) : Prop := I64 q.1 ∧ I64 q.2.1 ∧ I64 q.2.2.1 ∧ I64 q.2.2.2
theorem keyK : KeyE Try.prog 132 encK K4.Ok where
  K := Keyed.of_law (deep_law_laid (by kernel_rfl) (m := 5) (by omega) (Nat.le_of_ble_eq_true (by kernel_rfl)) (by kernel_rfl) (by kernel_rfl))
  inj := fun a b h => by
    obtain ⟨a1, a2, a3, a4⟩ := a
    obtain ⟨b1, b2, b3, b4⟩ := b
    simp only [encK, Value.agg.injEq, Array.mk.injEq, List.cons.injEq, Value.int.injEq, true_and, and_true] at h
    obtain ⟨rfl, rfl, rfl, rfl⟩ := h
    rfl
  ok := fun a h => by
    unfold keyOf
    rw [Try.underlying132]
    simp only
    rw [if_pos (by kernel_rfl)]
    obtain ⟨d, hd⟩ : ∃ d, Try.prog.types.size = d + 1 := by
      have h1 : 1 ≤ Try.prog.types.size := Nat.le_of_ble_eq_true (by kernel_rfl)
      exact ⟨Try.prog.types.size - 1, by omega⟩
    have hc : Try.prog.cellsOf 3 = 1 := by kernel_rfl
    obtain ⟨h1, h2, h3, h4⟩ := h
    have key : ∃ ls, Try.prog.keyLits (Try.prog.types.size + 1) 132 [vi a.1, vi a.2.1, vi a.2.2.1, vi a.2.2.2] = some ls := by
      unfold Program.keyLits
      simp only [Try.underlying132]
      rw [if_pos (by kernel_rfl)]
      simp [hd, hc, List.range_succ, intLit h1, intLit h2, intLit h3, intLit h4]
    obtain ⟨ls, hls⟩ := key
    show ∃ l, Option.map _ (Try.prog.keyLits (Try.prog.types.size + 1) 132 [vi a.1, vi a.2.1, vi a.2.2.1, vi a.2.2.2]) = some l
    rw [hls]
    exact ⟨_, rfl⟩
theorem notOf_nt {l : Int} (h : 0 ≤ l) : notOf l = nt l := by
  unfold notOf nt flip1
  rw [if_neg (by omega)]
theorem shl_one {l : Int} (h0 : 0 ≤ l) (h1 : l ≤ 1000000000) : ishift .shl .i64 l 1 = some (vi (2 * l)) := by
  simp only [ishift]
  rw [if_neg (by omega)]
  have : min (1 : Int).toNat IntKind.i64.bits = 1 := by decide
  rw [this, show l * 2 ^ 1 = 2 * l by omega, wrap_i64 (by omega) (by omega)]
def GaC (w : World) (G : Nat → Prop) (g : Nat) (n : Nat) (cl : List (List Int)) (kv : List (K4 × Value)) : Prop :=
  ∃ cv mb us, Blk w g [vi n, cv, .map (some mb)] ∧ GC w (blkOf cv) 1 cv us.length us ∧ us.length = cl.length ∧ (∀ (k : Nat) c, cl[k]? = some c → ∃ u, us[k]? = some u ∧ LV vi w (fun x => G x ∧ x ≠ g ∧ x ≠ mb ∧ ¬ blkOf cv x) u c) ∧
    MapA encK K4.Ok w mb kv ∧ G g ∧ G mb ∧ g ≠ mb ∧ (∀ x, blkOf cv x → G x ∧ x ≠ g ∧ x ≠ mb) ∧ ∀ x, G x → x < w.heap.size
theorem GaC.keep {w w' : World} {G S : Nat → Prop} {g n : Nat} {cl : List (List Int)} {kv : List (K4 × Value)} (h : GaC w G g n cl kv) (k : Keep w w' S) (hs : ∀ x, G x → ¬ S x) : GaC w' G g n cl kv := by
  obtain ⟨cv, mb, us, h1, h2, h3, h4, h5, h6, h7, h8, h9, h10⟩ := h
  refine ⟨cv, mb, us, h1.keep k (hs _ h6), h2.keep k (fun x _ hx => hs x (h9 x hx).1), h3, fun j c hc => ?_, h5.keep k (hs _ h7), h6, h7, h8, h9, fun x hx => Nat.lt_of_lt_of_le (h10 x hx) k.size⟩
  obtain ⟨u, g1, g2⟩ := h4 j c hc
  exact ⟨u, g1, g2.keep k (fun x _ hx => hs x hx.1)⟩
theorem GaC.keepN {w w' : World} {G : Nat → Prop} {g n : Nat} {cl : List (List Int)} {kv : List (K4 × Value)} (h : GaC w G g n cl kv) (k : Keep w w' No) : GaC w' G g n cl kv := h.keep k (fun _ _ h => h)
section
variable {w : World} {G : Nat → Prop} {g n : Nat} {cl : List (List Int)} {kv : List (K4 × Value)}
theorem bad_ret {D : Nat → Prop} {v : Value} {ls : List Int} (h : GaC w G g n cl kv) (hn : n ≤ 1000000000) (hv : LV vi w D v ls) (hl : ls.length ≤ 1000000) (hf : ∀ l ∈ ls, 0 ≤ l ∧ l < 2 * (n : Int)) :
    Ret Try.prog 84 #[ptr g, v] w (fun r w' => r = .bool false ∧ Keep w w' No) := by
  obtain ⟨A, c, rfl, hr, hc⟩ := hv
  obtain ⟨cv, mb, us, h1, h2, h3, h4, h5, h6, h7, h8, h9, h10⟩ := h
  refine ok84 _ _ _ _ ?_
  unfold sh84
  (repeat (refine ja ?_))
  refine M.loop_i (σ := Nat) (fun i vals w' => vals = [vi i] ∧ i ≤ ls.length ∧ Keep w w' No) (fun i => ls.length - i) 0 ⟨rfl, by omega, Keep.refl _ _⟩ ?_
  rintro i vals w1 K ⟨rfl, hi, k1⟩ hK _
  simp only [List.getD_cons_zero, List.getD_cons_succ]
  by_cases hlt : i < ls.length
  · obtain ⟨x, hx⟩ : ∃ x, ls[i]? = some x := ⟨_, List.getElem?_eq_getElem hlt⟩
    have hfx := hf x (List.mem_of_getElem? hx)
    have b1 := h1.keep k1 (fun h => h)
    have hr1 := hr.keep k1 (fun _ _ _ h => h)
    (repeat (first|refine jo ?_|refine jy ?_))
    refine M.idxLV_i hr1 rfl (by omega) (by omega) (x := x) (by simpa using hx) (fun bb oo hA hcc => ?_)
    have kd := Keep.drew w1 No
    have b1 := b1.keep kd (fun h => h)
    (repeat (first|refine jb ?_|refine jc ?_|refine jd ?_|refine jg ?_|refine jl ?_|refine jt ?_|refine jz ?_|refine jM (by assumption) ?_|refine jN (by assumption) rfl ?_))
    refine M.call_i (var_ret x _) ?_; rintro _ w2 ⟨rfl, k2⟩
    have b2 := b1.keep k2 (fun h => h)
    have hvx : varOf x < n := by unfold varOf; split <;> omega
    refine ⟨?_, ?_⟩
    · (repeat (first|refine jg ?_|refine jN (by assumption) rfl ?_))
      rfl
    (repeat (first|refine jg ?_|refine jl ?_|refine jp ?_|refine jF ?_|refine jK ?_))
    exact hK (i + 1) _ _ (by omega) ⟨by simp, by omega, (k1.trans kd (fun _ _ h => h)).trans k2 (fun _ _ h => h)⟩
  · (repeat (first|refine jp ?_|refine jz ?_))
    exact ⟨trivial, k1⟩
theorem fresh_ret (h : GaC w G g n cl kv) (hn : n ≤ 1000000000) :
    Ret Try.prog 16 #[ptr g] w (fun r w' => r = vi (2 * (n : Int)) ∧ GaC w' G g (n + 1) cl kv ∧ Keep w w' G) := by
  obtain ⟨cv, mb, us, h1, h2, h3, h4, h5, h6, h7, h8, h9, h10⟩ := h
  refine ok16 _ _ _ ?_
  unfold sh16
  (repeat (first|refine jb ?_|refine jc ?_|refine jN (by assumption) rfl ?_))
  refine M.shift_i (shl_one (by omega) (by omega)) ?_
  (repeat (first|refine jb ?_|refine jc ?_|refine jK ?_|refine jN (by assumption) rfl ?_))
  refine M.store_i h1 (by simp) rfl (fun w1 b1 k1 s1 => ?_)
  refine ⟨rfl, ⟨cv, mb, us, b1, h2.keep k1 (fun x _ hx => (h9 x hx).2.1), h3, fun j c hc => ?_, h5.keep k1 (fun e => h8 e.symm), h6, h7, h8, h9, fun x hx => Nat.lt_of_lt_of_le (h10 x hx) k1.size⟩, k1.mono (fun x _ e => by have e : x = g := e; rw [e]; exact h6)⟩
  obtain ⟨u, g1, g2⟩ := h4 j c hc
  exact ⟨u, g1, g2.keep k1 (fun x _ hx => hx.2.1)⟩
theorem add_cl {t6 : Nat} {u : Value} {c : List Int} {Du : Nat → Prop} {kt : Kt} (h : GaC w G g n cl kv) (hb : Blk w t6 [ptr g]) (hn6 : ¬ G t6) (hu : LV vi w Du u c) (hD : ∀ x, Du x → ¬ G x) (hcl : cl.length ≤ 10000000000)
    (hk : ∀ G' w', GaC w' G' g n (cl ++ [c]) kv → (∀ x, G' x → G x ∨ (Du x ∧ x < w.heap.size) ∨ w.heap.size ≤ x) → Keep w w' G → kt (.tuple #[]) w') :
    M.callv Try.prog (.func (.func 98) #[] #[ptr t6]) #[u] kt w := by
  refine M.callv_i (fun a w => rfl) (Q := fun r w' => r = .tuple #[] ∧ ∃ G', GaC w' G' g n (cl ++ [c]) kv ∧ (∀ x, G' x → G x ∨ (Du x ∧ x < w.heap.size) ∨ w.heap.size ≤ x) ∧ Keep w w' G) ?_ ?_
  rotate_left
  · rintro _ w' ⟨rfl, G', h1, h2, h3⟩
    exact hk G' w' h1 h2 h3
  show Ret Try.prog 98 #[u, ptr t6] w _
  obtain ⟨cv, mb, us, h1, h2, h3, h4, h5, h6, h7, h8, h9, h10⟩ := h
  have hu := hu.mono (D' := fun x => Du x ∧ x < w.heap.size) (fun x hx hf => ⟨hf, hx⟩)
  obtain ⟨A, cu, rfl, hr, hc⟩ := id hu
  refine ok98 _ _ _ _ ?_
  unfold sh98
  refine M.draw_i ?_
  have kd := Keep.drew w No
  have q0 := kd.size
  have h1 := h1.keep kd (fun h => h)
  have hb := hb.keep kd (fun h => h)
  have h2 := h2.keep kd (fun _ _ _ h => h)
  (repeat (first|refine jb ?_|refine jc ?_|refine jN (by assumption) rfl ?_))
  refine M.buildSlice_i [.slice A c.length cu] (by kernel_rfl) (fun w1 b1 k1 s1 => ?_)
  have g1 := h1.keep k1 (fun h => h)
  have gb := hb.keep k1 (fun h => h)
  have g2 := h2.keep k1 (fun _ _ _ h => h)
  have kd1 := kd.trans k1 (fun _ _ h => h)
  have q1 := k1.size
  refine ⟨?_, ?_, ?_, ?_⟩
  · (repeat (refine jN (by assumption) rfl ?_))
    rfl
  · (repeat (refine jN (by assumption) rfl ?_))
    rfl
  · (repeat (refine jN (by assumption) rfl ?_))
    rfl
  refine M.append_i g2 (Row.of_blk' (D := fun _ => True) b1 trivial) rfl (by simp; rfl) rfl (by omega) (by omega) (fun cv' w2 e2 k2 => ?_)
  have f1 := g1.keep k2 (fun hx => (h9 g hx).2.1 rfl)
  have fb := gb.keep k2 (fun hx => hn6 (h9 t6 hx).1)
  refine ⟨?_, ?_, ?_⟩
  · (repeat (refine jN (by assumption) rfl ?_))
    rfl
  · (repeat (refine jN (by assumption) rfl ?_))
    rfl
  (repeat (first|refine jb ?_|refine jc ?_))
  refine M.store_i f1 (by simp) (GC.one e2) (fun w3 b3 k3 s3 => ?_)
  have q2 := k2.size
  have q3 := k3.size
  have hg := h10 g h6
  have hm := h10 mb h7
  have hnew : ∀ x, blkOf cv' x → blkOf cv x ∨ w1.heap.size ≤ x := fun x hx => (GC.blkOf e2 hx).1
  have hcw : ∀ x, blkOf cv x → x < w.heap.size := fun x hx => h10 x (h9 x hx).1
  have hne : ∀ x, blkOf cv' x → x ≠ g ∧ x ≠ mb := fun x hx => by
    rcases hnew x hx with hx | hx
    · exact (h9 x hx).2
    · exact ⟨by omega, by omega⟩
  have e3 : GC w3 (blkOf cv') 1 cv' (us ++ [Value.slice A c.length cu]).length (us ++ [Value.slice A c.length cu]) := by
    have := (GC.own e2).keep k3 (fun x _ hx => (hne x hx).1)
    simpa using this
  have hwb : ∀ x, blkOf cv' x → x < w3.heap.size := fun x hx => by
    obtain ⟨_, l, hl⟩ := GC.blkOf e3 hx
    exact hl.lt
  have k02 : Keep w w2 (blkOf cv) := (kd1.mono (fun _ _ h => h.elim)).trans k2 (fun x _ h => h)
  have k03 : Keep w w3 (fun x => blkOf cv x ∨ x = g) := (k02.mono (fun _ _ h => .inl h)).trans k3 (fun x _ h => .inr h)
  refine ⟨rfl, fun x => G x ∨ (Du x ∧ x < w.heap.size) ∨ blkOf cv' x, ⟨cv', mb, us ++ [.slice A c.length cu], b3, e3, by simp [h3], fun j d hd => ?_, h5.keep k03 (fun hx => by rcases hx with hx | hx; exact (h9 _ hx).2.2 rfl; exact h8 hx.symm), .inl h6, .inl h7, h8, fun x hx => ⟨.inr (.inr hx), hne x hx⟩, fun x hx => ?_⟩, fun x hx => ?_, k03.mono (fun x _ hx => by
    rcases hx with hx | hx
    · exact (h9 x hx).1
    · rw [hx]; exact h6)⟩
  · by_cases hj : j < cl.length
    · rw [List.getElem?_append_left hj] at hd
      obtain ⟨y, y1, y2⟩ := h4 j d hd
      refine ⟨y, by rw [List.getElem?_append_left (by omega)]; exact y1, ((y2.mono (D' := fun x => (G x ∧ x ≠ g ∧ x ≠ mb ∧ ¬ blkOf cv x) ∧ x < w.heap.size) (fun x hx h => ⟨h, hx⟩)).keep k03 (fun x _ hx hh => by
        rcases hh with hh | hh
        · exact hx.1.2.2.2 hh
        · exact hx.1.2.1 hh)).mono (fun x _ hx => ⟨.inl hx.1.1, hx.1.2.1, hx.1.2.2.1, fun hh => by
        rcases hnew x hh with hh | hh
        · exact hx.1.2.2.2 hh
        · have := hx.2; omega⟩)⟩
    · rw [List.getElem?_append_right (by omega)] at hd
      have hlt := (List.getElem?_eq_some_iff.1 hd).1
      simp at hlt
      have ej : j = us.length := by omega
      subst ej
      rw [h3] at hd
      simp at hd; subst hd
      refine ⟨.slice A c.length cu, by simp, (hu.keep k03 (fun x _ hx hh => by
        rcases hh with hh | hh
        · exact hD x hx.1 (h9 x hh).1
        · rw [hh] at hx; exact hD g hx.1 h6)).mono (fun x _ hx => ⟨.inr (.inl hx), fun e => hD x hx.1 (by rw [e]; exact h6), fun e => hD x hx.1 (by rw [e]; exact h7), fun hh => by
        rcases hnew x hh with hh | hh
        · exact hD x hx.1 (h9 x hh).1
        · have := hx.2; omega⟩)⟩
  · rcases hx with hx | hx | hx
    · have := h10 x hx; omega
    · have := hx.2; omega
    · exact hwb x hx
  · rcases hx with hx | hx | hx
    · exact .inl hx
    · exact .inr (.inl hx)
    · rcases hnew x hx with hx | hx
      · exact .inl (h9 x hx).1
      · exact .inr (.inr (by omega))
end
end Go.Proofs.Ytnbcglnefoinlaa
namespace Go.Proofs.Ytnbcglnefoinlaa
open Go.Mw Go.Maps Go.MapKept
set_option linter.unusedVariables false
set_option linter.unusedSimpArgs false
set_option maxRecDepth 100000
attribute [local irreducible] M.val M.unit M.next M.pick M.new M.nilCheck M.load1 M.loadA M.store M.fieldAddr M.indexSl M.indexArr M.slice M.makeSlice M.buildSlice M.len M.lenS M.cap M.append M.extract M.conv M.not M.neg M.bin M.shift M.eqB M.eqNil M.scat M.call M.callv M.gd M.share M.cond M.loop M.draw pureW readW Ret
def sh91 (x0 x1 x2 x3 : Value) (R : Kt) (w : World) : Prop :=
  M.draw (fun w =>
  M.load1 x2 (fun t9 w =>
  M.call Try.prog 26 #[x0] (fun t8 w =>
  ((M.load1 x2 (fun v' _ => v' = t9) w) ∧ M.buildSlice 3 1 #[.int .i64 0] 2 [(0, t8), (1, t9)] (fun t10 w =>
  M.callv Try.prog x1 #[t10] (fun t11 w =>
  M.draw (fun w =>
  M.load1 x3 (fun t15 w =>
  M.call Try.prog 26 #[x0] (fun t14 w =>
  ((M.load1 x3 (fun v' _ => v' = t15) w) ∧ M.buildSlice 3 1 #[.int .i64 0] 2 [(0, t14), (1, t15)] (fun t16 w =>
  M.callv Try.prog x1 #[t16] (fun t17 w =>
  M.draw (fun w =>
  M.load1 x2 (fun t20 w =>
  M.load1 x3 (fun t22 w =>
  M.call Try.prog 26 #[t20] (fun t21 w =>
  ((M.load1 x3 (fun v' _ => v' = t22) w) ∧ M.call Try.prog 26 #[t22] (fun t23 w =>
  M.buildSlice 3 1 #[.int .i64 0] 3 [(0, x0), (1, t21), (2, t23)] (fun t24 w =>
  M.callv Try.prog x1 #[t24] (fun t25 w =>
  R (.tuple #[]) w) w) w) w)) w) w) w) w) w) w)) w) w) w) w) w)) w) w) w
theorem ok91 (x0 x1 x2 x3 : Value) (R : Kt) (w : World) (h : sh91 x0 x1 x2 x3 R w) : Ret Try.prog 91 #[x0, x1, x2, x3] w R :=
  ret_mk <| calls_of_comp mixed (c := Try.f91.body.getD .skip) (args := [x0, x1, x2, x3]) (rs := []) (Ann.seq (Ann.draw (Sch.take 0 (Sch.take 1 (Sch.take 3 (Sch.one 2 (Sch.one 4 (Sch.one 5 Sch.done))))))) (Ann.seq (Ann.draw (Sch.take 0 (Sch.take 1 (Sch.take 3 (Sch.one 2 (Sch.one 4 (Sch.one 5 Sch.done))))))) (Ann.draw (Sch.take 0 (Sch.take 1 (Sch.take 2 (Sch.take 4 (Sch.one 3 (Sch.one 5 (Sch.one 6 (Sch.one 7 Sch.done)))))))))))
    Try.func91 (by kernel_rfl) (by kernel_rfl)
    (Eq.mp (by kernel_rfl) h)
def sh92 (x0 x1 x2 x3 : Value) (R : Kt) (w : World) : Prop :=
  M.draw (fun w =>
  M.load1 x2 (fun t9 w =>
  M.load1 x3 (fun t10 w =>
  M.call Try.prog 26 #[x0] (fun t8 w =>
  ((M.load1 x3 (fun v' _ => v' = t10) w) ∧ ((M.load1 x2 (fun v' _ => v' = t9) w) ∧ M.buildSlice 3 1 #[.int .i64 0] 3 [(0, t8), (1, t9), (2, t10)] (fun t11 w =>
  M.callv Try.prog x1 #[t11] (fun t12 w =>
  M.draw (fun w =>
  M.load1 x2 (fun t16 w =>
  M.load1 x3 (fun t18 w =>
  M.call Try.prog 26 #[x0] (fun t15 w =>
  ((M.load1 x3 (fun v' _ => v' = t18) w) ∧ ((M.load1 x2 (fun v' _ => v' = t16) w) ∧ M.call Try.prog 26 #[t16] (fun t17 w =>
  ((M.load1 x3 (fun v' _ => v' = t18) w) ∧ M.call Try.prog 26 #[t18] (fun t19 w =>
  M.buildSlice 3 1 #[.int .i64 0] 3 [(0, t15), (1, t17), (2, t19)] (fun t20 w =>
  M.callv Try.prog x1 #[t20] (fun t21 w =>
  M.draw (fun w =>
  M.load1 x2 (fun t24 w =>
  M.load1 x3 (fun t26 w =>
  M.call Try.prog 26 #[t24] (fun t25 w =>
  ((M.load1 x3 (fun v' _ => v' = t26) w) ∧ M.buildSlice 3 1 #[.int .i64 0] 3 [(0, x0), (1, t25), (2, t26)] (fun t27 w =>
  M.callv Try.prog x1 #[t27] (fun t28 w =>
  M.draw (fun w =>
  M.load1 x2 (fun t31 w =>
  M.load1 x3 (fun t32 w =>
  M.call Try.prog 26 #[t32] (fun t33 w =>
  ((M.load1 x2 (fun v' _ => v' = t31) w) ∧ M.buildSlice 3 1 #[.int .i64 0] 3 [(0, x0), (1, t31), (2, t33)] (fun t34 w =>
  M.callv Try.prog x1 #[t34] (fun t35 w =>
  R (.tuple #[]) w) w) w)) w) w) w) w) w) w)) w) w) w) w) w) w) w)) w))) w) w) w) w) w) w))) w) w) w) w
theorem ok92 (x0 x1 x2 x3 : Value) (R : Kt) (w : World) (h : sh92 x0 x1 x2 x3 R w) : Ret Try.prog 92 #[x0, x1, x2, x3] w R :=
  ret_mk <| calls_of_comp mixed (c := Try.f92.body.getD .skip) (args := [x0, x1, x2, x3]) (rs := []) (Ann.seq (Ann.draw (Sch.take 0 (Sch.take 1 (Sch.take 3 (Sch.take 4 (Sch.one 2 (Sch.one 5 (Sch.one 6 Sch.done)))))))) (Ann.seq (Ann.draw (Sch.take 0 (Sch.take 1 (Sch.take 3 (Sch.take 5 (Sch.one 2 (Sch.one 4 (Sch.one 6 (Sch.one 7 (Sch.one 8 Sch.done)))))))))) (Ann.seq (Ann.draw (Sch.take 0 (Sch.take 1 (Sch.take 2 (Sch.take 4 (Sch.one 3 (Sch.one 5 (Sch.one 6 Sch.done)))))))) (Ann.draw (Sch.take 0 (Sch.take 1 (Sch.take 2 (Sch.take 3 (Sch.one 4 (Sch.one 5 (Sch.one 6 Sch.done)))))))))))
    Try.func92 (by kernel_rfl) (by kernel_rfl)
    (Eq.mp (by kernel_rfl) h)
def sh87 (x0 x1 x2 x3 x4 : Value) (R : Kt) (w : World) : Prop :=
  M.draw (fun w =>
  M.load1 x2 (fun t8 w =>
  M.load1 x3 (fun t10 w =>
  M.call Try.prog 26 #[t8] (fun t9 w =>
  ((M.load1 x3 (fun v' _ => v' = t10) w) ∧ M.call Try.prog 26 #[t10] (fun t11 w =>
  M.buildSlice 3 1 #[.int .i64 0] 3 [(0, t9), (1, t11), (2, x0)] (fun t13 w =>
  M.callv Try.prog x1 #[t13] (fun t14 w =>
  M.draw (fun w =>
  M.load1 x2 (fun t16 w =>
  M.load1 x3 (fun t18 w =>
  M.call Try.prog 26 #[t16] (fun t17 w =>
  ((M.load1 x3 (fun v' _ => v' = t18) w) ∧ M.call Try.prog 26 #[x0] (fun t20 w =>
  ((M.load1 x3 (fun v' _ => v' = t18) w) ∧ M.buildSlice 3 1 #[.int .i64 0] 3 [(0, t17), (1, t18), (2, t20)] (fun t21 w =>
  M.callv Try.prog x1 #[t21] (fun t22 w =>
  M.draw (fun w =>
  M.load1 x2 (fun t24 w =>
  M.load1 x4 (fun t25 w =>
  M.call Try.prog 26 #[t25] (fun t26 w =>
  ((M.load1 x2 (fun v' _ => v' = t24) w) ∧ M.buildSlice 3 1 #[.int .i64 0] 3 [(0, t24), (1, t26), (2, x0)] (fun t28 w =>
  M.callv Try.prog x1 #[t28] (fun t29 w =>
  M.draw (fun w =>
  M.load1 x2 (fun t31 w =>
  M.load1 x4 (fun t32 w =>
  M.call Try.prog 26 #[x0] (fun t34 w =>
  ((M.load1 x4 (fun v' _ => v' = t32) w) ∧ ((M.load1 x2 (fun v' _ => v' = t31) w) ∧ M.buildSlice 3 1 #[.int .i64 0] 3 [(0, t31), (1, t32), (2, t34)] (fun t35 w =>
  M.callv Try.prog x1 #[t35] (fun t36 w =>
  M.draw (fun w =>
  M.load1 x3 (fun t38 w =>
  M.load1 x4 (fun t40 w =>
  M.call Try.prog 26 #[t38] (fun t39 w =>
  ((M.load1 x4 (fun v' _ => v' = t40) w) ∧ M.call Try.prog 26 #[t40] (fun t41 w =>
  M.buildSlice 3 1 #[.int .i64 0] 3 [(0, t39), (1, t41), (2, x0)] (fun t43 w =>
  M.callv Try.prog x1 #[t43] (fun t44 w =>
  M.draw (fun w =>
  M.load1 x3 (fun t46 w =>
  M.load1 x4 (fun t47 w =>
  M.call Try.prog 26 #[x0] (fun t49 w =>
  ((M.load1 x4 (fun v' _ => v' = t47) w) ∧ ((M.load1 x3 (fun v' _ => v' = t46) w) ∧ M.buildSlice 3 1 #[.int .i64 0] 3 [(0, t46), (1, t47), (2, t49)] (fun t50 w =>
  M.callv Try.prog x1 #[t50] (fun t51 w =>
  R (.tuple #[]) w) w) w))) w) w) w) w) w) w) w)) w) w) w) w) w) w))) w) w) w) w) w) w)) w) w) w) w) w) w)) w)) w) w) w) w) w) w) w)) w) w) w) w
theorem ok87 (x0 x1 x2 x3 x4 : Value) (R : Kt) (w : World) (h : sh87 x0 x1 x2 x3 x4 R w) : Ret Try.prog 87 #[x0, x1, x2, x3, x4] w R :=
  ret_mk <| calls_of_comp mixed (c := Try.f87.body.getD .skip) (args := [x0, x1, x2, x3, x4]) (rs := []) (Ann.seq (Ann.draw (Sch.take 0 (Sch.take 1 (Sch.take 3 (Sch.take 5 (Sch.one 2 (Sch.one 4 (Sch.one 6 (Sch.one 7 Sch.done))))))))) (Ann.seq (Ann.draw (Sch.take 0 (Sch.take 1 (Sch.take 3 (Sch.take 4 (Sch.one 2 (Sch.one 5 (Sch.one 6 (Sch.one 7 Sch.done))))))))) (Ann.seq (Ann.draw (Sch.take 0 (Sch.take 1 (Sch.take 2 (Sch.take 4 (Sch.one 3 (Sch.one 5 (Sch.one 6 Sch.done)))))))) (Ann.seq (Ann.draw (Sch.take 0 (Sch.take 1 (Sch.take 2 (Sch.take 3 (Sch.one 4 (Sch.one 5 (Sch.one 6 Sch.done)))))))) (Ann.seq (Ann.draw (Sch.take 0 (Sch.take 1 (Sch.take 3 (Sch.take 5 (Sch.one 2 (Sch.one 4 (Sch.one 6 (Sch.one 7 Sch.done))))))))) (Ann.draw (Sch.take 0 (Sch.take 1 (Sch.take 2 (Sch.take 3 (Sch.one 4 (Sch.one 5 (Sch.one 6 Sch.done)))))))))))))
    Try.func87 (by kernel_rfl) (by kernel_rfl)
    (Eq.mp (by kernel_rfl) h)
def sh86 (x0 x1 x2 x3 x4 x5 : Value) (R : Kt) (w : World) : Prop :=
  M.new 30 (Value.cells x0) (fun t6 w =>
  pureW Try.prog (Instr.build 132 #[(0, x1), (1, x2), (2, x3), (3, x4)]) (fun t21 w =>
  M.new 132 #[.int .i64 0, .int .i64 0, .int .i64 0, .int .i64 0] (fun t13 w =>
  M.store 4 t13 t21 (fun _ w =>
  M.draw (fun w =>
  M.load1 t6 (fun t23 w =>
  M.nilCheck t23 (fun t24 w =>
  M.fieldAddr 2 t24 (fun t25 w =>
  M.load1 t25 (fun t26 w =>
  M.loadA 4 t13 (fun t27 w =>
  readW Try.prog (Instr.lookup 47 t26 t27 true) (fun t28 w =>
  M.extract 0 t28 (fun t29 w =>
  M.extract 1 t28 (fun t30 w =>
  M.cond t30
  (R t29 w)
  (M.load1 t6 (fun t33 w =>
  M.call Try.prog 16 #[t33] (fun t34 w =>
  M.draw (fun w =>
  M.load1 t6 (fun t35 w =>
  M.nilCheck t35 (fun t36 w =>
  M.fieldAddr 2 t36 (fun t37 w =>
  M.load1 t37 (fun t38 w =>
  M.loadA 4 t13 (fun t39 w =>
  M.unit Try.prog (Instr.mapUpdate 47 t38 t39 t34) (fun _ w =>
  M.callv Try.prog x5 #[t34, (.func (Fn.func 98) #[] #[t6])] (fun t44 w =>
  R t34 w) w) w) w) w) w) w) w) w) w) w)) w) w) w) w) w) w) w) w) w) w) w) w) w
theorem ok86 (x0 x1 x2 x3 x4 x5 : Value) (R : Kt) (w : World) (h : sh86 x0 x1 x2 x3 x4 x5 R w) : Ret Try.prog 86 #[x0, x1, x2, x3, x4, x5] w R :=
  ret_mk <| calls_of_comp mixed (c := Try.f86.body.getD .skip) (args := [x0, x1, x2, x3, x4, x5]) (rs := [(ResultVar.tmp 12)]) (Ann.seq Ann.text (Ann.seq Ann.text (Ann.seq (Ann.seq (Ann.draw (Sch.take 0 (Sch.take 1 (Sch.take 2 (Sch.take 3 (Sch.take 4 (Sch.take 5 (Sch.take 6 (Sch.take 7 (Sch.take 8 (Sch.take 9 (Sch.take 10 Sch.done)))))))))))) (Ann.seq Ann.text (Ann.cond (Ann.seq Ann.text Ann.leaf) Ann.leaf))) (Ann.seq Ann.text (Ann.seq (Ann.draw (Sch.take 0 (Sch.take 1 (Sch.take 2 (Sch.take 3 (Sch.take 4 (Sch.take 5 (Sch.one 6 Sch.done)))))))) (Ann.seq Ann.text (Ann.seq Ann.text Ann.leaf)))))))
    Try.func86 (by kernel_rfl) (by kernel_rfl)
    (Eq.mp (by kernel_rfl) h)
theorem ntr_ret {l : Int} (h0 : 0 ≤ l) (h1 : l ≤ 10000000000) (w : World) : Ret Try.prog 26 #[vi l] w (fun r w' => r = vi (nt l) ∧ Keep w w' No) := by
  have := not_ret (l := l) ⟨by omega, by omega⟩ w
  rwa [notOf_nt h0] at this
structure CS (w0 : World) (G0 : Nat → Prop) (w : World) (G : Nat → Prop) (g n : Nat) (cl : List (List Int)) (kv : List (K4 × Value)) (t6 : Nat) : Prop where
  ga : GaC w G g n cl kv
  b6 : Blk w t6 [ptr g]
  n6 : ¬ G t6
  lt : t6 < w0.heap.size
  sub : ∀ y, y < w0.heap.size → G y → G0 y
  keep : Keep w0 w G0
section
variable {w0 w : World} {G0 G : Nat → Prop} {g n : Nat} {cl : List (List Int)} {kv : List (K4 × Value)} {t6 : Nat}
theorem CS.keepN {w' : World} (h : CS w0 G0 w G g n cl kv t6) (k : Keep w w' No) : CS w0 G0 w' G g n cl kv t6 :=
  ⟨h.ga.keepN k, h.b6.keep k (fun h => h), h.n6, h.lt, h.sub, h.keep.trans k (fun _ _ h => h.elim)⟩
theorem add_ls {m : Nat} {parts : List (Nat × Value)} {kt : Kt} (s : CS w0 G0 w G g n cl kv t6) (ls : List Int) (hf : Instr.fill (fun i => some (i * 1, 1)) (mkCells #[.int .i64 0] (m * 1)) parts = some ⟨ls.map vi⟩) (hm : m = ls.length) (hcl : cl.length ≤ 10000000000)
    (hk : ∀ G' w', CS w0 G0 w' G' g n (cl ++ [ls]) kv t6 → kt (.tuple #[]) w') :
    M.buildSlice 3 1 #[.int .i64 0] m parts (fun t w => M.callv Try.prog (.func (.func 98) #[] #[ptr t6]) #[t] kt w) w := by
  refine M.buildSlice_i (ls.map vi) hf (fun w1 b1 k1 s1 => ?_)
  have s1' := s.keepN k1
  have hsz := s.keep.size
  subst hm
  have hlt : ∀ x, G x → x < w.heap.size := by
    obtain ⟨_, _, _, _, _, _, _, _, _, _, _, _, h⟩ := s.ga
    exact h
  refine add_cl (Du := (· = w.heap.size)) (c := ls) s1'.ga s1'.b6 s1'.n6 ⟨_, _, rfl, Row.of_blk' b1 rfl, Nat.le_refl _⟩ (fun x e hG => by have := hlt x hG; omega) hcl (fun G' w' h1 h2 h3 => ?_)
  refine hk G' w' ⟨h1, s1'.b6.keep h3 s1'.n6, fun hx => ?_, s.lt, fun y hy hx => ?_, s1'.keep.trans h3 (fun x hx hG => s.sub x hx hG)⟩
  · rcases h2 _ hx with hx | hx | hx
    · exact s.n6 hx
    · have := s.lt; omega
    · have := s.lt; omega
  · rcases h2 _ hx with hx | hx | hx
    · exact s.sub y hy hx
    · omega
    · omega
def ClsF (fn : Value) (w0 : World) (G0 : Nat → Prop) (g : Nat) (k : GK) : Prop :=
  ∀ (w w1 : World) (G : Nat → Prop) (n : Nat) (cl : List (List Int)) (kv : List (K4 × Value)) (t6 : Nat) (x : Int) (kt : Kt), Keep w0 w G0 → (∀ y, y < w0.heap.size → G y → G0 y) → CS w G w G g n cl kv t6 → (0 ≤ x ∧ x ≤ 10000000000) → cl.length ≤ 1000000000 →
    (∀ G' w', CS w G w' G' g n (cl ++ k.cls x) kv t6 → kt (.tuple #[]) w') → M.callv Try.prog fn #[vi x, .func (.func 98) #[] #[ptr t6]] kt w
theorem and_cls {t4 t5 : Nat} {a b : Int} (b4 : Blk w0 t4 [vi a]) (b5 : Blk w0 t5 [vi b]) (n4 : ¬ G0 t4) (n5 : ¬ G0 t5) (ha : 0 ≤ a ∧ a ≤ 10000000000) (hb : 0 ≤ b ∧ b ≤ 10000000000) :
    ClsF (.func (.func 91) #[] #[ptr t4, ptr t5]) w0 G0 g (.and a b) := by
  rintro w w1 G n cl kv t6 x kt k0 hsub s ⟨hx, hx2⟩ hcl hk
  obtain ⟨ha, ha2⟩ := ha
  obtain ⟨hb, hb2⟩ := hb
  have l4 := b4.lt
  have c4 := b4.keep k0 n4
  have m4 : ¬ G t4 := fun h => n4 (hsub _ l4 h)
  have l5 := b5.lt
  have c5 := b5.keep k0 n5
  have m5 : ¬ G t5 := fun h => n5 (hsub _ l5 h)
  refine M.callv_i (fun a w => rfl) (Q := fun r w' => r = .tuple #[] ∧ ∃ G', CS w G w' G' g n (cl ++ (GK.and a b).cls x) kv t6) ?_ ?_
  rotate_left
  · rintro _ w' ⟨rfl, G', h1⟩
    exact hk G' w' h1
  show Ret Try.prog 91 #[vi x, .func (.func 98) #[] #[ptr t6], ptr t4, ptr t5] w _
  refine ok91 _ _ _ _ _ _ ?_
  unfold sh91
  have s1 := s.keepN (Keep.drew _ _)
  have d4 := c4.keep s1.keep m4
  have d5 := c5.keep s1.keep m5
  (repeat (first|refine jd ?_|refine jN (by assumption) rfl ?_))
  refine M.call_i (ntr_ret hx hx2 _) ?_; rintro _ w3 ⟨rfl, k2⟩
  have s2 := s1.keepN k2
  have d4 := c4.keep s2.keep m4
  have d5 := c5.keep s2.keep m5
  refine ⟨by
    (repeat (refine jN (by assumption) rfl ?_))
    rfl, ?_⟩
  refine add_ls s2 [nt x, a] (by kernel_rfl) rfl (by first | omega | (simp; omega)) (fun G3 w4 s3 => ?_)
  have s4 := s3.keepN (Keep.drew _ _)
  have d4 := c4.keep s4.keep m4
  have d5 := c5.keep s4.keep m5
  (repeat (first|refine jd ?_|refine jN (by assumption) rfl ?_))
  refine M.call_i (ntr_ret hx hx2 _) ?_; rintro _ w6 ⟨rfl, k5⟩
  have s5 := s4.keepN k5
  have d4 := c4.keep s5.keep m4
  have d5 := c5.keep s5.keep m5
  refine ⟨by
    (repeat (refine jN (by assumption) rfl ?_))
    rfl, ?_⟩
  refine add_ls s5 [nt x, b] (by kernel_rfl) rfl (by first | omega | (simp; omega)) (fun G6 w7 s6 => ?_)
  have s7 := s6.keepN (Keep.drew _ _)
  have d4 := c4.keep s7.keep m4
  have d5 := c5.keep s7.keep m5
  (repeat (first|refine jd ?_|refine jN (by assumption) rfl ?_))
  refine M.call_i (ntr_ret ha ha2 _) ?_; rintro _ w9 ⟨rfl, k8⟩
  have s8 := s7.keepN k8
  have d4 := c4.keep s8.keep m4
  have d5 := c5.keep s8.keep m5
  refine ⟨by
    (repeat (refine jN (by assumption) rfl ?_))
    rfl, ?_⟩
  refine M.call_i (ntr_ret hb hb2 _) ?_; rintro _ w10 ⟨rfl, k9⟩
  have s9 := s8.keepN k9
  have d4 := c4.keep s9.keep m4
  have d5 := c5.keep s9.keep m5
  refine add_ls s9 [x, nt a, nt b] (by kernel_rfl) rfl (by first | omega | (simp; omega)) (fun G10 w11 s10 => ?_)
  refine ⟨rfl, G10, ?_⟩
  have e : cl ++ (GK.and a b).cls x = cl ++ [[nt x, a]] ++ [[nt x, b]] ++ [[x, nt a, nt b]] := by simp [GK.cls]
  rw [e]
  exact s10
theorem xor_cls {t4 t5 : Nat} {a b : Int} (b4 : Blk w0 t4 [vi a]) (b5 : Blk w0 t5 [vi b]) (n4 : ¬ G0 t4) (n5 : ¬ G0 t5) (ha : 0 ≤ a ∧ a ≤ 10000000000) (hb : 0 ≤ b ∧ b ≤ 10000000000) :
    ClsF (.func (.func 92) #[] #[ptr t4, ptr t5]) w0 G0 g (.xor a b) := by
  rintro w w1 G n cl kv t6 x kt k0 hsub s ⟨hx, hx2⟩ hcl hk
  obtain ⟨ha, ha2⟩ := ha
  obtain ⟨hb, hb2⟩ := hb
  have l4 := b4.lt
  have c4 := b4.keep k0 n4
  have m4 : ¬ G t4 := fun h => n4 (hsub _ l4 h)
  have l5 := b5.lt
  have c5 := b5.keep k0 n5
  have m5 : ¬ G t5 := fun h => n5 (hsub _ l5 h)
  refine M.callv_i (fun a w => rfl) (Q := fun r w' => r = .tuple #[] ∧ ∃ G', CS w G w' G' g n (cl ++ (GK.xor a b).cls x) kv t6) ?_ ?_
  rotate_left
  · rintro _ w' ⟨rfl, G', h1⟩
    exact hk G' w' h1
  show Ret Try.prog 92 #[vi x, .func (.func 98) #[] #[ptr t6], ptr t4, ptr t5] w _
  refine ok92 _ _ _ _ _ _ ?_
  unfold sh92
  have s1 := s.keepN (Keep.drew _ _)
  have d4 := c4.keep s1.keep m4
  have d5 := c5.keep s1.keep m5
  (repeat (first|refine jd ?_|refine jN (by assumption) rfl ?_))
  refine M.call_i (ntr_ret hx hx2 _) ?_; rintro _ w3 ⟨rfl, k2⟩
  have s2 := s1.keepN k2
  have d4 := c4.keep s2.keep m4
  have d5 := c5.keep s2.keep m5
  refine ⟨by
    (repeat (refine jN (by assumption) rfl ?_))
    rfl, ?_⟩
  refine ⟨by
    (repeat (refine jN (by assumption) rfl ?_))
    rfl, ?_⟩
  refine add_ls s2 [nt x, a, b] (by kernel_rfl) rfl (by first | omega | (simp; omega)) (fun G3 w4 s3 => ?_)
  have s4 := s3.keepN (Keep.drew _ _)
  have d4 := c4.keep s4.keep m4
  have d5 := c5.keep s4.keep m5
  (repeat (first|refine jd ?_|refine jN (by assumption) rfl ?_))
  refine M.call_i (ntr_ret hx hx2 _) ?_; rintro _ w6 ⟨rfl, k5⟩
  have s5 := s4.keepN k5
  have d4 := c4.keep s5.keep m4
  have d5 := c5.keep s5.keep m5
  refine ⟨by
    (repeat (refine jN (by assumption) rfl ?_))
    rfl, ?_⟩
  refine ⟨by
    (repeat (refine jN (by assumption) rfl ?_))
    rfl, ?_⟩
  refine M.call_i (ntr_ret ha ha2 _) ?_; rintro _ w7 ⟨rfl, k6⟩
  have s6 := s5.keepN k6
  have d4 := c4.keep s6.keep m4
  have d5 := c5.keep s6.keep m5
  refine ⟨by
    (repeat (refine jN (by assumption) rfl ?_))
    rfl, ?_⟩
  refine M.call_i (ntr_ret hb hb2 _) ?_; rintro _ w8 ⟨rfl, k7⟩
  have s7 := s6.keepN k7
  have d4 := c4.keep s7.keep m4
  have d5 := c5.keep s7.keep m5
  refine add_ls s7 [nt x, nt a, nt b] (by kernel_rfl) rfl (by first | omega | (simp; omega)) (fun G8 w9 s8 => ?_)
  have s9 := s8.keepN (Keep.drew _ _)
  have d4 := c4.keep s9.keep m4
  have d5 := c5.keep s9.keep m5
  (repeat (first|refine jd ?_|refine jN (by assumption) rfl ?_))
  refine M.call_i (ntr_ret ha ha2 _) ?_; rintro _ w11 ⟨rfl, k10⟩
  have s10 := s9.keepN k10
  have d4 := c4.keep s10.keep m4
  have d5 := c5.keep s10.keep m5
  refine ⟨by
    (repeat (refine jN (by assumption) rfl ?_))
    rfl, ?_⟩
  refine add_ls s10 [x, nt a, b] (by kernel_rfl) rfl (by first | omega | (simp; omega)) (fun G11 w12 s11 => ?_)
  have s12 := s11.keepN (Keep.drew _ _)
  have d4 := c4.keep s12.keep m4
  have d5 := c5.keep s12.keep m5
  (repeat (first|refine jd ?_|refine jN (by assumption) rfl ?_))
  refine M.call_i (ntr_ret hb hb2 _) ?_; rintro _ w14 ⟨rfl, k13⟩
  have s13 := s12.keepN k13
  have d4 := c4.keep s13.keep m4
  have d5 := c5.keep s13.keep m5
  refine ⟨by
    (repeat (refine jN (by assumption) rfl ?_))
    rfl, ?_⟩
  refine add_ls s13 [x, a, nt b] (by kernel_rfl) rfl (by first | omega | (simp; omega)) (fun G14 w15 s14 => ?_)
  refine ⟨rfl, G14, ?_⟩
  have e : cl ++ (GK.xor a b).cls x = cl ++ [[nt x, a, b]] ++ [[nt x, nt a, nt b]] ++ [[x, nt a, b]] ++ [[x, a, nt b]] := by simp [GK.cls]
  rw [e]
  exact s14
theorem ite_cls {t3 t4 t5 : Nat} {c a b : Int} (b3 : Blk w0 t3 [vi c]) (b4 : Blk w0 t4 [vi a]) (b5 : Blk w0 t5 [vi b]) (n3 : ¬ G0 t3) (n4 : ¬ G0 t4) (n5 : ¬ G0 t5) (hc : 0 ≤ c ∧ c ≤ 10000000000) (ha : 0 ≤ a ∧ a ≤ 10000000000) (hb : 0 ≤ b ∧ b ≤ 10000000000) :
    ClsF (.func (.func 87) #[] #[ptr t3, ptr t4, ptr t5]) w0 G0 g (.ite c a b) := by
  rintro w w1 G n cl kv t6 x kt k0 hsub s ⟨hx, hx2⟩ hcl hk
  obtain ⟨hc, hc2⟩ := hc
  obtain ⟨ha, ha2⟩ := ha
  obtain ⟨hb, hb2⟩ := hb
  have l3 := b3.lt
  have c3 := b3.keep k0 n3
  have m3 : ¬ G t3 := fun h => n3 (hsub _ l3 h)
  have l4 := b4.lt
  have c4 := b4.keep k0 n4
  have m4 : ¬ G t4 := fun h => n4 (hsub _ l4 h)
  have l5 := b5.lt
  have c5 := b5.keep k0 n5
  have m5 : ¬ G t5 := fun h => n5 (hsub _ l5 h)
  refine M.callv_i (fun a w => rfl) (Q := fun r w' => r = .tuple #[] ∧ ∃ G', CS w G w' G' g n (cl ++ (GK.ite c a b).cls x) kv t6) ?_ ?_
  rotate_left
  · rintro _ w' ⟨rfl, G', h1⟩
    exact hk G' w' h1
  show Ret Try.prog 87 #[vi x, .func (.func 98) #[] #[ptr t6], ptr t3, ptr t4, ptr t5] w _
  refine ok87 _ _ _ _ _ _ _ ?_
  unfold sh87
  have s1 := s.keepN (Keep.drew _ _)
  have d3 := c3.keep s1.keep m3
  have d4 := c4.keep s1.keep m4
  have d5 := c5.keep s1.keep m5
  (repeat (first|refine jd ?_|refine jN (by assumption) rfl ?_))
  refine M.call_i (ntr_ret hc hc2 _) ?_; rintro _ w3 ⟨rfl, k2⟩
  have s2 := s1.keepN k2
  have d3 := c3.keep s2.keep m3
  have d4 := c4.keep s2.keep m4
  have d5 := c5.keep s2.keep m5
  refine ⟨by
    (repeat (refine jN (by assumption) rfl ?_))
    rfl, ?_⟩
  refine M.call_i (ntr_ret ha ha2 _) ?_; rintro _ w4 ⟨rfl, k3⟩
  have s3 := s2.keepN k3
  have d3 := c3.keep s3.keep m3
  have d4 := c4.keep s3.keep m4
  have d5 := c5.keep s3.keep m5
  refine add_ls s3 [nt c, nt a, x] (by kernel_rfl) rfl (by first | omega | (simp; omega)) (fun G4 w5 s4 => ?_)
  have s5 := s4.keepN (Keep.drew _ _)
  have d3 := c3.keep s5.keep m3
  have d4 := c4.keep s5.keep m4
  have d5 := c5.keep s5.keep m5
  (repeat (first|refine jd ?_|refine jN (by assumption) rfl ?_))
  refine M.call_i (ntr_ret hc hc2 _) ?_; rintro _ w7 ⟨rfl, k6⟩
  have s6 := s5.keepN k6
  have d3 := c3.keep s6.keep m3
  have d4 := c4.keep s6.keep m4
  have d5 := c5.keep s6.keep m5
  refine ⟨by
    (repeat (refine jN (by assumption) rfl ?_))
    rfl, ?_⟩
  refine M.call_i (ntr_ret hx hx2 _) ?_; rintro _ w8 ⟨rfl, k7⟩
  have s7 := s6.keepN k7
  have d3 := c3.keep s7.keep m3
  have d4 := c4.keep s7.keep m4
  have d5 := c5.keep s7.keep m5
  refine ⟨by
    (repeat (refine jN (by assumption) rfl ?_))
    rfl, ?_⟩
  refine add_ls s7 [nt c, a, nt x] (by kernel_rfl) rfl (by first | omega | (simp; omega)) (fun G8 w9 s8 => ?_)
  have s9 := s8.keepN (Keep.drew _ _)
  have d3 := c3.keep s9.keep m3
  have d4 := c4.keep s9.keep m4
  have d5 := c5.keep s9.keep m5
  (repeat (first|refine jd ?_|refine jN (by assumption) rfl ?_))
  refine M.call_i (ntr_ret hb hb2 _) ?_; rintro _ w11 ⟨rfl, k10⟩
  have s10 := s9.keepN k10
  have d3 := c3.keep s10.keep m3
  have d4 := c4.keep s10.keep m4
  have d5 := c5.keep s10.keep m5
  refine ⟨by
    (repeat (refine jN (by assumption) rfl ?_))
    rfl, ?_⟩
  refine add_ls s10 [c, nt b, x] (by kernel_rfl) rfl (by first | omega | (simp; omega)) (fun G11 w12 s11 => ?_)
  have s12 := s11.keepN (Keep.drew _ _)
  have d3 := c3.keep s12.keep m3
  have d4 := c4.keep s12.keep m4
  have d5 := c5.keep s12.keep m5
  (repeat (first|refine jd ?_|refine jN (by assumption) rfl ?_))
  refine M.call_i (ntr_ret hx hx2 _) ?_; rintro _ w14 ⟨rfl, k13⟩
  have s13 := s12.keepN k13
  have d3 := c3.keep s13.keep m3
  have d4 := c4.keep s13.keep m4
  have d5 := c5.keep s13.keep m5
  refine ⟨by
    (repeat (refine jN (by assumption) rfl ?_))
    rfl, ?_⟩
  refine ⟨by
    (repeat (refine jN (by assumption) rfl ?_))
    rfl, ?_⟩
  refine add_ls s13 [c, b, nt x] (by kernel_rfl) rfl (by first | omega | (simp; omega)) (fun G14 w15 s14 => ?_)
  have s15 := s14.keepN (Keep.drew _ _)
  have d3 := c3.keep s15.keep m3
  have d4 := c4.keep s15.keep m4
  have d5 := c5.keep s15.keep m5
  (repeat (first|refine jd ?_|refine jN (by assumption) rfl ?_))
  refine M.call_i (ntr_ret ha ha2 _) ?_; rintro _ w17 ⟨rfl, k16⟩
  have s16 := s15.keepN k16
  have d3 := c3.keep s16.keep m3
  have d4 := c4.keep s16.keep m4
  have d5 := c5.keep s16.keep m5
  refine ⟨by
    (repeat (refine jN (by assumption) rfl ?_))
    rfl, ?_⟩
  refine M.call_i (ntr_ret hb hb2 _) ?_; rintro _ w18 ⟨rfl, k17⟩
  have s17 := s16.keepN k17
  have d3 := c3.keep s17.keep m3
  have d4 := c4.keep s17.keep m4
  have d5 := c5.keep s17.keep m5
  refine add_ls s17 [nt a, nt b, x] (by kernel_rfl) rfl (by first | omega | (simp; omega)) (fun G18 w19 s18 => ?_)
  have s19 := s18.keepN (Keep.drew _ _)
  have d3 := c3.keep s19.keep m3
  have d4 := c4.keep s19.keep m4
  have d5 := c5.keep s19.keep m5
  (repeat (first|refine jd ?_|refine jN (by assumption) rfl ?_))
  refine M.call_i (ntr_ret hx hx2 _) ?_; rintro _ w21 ⟨rfl, k20⟩
  have s20 := s19.keepN k20
  have d3 := c3.keep s20.keep m3
  have d4 := c4.keep s20.keep m4
  have d5 := c5.keep s20.keep m5
  refine ⟨by
    (repeat (refine jN (by assumption) rfl ?_))
    rfl, ?_⟩
  refine ⟨by
    (repeat (refine jN (by assumption) rfl ?_))
    rfl, ?_⟩
  refine add_ls s20 [a, b, nt x] (by kernel_rfl) rfl (by first | omega | (simp; omega)) (fun G21 w22 s21 => ?_)
  refine ⟨rfl, G21, ?_⟩
  have e : cl ++ (GK.ite c a b).cls x = cl ++ [[nt c, nt a, x]] ++ [[nt c, a, nt x]] ++ [[c, nt b, x]] ++ [[c, b, nt x]] ++ [[nt a, nt b, x]] ++ [[a, b, nt x]] := by simp [GK.cls]
  rw [e]
  exact s21
end
end Go.Proofs.Ytnbcglnefoinlaa
namespace Go.Proofs.Ytnbcglnefoinlaa
open Go.Mw Go.Maps Go.MapKept
set_option linter.unusedVariables false
set_option linter.unusedSimpArgs false
set_option maxRecDepth 100000
attribute [local irreducible] M.val M.unit M.next M.pick M.new M.nilCheck M.load1 M.loadA M.store M.fieldAddr M.indexSl M.indexArr M.slice M.makeSlice M.buildSlice M.len M.lenS M.cap M.append M.extract M.conv M.not M.neg M.bin M.shift M.eqB M.eqNil M.scat M.call M.callv M.gd M.share M.cond M.loop M.draw pureW readW Ret
def GK.key : GK → Option K4
  | .and a b => some (0, a, b, 0)
  | .xor a b => some (1, a, b, 0)
  | .ite c a b => some (2, c, a, b)
  | _ => none
theorem GK.key_inj {k k' : GK} {q : K4} (h : k.key = some q) (h' : k'.key = some q) : k = k' := by
  cases k <;> cases k' <;> simp [GK.key] at h h' <;> (subst h; simp at h' ⊢) <;> (try omega) <;> simp [h']
def GK.sm (i : Nat → Bool) (D : List GK) : GK → Bool
  | .and a b => lv i D a && lv i D b
  | .xor a b => lv i D a != lv i D b
  | .ite c a b => if lv i D c then lv i D a else lv i D b
  | .tru => true
  | .inp => i D.length
theorem lv_is {i : Nat → Bool} {D : List GK} (h : WfD D) {n : Nat} {k : GK} {q : K4} (hn : D[n]? = some k) (hk : k.key = some q) : lv i D (2 * (n : Int)) = k.sm i D := by
  cases k with
  | tru => simp [GK.key] at hk
  | inp => simp [GK.key] at hk
  | and a b => exact lv_and h hn
  | xor a b => exact lv_xor h hn
  | ite c a b => exact lv_ite h hn
theorem lv_mk {i : Nat → Bool} {D : List GK} {k : GK} {q : K4} (hk : k.key = some q) : lv i (D ++ [k]) (2 * (D.length : Int)) = k.sm i D := by
  rw [lv_new]
  cases k <;> simp [GK.key] at hk <;> rfl
theorem clsD_len : ∀ D : List GK, (clsD D).length ≤ 6 * D.length := by
  have : ∀ (D : List GK) (n : Nat), (cksF D n).length ≤ 6 * D.length := by
    intro D
    induction D with
    | nil => intro n; simp [cksF]
    | cons k D ih =>
      intro n
      show (k.cls _ ++ cksF D (n + 1)).length ≤ _
      rw [List.length_append]
      have := ih (n + 1)
      have h2 : (k.cls (2 * (n : Int))).length ≤ 6 := by cases k <;> simp [GK.cls]
      simp only [List.length_cons]
      omega
  exact fun D => this D 0
def AtK (D : List GK) (kv : List (K4 × Value)) : Prop := ∀ q v, lkpA kv q = some v → ∃ (n : Nat) (k : GK), D[n]? = some k ∧ k.key = some q ∧ v = vi (2 * (n : Int))
def GaO (w : World) (G : Nat → Prop) (g : Nat) (D : List GK) : Prop := ∃ kv, GaC w G g D.length (clsD D) kv ∧ AtK D kv ∧ WfD D
theorem GaO.keep {w w' : World} {G S : Nat → Prop} {g : Nat} {D : List GK} (h : GaO w G g D) (k : Keep w w' S) (hs : ∀ x, G x → ¬ S x) : GaO w' G g D := by
  obtain ⟨kv, h1, h2, h3⟩ := h
  exact ⟨kv, h1.keep k hs, h2, h3⟩
theorem GaO.keepN {w w' : World} {G : Nat → Prop} {g : Nat} {D : List GK} (h : GaO w G g D) (k : Keep w w' No) : GaO w' G g D := h.keep k (fun _ _ h => h)
theorem GaO.wf {w : World} {G : Nat → Prop} {g : Nat} {D : List GK} (h : GaO w G g D) : WfD D := by
  obtain ⟨_, _, _, h⟩ := h
  exact h
theorem GaC.lt {w : World} {G : Nat → Prop} {g n : Nat} {cl : List (List Int)} {kv : List (K4 × Value)} (h : GaC w G g n cl kv) : ∀ x, G x → x < w.heap.size := by
  obtain ⟨_, _, _, _, _, _, _, _, _, _, _, _, h⟩ := h
  exact h
theorem GaO.lt {w : World} {G : Nat → Prop} {g : Nat} {D : List GK} (h : GaO w G g D) : ∀ x, G x → x < w.heap.size := by
  obtain ⟨_, h, _⟩ := h
  exact h.lt
def GOut (w : World) (G : Nat → Prop) (g : Nat) (D : List GK) (m : Nat) (f : (Nat → Bool) → Bool) (r : Value) (w' : World) : Prop :=
  ∃ E G' l, r = vi l ∧ GaO w' G' g (D ++ E) ∧ NI E ∧ E.length ≤ m ∧ Ft (D ++ E) l ∧ (∀ i, lv i (D ++ E) l = f i) ∧ (∀ x, x < w.heap.size → G' x → G x) ∧ Keep w w' G
section
variable {w : World} {G : Nat → Prop} {g : Nat} {D : List GK}
theorem GOut.same {m : Nat} {f : (Nat → Bool) → Bool} {l : Int} {w' : World} (h : GaO w G g D) (k : Keep w w' No) (hl : Ft D l) (hf : ∀ i, lv i D l = f i) : GOut w G g D m f (vi l) w' :=
  ⟨[], G, l, rfl, by rw [List.append_nil]; exact h.keepN k, NI.nil, by simp, by rw [List.append_nil]; exact hl, by rw [List.append_nil]; exact hf, fun _ _ h => h, k.mono (fun _ _ h => h.elim)⟩
theorem GOut.pre {m : Nat} {f : (Nat → Bool) → Bool} {r : Value} {w1 w' : World} (k : Keep w w1 No) (h : GOut w1 G g D m f r w') : GOut w G g D m f r w' := by
  obtain ⟨E, G', l, h1, h2, h3, h4, h5, h6, h7, h8⟩ := h
  exact ⟨E, G', l, h1, h2, h3, h4, h5, h6, fun x hx => h7 x (Nat.lt_of_lt_of_le hx k.size), (k.mono (fun _ _ h => h.elim)).trans h8 (fun _ _ h => h)⟩
theorem M.max_i {k : Kt} {w : World} {t ty : TypeId} {cs : Array Bool} {x y : Int} (h : k (vi (if y > x then y else x)) w) : M.next Try.prog (builtin .max #[t, t] ty cs #[vi x, vi y]) k w :=
  M.next_i (v := vi (if y > x then y else x)) (w' := w) (run_max_int2 (P := Try.prog) (w := w) #[t, t] ty .i64 .i64 x y) h
theorem M.min_i {k : Kt} {w : World} {t ty : TypeId} {cs : Array Bool} {x y : Int} (h : k (vi (if y < x then y else x)) w) : M.next Try.prog (builtin .min #[t, t] ty cs #[vi x, vi y]) k w :=
  M.next_i (v := vi (if y < x then y else x)) (w' := w) (run_min_int2 (P := Try.prog) (w := w) #[t, t] ty .i64 .i64 x y) h
set_option maxHeartbeats 2000000 in
theorem gate_ret {k : GK} {q : K4} {fn : Value} (h : GaO w G g D) (hn : D.length ≤ 100000000) (hq : k.key = some q) (hqo : K4.Ok q) (hfit : k.fit D.length) (hc : ClsF fn w G g k) :
    Ret Try.prog 86 #[ptr g, vi q.1, vi q.2.1, vi q.2.2.1, vi q.2.2.2, fn] w (GOut w G g D 1 (fun i => k.sm i D)) := by
  obtain ⟨kv, hga, hat, hwf⟩ := h
  have hlt := hga.lt
  have hcl := clsD_len D
  refine ok86 _ _ _ _ _ _ _ _ ?_
  unfold sh86
  refine M.new_i (l := [ptr g]) (fun w1 b1 k1 s1 => ?_)
  refine M.pure_i (encK q) (fun _ => by kernel_rfl) ?_
  refine M.new_i (l := [vi 0, vi 0, vi 0, vi 0]) (fun w2 b2 k2 s2 => ?_)
  refine M.storeAll_i b2 rfl rfl (by simp; exact ⟨rfl, rfl, rfl, rfl⟩) (fun w3 b3 k3 s3 => ?_)
  have k13 : Keep w1 w3 No := k2.trans k3 (fun x hx e => by have e : x = w1.heap.size := e; omega)
  have kd := Keep.drew w3 No
  have k03 := (k1.trans k13 (fun _ _ h => h)).trans kd (fun _ _ h => h)
  have b1 := (b1.keep k13 (fun h => h)).keep kd (fun h => h)
  have b3 := b3.keep kd (fun h => h)
  have hg3 := hga.keepN k03
  obtain ⟨cv, mb, us, g1, g2, g3, g4, g5, g6, g7, g8, g9, g10⟩ := id hg3
  (repeat (first|refine jb ?_|refine jc ?_|refine jd ?_|refine jN (by assumption) rfl ?_))
  refine M.loadAll_i b3 rfl ?_
  refine M.lookupOkA_i (enc := encK) (x := q) (et := 3) (z := vi 0) keyK (by kernel_rfl) (fun w => Try.zeroValue3 w) g5 hqo ?_
  cases hl : lkpA kv q with
  | some v =>
    obtain ⟨n, k', h1, h2, rfl⟩ := hat q v hl
    obtain rfl := GK.key_inj h2 hq
    have hn' := (List.getElem?_eq_some_iff.1 h1).1
    refine M.extract_i rfl ?_
    refine M.extract_i rfl ?_
    (repeat (refine jo ?_))
    exact GOut.same ⟨kv, hga, hat, hwf⟩ k03 ⟨by omega, by omega⟩ (fun i => lv_is hwf h1 h2)
  | none =>
    refine M.extract_i rfl ?_
    refine M.extract_i rfl ?_
    (repeat (first|refine jp ?_|refine jN (by assumption) rfl ?_))
    refine M.call_i (fresh_ret hg3 (by omega)) ?_; rintro _ w5 ⟨rfl, hg5, k5⟩
    have hT6 : ¬ G w.heap.size := fun hx => by have := hlt _ hx; omega
    have q1 := k1.size
    have hT3 : ¬ G w1.heap.size := fun hx => by have := hlt _ hx; omega
    have kd5 := Keep.drew w5 No
    have c1 := (b1.keep k5 hT6).keep kd5 (fun h => h)
    have c3 := (b3.keep k5 hT3).keep kd5 (fun h => h)
    have hg5 := hg5.keepN kd5
    have k05 : Keep w w5.drew G := ((k03.mono (fun _ _ h => h.elim)).trans k5 (fun x _ h => h)).trans kd5 (fun _ _ h => h.elim)
    obtain ⟨cv, mb, us, e1, e2, e3, e4, e5, e6, e7, e8, e9, e10⟩ := id hg5
    (repeat (first|refine jb ?_|refine jc ?_|refine jd ?_|refine jN (by assumption) rfl ?_))
    refine M.loadAll_i c3 rfl ?_
    refine M.mapUpdateA_i (enc := encK) (x := q) (et := 3) keyK (by kernel_rfl) e5 hqo (fun w6 m6 k6 s6 => ?_)
    have hg6 : GaC w6 G g (D.length + 1) (clsD D) (updA kv q (vi (2 * (D.length : Int)))) := ⟨cv, mb, us, e1.keep k6 e8, e2.keep k6 (fun x _ hx e => (e9 x hx).2.2 e), e3, fun j c hc => by
      obtain ⟨u, u1, u2⟩ := e4 j c hc
      exact ⟨u, u1, u2.keep k6 (fun x _ hx e => hx.2.2.1 e)⟩, m6, e6, e7, e8, e9, fun x hx => by rw [s6]; exact e10 x hx⟩
    have k06 : Keep w w6 G := k05.trans k6 (fun x _ e => by have e : x = mb := e; rw [e]; exact e7)
    have q6 := k06.size
    have b6 := c1.keep k6 (fun e => hT6 (by have e : w.heap.size = mb := e; rw [e]; exact e7))
    refine hc w6 w6 G (D.length + 1) (clsD D) _ w.heap.size (2 * (D.length : Int)) _ k06 (fun _ _ h => h) ⟨hg6, b6, hT6, b6.lt, fun _ _ h => h, Keep.refl _ _⟩ (by omega) (by omega) (fun G' w' s7 => ?_)
    refine ⟨[k], G', _, rfl, ⟨updA kv q (vi (2 * (D.length : Int))), ?_, ?_, hwf.snoc hfit⟩, fun k' hk' => ?_, by simp, ⟨by omega, by rw [List.length_append]; simp; omega⟩, fun i => lv_mk hq, fun x hx hG => s7.sub x (by omega) hG, k06.trans s7.keep (fun x _ h => h)⟩
    · rw [List.length_append, clsD_snoc]; exact s7.ga
    · intro q' v hv
      rw [lkpA_upd] at hv
      by_cases e : q' = q
      · rw [if_pos e] at hv
        exact ⟨D.length, k, by simp, by rw [e]; exact hq, (Option.some.inj hv).symm⟩
      · rw [if_neg e] at hv
        obtain ⟨n, k', h1, h2, h3⟩ := hat q' v hv
        exact ⟨n, k', by rw [List.getElem?_append_left (List.getElem?_eq_some_iff.1 h1).1]; exact h1, h2, h3⟩
    · rw [List.mem_singleton.1 hk']
      intro e
      rw [e] at hq; simp [GK.key] at hq
end
end Go.Proofs.Ytnbcglnefoinlaa
namespace Go.Proofs.Ytnbcglnefoinlaa
open Go.Mw Go.Maps Go.MapKept
set_option linter.unusedVariables false
set_option linter.unusedSimpArgs false
set_option maxRecDepth 100000
attribute [local irreducible] M.val M.unit M.next M.pick M.new M.nilCheck M.load1 M.loadA M.store M.fieldAddr M.indexSl M.indexArr M.slice M.makeSlice M.buildSlice M.len M.lenS M.cap M.append M.extract M.conv M.not M.neg M.bin M.shift M.eqB M.eqNil M.scat M.call M.callv M.gd M.share M.cond M.loop M.draw pureW readW Ret
def sh65 (x0 x1 x2 : Value) (R : Kt) (w : World) : Prop :=
  M.new 3 (Value.cells x1) (fun t4 w =>
  M.new 3 (Value.cells x2) (fun t5 w =>
  M.load1 t4 (fun t8 w =>
  M.load1 t5 (fun t9 w =>
  M.buildSlice 3 1 #[.int .i64 0] 2 [(0, t8), (1, t9)] (fun t10 w =>
  M.call Try.prog 84 #[x0, t10] (fun t11 w =>
  M.cond t11
  (R (Value.int IntKind.i64 (-1)) w)
  (M.share (fun K1 w =>
  M.draw (fun w =>
  M.load1 t4 (fun t12 w =>
  M.load1 t5 (fun t13 w =>
  M.load1 t4 (fun t15 w =>
  M.load1 t5 (fun t16 w =>
  ((M.next Try.prog (builtin .min #[3, 3] 3 #[false, false] #[t12, t13]) (fun t14 w =>
  ((M.load1 t5 (fun v' _ => v' = t16) w) ∧ ((M.load1 t4 (fun v' _ => v' = t15) w) ∧ ((M.next Try.prog (builtin .max #[3, 3] 3 #[false, false] #[t15, t16]) (fun t17 w =>
  M.store 1 t4 t14 (fun _ w =>
  M.store 1 t5 t17 (fun _ w =>
  K1 [] w) w) w) w) ∧
   (M.store 1 t4 t14 (fun _ w =>
  ((M.load1 t5 (fun v' _ => v' = t16) w) ∧ M.next Try.prog (builtin .max #[3, 3] 3 #[false, false] #[t15, t16]) (fun t17_2 w =>
  M.store 1 t5 t17_2 (fun _ w =>
  K1 [] w) w) w)) w))))) w) ∧
   (M.next Try.prog (builtin .max #[3, 3] 3 #[false, false] #[t15, t16]) (fun t17_3 w =>
  ((M.load1 t5 (fun v' _ => v' = t13) w) ∧ ((M.load1 t4 (fun v' _ => v' = t12) w) ∧ M.next Try.prog (builtin .min #[3, 3] 3 #[false, false] #[t12, t13]) (fun t14_2 w =>
  M.store 1 t4 t14_2 (fun _ w =>
  M.store 1 t5 t17_3 (fun _ w =>
  K1 [] w) w) w) w))) w))) w) w) w) w) w) (fun s1 w => ∀ _ : List Value,
  M.share (fun K2 w =>
  M.load1 t4 (fun t19 w =>
  M.bin .eql t19 (Value.int IntKind.i64 0) (fun t20 w =>
  M.cond t20
  (K2 [t20] w)
  (M.load1 t4 (fun t21 w =>
  M.load1 t5 (fun t22 w =>
  M.bin .eql t21 t22 (fun t23 w =>
  K2 [t23] w) w) w) w)) w) w) (fun s2 w => ∀ _ : List Value,
  M.cond (s2.getD 0 undef)
  (M.load1 t5 (fun t24 w =>
  R t24 w) w)
  (M.share (fun K3 w =>
  M.load1 t4 (fun t26 w =>
  M.bin .eql t26 (Value.int IntKind.i64 1) (fun t27 w =>
  M.cond t27
  (K3 [t27] w)
  (M.draw (fun w =>
  M.load1 t5 (fun t28 w =>
  M.load1 t4 (fun t29 w =>
  M.call Try.prog 26 #[t29] (fun t30 w =>
  ((M.load1 t5 (fun v' _ => v' = t28) w) ∧ M.bin .eql t28 t30 (fun t31 w =>
  K3 [t31] w) w)) w) w) w) w)) w) w) (fun s3 w => ∀ _ : List Value,
  M.cond (s3.getD 0 undef)
  (R (Value.int IntKind.i64 1) w)
  (M.load1 t4 (fun t33 w =>
  M.load1 t5 (fun t34 w =>
  M.call Try.prog 86 #[x0, (Value.int IntKind.i64 0), t33, t34, (Value.int IntKind.i64 0), (.func (Fn.func 91) #[] #[t4, t5])] (fun t36 w =>
  R t36 w) w) w) w)) w)) w) w)) w) w) w) w) w) w
theorem ok65 (x0 x1 x2 : Value) (R : Kt) (w : World) (h : sh65 x0 x1 x2 R w) : Ret Try.prog 65 #[x0, x1, x2] w R :=
  ret_mk <| calls_of_comp mixed (c := Try.f65.body.getD .skip) (args := [x0, x1, x2]) (rs := [(ResultVar.tmp 6)]) (Ann.seq Ann.text (Ann.seq (Ann.seq Ann.text (Ann.cond (Ann.seq Ann.text Ann.leaf) Ann.leaf)) (Ann.join [] [12, 13, 14, 15, 16, 17] (Ann.draw (Sch.take 0 (Sch.take 1 (Sch.take 3 (Sch.take 4 (Sch.two 2 5 (Sch.two 5 6 (Sch.one 6 (Sch.one 7 Sch.done)) (Sch.one 5 (Sch.one 7 Sch.done))) (Sch.one 2 (Sch.one 6 (Sch.one 7 Sch.done))))))))) (Ann.seq (Ann.block (Ann.join [18] [19, 20, 21, 22, 23] (Ann.seq Ann.text (Ann.cond Ann.leaf Ann.text)) (Ann.cond (Ann.seq Ann.text Ann.leaf) (Ann.join [25] [26, 27, 28, 29, 30, 31] (Ann.seq Ann.text (Ann.cond Ann.leaf (Ann.draw (Sch.take 0 (Sch.take 1 (Sch.one 2 (Sch.take 3 (Sch.take 4 Sch.done)))))))) (Ann.cond (Ann.seq Ann.text Ann.leaf) Ann.leaf))))) (Ann.seq Ann.text Ann.leaf)))))
    Try.func65 (by kernel_rfl) (by kernel_rfl)
    (Eq.mp (by kernel_rfl) h)
def sh66 (x0 x1 x2 : Value) (R : Kt) (w : World) : Prop :=
  M.buildSlice 3 1 #[.int .i64 0] 2 [(0, x1), (1, x2)] (fun t10 w =>
  M.call Try.prog 84 #[x0, t10] (fun t11 w =>
  M.cond t11
  (R (Value.int IntKind.i64 (-1)) w)
  (M.call Try.prog 26 #[x1] (fun t14 w =>
  M.call Try.prog 26 #[x2] (fun t16 w =>
  M.call Try.prog 65 #[x0, t14, t16] (fun t17 w =>
  M.call Try.prog 26 #[t17] (fun t18 w =>
  R t18 w) w) w) w) w)) w) w
theorem ok66 (x0 x1 x2 : Value) (R : Kt) (w : World) (h : sh66 x0 x1 x2 R w) : Ret Try.prog 66 #[x0, x1, x2] w R :=
  ret_mk <| calls_of_comp mixed (c := Try.f66.body.getD .skip) (args := [x0, x1, x2]) (rs := [(ResultVar.tmp 6)]) (Ann.seq Ann.text (Ann.seq (Ann.seq Ann.text (Ann.cond (Ann.seq Ann.text Ann.leaf) Ann.leaf)) (Ann.seq Ann.text Ann.leaf)))
    Try.func66 (by kernel_rfl) (by kernel_rfl)
    (Eq.mp (by kernel_rfl) h)
theorem k4ok {a b c d : Int} (ha : 0 ≤ a ∧ a ≤ 10000000000) (hb : 0 ≤ b ∧ b ≤ 10000000000) (hc : 0 ≤ c ∧ c ≤ 10000000000) (hd : 0 ≤ d ∧ d ≤ 10000000000) : K4.Ok (a, b, c, d) :=
  ⟨⟨by show _ ≤ a; omega, by show a < _; omega⟩, ⟨by show _ ≤ b; omega, by show b < _; omega⟩, ⟨by show _ ≤ c; omega, by show c < _; omega⟩, ⟨by show _ ≤ d; omega, by show d < _; omega⟩⟩
section
variable {w : World} {G : Nat → Prop} {g : Nat} {D : List GK}
theorem gbad_ret {E : Nat → Prop} {v : Value} {ls : List Int} (h : GaO w G g D) (hn : D.length ≤ 100000000) (hv : LV vi w E v ls) (hl : ls.length ≤ 1000000) (hf : ∀ l ∈ ls, Ft D l) :
    Ret Try.prog 84 #[ptr g, v] w (fun r w' => r = .bool false ∧ Keep w w' No) := by
  obtain ⟨kv, h1, _⟩ := h
  exact bad_ret h1 (by omega) hv hl hf
set_option maxHeartbeats 4000000 in
theorem and_ret {a b : Int} (h : GaO w G g D) (hn : D.length ≤ 100000000) (ha : Ft D a) (hb : Ft D b) :
    Ret Try.prog 65 #[ptr g, vi a, vi b] w (GOut w G g D 1 (fun i => lv i D a && lv i D b)) := by
  obtain ⟨ha0, ha1⟩ := id ha
  obtain ⟨hb0, hb1⟩ := id hb
  have hwf := h.wf
  have hpos := hwf.pos
  have hlt := h.lt
  refine ok65 _ _ _ _ _ ?_
  unfold sh65
  refine M.new_i (l := [vi a]) (fun w1 b1 k1 s1 => ?_)
  refine M.new_i (l := [vi b]) (fun w2 b2 k2 s2 => ?_)
  have b1 := b1.keep k2 (fun h => h)
  (repeat (refine jN (by assumption) rfl ?_))
  refine M.buildSlice_i [vi a, vi b] (by kernel_rfl) (fun w3 b3 k3 s3 => ?_)
  have k03 := (k1.trans k2 (fun _ _ h => h)).trans k3 (fun _ _ h => h)
  have h3 := h.keepN k03
  have b1 := b1.keep k3 (fun h => h)
  have b2 := b2.keep k3 (fun h => h)
  refine M.call_i (gbad_ret h3 hn (E := fun _ => True) (ls := [a, b]) ⟨_, _, rfl, Row.of_blk' b3 trivial, Nat.le_refl _⟩ (by show 2 ≤ 1000000; omega) (by simp; exact ⟨ha, hb⟩)) ?_; rintro _ w4 ⟨rfl, k4⟩
  have b1 := b1.keep k4 (fun h => h)
  have b2 := b2.keep k4 (fun h => h)
  have k04 := k03.trans k4 (fun _ _ h => h)
  (repeat (refine jp ?_))
  have q1 := k1.size
  obtain ⟨p, r, hp, hr, hpr, hpd, hrd, hval⟩ : ∃ p r, p = (if b < a then b else a) ∧ r = (if b > a then b else a) ∧ p ≤ r ∧ Ft D p ∧ Ft D r ∧ ∀ i, (lv i D a && lv i D b) = (lv i D p && lv i D r) := by
    by_cases hab : b < a
    · exact ⟨b, a, by rw [if_pos hab], by rw [if_neg (by omega)], by omega, hb, ha, fun i => Bool.and_comm _ _⟩
    · by_cases hba : a < b
      · exact ⟨a, b, by rw [if_neg hab], by rw [if_pos hba], by omega, ha, hb, fun i => rfl⟩
      · have : a = b := by omega
        subst this
        exact ⟨a, a, by rw [if_neg hab], by rw [if_neg (by omega)], by omega, ha, ha, fun i => rfl⟩
  have e : (fun i => lv i D a && lv i D b) = (fun i => lv i D p && lv i D r) := funext hval
  rw [e]
  refine M.share_j (fun vals w' => Blk w' w.heap.size [vi p] ∧ Blk w' w1.heap.size [vi r] ∧ Keep w w' No) ?_ ?_
  rotate_left
  · intro K1 hK1
    have kd := Keep.drew w4 No
    have b1 := b1.keep kd (fun h => h)
    have b2 := b2.keep kd (fun h => h)
    have k0d := k04.trans kd (fun _ _ h => h)
    have fin : ∀ w', Blk w' w.heap.size [vi a] → Blk w' w1.heap.size [vi b] → Keep w w' No → M.store 1 (ptr w.heap.size) (vi p) (fun _ w => M.store 1 (ptr w1.heap.size) (vi r) (fun _ w => K1 [] w) w) w' := fun w' c1 c2 kk => by
      refine M.store_i c1 (by simp) rfl (fun w6 c3 k6 s6 => ?_)
      have c4 := c2.keep k6 (fun e => by omega)
      refine M.store_i c4 (by simp) rfl (fun w7 c5 k7 s7 => ?_)
      exact hK1 _ _ ⟨c3.keep k7 (fun e => by omega), c5, (kk.trans k6 (fun x hx e => by have e : x = w.heap.size := e; omega)).trans k7 (fun x hx e => by have e : x = w1.heap.size := e; omega)⟩
    (repeat (first|refine jd ?_|refine jN (by assumption) rfl ?_))
    subst hp hr
    refine ⟨?_, ?_⟩
    · refine M.min_i ?_
      refine ⟨?_, ?_, ?_, ?_⟩
      · (repeat (refine jN (by assumption) rfl ?_))
        rfl
      · (repeat (refine jN (by assumption) rfl ?_))
        rfl
      · refine M.max_i ?_
        exact fin _ b1 b2 k0d
      · refine M.store_i b1 (by simp) rfl (fun w6 c3 k6 s6 => ?_)
        have c4 := b2.keep k6 (fun e => by omega)
        refine ⟨?_, ?_⟩
        · (repeat (refine jN (by assumption) rfl ?_))
          rfl
        refine M.max_i ?_
        refine M.store_i c4 (by simp) rfl (fun w7 c5 k7 s7 => ?_)
        exact hK1 _ _ ⟨c3.keep k7 (fun e => by omega), c5, (k0d.trans k6 (fun x hx e => by have e : x = w.heap.size := e; omega)).trans k7 (fun x hx e => by have e : x = w1.heap.size := e; omega)⟩
    · refine M.max_i ?_
      refine ⟨?_, ?_, ?_⟩
      · (repeat (refine jN (by assumption) rfl ?_))
        rfl
      · (repeat (refine jN (by assumption) rfl ?_))
        rfl
      refine M.min_i ?_
      exact fin _ b1 b2 k0d
  rintro vals w5 ⟨c1, c2, k05⟩ _
  clear hp hr
  refine M.share_n ?_
  by_cases h0 : p = 0
  · (repeat (first|refine jo ?_|refine jG ?_|refine jN (by assumption) rfl ?_))
    intro _
    simp only [List.getD_cons_zero, List.getD_cons_succ]
    (repeat (first|refine jo ?_|refine jN (by assumption) rfl ?_))
    exact GOut.same h k05 hrd (fun i => by rw [h0, lv_zero hwf]; simp)
  by_cases he : p = r
  · (repeat (first|refine jp ?_|refine jG ?_|refine jH ?_|refine jN (by assumption) rfl ?_))
    intro _
    simp only [List.getD_cons_zero, List.getD_cons_succ]
    (repeat (first|refine jo ?_|refine jN (by assumption) rfl ?_))
    exact GOut.same h k05 hrd (fun i => by rw [he]; simp)
  (repeat (first|refine jp ?_|refine jH ?_|refine jN (by assumption) rfl ?_))
  intro _
  simp only [List.getD_cons_zero, List.getD_cons_succ]
  (repeat (refine jp ?_))
  refine M.share_n ?_
  by_cases h1 : p = 1
  · (repeat (first|refine jo ?_|refine jG ?_|refine jN (by assumption) rfl ?_))
    intro _
    simp only [List.getD_cons_zero, List.getD_cons_succ]
    (repeat (refine jo ?_))
    exact GOut.same h k05 ⟨by omega, by omega⟩ (fun i => by rw [h1, lv_one hwf]; simp)
  obtain ⟨hp0, hp1⟩ := id hpd
  obtain ⟨hr0, hr1⟩ := id hrd
  have kd5 := Keep.drew w5 No
  have d1 := c1.keep kd5 (fun h => h)
  have d2 := c2.keep kd5 (fun h => h)
  (repeat (first|refine jd ?_|refine jp ?_|refine jH ?_|refine jN (by assumption) rfl ?_))
  refine M.call_i (ntr_ret hp0 (by omega) _) ?_; rintro _ w6 ⟨rfl, k6⟩
  have c1 := d1.keep k6 (fun h => h)
  have c2 := d2.keep k6 (fun h => h)
  have k06 := (k05.trans kd5 (fun _ _ h => h)).trans k6 (fun _ _ h => h)
  refine ⟨?_, ?_⟩
  · (repeat (refine jN (by assumption) rfl ?_))
    rfl
  by_cases hn2 : r = nt p
  · (repeat (refine jG ?_))
    intro _
    simp only [List.getD_cons_zero, List.getD_cons_succ]
    (repeat (refine jo ?_))
    exact GOut.same h k06 ⟨by omega, by omega⟩ (fun i => by rw [hn2, lv_nt, lv_one hwf]; simp)
  (repeat (refine jH ?_))
  intro _
  simp only [List.getD_cons_zero, List.getD_cons_succ]
  (repeat (first|refine jp ?_|refine jN (by assumption) rfl ?_))
  have q6 := k06.size
  have l1 := c1.lt
  refine (M.call_i ((gate_ret (k := .and p r) (q := (0, p, r, 0)) (h.keepN k06) hn rfl (k4ok ⟨by omega, by omega⟩ ⟨by omega, by omega⟩ ⟨by omega, by omega⟩ ⟨by omega, by omega⟩) ⟨hpos, hpd, hrd⟩ (and_cls c1 c2 (fun hx => by have := hlt _ hx; omega) (fun hx => by have := hlt _ hx; omega) ⟨hp0, by omega⟩ ⟨hr0, by omega⟩)).mono (fun r w' hr => hr)) ?_)
  intro r' w7 hg
  exact GOut.pre k06 hg
theorem GOut.map {m : Nat} {f f' : (Nat → Bool) → Bool} {r : Value} {w' : World} (h : GOut w G g D m f r w') (e : ∀ i, f i = f' i) : GOut w G g D m f' r w' := by
  have : f = f' := funext e
  rwa [this] at h
theorem or_ret {a b : Int} (h : GaO w G g D) (hn : D.length ≤ 100000000) (ha : Ft D a) (hb : Ft D b) :
    Ret Try.prog 66 #[ptr g, vi a, vi b] w (GOut w G g D 1 (fun i => lv i D a || lv i D b)) := by
  obtain ⟨ha0, ha1⟩ := id ha
  obtain ⟨hb0, hb1⟩ := id hb
  refine ok66 _ _ _ _ _ ?_
  unfold sh66
  refine M.buildSlice_i [vi a, vi b] (by kernel_rfl) (fun w3 b3 k3 s3 => ?_)
  have h3 := h.keepN k3
  refine M.call_i (gbad_ret h3 hn (E := fun _ => True) (ls := [a, b]) ⟨_, _, rfl, Row.of_blk' b3 trivial, Nat.le_refl _⟩ (by show 2 ≤ 1000000; omega) (by simp; exact ⟨ha, hb⟩)) ?_; rintro _ w4 ⟨rfl, k4⟩
  (repeat (refine jp ?_))
  refine M.call_i (ntr_ret ha0 (by omega) _) ?_; rintro _ w5 ⟨rfl, k5⟩
  refine M.call_i (ntr_ret hb0 (by omega) _) ?_; rintro _ w6 ⟨rfl, k6⟩
  have k06 := ((k3.trans k4 (fun _ _ h => h)).trans k5 (fun _ _ h => h)).trans k6 (fun _ _ h => h)
  refine M.call_i (and_ret (h.keepN k06) hn ha.nt hb.nt) ?_; rintro _ w7 ⟨E, G', l, rfl, g1, g2, g3, g4, g5, g6, g7⟩
  obtain ⟨l0, l1⟩ := id g4
  have hle : (D ++ E).length ≤ D.length + 1 := by rw [List.length_append]; omega
  refine M.call_i (ntr_ret l0 (by omega) _) ?_; rintro _ w8 ⟨rfl, k8⟩
  refine GOut.pre k06 ⟨E, G', _, rfl, g1.keepN k8, g2, g3, g4.nt, fun i => ?_, g6, g7.trans k8 (fun _ _ h => h.elim)⟩
  rw [lv_nt, g5]
  simp only [lv_nt]
  cases lv i D a <;> cases lv i D b <;> rfl
end
end Go.Proofs.Ytnbcglnefoinlaa
