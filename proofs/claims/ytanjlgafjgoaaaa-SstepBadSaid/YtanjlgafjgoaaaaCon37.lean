import Derived.Test.YtanjlgafjgoaaaaSlices
import Derived.Test.YtanjlgafjgoaaaaSt37p
import Derived.Lib.AppendZerosOnto
namespace Go.Proofs.Ytanjlgafjgoaaaa
open Go.Mw Go.Lib
set_option linter.unusedVariables false
set_option linter.unusedSimpArgs false
set_option maxRecDepth 100000
attribute [local irreducible] M.val M.unit M.next M.pick M.new M.nilCheck M.load1 M.loadA M.store M.fieldAddr M.indexSl M.indexArr M.slice M.makeSlice M.buildSlice M.len M.lenS M.cap M.append M.extract M.conv M.not M.neg M.bin M.shift M.eqB M.eqNil M.scat M.call M.callv M.gd M.share M.cond M.loop M.draw pureW readW Ret
/-! slices.Grow[[]int,int]: function 40 -/
def sh40 (x0 x1 : Value) (R : Kt) (w : World) : Prop :=
  M.share (fun K1 w =>
  M.bin .lss x1 (Value.int IntKind.i64 0) (fun t6 w =>
  M.cond t6
  (M.val Try.prog (Instr.makeInterface 9 (Value.string { data := #[99, 97, 110, 110, 111, 116, 32, 98, 101, 32, 110, 101, 103, 97, 116, 105, 118, 101] })) (fun t7 w =>
  M.panic (fun _ w =>
  K1 [] w) w) w)
  (K1 [] w)) w) (fun s1 w => ∀ _ : List Value,
  M.share (fun K2 w =>
  M.cap x0 (fun t10 w =>
  M.len x0 (fun t12 w =>
  M.bin .sub t10 t12 (fun t13 w =>
  M.bin .sub x1 t13 (fun t14 w =>
  M.bin .gtr t14 (Value.int IntKind.i64 0) (fun t16 w =>
  M.cond t16
  (M.cap x0 (fun t19 w =>
  M.slice 1 x0 none (some t19) none (fun t20 w =>
  M.next Try.prog (builtin .append #[34, 3] 34 #[false, false] #[t20, t14]) (fun t22 w =>
  M.len x0 (fun t24 w =>
  M.slice 1 t22 none (some t24) none (fun t25 w =>
  K2 [t25] w) w) w) w) w) w)
  (K2 [x0] w)) w) w) w) w) w) (fun s2 w => ∀ _ : List Value,
  R (s2.getD 0 undef) w) w) w
theorem ok40 (x0 x1 : Value) (R : Kt) (w : World) (h : sh40 x0 x1 R w) : Ret Try.prog 40 #[x0, x1] w R :=
  ret_mk <| calls_of_comp mixed (c := Try.f40.body.getD .skip) (args := [x0, x1]) (rs := [(ResultVar.tmp 4)]) (Ann.seq Ann.text (Ann.join [] [5, 6, 7] (Ann.seq Ann.text (Ann.cond Ann.text Ann.leaf)) (Ann.join [0] [1, 8, 9, 10, 11, 12, 13, 14, 15, 16, 17, 18, 19, 20, 21, 22, 23, 24, 25] (Ann.seq Ann.text (Ann.seq Ann.text (Ann.cond Ann.text Ann.leaf))) (Ann.seq Ann.text Ann.leaf))))
    Try.func40 (by kernel_rfl) (by kernel_rfl)
    (Eq.mp (by kernel_rfl) h)
/-! slices.Concat[[]int,int]: function 20 -/
def sh20 (x0 : Value) (R : Kt) (w : World) : Prop :=
  M.len x0 (fun t10 w =>
  M.loop [(Value.int IntKind.i64 0), (Value.int IntKind.i64 0)] (fun s1 K1 w => ∀ _ : List Value,
  M.bin .lss (s1.getD 1 undef) t10 (fun t12 w =>
  M.cond t12
  (M.share (fun K2 w =>
  M.indexSl 1 x0 (s1.getD 1 undef) (fun t13 w =>
  M.load1 t13 (fun t14 w =>
  M.len t14 (fun t17 w =>
  M.bin .add (s1.getD 0 undef) t17 (fun t18 w =>
  M.bin .lss t18 (Value.int IntKind.i64 0) (fun t20 w =>
  M.cond t20
  (M.val Try.prog (Instr.makeInterface 9 (Value.string { data := #[108, 101, 110, 32, 111, 117, 116, 32, 111, 102, 32, 114, 97, 110, 103, 101] })) (fun t21 w =>
  M.panic (fun _ w =>
  K2 [t18] w) w) w)
  (K2 [t18] w)) w) w) w) w) w) (fun s2 w => ∀ _ : List Value,
  M.bin .add (s1.getD 1 undef) (Value.int IntKind.i64 1) (fun t22 w =>
  K1 [(s2.getD 0 undef), t22] w) w) w)
  (M.call Try.prog 40 #[(Value.slice none 0 0), (s1.getD 0 undef)] (fun t24 w =>
  M.len x0 (fun t26 w =>
  M.loop [t24, (Value.int IntKind.i64 0)] (fun s3 K3 w => ∀ _ : List Value,
  M.bin .lss (s3.getD 1 undef) t26 (fun t28 w =>
  M.cond t28
  (M.indexSl 1 x0 (s3.getD 1 undef) (fun t29 w =>
  M.load1 t29 (fun t30 w =>
  M.append 3 1 8 #[.int .i64 0] (s3.getD 0 undef) t30 (fun t33 w =>
  M.bin .add (s3.getD 1 undef) (Value.int IntKind.i64 1) (fun t34 w =>
  K3 [t33, t34] w) w) w) w) w)
  (R (s3.getD 0 undef) w)) w) w) w) w)) w) w) w
theorem ok20 (x0 : Value) (R : Kt) (w : World) (h : sh20 x0 R w) : Ret Try.prog 20 #[x0] w R :=
  ret_mk <| calls_of_comp mixed (c := Try.f20.body.getD .skip) (args := [x0]) (rs := [(ResultVar.tmp 2)]) (Ann.seq Ann.text (Ann.seq Ann.text (Ann.seq (Ann.seq Ann.text (Ann.block (Ann.loop [3, 11] [5, 12, 13, 14, 15, 16, 17, 18, 19, 20, 21, 22] (Ann.seq Ann.text (Ann.seq (Ann.cond Ann.leaf Ann.leaf) (Ann.seq (Ann.jblock [3] [5, 13, 14, 15, 16, 17, 18, 19, 20, 21] (Ann.seq Ann.text (Ann.seq Ann.text (Ann.seq Ann.text (Ann.cond Ann.text Ann.leaf))))) Ann.text)))))) (Ann.seq Ann.text (Ann.seq (Ann.seq Ann.text (Ann.block (Ann.loop [6, 27] [8, 28, 29, 30, 31, 32, 33, 34] (Ann.seq Ann.text (Ann.seq (Ann.cond Ann.leaf Ann.leaf) (Ann.seq (Ann.block (Ann.seq Ann.text Ann.text)) Ann.text)))))) (Ann.seq Ann.text Ann.leaf))))))
    Try.func20 (by kernel_rfl) (by kernel_rfl)
    (Eq.mp (by kernel_rfl) h)

theorem grow_ret {w : World} (n : Nat) (hn : n ≤ 1000000) :
    Ret Try.prog 40 #[.slice none 0 0, vi n] w (fun r w' => GI w' (w.heap.size ≤ ·) r [] ∧ Keep w w' No) := by
  refine ok40 _ _ _ _ ?_
  unfold sh40
  refine M.share_j (fun vals w' => vals = [] ∧ w = w') ?_ ?_
  case refine_2 =>
    intro K hK
    (repeat (first|refine ja ?_|refine jb ?_|refine jc ?_|refine jd ?_|refine je ?_|refine jf ?_|refine jg ?_|refine jh ?_|refine ji ?_|refine jj ?_|refine jk ?_|refine jl ?_|refine jm ?_|refine jn ?_|refine jo ?_|refine jp ?_|refine jq ?_|refine jr ?_|refine js ?_|refine jt ?_|refine ju ?_|refine jv ?_|refine jw ?_|refine jx ?_|refine jy ?_|refine jz ?_|refine jA ?_|refine jB ?_|refine jC ?_|refine jD ?_|refine jE ?_|refine jF ?_|refine jG ?_|refine jH ?_|refine jI ?_|refine jJ ?_|refine jK ?_|refine jL ?_|refine jM (by assumption) ?_|refine jN (by assumption) rfl ?_|refine jO (by assumption) ?_|refine jP (by assumption) rfl ?_|refine jQ ?_|refine jR ?_|refine jS ?_|refine jT ?_|refine jU (by assumption) rfl ?_))
    exact hK _ _ ⟨rfl, rfl⟩
  rintro vals w' ⟨rfl, rfl⟩ _
  refine M.share_j (fun vals w' => ∃ v, vals = [v] ∧ GI w' (w.heap.size ≤ ·) v [] ∧ Keep w w' No) ?_ ?_
  case refine_1 =>
    rintro vals w' ⟨v, rfl, h1, h2⟩ _
    exact ⟨h1, h2⟩
  intro K hK
  (repeat (first|refine ja ?_|refine jb ?_|refine jc ?_|refine jd ?_|refine je ?_|refine jf ?_|refine jg ?_|refine jh ?_|refine ji ?_|refine jj ?_|refine jk ?_|refine jl ?_|refine jm ?_|refine jn ?_|refine jo ?_|refine jp ?_|refine jq ?_|refine jr ?_|refine js ?_|refine jt ?_|refine ju ?_|refine jv ?_|refine jw ?_|refine jx ?_|refine jy ?_|refine jz ?_|refine jA ?_|refine jB ?_|refine jC ?_|refine jD ?_|refine jE ?_|refine jF ?_|refine jG ?_|refine jH ?_|refine jI ?_|refine jJ ?_|refine jK ?_|refine jL ?_|refine jM (by assumption) ?_|refine jN (by assumption) rfl ?_|refine jO (by assumption) ?_|refine jP (by assumption) rfl ?_|refine jQ ?_|refine jR ?_|refine jS ?_|refine jT ?_|refine jU (by assumption) rfl ?_))
  by_cases h0 : n = 0
  · subst h0
    (repeat (first|refine ja ?_|refine jb ?_|refine jc ?_|refine jd ?_|refine je ?_|refine jf ?_|refine jg ?_|refine jh ?_|refine ji ?_|refine jj ?_|refine jk ?_|refine jl ?_|refine jm ?_|refine jn ?_|refine jo ?_|refine jp ?_|refine jq ?_|refine jr ?_|refine js ?_|refine jt ?_|refine ju ?_|refine jv ?_|refine jw ?_|refine jx ?_|refine jy ?_|refine jz ?_|refine jA ?_|refine jB ?_|refine jC ?_|refine jD ?_|refine jE ?_|refine jF ?_|refine jG ?_|refine jH ?_|refine jI ?_|refine jJ ?_|refine jK ?_|refine jL ?_|refine jM (by assumption) ?_|refine jN (by assumption) rfl ?_|refine jO (by assumption) ?_|refine jP (by assumption) rfl ?_|refine jQ ?_|refine jR ?_|refine jS ?_|refine jT ?_|refine jU (by assumption) rfl ?_))
    exact hK _ _ ⟨_, rfl, GI.nil _ _, Keep.refl _ _⟩
  · (repeat (first|refine ja ?_|refine jb ?_|refine jc ?_|refine jd ?_|refine je ?_|refine jf ?_|refine jg ?_|refine jh ?_|refine ji ?_|refine jj ?_|refine jk ?_|refine jl ?_|refine jm ?_|refine jn ?_|refine jo ?_|refine jp ?_|refine jq ?_|refine jr ?_|refine js ?_|refine jt ?_|refine ju ?_|refine jv ?_|refine jw ?_|refine jx ?_|refine jy ?_|refine jz ?_|refine jA ?_|refine jB ?_|refine jC ?_|refine jD ?_|refine jE ?_|refine jF ?_|refine jG ?_|refine jH ?_|refine jI ?_|refine jJ ?_|refine jK ?_|refine jL ?_|refine jM (by assumption) ?_|refine jN (by assumption) rfl ?_|refine jO (by assumption) ?_|refine jP (by assumption) rfl ?_|refine jQ ?_|refine jR ?_|refine jS ?_|refine jT ?_|refine jU (by assumption) rfl ?_))
    refine M.slice_i 0 0 0 (by rfl) ?_
    have e0 : (((n : Nat) : Int) - (((0 : Nat) : Int) - ((0 : Nat) : Int))) = (n : Int) := by omega
    have hinf : ∃ i z, Try.prog.info? 3 = some i ∧ i.zero = some z ∧ i.size = 1 ∧ i.bytes = 8 ∧ z.cells = #[vi 0] := by
      have h1 : (Try.prog.info? 3).isSome = true := by kernel_rfl
      obtain ⟨i, hi⟩ := Option.isSome_iff_exists.1 h1
      have h2 : ((Try.prog.info? 3).bind (·.zero)).map (·.cells) = some #[vi 0] := by kernel_rfl
      have h3 : (Try.prog.info? 3).map (fun i => (i.size, i.bytes)) = some (1, 8) := by kernel_rfl
      rw [hi] at h2 h3
      simp only [Option.bind_some, Option.map_some, Option.some.injEq, Prod.mk.injEq] at h2 h3
      obtain ⟨z, hz, hc⟩ := Option.map_eq_some_iff.1 h2
      exact ⟨i, z, hi, hz, h3.1, h3.2, hc⟩
    obtain ⟨i, z, hi, hz, hs, hb, hc⟩ := hinf
    have hcap : Builtin.nextslicecap (0 + n) 0 = n := by unfold Builtin.nextslicecap; rw [if_pos (by omega)]; omega
    have run := run_append_grow_zeros (P := Try.prog) w 34 3 34 3 i z .i64 .i64 (by kernel_rfl) (by kernel_rfl) hi hz none 0 0 [] (by simp [Builtin.firstCells]) n (by omega) (by omega) (by omega) (by omega) (by rw [hb]; omega) (by rw [hcap, hb]; omega)
    refine M.next_i (v := .slice (some ⟨w.heap.size, 0, none⟩) (0 + n) (grownCap w (0 + n) 0 3)) (w' := _) run ?_
    have hge := grownCap_ge w (0 + n) 0 3
    generalize grownCap w (0 + n) 0 3 = c at hge ⊢
    rw [hc]
    have hcells : ([].toArray ++ Builtin.zeroCells #[vi 0] n ++ Builtin.zeroCells #[vi 0] (c - (0 + n)) : Array Value) = ⟨List.replicate c (vi 0)⟩ := by
      apply Array.ext'
      have hz0 : ∀ m : Nat, (Builtin.zeroCells #[vi 0] m).toList = List.replicate m (vi 0) := fun m => by
        apply List.ext_getElem?
        intro j
        by_cases hj : j < m
        · simp [Builtin.zeroCells, hj, Nat.mod_one]
        · simp [Builtin.zeroCells, hj]
      simp only [Array.toList_append, hz0, List.nil_append]
      rw [List.replicate_append_replicate]
      congr 1
      omega
    have b : Blk (w.drew.alloc (.cells ([].toArray ++ Builtin.zeroCells #[vi 0] n ++ Builtin.zeroCells #[vi 0] (c - (0 + n))) 3)) w.heap.size (List.replicate c (vi 0)) := by
      rw [hcells]
      exact ⟨3, alloc_new w.drew _⟩
    have k : Keep w (w.drew.alloc (.cells ([].toArray ++ Builtin.zeroCells #[vi 0] n ++ Builtin.zeroCells #[vi 0] (c - (0 + n))) 3)) No := (Keep.drew w No).trans (Keep.alloc w.drew _ _) (fun _ _ h => h)
    generalize (w.drew.alloc (.cells ([].toArray ++ Builtin.zeroCells #[vi 0] n ++ Builtin.zeroCells #[vi 0] (c - (0 + n))) 3)) = w1 at b k ⊢
    (repeat (first|refine ja ?_|refine jb ?_|refine jc ?_|refine jd ?_|refine je ?_|refine jf ?_|refine jg ?_|refine jh ?_|refine ji ?_|refine jj ?_|refine jk ?_|refine jl ?_|refine jm ?_|refine jn ?_|refine jo ?_|refine jp ?_|refine jq ?_|refine jr ?_|refine js ?_|refine jt ?_|refine ju ?_|refine jv ?_|refine jw ?_|refine jx ?_|refine jy ?_|refine jz ?_|refine jA ?_|refine jB ?_|refine jC ?_|refine jD ?_|refine jE ?_|refine jF ?_|refine jG ?_|refine jH ?_|refine jI ?_|refine jJ ?_|refine jK ?_|refine jL ?_|refine jM (by assumption) ?_|refine jN (by assumption) rfl ?_|refine jO (by assumption) ?_|refine jP (by assumption) rfl ?_|refine jQ ?_|refine jR ?_|refine jS ?_|refine jT ?_|refine jU (by assumption) rfl ?_))
    refine M.slice_i 0 0 c (sl3_h (h := 0) (Nat.zero_le c)) ?_
    refine hK _ _ ⟨_, rfl, ?_, k⟩
    refine ⟨rfl, .inr ⟨w.heap.size, c, List.replicate c (vi 0), ?_, Nat.le_refl _, by simpa using b, by simp⟩⟩
    rw [if_neg (by omega)]
    simp [add_mk]
theorem scon_ret {w : World} {D : Nat → Prop} {b : Nat} {vs : List Value} {ls : List (List Int)} (hb : Blk w b vs) (hl : vs.length = ls.length) (hv : ∀ (k : Nat) v l, vs[k]? = some v → ls[k]? = some l → LV vi w D v l) (hf : ls.flatten.length ≤ 1000000) (hn : ls.length ≤ 1000000) (m : Nat) (hm : m = ls.length) :
    Ret Try.prog 20 #[.slice (some ⟨b, 0, none⟩) m m] w (fun r w' => GI w' (w.heap.size ≤ ·) r ls.flatten ∧ Keep w w' No) := by
  subst hm
  have hv : ∀ (k : Nat) v l, vs[k]? = some v → ls[k]? = some l → LV vi w (· < w.heap.size) v l := fun k v l h1 h2 => (hv k v l h1 h2).mono (fun b hb _ => hb)
  have hblt := hb.lt
  have hlen : ∀ k, k ≤ ls.length → (ls.take k).flatten.length ≤ ls.flatten.length := fun k hk => by
    have : ls.flatten = (ls.take k).flatten ++ (ls.drop k).flatten := by rw [← List.flatten_append, List.take_append_drop]
    rw [this, List.length_append]; omega
  have hcell : ∀ w', Keep w w' No → ∀ k v, vs[k]? = some v → w'.cell? ⟨b, 0 + k * 1, none⟩ = some v := fun w' k' k v h => by
    have := (hb.keep k' (fun h => h)).cell (o := k) h
    rwa [Nat.zero_add, Nat.mul_one]
  refine ok20 _ _ _ ?_
  unfold sh20
  (repeat (first|refine ja ?_|refine jb ?_|refine jc ?_|refine jd ?_|refine je ?_|refine jf ?_|refine jg ?_|refine jh ?_|refine ji ?_|refine jj ?_|refine jk ?_|refine jl ?_|refine jm ?_|refine jn ?_|refine jo ?_|refine jp ?_|refine jq ?_|refine jr ?_|refine js ?_|refine jt ?_|refine ju ?_|refine jv ?_|refine jw ?_|refine jx ?_|refine jy ?_|refine jz ?_|refine jA ?_|refine jB ?_|refine jC ?_|refine jD ?_|refine jE ?_|refine jF ?_|refine jG ?_|refine jH ?_|refine jI ?_|refine jJ ?_|refine jK ?_|refine jL ?_|refine jM (by assumption) ?_|refine jN (by assumption) rfl ?_|refine jO (by assumption) ?_|refine jP (by assumption) rfl ?_|refine jQ ?_|refine jR ?_|refine jS ?_|refine jT ?_|refine jU (by assumption) rfl ?_))
  refine M.loop_i (σ := Nat) (fun k vals w' => vals = [vi (((ls.take k).flatten.length : Nat) : Int), vi k] ∧ k ≤ ls.length ∧ w' = w) (fun k => ls.length - k) 0 ⟨by simp, by omega, rfl⟩ ?_
  rintro k vals w1 K ⟨rfl, hk, e1⟩ hK _
  subst e1
  simp only [List.getD_cons_zero, List.getD_cons_succ]
  by_cases hlt : k < ls.length
  · obtain ⟨l, hlk⟩ : ∃ l, ls[k]? = some l := ⟨_, List.getElem?_eq_getElem hlt⟩
    obtain ⟨v, hvk⟩ : ∃ v, vs[k]? = some v := ⟨_, List.getElem?_eq_getElem (by omega)⟩
    have et : (ls.take (k + 1)).flatten = (ls.take k).flatten ++ l := by rw [List.take_add_one, hlk, List.flatten_append]; simp
    have h1 := hlen (k + 1) (by omega)
    rw [et, List.length_append] at h1
    obtain ⟨A, c, rfl, hr, _⟩ := hv k v l hvk hlk
    (repeat (first|refine ja ?_|refine jb ?_|refine jc ?_|refine jd ?_|refine je ?_|refine jf ?_|refine jg ?_|refine jh ?_|refine ji ?_|refine jj ?_|refine jk ?_|refine jl ?_|refine jm ?_|refine jn ?_|refine jo ?_|refine jp ?_|refine jq ?_|refine jr ?_|refine js ?_|refine jt ?_|refine ju ?_|refine jv ?_|refine jw ?_|refine jx ?_|refine jy ?_|refine jz ?_|refine jA ?_|refine jB ?_|refine jC ?_|refine jD ?_|refine jE ?_|refine jF ?_|refine jG ?_|refine jH ?_|refine jI ?_|refine jJ ?_|refine jK ?_|refine jL ?_|refine jM (by assumption) ?_|refine jN (by assumption) rfl ?_|refine jO (by assumption) ?_|refine jP (by assumption) rfl ?_|refine jQ ?_|refine jR ?_|refine jS ?_|refine jT ?_|refine jU (by assumption) rfl ?_))
    refine M.share_j (fun vals w' => vals = [vi (((ls.take (k + 1)).flatten.length : Nat) : Int)] ∧ w' = w1) ?_ ?_
    · rintro vals w' ⟨rfl, e⟩ _
      subst e
      simp only [List.getD_cons_zero, List.getD_cons_succ]
      (repeat (first|refine ja ?_|refine jb ?_|refine jc ?_|refine jd ?_|refine je ?_|refine jf ?_|refine jg ?_|refine jh ?_|refine ji ?_|refine jj ?_|refine jk ?_|refine jl ?_|refine jm ?_|refine jn ?_|refine jo ?_|refine jp ?_|refine jq ?_|refine jr ?_|refine js ?_|refine jt ?_|refine ju ?_|refine jv ?_|refine jw ?_|refine jx ?_|refine jy ?_|refine jz ?_|refine jA ?_|refine jB ?_|refine jC ?_|refine jD ?_|refine jE ?_|refine jF ?_|refine jG ?_|refine jH ?_|refine jI ?_|refine jJ ?_|refine jK ?_|refine jL ?_|refine jM (by assumption) ?_|refine jN (by assumption) rfl ?_|refine jO (by assumption) ?_|refine jP (by assumption) rfl ?_|refine jQ ?_|refine jR ?_|refine jS ?_|refine jT ?_|refine jU (by assumption) rfl ?_))
      exact hK (k + 1) _ _ (by omega) ⟨rfl, by omega, rfl⟩
    · intro K2 hK2
      refine M.idx_i (by omega) (by omega) ?_
      refine M.load_i (hcell w1 (Keep.refl _ _) _ _ (by rw [Int.toNat_natCast]; exact hvk)) ?_
      (repeat (first|refine ja ?_|refine jb ?_|refine jc ?_|refine jd ?_|refine je ?_|refine jf ?_|refine jg ?_|refine jh ?_|refine ji ?_|refine jj ?_|refine jk ?_|refine jl ?_|refine jm ?_|refine jn ?_|refine jo ?_|refine jp ?_|refine jq ?_|refine jr ?_|refine js ?_|refine jt ?_|refine ju ?_|refine jv ?_|refine jw ?_|refine jx ?_|refine jy ?_|refine jz ?_|refine jA ?_|refine jB ?_|refine jC ?_|refine jD ?_|refine jE ?_|refine jF ?_|refine jG ?_|refine jH ?_|refine jI ?_|refine jJ ?_|refine jK ?_|refine jL ?_|refine jM (by assumption) ?_|refine jN (by assumption) rfl ?_|refine jO (by assumption) ?_|refine jP (by assumption) rfl ?_|refine jQ ?_|refine jR ?_|refine jS ?_|refine jT ?_|refine jU (by assumption) rfl ?_))
      refine hK2 _ _ ⟨?_, rfl⟩
      rw [et, List.length_append]
      congr 2
  · have e : k = ls.length := by omega
    subst e
    rw [List.take_length]
    (repeat (first|refine ja ?_|refine jb ?_|refine jc ?_|refine jd ?_|refine je ?_|refine jf ?_|refine jg ?_|refine jh ?_|refine ji ?_|refine jj ?_|refine jk ?_|refine jl ?_|refine jm ?_|refine jn ?_|refine jo ?_|refine jp ?_|refine jq ?_|refine jr ?_|refine js ?_|refine jt ?_|refine ju ?_|refine jv ?_|refine jw ?_|refine jx ?_|refine jy ?_|refine jz ?_|refine jA ?_|refine jB ?_|refine jC ?_|refine jD ?_|refine jE ?_|refine jF ?_|refine jG ?_|refine jH ?_|refine jI ?_|refine jJ ?_|refine jK ?_|refine jL ?_|refine jM (by assumption) ?_|refine jN (by assumption) rfl ?_|refine jO (by assumption) ?_|refine jP (by assumption) rfl ?_|refine jQ ?_|refine jR ?_|refine jS ?_|refine jT ?_|refine jU (by assumption) rfl ?_))
    refine M.call_i (grow_ret ls.flatten.length hf) ?_; rintro v0 w2 ⟨g2, k2⟩
    (repeat (first|refine ja ?_|refine jb ?_|refine jc ?_|refine jd ?_|refine je ?_|refine jf ?_|refine jg ?_|refine jh ?_|refine ji ?_|refine jj ?_|refine jk ?_|refine jl ?_|refine jm ?_|refine jn ?_|refine jo ?_|refine jp ?_|refine jq ?_|refine jr ?_|refine js ?_|refine jt ?_|refine ju ?_|refine jv ?_|refine jw ?_|refine jx ?_|refine jy ?_|refine jz ?_|refine jA ?_|refine jB ?_|refine jC ?_|refine jD ?_|refine jE ?_|refine jF ?_|refine jG ?_|refine jH ?_|refine jI ?_|refine jJ ?_|refine jK ?_|refine jL ?_|refine jM (by assumption) ?_|refine jN (by assumption) rfl ?_|refine jO (by assumption) ?_|refine jP (by assumption) rfl ?_|refine jQ ?_|refine jR ?_|refine jS ?_|refine jT ?_|refine jU (by assumption) rfl ?_))
    refine M.loop_i (σ := Nat) (fun k vals w' => ∃ v, vals = [v, vi k] ∧ k ≤ ls.length ∧ GI w' (w1.heap.size ≤ ·) v (ls.take k).flatten ∧ Keep w1 w' No) (fun k => ls.length - k) 0 ⟨v0, rfl, by omega, by simpa using g2, k2⟩ ?_
    rintro k vals w3 K3 ⟨v, rfl, hk, g3, k3⟩ hK3 _
    simp only [List.getD_cons_zero, List.getD_cons_succ]
    by_cases hlt : k < ls.length
    · obtain ⟨l, hlk⟩ : ∃ l, ls[k]? = some l := ⟨_, List.getElem?_eq_getElem hlt⟩
      obtain ⟨v2, hvk⟩ : ∃ v, vs[k]? = some v := ⟨_, List.getElem?_eq_getElem (by omega)⟩
      have et : (ls.take (k + 1)).flatten = (ls.take k).flatten ++ l := by rw [List.take_add_one, hlk, List.flatten_append]; simp
      have h1 := hlen (k + 1) (by omega)
      rw [et, List.length_append] at h1
      obtain ⟨A, c, rfl, hr, _⟩ := hv k v2 l hvk hlk
      have q3 := k3.size
      (repeat (first|refine ja ?_|refine jb ?_|refine jc ?_|refine jd ?_|refine je ?_|refine jf ?_|refine jg ?_|refine jh ?_|refine ji ?_|refine jj ?_|refine jk ?_|refine jl ?_|refine jm ?_|refine jn ?_|refine jo ?_|refine jp ?_|refine jq ?_|refine jr ?_|refine js ?_|refine jt ?_|refine ju ?_|refine jv ?_|refine jw ?_|refine jx ?_|refine jy ?_|refine jz ?_|refine jA ?_|refine jB ?_|refine jC ?_|refine jD ?_|refine jE ?_|refine jF ?_|refine jG ?_|refine jH ?_|refine jI ?_|refine jJ ?_|refine jK ?_|refine jL ?_|refine jM (by assumption) ?_|refine jN (by assumption) rfl ?_|refine jO (by assumption) ?_|refine jP (by assumption) rfl ?_|refine jQ ?_|refine jR ?_|refine jS ?_|refine jT ?_|refine jU (by assumption) rfl ?_))
      refine M.idx_i (by omega) (by omega) ?_
      refine M.load_i (hcell w3 k3 _ _ (by rw [Int.toNat_natCast]; exact hvk)) ?_
      refine M.appendI_i rfl g3 (hr.keep k3 (fun _ _ _ h => h)) rfl (by omega) (fun v4 w4 g4 k4 => ?_)
      rw [← et] at g4
      (repeat (first|refine ja ?_|refine jb ?_|refine jc ?_|refine jd ?_|refine je ?_|refine jf ?_|refine jg ?_|refine jh ?_|refine ji ?_|refine jj ?_|refine jk ?_|refine jl ?_|refine jm ?_|refine jn ?_|refine jo ?_|refine jp ?_|refine jq ?_|refine jr ?_|refine js ?_|refine jt ?_|refine ju ?_|refine jv ?_|refine jw ?_|refine jx ?_|refine jy ?_|refine jz ?_|refine jA ?_|refine jB ?_|refine jC ?_|refine jD ?_|refine jE ?_|refine jF ?_|refine jG ?_|refine jH ?_|refine jI ?_|refine jJ ?_|refine jK ?_|refine jL ?_|refine jM (by assumption) ?_|refine jN (by assumption) rfl ?_|refine jO (by assumption) ?_|refine jP (by assumption) rfl ?_|refine jQ ?_|refine jR ?_|refine jS ?_|refine jT ?_|refine jU (by assumption) rfl ?_))
      exact hK3 (k + 1) _ _ (by omega) ⟨v4, rfl, by omega, g4.mono (fun b hb h => by rcases h with h | h <;> omega), k3.trans k4 (fun b hb h => by omega)⟩
    · have e : k = ls.length := by omega
      subst e
      rw [List.take_length] at g3
      (repeat (first|refine ja ?_|refine jb ?_|refine jc ?_|refine jd ?_|refine je ?_|refine jf ?_|refine jg ?_|refine jh ?_|refine ji ?_|refine jj ?_|refine jk ?_|refine jl ?_|refine jm ?_|refine jn ?_|refine jo ?_|refine jp ?_|refine jq ?_|refine jr ?_|refine js ?_|refine jt ?_|refine ju ?_|refine jv ?_|refine jw ?_|refine jx ?_|refine jy ?_|refine jz ?_|refine jA ?_|refine jB ?_|refine jC ?_|refine jD ?_|refine jE ?_|refine jF ?_|refine jG ?_|refine jH ?_|refine jI ?_|refine jJ ?_|refine jK ?_|refine jL ?_|refine jM (by assumption) ?_|refine jN (by assumption) rfl ?_|refine jO (by assumption) ?_|refine jP (by assumption) rfl ?_|refine jQ ?_|refine jR ?_|refine jS ?_|refine jT ?_|refine jU (by assumption) rfl ?_))
      exact ⟨g3, k3⟩
end Go.Proofs.Ytanjlgafjgoaaaa
