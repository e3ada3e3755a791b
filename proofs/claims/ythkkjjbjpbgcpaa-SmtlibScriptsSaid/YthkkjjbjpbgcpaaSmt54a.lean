import Derived.Test.YthkkjjbjpbgcpaaSmt54p
import Derived.Test.YthkkjjbjpbgcpaaLaw15b
import Derived.Laws.IdiomStrings
import Derived.Laws.Concat
import Derived.Laws.Slices
namespace Go.Proofs.Ythkkjjbjpbgcpaa
open Go.Mw
set_option linter.unusedVariables false
set_option linter.unusedSimpArgs false
set_option maxRecDepth 100000
attribute [local irreducible] M.val M.unit M.next M.pick M.new M.nilCheck M.load1 M.loadA M.store M.fieldAddr M.indexSl M.indexArr M.slice M.makeSlice M.buildSlice M.len M.lenS M.cap M.append M.extract M.conv M.not M.neg M.bin M.shift M.eqB M.eqNil M.scat M.call M.callv M.gd M.share M.cond M.loop M.draw pureW readW Ret
/-! breakwater/smtlib.digits: function 54 -/
def sh54 (x0 : Value) (R : Kt) (w : World) : Prop :=
  M.new 107 #[.int .u8 0, .int .u8 0, .int .u8 0, .int .u8 0, .int .u8 0, .int .u8 0, .int .u8 0, .int .u8 0, .int .u8 0, .int .u8 0, .int .u8 0, .int .u8 0, .int .u8 0, .int .u8 0, .int .u8 0, .int .u8 0, .int .u8 0, .int .u8 0, .int .u8 0, .int .u8 0] (fun t3 w =>
  M.loop [x0, (Value.int IntKind.i64 20)] (fun s1 K1 w => ∀ _ : List Value,
  M.bin .eql (s1.getD 1 undef) (Value.int IntKind.i64 20) (fun t6 w =>
  M.gd t6 false (fun k w => k (s1.getD 0 undef) w) (fun t8 w =>
  M.gd t6 false (fun k w => M.bin .gtr t8 (Value.int IntKind.u64 0) k w) (fun t9 w =>
  M.pick t6 (Value.bool true) t9 (fun t10 w =>
  M.cond t10
  (M.bin .sub (s1.getD 1 undef) (Value.int IntKind.i64 1) (fun t12 w =>
  M.bin .rem (s1.getD 0 undef) (Value.int IntKind.u64 10) (fun t15 w =>
  M.bin .add (Value.int IntKind.u64 48) t15 (fun t16 w =>
  M.conv .u8 t16 (fun t17 w =>
  M.indexArr 20 1 t3 t12 (fun t18 w =>
  M.store 1 t18 t17 (fun _ w =>
  M.bin .quo (s1.getD 0 undef) (Value.int IntKind.u64 10) (fun t20 w =>
  K1 [t20, t12] w) w) w) w) w) w) w) w)
  (M.val Try.prog (Instr.sliceAt 107 t3 (some (s1.getD 1 undef)) none none) (fun t22 w =>
  M.val Try.prog (convert 59 9 t22) (fun t23 w =>
  R t23 w) w) w)) w) w) w) w) w) w
theorem ok54 (x0 : Value) (R : Kt) (w : World) (h : sh54 x0 R w) : Ret Try.prog 54 #[x0] w R :=
  ret_mk <| calls_of_comp mixed (c := Try.f54.body.getD .skip) (args := [x0]) (rs := [(ResultVar.tmp 2)]) (Ann.seq Ann.text (Ann.seq Ann.text (Ann.seq Ann.text (Ann.seq (Ann.block (Ann.loop [0, 4] [5, 6, 7, 8, 9, 10, 11, 12, 13, 14, 15, 16, 17, 18, 19, 20] (Ann.seq (Ann.seq Ann.text (Ann.cond Ann.leaf Ann.leaf)) (Ann.block (Ann.seq Ann.text (Ann.seq Ann.text Ann.text)))))) (Ann.seq Ann.text Ann.leaf)))))
    Try.func54 (by kernel_rfl) (by kernel_rfl)
    (Eq.mp (by kernel_rfl) h)
/-! breakwater/smtlib.number: function 30 -/
def sh30 (x0 : Value) (R : Kt) (w : World) : Prop :=
  M.conv .u64 x0 (fun t4 w =>
  M.call Try.prog 54 #[t4] (fun t5 w =>
  R t5 w) w) w
theorem ok30 (x0 : Value) (R : Kt) (w : World) (h : sh30 x0 R w) : Ret Try.prog 30 #[x0] w R :=
  ret_mk <| calls_of_comp mixed (c := Try.f30.body.getD .skip) (args := [x0]) (rs := [(ResultVar.tmp 2)]) (Ann.seq Ann.text (Ann.seq Ann.text Ann.leaf))
    Try.func30 (by kernel_rfl) (by kernel_rfl)
    (Eq.mp (by kernel_rfl) h)
/-! breakwater/smtlib.name: function 55 -/
def sh55 (x0 : Value) (R : Kt) (w : World) : Prop :=
  M.bin .eql x0 (Value.int IntKind.i64 24) (fun t4 w =>
  M.cond t4
  (R (Value.string { data := #[99, 111, 110, 99, 97, 116] }) w)
  (pureW Try.prog (Instr.build 108 #[(0, (Value.string { data := #[98, 118, 97, 100, 100] })), (1, (Value.string { data := #[98, 118, 115, 117, 98] })), (2, (Value.string { data := #[98, 118, 109, 117, 108] })), (3, (Value.string { data := #[98, 118, 117, 100, 105, 118] })), (4, (Value.string { data := #[98, 118, 117, 114, 101, 109] })), (5, (Value.string { data := #[98, 118, 97, 110, 100] })), (6, (Value.string { data := #[98, 118, 111, 114] })), (7, (Value.string { data := #[98, 118, 120, 111, 114] })), (8, (Value.string { data := #[98, 118, 115, 104, 108] })), (9, (Value.string { data := #[98, 118, 108, 115, 104, 114] })), (10, (Value.string { data := #[98, 118, 97, 115, 104, 114] })), (11, (Value.string { data := #[61] })), (12, (Value.string { data := #[98, 118, 117, 108, 116] })), (13, (Value.string { data := #[98, 118, 115, 108, 116] })), (14, (Value.string { data := #[98, 118, 110, 111, 116] })), (15, (Value.string { data := #[98, 118, 110, 101, 103] }))]) (fun t5 w =>
  M.bin .sub x0 (Value.int IntKind.i64 1) (fun t7 w =>
  pureW Try.prog (Instr.index 108 t5 t7) (fun t8 w =>
  R t8 w) w) w) w)) w
theorem ok55 (x0 : Value) (R : Kt) (w : World) (h : sh55 x0 R w) : Ret Try.prog 55 #[x0] w R :=
  ret_mk <| calls_of_comp mixed (c := Try.f55.body.getD .skip) (args := [x0]) (rs := [(ResultVar.tmp 2)]) (Ann.seq Ann.text (Ann.seq (Ann.seq Ann.text (Ann.cond (Ann.seq Ann.text Ann.leaf) Ann.leaf)) (Ann.seq Ann.text Ann.leaf)))
    Try.func55 (by kernel_rfl) (by kernel_rfl)
    (Eq.mp (by kernel_rfl) h)
/-! breakwater/smtlib.text: function 53 -/
def sh53 (x0 : Value) (R : Kt) (w : World) : Prop :=
  M.new 63 #[.string ByteArray.empty, .int .i64 0] (fun t2 w =>
  pureW Try.prog (Instr.build 63 #[(0, x0), (1, (Value.int IntKind.i64 (-1)))]) (fun t4 w =>
  M.store 2 t2 t4 (fun _ w =>
  M.loadA 2 t2 (fun r0 w => R r0 w) w) w) w) w
theorem ok53 (x0 : Value) (R : Kt) (w : World) (h : sh53 x0 R w) : Ret Try.prog 53 #[x0] w R :=
  ret_mk <| calls_of_comp mixed (c := Try.f53.body.getD .skip) (args := [x0]) (rs := [(ResultVar.cell 2 63)]) (Ann.seq Ann.text (Ann.seq Ann.text Ann.leaf))
    Try.func53 (by kernel_rfl) (by kernel_rfl)
    (Eq.mp (by kernel_rfl) h)
/-! breakwater/breakwaterref28.Digits: function 56 -/
def sh56 (x0 : Value) (R : Kt) (w : World) : Prop :=
  M.loop [x0, (Value.string { data := #[] })] (fun s1 K1 w => ∀ _ : List Value,
  M.bin .geq (s1.getD 0 undef) (Value.int IntKind.u64 10) (fun t5 w =>
  M.cond t5
  (M.bin .rem (s1.getD 0 undef) (Value.int IntKind.u64 10) (fun t7 w =>
  M.bin .add (Value.int IntKind.u64 48) t7 (fun t8 w =>
  M.conv .u8 t8 (fun t9 w =>
  M.buildSlice 5 1 #[.int .u8 0] 1 [(0, t9)] (fun t10 w =>
  M.val Try.prog (convert 59 9 t10) (fun t11 w =>
  M.scat t11 (s1.getD 1 undef) (fun t13 w =>
  M.bin .quo (s1.getD 0 undef) (Value.int IntKind.u64 10) (fun t15 w =>
  K1 [t15, t13] w) w) w) w) w) w) w) w)
  (M.bin .add (Value.int IntKind.u64 48) (s1.getD 0 undef) (fun t17 w =>
  M.conv .u8 t17 (fun t18 w =>
  M.buildSlice 5 1 #[.int .u8 0] 1 [(0, t18)] (fun t19 w =>
  M.val Try.prog (convert 59 9 t19) (fun t20 w =>
  M.scat t20 (s1.getD 1 undef) (fun t22 w =>
  R t22 w) w) w) w) w) w)) w) w
theorem ok56 (x0 : Value) (R : Kt) (w : World) (h : sh56 x0 R w) : Ret Try.prog 56 #[x0] w R :=
  ret_mk <| calls_of_comp mixed (c := Try.f56.body.getD .skip) (args := [x0]) (rs := [(ResultVar.tmp 2)]) (Ann.seq Ann.text (Ann.seq Ann.text (Ann.seq (Ann.block (Ann.loop [0, 3] [4, 5, 6, 7, 8, 9, 10, 11, 12, 13, 14, 15] (Ann.seq (Ann.seq Ann.text (Ann.cond Ann.leaf Ann.leaf)) (Ann.block (Ann.seq Ann.text Ann.text))))) (Ann.seq Ann.text Ann.leaf))))
    Try.func56 (by kernel_rfl) (by kernel_rfl)
    (Eq.mp (by kernel_rfl) h)
/-! breakwater/breakwaterref54.number: function 34 -/
def sh34 (x0 : Value) (R : Kt) (w : World) : Prop :=
  M.conv .u64 x0 (fun t4 w =>
  M.call Try.prog 56 #[t4] (fun t5 w =>
  R t5 w) w) w
theorem ok34 (x0 : Value) (R : Kt) (w : World) (h : sh34 x0 R w) : Ret Try.prog 34 #[x0] w R :=
  ret_mk <| calls_of_comp mixed (c := Try.f34.body.getD .skip) (args := [x0]) (rs := [(ResultVar.tmp 2)]) (Ann.seq Ann.text (Ann.seq Ann.text Ann.leaf))
    Try.func34 (by kernel_rfl) (by kernel_rfl)
    (Eq.mp (by kernel_rfl) h)
/-! breakwater/breakwaterref54.word: function 57 -/
def sh57 (x0 : Value) (R : Kt) (w : World) : Prop :=
  M.buildSlice 9 1 #[.string ByteArray.empty] 17 [(0, (Value.string { data := #[] })), (1, (Value.string { data := #[98, 118, 97, 100, 100] })), (2, (Value.string { data := #[98, 118, 115, 117, 98] })), (3, (Value.string { data := #[98, 118, 109, 117, 108] })), (4, (Value.string { data := #[98, 118, 117, 100, 105, 118] })), (5, (Value.string { data := #[98, 118, 117, 114, 101, 109] })), (6, (Value.string { data := #[98, 118, 97, 110, 100] })), (7, (Value.string { data := #[98, 118, 111, 114] })), (8, (Value.string { data := #[98, 118, 120, 111, 114] })), (9, (Value.string { data := #[98, 118, 115, 104, 108] })), (10, (Value.string { data := #[98, 118, 108, 115, 104, 114] })), (11, (Value.string { data := #[98, 118, 97, 115, 104, 114] })), (12, (Value.string { data := #[61] })), (13, (Value.string { data := #[98, 118, 117, 108, 116] })), (14, (Value.string { data := #[98, 118, 115, 108, 116] })), (15, (Value.string { data := #[98, 118, 110, 111, 116] })), (16, (Value.string { data := #[98, 118, 110, 101, 103] }))] (fun t4 w =>
  M.bin .eql x0 (Value.int IntKind.i64 24) (fun t6 w =>
  M.cond t6
  (R (Value.string { data := #[99, 111, 110, 99, 97, 116] }) w)
  (M.len t4 (fun t9 w =>
  M.bin .lss x0 t9 (fun t10 w =>
  M.cond t10
  (M.indexSl 1 t4 x0 (fun t13 w =>
  M.load1 t13 (fun t14 w =>
  R t14 w) w) w)
  (R (Value.string { data := #[] }) w)) w) w)) w) w
theorem ok57 (x0 : Value) (R : Kt) (w : World) (h : sh57 x0 R w) : Ret Try.prog 57 #[x0] w R :=
  ret_mk <| calls_of_comp mixed (c := Try.f57.body.getD .skip) (args := [x0]) (rs := [(ResultVar.tmp 2)]) (Ann.seq Ann.text (Ann.seq Ann.text (Ann.seq (Ann.seq Ann.text (Ann.cond (Ann.seq Ann.text Ann.leaf) Ann.leaf)) (Ann.seq (Ann.seq Ann.text (Ann.cond (Ann.seq Ann.text Ann.leaf) Ann.leaf)) (Ann.seq Ann.text Ann.leaf)))))
    Try.func57 (by kernel_rfl) (by kernel_rfl)
    (Eq.mp (by kernel_rfl) h)

abbrev vu (b : UInt8) : Value := .int .u8 b.toNat
theorem M.arrS_i {k : Kt} {w : World} {len : Nat} {d : IntKind} {i : Int} {b o : Nat} (h0 : 0 ≤ i) (h1 : i < len) (h : k (.pointer (some ⟨b, o + i.toNat * 1, none⟩)) w) : M.indexArr len 1 (.pointer (some ⟨b, o, none⟩)) (.int d i) k w := by
  unfold M.indexArr; simp only [add_mk]; exact ⟨⟨h0, h1⟩, h⟩
theorem M.str_i {k : Kt} {w : World} {a b : Bt} (h : a.length + b.length ≤ 9223372036854775807) (hk : k (vs (a ++ b)) w) : M.scat (vs a) (vs b) k w := by
  have e : (⟨a.toArray⟩ : ByteArray) ++ ⟨b.toArray⟩ = ⟨(a ++ b).toArray⟩ := by
    apply ByteArray.ext
    simp [ByteArray.data_append]
  unfold M.scat
  exact ⟨by simpa [ByteArray.size] using h, by rw [e]; exact hk⟩
theorem M.lenS_i {k : Kt} {w : World} {a : Bt} (h : k (vi a.length) w) : M.lenS (vs a) k w := by
  unfold M.lenS
  simpa [ByteArray.size] using h
theorem run_bytes {w : World} {b o n c : Nat} {l : Bt} (hn : l.length = n) (hc : ∀ j (hj : j < l.length), w.cell? ⟨b, o + j, none⟩ = some (vu l[j])) :
    (convert 59 9 (.slice (some ⟨b, o, none⟩) n c)).run Try.prog w = .ok (vs l) w := by
  subst hn
  exact run_convert_bytes_back w 59 9 5 ⟨b, o, none⟩ c l (by kernel_rfl) (by kernel_rfl) (by kernel_rfl) (fun j hj => by rw [add_mk]; exact hc j hj)
theorem dgt_toNat (n : Nat) : ((dgt n).toNat : Int) = 48 + (n % 10 : Nat) := by
  unfold dgt
  have : n % 10 < 10 := Nat.mod_lt _ (by omega)
  simp only [UInt8.toNat_ofNat']
  rw [Nat.mod_eq_of_lt (by omega)]; omega
theorem conv_u8 {k : Kt} {w : World} {n : Nat} (h : k (vu (dgt n)) w) : M.conv .u8 (.int .u64 (48 + (n % 10 : Nat))) k w := by
  have : n % 10 < 10 := Nat.mod_lt _ (by omega)
  unfold M.conv
  have e : IntKind.u8.wrap (48 + (n % 10 : Nat) : Int) = ((dgt n).toNat : Int) := by
    rw [dgt_toNat]
    have : ∀ m : Fin 10, IntKind.u8.wrap (48 + ((m : Nat) : Int)) = 48 + ((m : Nat) : Int) := by decide
    exact this ⟨n % 10, by omega⟩
  simp only [e]; exact h
theorem wrap_u64n {x : Int} (h0 : 0 ≤ x) (h1 : x < 18446744073709551616) : IntKind.u64.wrap x = x := by
  simp [IntKind.wrap, IntKind.bits, IntKind.signed]
  omega
theorem add_u64 {k : Kt} {w : World} {a b : Nat} (hb : a + b < 18446744073709551616) (h : k (.int .u64 ((a + b : Nat) : Int)) w) : M.bin .add (.int .u64 (a : Int)) (.int .u64 (b : Int)) k w := by
  refine M.bin_i (v := .int .u64 ((a + b : Nat) : Int)) ?_ h
  simp only [ibin]
  have : IntKind.u64.wrap ((a : Int) + b) = ((a + b : Nat) : Int) := by
    rw [← Int.natCast_add]; exact wrap_u64n (by omega) (by omega)
  rw [this]
theorem rem_u64 {k : Kt} {w : World} {n : Nat} (h : k (.int .u64 ((n % 10 : Nat) : Int)) w) : M.bin .rem (.int .u64 (n : Int)) (.int .u64 10) k w := by
  refine M.bin_i (v := .int .u64 ((n % 10 : Nat) : Int)) ?_ h
  simp only [ibin]
  rw [if_neg (by omega), Int.tmod_eq_emod_of_nonneg (by omega)]
  congr 2
theorem quo_u64 {k : Kt} {w : World} {n : Nat} (hn : n < 18446744073709551616) (h : k (.int .u64 ((n / 10 : Nat) : Int)) w) : M.bin .quo (.int .u64 (n : Int)) (.int .u64 10) k w := by
  refine M.bin_i (v := .int .u64 ((n / 10 : Nat) : Int)) ?_ h
  simp only [ibin]
  have e : (n : Int).tdiv 10 = ((n / 10 : Nat) : Int) := by rw [Int.tdiv_eq_ediv_of_nonneg (by omega)]; omega
  rw [if_neg (by omega), e]
  congr 2
  exact wrap_u64n (by omega) (by omega)
set_option maxHeartbeats 2000000 in
theorem digits_ret {n : Nat} (hn : n < 18446744073709551616) (w : World) : Ret Try.prog 54 #[.int .u64 (n : Int)] w (fun r w' => r = vs (digB n) ∧ Keep w w' No) := by
  refine ok54 _ _ _ ?_
  unfold sh54
  refine M.new_i (l := List.replicate 20 (vu 0)) (fun w1 b1 k1 s1 => ?_)
  refine M.loop_i (σ := Nat) (fun k vals w' => ∃ (x : Nat) (l : Bt), vals = [.int .u64 (x : Int), vi (20 - (k : Nat))] ∧ k ≤ 20 ∧ l.length = k ∧ Blk w' w.heap.size (List.replicate (20 - k) (vu 0) ++ l.map vu) ∧ ((k = 0 ∧ x = n) ∨ (0 < k ∧ digB n = (if x = 0 then [] else digB x) ++ l)) ∧ x * 10 ^ k ≤ n ∧ Keep w w' No) (fun k => 20 - k) 0 ⟨n, [], rfl, by omega, rfl, by simpa using b1, .inl ⟨rfl, rfl⟩, by omega, k1⟩ ?_
  rintro k vals w2 K ⟨x, l, rfl, hk, hl, b2, hc, hx, k2⟩ hK _
  simp only [List.getD_cons_zero, List.getD_cons_succ]
  have hxn : x < 18446744073709551616 := by
    have : x * 1 ≤ x * 10 ^ k := Nat.mul_le_mul_left x (Nat.pos_of_ne_zero (by simp))
    omega
  have h20 : ∀ h : 0 < x, k < 20 := fun h => by
    apply Classical.byContradiction
    intro hh
    have e : k = 20 := by omega
    subst e
    have : 1 * 10 ^ 20 ≤ x * 10 ^ 20 := Nat.mul_le_mul_right _ h
    omega
  have more : k < 20 → (k = 0 ∨ 0 < x) → M.bin .rem (.int .u64 (x : Int)) (.int .u64 10) (fun t15 w =>
      M.bin .add (.int .u64 48) t15 (fun t16 w =>
      M.conv .u8 t16 (fun t17 w =>
      M.indexArr 20 1 (ptr w1.heap.size.pred) (vi (20 - (k : Nat) - 1)) (fun t18 w =>
      M.store 1 t18 t17 (fun _ w =>
      M.bin .quo (.int .u64 (x : Int)) (.int .u64 10) (fun t20 w => K [t20, vi (20 - (k : Nat) - 1)] w) w) w) w) w) w) w2 := by
    intro h1 h2
    have e0 : w1.heap.size.pred = w.heap.size := by rw [s1]; rfl
    rw [e0]
    refine rem_u64 ?_
    refine add_u64 (a := 48) (by omega) ?_
    have e1 : (((48 + x % 10 : Nat)) : Int) = 48 + (x % 10 : Nat) := by omega
    rw [e1]
    refine conv_u8 ?_
    refine M.arrS_i (by omega) (by omega) ?_
    rw [Nat.zero_add, Nat.mul_one]
    refine M.store_i b2 (by simp; omega) rfl (fun w3 b3 k3 s3 => ?_)
    refine quo_u64 hxn ?_
    have ei : ((20 : Int) - (k : Nat) - 1).toNat = 19 - k := by omega
    rw [ei] at b3
    have eb : (List.replicate (20 - k) (vu 0) ++ l.map vu).set (19 - k) (vu (dgt x)) = List.replicate (20 - (k + 1)) (vu 0) ++ (dgt x :: l).map vu := by
      rw [show 20 - k = (19 - k) + 1 by omega, List.replicate_succ', List.append_assoc, List.set_append_right _ _ (by simp)]
      simp only [List.length_replicate, Nat.sub_self]
      rw [show 20 - (k + 1) = 19 - k by omega]
      simp
    rw [eb] at b3
    refine hK (k + 1) _ _ (by omega) ⟨x / 10, dgt x :: l, by rw [show (20 : Int) - (k : Nat) - 1 = 20 - ((k + 1 : Nat) : Int) by omega], by omega, by simp [hl], b3, .inr ⟨by omega, ?_⟩, ?_, k2.trans k3 (fun j hj e => by have e : j = w.heap.size := e; omega)⟩
    · have ed : digB x = (if x / 10 = 0 then [] else digB (x / 10)) ++ [dgt x] := by
        by_cases h10 : x < 10
        · rw [digB_lt h10, if_pos (by omega)]; rfl
        · rw [digB_ge h10, if_neg (by omega)]
      rcases hc with ⟨_, rfl⟩ | ⟨h3, h4⟩
      · have : l = [] := List.length_eq_zero_iff.1 (by omega)
        subst this
        exact ed
      · rw [h4, if_neg (by omega), ed, List.append_assoc]; rfl
    · have e1 : x / 10 * 10 ^ (k + 1) = x / 10 * 10 * 10 ^ k := by rw [Nat.pow_succ, Nat.mul_comm (10 ^ k) 10, ← Nat.mul_assoc]
      rw [e1]
      exact Nat.le_trans (Nat.mul_le_mul_right _ (by omega)) hx
  have e0 : ptr w.heap.size = ptr w1.heap.size.pred := by rw [s1]; rfl
  by_cases h0 : k = 0
  · (repeat (first|refine ja ?_|refine jb ?_|refine jc ?_|refine jd ?_|refine je ?_|refine jf ?_|refine jg ?_|refine jh ?_|refine ji ?_|refine jj ?_|refine jk ?_|refine jl ?_|refine jm ?_|refine jn ?_|refine jo ?_|refine jp ?_|refine jq ?_|refine jr ?_|refine js ?_|refine jt ?_|refine ju ?_|refine jv ?_|refine jw ?_|refine jx ?_|refine jy ?_|refine jz ?_|refine jA ?_|refine jB ?_|refine jC ?_|refine jD ?_|refine jE ?_|refine jF ?_|refine jG ?_|refine jH ?_|refine jI ?_|refine jJ ?_|refine jK ?_|refine jL ?_|refine jM (by assumption) ?_|refine jN (by assumption) rfl ?_|refine jO (by assumption) ?_|refine jP (by assumption) rfl ?_|refine jQ ?_|refine jR ?_|refine jS ?_|refine jT ?_|refine jU (by assumption) rfl ?_))
    have := more (by omega) (.inl h0)
    rw [← e0] at this
    exact this
  · by_cases hx0 : 0 < x
    · (repeat (first|refine ja ?_|refine jb ?_|refine jc ?_|refine jd ?_|refine je ?_|refine jf ?_|refine jg ?_|refine jh ?_|refine ji ?_|refine jj ?_|refine jk ?_|refine jl ?_|refine jm ?_|refine jn ?_|refine jo ?_|refine jp ?_|refine jq ?_|refine jr ?_|refine js ?_|refine jt ?_|refine ju ?_|refine jv ?_|refine jw ?_|refine jx ?_|refine jy ?_|refine jz ?_|refine jA ?_|refine jB ?_|refine jC ?_|refine jD ?_|refine jE ?_|refine jF ?_|refine jG ?_|refine jH ?_|refine jI ?_|refine jJ ?_|refine jK ?_|refine jL ?_|refine jM (by assumption) ?_|refine jN (by assumption) rfl ?_|refine jO (by assumption) ?_|refine jP (by assumption) rfl ?_|refine jQ ?_|refine jR ?_|refine jS ?_|refine jT ?_|refine jU (by assumption) rfl ?_))
      have := more (h20 hx0) (.inr hx0)
      rw [← e0] at this
      exact this
    · have : x = 0 := by omega
      subst this
      (repeat (first|refine ja ?_|refine jb ?_|refine jc ?_|refine jd ?_|refine je ?_|refine jf ?_|refine jg ?_|refine jh ?_|refine ji ?_|refine jj ?_|refine jk ?_|refine jl ?_|refine jm ?_|refine jn ?_|refine jo ?_|refine jp ?_|refine jq ?_|refine jr ?_|refine js ?_|refine jt ?_|refine ju ?_|refine jv ?_|refine jw ?_|refine jx ?_|refine jy ?_|refine jz ?_|refine jA ?_|refine jB ?_|refine jC ?_|refine jD ?_|refine jE ?_|refine jF ?_|refine jG ?_|refine jH ?_|refine jI ?_|refine jJ ?_|refine jK ?_|refine jL ?_|refine jM (by assumption) ?_|refine jN (by assumption) rfl ?_|refine jO (by assumption) ?_|refine jP (by assumption) rfl ?_|refine jQ ?_|refine jR ?_|refine jS ?_|refine jT ?_|refine jU (by assumption) rfl ?_))
      rcases hc with ⟨h, _⟩ | ⟨_, h4⟩
      · omega
      rw [if_pos rfl, List.nil_append] at h4
      have hrun : (Instr.sliceAt 107 (ptr w.heap.size) (some (vi (20 - (k : Nat)))) none none).run Try.prog w2 = .ok (.slice (some ⟨w.heap.size, (if k = 0 then 0 else 20 - k), none⟩) k k) w2 := by
        have ht : Try.prog.underlying 107 = some (.array (Try.prog.arrayLen 107) (Try.prog.elem 107)) := by kernel_rfl
        have hN : Try.prog.arrayLen 107 = 20 := by kernel_rfl
        have hs : ∀ w, (sizeOf (Try.prog.elem 107)).run Try.prog w = .ok 1 w := fun w => by kernel_rfl
        rw [run_sliceAt_array_l w2 _ _ ht .i64 _ (by omega) (by rw [hN]; omega), hs]
        simp only [Result.andThen, slicedAt, hN]
        have e1 : ((20 : Int) - (k : Nat)).toNat = 20 - k := by omega
        rw [e1, if_neg (by omega), if_neg h0]
        simp only [add_mk, Nat.mul_one, Nat.zero_add]
        rw [show 20 - (20 - k) = k by omega]
      rw [if_neg h0] at hrun
      refine M.val_i hrun ?_
      refine M.val_i (run_bytes (l := l) hl (fun j hj => ?_)) ?_
      · refine b2.cell ?_
        rw [List.getElem?_append_right (by simp), List.length_replicate, Nat.add_sub_cancel_left, List.getElem?_map, List.getElem?_eq_getElem hj]; rfl
      · rw [h4]; exact ⟨rfl, k2⟩
theorem number_ret (n : Int) (w : World) : Ret Try.prog 30 #[vi n] w (fun r w' => r = vs (numB n) ∧ Keep w w' No) := by
  refine ok30 _ _ _ ?_
  unfold sh30
  have e : IntKind.u64.wrap n = (((BitVec.ofInt 64 n).toNat : Nat) : Int) := by
    simp [IntKind.wrap, IntKind.bits, IntKind.signed, BitVec.toNat_ofInt]
    omega
  unfold M.conv
  simp only [e]
  refine M.call_i (digits_ret (BitVec.isLt _) w) ?_; rintro _ w1 ⟨rfl, k1⟩
  exact ⟨rfl, k1⟩
theorem name_ret {op : Int} (h : 1 ≤ op ∧ op ≤ 16 ∨ op = 24) (w : World) : Ret Try.prog 55 #[vi op] w (fun r w' => r = vs (opB op) ∧ Keep w w' No) := by
  refine ok55 _ _ _ ?_
  unfold sh55
  by_cases h24 : op = 24
  · subst h24
    (repeat (first|refine ja ?_|refine jb ?_|refine jc ?_|refine jd ?_|refine je ?_|refine jf ?_|refine jg ?_|refine jh ?_|refine ji ?_|refine jj ?_|refine jk ?_|refine jl ?_|refine jm ?_|refine jn ?_|refine jo ?_|refine jp ?_|refine jq ?_|refine jr ?_|refine js ?_|refine jt ?_|refine ju ?_|refine jv ?_|refine jw ?_|refine jx ?_|refine jy ?_|refine jz ?_|refine jA ?_|refine jB ?_|refine jC ?_|refine jD ?_|refine jE ?_|refine jF ?_|refine jG ?_|refine jH ?_|refine jI ?_|refine jJ ?_|refine jK ?_|refine jL ?_|refine jM (by assumption) ?_|refine jN (by assumption) rfl ?_|refine jO (by assumption) ?_|refine jP (by assumption) rfl ?_|refine jQ ?_|refine jR ?_|refine jS ?_|refine jT ?_|refine jU (by assumption) rfl ?_))
    exact ⟨rfl, Keep.refl _ _⟩
  (repeat (first|refine ja ?_|refine jb ?_|refine jc ?_|refine jd ?_|refine je ?_|refine jf ?_|refine jg ?_|refine jh ?_|refine ji ?_|refine jj ?_|refine jk ?_|refine jl ?_|refine jm ?_|refine jn ?_|refine jo ?_|refine jp ?_|refine jq ?_|refine jr ?_|refine js ?_|refine jt ?_|refine ju ?_|refine jv ?_|refine jw ?_|refine jx ?_|refine jy ?_|refine jz ?_|refine jA ?_|refine jB ?_|refine jC ?_|refine jD ?_|refine jE ?_|refine jF ?_|refine jG ?_|refine jH ?_|refine jI ?_|refine jJ ?_|refine jK ?_|refine jL ?_|refine jM (by assumption) ?_|refine jN (by assumption) rfl ?_|refine jO (by assumption) ?_|refine jP (by assumption) rfl ?_|refine jQ ?_|refine jR ?_|refine jS ?_|refine jT ?_|refine jU (by assumption) rfl ?_))
  have key : ∀ m : Fin 16, (Instr.index 108 (.agg #[vs ([98, 118, 97, 100, 100] : List UInt8), vs ([98, 118, 115, 117, 98] : List UInt8), vs ([98, 118, 109, 117, 108] : List UInt8), vs ([98, 118, 117, 100, 105, 118] : List UInt8), vs ([98, 118, 117, 114, 101, 109] : List UInt8), vs ([98, 118, 97, 110, 100] : List UInt8), vs ([98, 118, 111, 114] : List UInt8), vs ([98, 118, 120, 111, 114] : List UInt8), vs ([98, 118, 115, 104, 108] : List UInt8), vs ([98, 118, 108, 115, 104, 114] : List UInt8), vs ([98, 118, 97, 115, 104, 114] : List UInt8), vs ([61] : List UInt8), vs ([98, 118, 117, 108, 116] : List UInt8), vs ([98, 118, 115, 108, 116] : List UInt8), vs ([98, 118, 110, 111, 116] : List UInt8), vs ([98, 118, 110, 101, 103] : List UInt8)]) (vi (m.val : Int))).run Try.prog = fun w => .ok (vs (opB ((m.val : Int) + 1))) w := by
    intro m
    match m with
    | ⟨0, _⟩ | ⟨1, _⟩ | ⟨2, _⟩ | ⟨3, _⟩ | ⟨4, _⟩ | ⟨5, _⟩ | ⟨6, _⟩ | ⟨7, _⟩ | ⟨8, _⟩ | ⟨9, _⟩ | ⟨10, _⟩ | ⟨11, _⟩ | ⟨12, _⟩ | ⟨13, _⟩ | ⟨14, _⟩ | ⟨15, _⟩ => rfl
    | ⟨n + 16, h⟩ => exact absurd h (by omega)
  refine M.pure_i (.agg #[vs ([98, 118, 97, 100, 100] : List UInt8), vs ([98, 118, 115, 117, 98] : List UInt8), vs ([98, 118, 109, 117, 108] : List UInt8), vs ([98, 118, 117, 100, 105, 118] : List UInt8), vs ([98, 118, 117, 114, 101, 109] : List UInt8), vs ([98, 118, 97, 110, 100] : List UInt8), vs ([98, 118, 111, 114] : List UInt8), vs ([98, 118, 120, 111, 114] : List UInt8), vs ([98, 118, 115, 104, 108] : List UInt8), vs ([98, 118, 108, 115, 104, 114] : List UInt8), vs ([98, 118, 97, 115, 104, 114] : List UInt8), vs ([61] : List UInt8), vs ([98, 118, 117, 108, 116] : List UInt8), vs ([98, 118, 115, 108, 116] : List UInt8), vs ([98, 118, 110, 111, 116] : List UInt8), vs ([98, 118, 110, 101, 103] : List UInt8)]) (fun _ => by kernel_rfl) ?_
  (repeat (first|refine ja ?_|refine jb ?_|refine jc ?_|refine jd ?_|refine je ?_|refine jf ?_|refine jg ?_|refine jh ?_|refine ji ?_|refine jj ?_|refine jk ?_|refine jl ?_|refine jm ?_|refine jn ?_|refine jo ?_|refine jp ?_|refine jq ?_|refine jr ?_|refine js ?_|refine jt ?_|refine ju ?_|refine jv ?_|refine jw ?_|refine jx ?_|refine jy ?_|refine jz ?_|refine jA ?_|refine jB ?_|refine jC ?_|refine jD ?_|refine jE ?_|refine jF ?_|refine jG ?_|refine jH ?_|refine jI ?_|refine jJ ?_|refine jK ?_|refine jL ?_|refine jM (by assumption) ?_|refine jN (by assumption) rfl ?_|refine jO (by assumption) ?_|refine jP (by assumption) rfl ?_|refine jQ ?_|refine jR ?_|refine jS ?_|refine jT ?_|refine jU (by assumption) rfl ?_))
  refine M.pure_i (vs (opB op)) (fun w' => ?_) ⟨rfl, Keep.refl _ _⟩
  have := congrFun (key ⟨(op - 1).toNat, by omega⟩) w'
  rw [show (((⟨(op - 1).toNat, by omega⟩ : Fin 16).val : Nat) : Int) = op - 1 by show (((op - 1).toNat : Nat) : Int) = op - 1; omega, show op - 1 + 1 = op by omega] at this
  exact this
theorem text_ret (a : Bt) (w : World) : Ret Try.prog 53 #[vs a] w (fun r w' => r = .agg ⟨(tP a).cells⟩ ∧ Keep w w' No) := by
  refine ok53 _ _ _ ?_
  unfold sh53
  refine M.new_i (l := [.string ByteArray.empty, .int .i64 0]) (fun w1 b1 k1 s1 => ?_)
  refine M.pure_i (.agg ⟨(tP a).cells⟩) (fun _ => by kernel_rfl) ?_
  refine M.storeAll_i b1 rfl rfl (by simp only [Pc.cells, List.mem_cons, List.not_mem_nil, or_false, forall_eq_or_imp, forall_eq]; exact ⟨rfl, rfl⟩) (fun w2 b2 k2 s2 => ?_)
  refine M.loadAll_i b2 rfl ?_
  exact ⟨rfl, k1.trans k2 (fun j hj e => by have e : j = w.heap.size := e; omega)⟩
end Go.Proofs.Ythkkjjbjpbgcpaa
