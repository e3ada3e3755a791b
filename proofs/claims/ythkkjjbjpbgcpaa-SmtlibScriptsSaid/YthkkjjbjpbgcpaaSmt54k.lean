import Derived.Test.YthkkjjbjpbgcpaaSmt54j
import Derived.Test.YthkkjjbjpbgcpaaLaw15b
namespace Go.Proofs.Ythkkjjbjpbgcpaa
open Go.Mw Go.Lib
set_option linter.unusedVariables false
set_option linter.unusedSimpArgs false
set_option maxRecDepth 100000
attribute [local irreducible] M.val M.unit M.next M.pick M.new M.nilCheck M.load1 M.loadA M.store M.fieldAddr M.indexSl M.indexArr M.slice M.makeSlice M.buildSlice M.len M.lenS M.cap M.append M.extract M.conv M.not M.neg M.bin M.shift M.eqB M.eqNil M.scat M.call M.callv M.gd M.share M.cond M.loop M.draw pureW readW Ret
/-! breakwater/breakwaterlaw54.awake: function 5 -/
def sh5 (R : Kt) (w : World) : Prop :=
  M.call Try.prog 11 #[(Value.int IntKind.i64 20)] (fun t22 w =>
  M.eqNil 0 false t22 (fun t24 w =>
  M.cond t24
  (R (Value.bool false) w)
  (M.call Try.prog 12 #[t22, (Value.int IntKind.i64 8), (Value.int IntKind.i64 0)] (fun t27 w =>
  M.extract 0 t27 (fun t28 w =>
  M.extract 1 t27 (fun t29 w =>
  M.call Try.prog 13 #[t22, (Value.int IntKind.i64 8), (Value.int IntKind.u64 1)] (fun t32 w =>
  M.extract 0 t32 (fun t33 w =>
  M.extract 1 t32 (fun t34 w =>
  M.call Try.prog 14 #[t22, (Value.int IntKind.i64 1), t28, t33] (fun t39 w =>
  M.extract 0 t39 (fun t40 w =>
  M.extract 1 t39 (fun t41 w =>
  M.call Try.prog 14 #[t22, (Value.int IntKind.i64 13), t40, t28] (fun t46 w =>
  M.extract 0 t46 (fun t47 w =>
  M.extract 1 t46 (fun t48 w =>
  M.call Try.prog 15 #[t22, t28, (Value.int IntKind.i64 16), (Value.bool true)] (fun t52 w =>
  M.extract 0 t52 (fun t53 w =>
  M.extract 1 t52 (fun t54 w =>
  M.call Try.prog 7 #[t22, t40] (fun t58 w =>
  M.extract 0 t58 (fun t59 w =>
  M.extract 1 t58 (fun t60 w =>
  M.call Try.prog 7 #[t22, t53] (fun t64 w =>
  M.extract 0 t64 (fun t65 w =>
  M.extract 1 t64 (fun t66 w =>
  M.buildSlice 3 1 #[.int .i64 0] 1 [(0, t47)] (fun t70 w =>
  M.call Try.prog 9 #[t22, t70] (fun t71 w =>
  M.extract 0 t71 (fun t72 w =>
  M.extract 1 t71 (fun t73 w =>
  M.buildSlice 3 1 #[.int .i64 0] 1 [(0, t28)] (fun t77 w =>
  M.call Try.prog 9 #[t22, t77] (fun t78 w =>
  M.extract 0 t78 (fun t79 w =>
  M.extract 1 t78 (fun t80 w =>
  M.call Try.prog 7 #[t22, (Value.int IntKind.i64 77)] (fun t83 w =>
  M.extract 0 t83 (fun t84 w =>
  M.extract 1 t83 (fun t85 w =>
  M.val Try.prog (do eqGuard .eql 9 (Operand.tmp 86) (Operand.const (Value.string { data := #[40, 98, 118, 97, 100, 100, 32, 120, 48, 32, 40, 95, 32, 98, 118, 49, 32, 56, 41, 41] })) t59 (Value.string { data := #[40, 98, 118, 97, 100, 100, 32, 120, 48, 32, 40, 95, 32, 98, 118, 49, 32, 56, 41, 41] }); binOp .eql 9 t59 (Value.string { data := #[40, 98, 118, 97, 100, 100, 32, 120, 48, 32, 40, 95, 32, 98, 118, 49, 32, 56, 41, 41] })) (fun t87 w =>
  M.gd t87 true (fun k w => k t60 w) (fun t89 w =>
  M.gd t87 true (fun k w => M.bin .eql t89 (Value.int IntKind.i64 0) k w) (fun t90 w =>
  M.pick t87 t90 (Value.bool false) (fun t91 w =>
  M.gd t91 true (fun k w => k t65 w) (fun t93 w =>
  M.gd t91 true (fun k w => M.val Try.prog (do eqGuard .eql 9 (Operand.tmp 93) (Operand.const (Value.string { data := #[40, 40, 95, 32, 115, 105, 103, 110, 95, 101, 120, 116, 101, 110, 100, 32, 56, 41, 32, 120, 48, 41] })) t93 (Value.string { data := #[40, 40, 95, 32, 115, 105, 103, 110, 95, 101, 120, 116, 101, 110, 100, 32, 56, 41, 32, 120, 48, 41] }); binOp .eql 9 t93 (Value.string { data := #[40, 40, 95, 32, 115, 105, 103, 110, 95, 101, 120, 116, 101, 110, 100, 32, 56, 41, 32, 120, 48, 41] })) k w) (fun t94 w =>
  M.pick t91 t94 (Value.bool false) (fun t95 w =>
  M.gd t95 true (fun k w => k t66 w) (fun t97 w =>
  M.gd t95 true (fun k w => M.bin .eql t97 (Value.int IntKind.i64 0) k w) (fun t98 w =>
  M.pick t95 t98 (Value.bool false) (fun t99 w =>
  M.gd t99 true (fun k w => k t72 w) (fun t101 w =>
  M.gd t99 true (fun k w => M.val Try.prog (do eqGuard .eql 9 (Operand.tmp 101) (Operand.const (Value.string { data := #[40, 115, 101, 116, 45, 108, 111, 103, 105, 99, 32, 81, 70, 95, 66, 86, 41, 10, 40, 100, 101, 99, 108, 97, 114, 101, 45, 102, 117, 110, 32, 120, 48, 32, 40, 41, 32, 40, 95, 32, 66, 105, 116, 86, 101, 99, 32, 56, 41, 41, 10, 40, 97, 115, 115, 101, 114, 116, 32, 40, 61, 32, 40, 105, 116, 101, 32, 40, 98, 118, 117, 108, 116, 32, 40, 98, 118, 97, 100, 100, 32, 120, 48, 32, 40, 95, 32, 98, 118, 49, 32, 56, 41, 41, 32, 120, 48, 41, 32, 40, 95, 32, 98, 118, 49, 32, 49, 41, 32, 40, 95, 32, 98, 118, 48, 32, 49, 41, 41, 32, 40, 95, 32, 98, 118, 49, 32, 49, 41, 41, 41, 10, 40, 99, 104, 101, 99, 107, 45, 115, 97, 116, 41, 10] })) t101 (Value.string { data := #[40, 115, 101, 116, 45, 108, 111, 103, 105, 99, 32, 81, 70, 95, 66, 86, 41, 10, 40, 100, 101, 99, 108, 97, 114, 101, 45, 102, 117, 110, 32, 120, 48, 32, 40, 41, 32, 40, 95, 32, 66, 105, 116, 86, 101, 99, 32, 56, 41, 41, 10, 40, 97, 115, 115, 101, 114, 116, 32, 40, 61, 32, 40, 105, 116, 101, 32, 40, 98, 118, 117, 108, 116, 32, 40, 98, 118, 97, 100, 100, 32, 120, 48, 32, 40, 95, 32, 98, 118, 49, 32, 56, 41, 41, 32, 120, 48, 41, 32, 40, 95, 32, 98, 118, 49, 32, 49, 41, 32, 40, 95, 32, 98, 118, 48, 32, 49, 41, 41, 32, 40, 95, 32, 98, 118, 49, 32, 49, 41, 41, 41, 10, 40, 99, 104, 101, 99, 107, 45, 115, 97, 116, 41, 10] }); binOp .eql 9 t101 (Value.string { data := #[40, 115, 101, 116, 45, 108, 111, 103, 105, 99, 32, 81, 70, 95, 66, 86, 41, 10, 40, 100, 101, 99, 108, 97, 114, 101, 45, 102, 117, 110, 32, 120, 48, 32, 40, 41, 32, 40, 95, 32, 66, 105, 116, 86, 101, 99, 32, 56, 41, 41, 10, 40, 97, 115, 115, 101, 114, 116, 32, 40, 61, 32, 40, 105, 116, 101, 32, 40, 98, 118, 117, 108, 116, 32, 40, 98, 118, 97, 100, 100, 32, 120, 48, 32, 40, 95, 32, 98, 118, 49, 32, 56, 41, 41, 32, 120, 48, 41, 32, 40, 95, 32, 98, 118, 49, 32, 49, 41, 32, 40, 95, 32, 98, 118, 48, 32, 49, 41, 41, 32, 40, 95, 32, 98, 118, 49, 32, 49, 41, 41, 41, 10, 40, 99, 104, 101, 99, 107, 45, 115, 97, 116, 41, 10] })) k w) (fun t102 w =>
  M.pick t99 t102 (Value.bool false) (fun t103 w =>
  M.gd t103 true (fun k w => k t73 w) (fun t105 w =>
  M.gd t103 true (fun k w => M.bin .eql t105 (Value.int IntKind.i64 0) k w) (fun t106 w =>
  M.pick t103 t106 (Value.bool false) (fun t107 w =>
  M.gd t107 true (fun k w => k t80 w) (fun t109 w =>
  M.gd t107 true (fun k w => M.bin .eql t109 (Value.int IntKind.i64 2) k w) (fun t110 w =>
  M.pick t107 t110 (Value.bool false) (fun t111 w =>
  M.gd t111 true (fun k w => k t85 w) (fun t113 w =>
  M.gd t111 true (fun k w => M.bin .eql t113 (Value.int IntKind.i64 11) k w) (fun t114 w =>
  M.pick t111 t114 (Value.bool false) (fun t115 w =>
  R t115 w) w) w) w) w) w) w) w) w) w) w) w) w) w) w) w) w) w) w) w) w) w) w) w) w) w) w) w) w) w) w) w) w) w) w) w) w) w) w) w) w) w) w) w) w) w) w) w) w) w) w) w) w) w) w)) w) w
theorem ok5 (R : Kt) (w : World) (h : sh5 R w) : Ret Try.prog 5 #[] w R :=
  ret_mk <| calls_of_comp mixed (c := Try.f5.body.getD .skip) (args := []) (rs := [(ResultVar.tmp 0)]) (Ann.seq Ann.text (Ann.seq Ann.text (Ann.seq (Ann.seq Ann.text (Ann.cond (Ann.seq Ann.text Ann.leaf) Ann.leaf)) (Ann.seq Ann.text (Ann.seq Ann.text (Ann.seq Ann.text (Ann.seq Ann.text (Ann.seq Ann.text (Ann.seq Ann.text (Ann.seq Ann.text (Ann.seq Ann.text (Ann.seq Ann.text (Ann.seq Ann.text (Ann.seq Ann.text Ann.leaf))))))))))))))
    Try.func5 (by kernel_rfl) (by kernel_rfl)
    (Eq.mp (by kernel_rfl) h)

theorem M.seq_i {k : Kt} {w : World} {x y : Operand} {a b : Bt} (h : k (.bool (decide (a = b))) w) :
    M.val Try.prog (do eqGuard .eql 9 x y (vs a) (vs b); binOp .eql 9 (vs a) (vs b)) k w := by
  refine M.val_i ?_ h
  have e1 : (do eqGuard .eql 9 x y (vs a) (vs b); binOp .eql 9 (vs a) (vs b) : Sem Value).run Try.prog w = (binOp .eql 9 (vs a) (vs b)).run Try.prog w := rfl
  rw [e1, binOp_string_eql, ByteArray.toList_mk, ByteArray.toList_mk]
  have : (a == b) = decide (a = b) := by
    by_cases e : a = b
    · subst e; simp
    · rw [decide_eq_false e]; simpa using e
  rw [this]; rfl
theorem M.sne_i {k : Kt} {w : World} {x y : Operand} {a b : Bt} (h : k (.bool (!decide (a = b))) w) :
    M.val Try.prog (do eqGuard .neq 9 x y (vs a) (vs b); binOp .neq 9 (vs a) (vs b)) k w := by
  refine M.val_i ?_ h
  have e1 : (do eqGuard .neq 9 x y (vs a) (vs b); binOp .neq 9 (vs a) (vs b) : Sem Value).run Try.prog w = (binOp .neq 9 (vs a) (vs b)).run Try.prog w := rfl
  rw [e1, binOp_string_neq, ByteArray.toList_mk, ByteArray.toList_mk]
  have : (a == b) = decide (a = b) := by
    by_cases e : a = b
    · subst e; simp
    · rw [decide_eq_false e]; simpa using e
  rw [this]; rfl
def belF (N : List Nd) : Nat → List Bool → List Int → List Int
  | 0, _, out => out
  | m + 1, inn, out => match N[m]? with
    | some n => if inn[m]? = some true then belF N m (setK inn (kidsN n)) (out ++ [(m : Int)]) else belF N m inn out
    | none => belF N m inn out
theorem belF_of {N : List Nd} {it : Int} (hG : GoodN N) (hid : isN N it = true) : ∀ (m : Nat) (inn : List Bool) (out : List Int), Bel N it m inn out → Bel N it 0 (List.replicate 0 true) [] ∨ ∃ inn', Bel N it 0 inn' (belF N m inn out)
  | 0, inn, out, h => .inr ⟨inn, h⟩
  | m + 1, inn, out, h => by
    unfold belF
    cases hn : N[m]? with
    | none =>
      refine belF_of hG hid m inn out (h.skip (fun hm => ?_))
      have h1 := (List.getElem?_eq_some_iff.1 hm).1
      have h2 := h.len
      have h3 := isN_iff.1 hid
      rw [List.getElem?_eq_none_iff] at hn
      omega
    | some n =>
      by_cases hm : inn[m]? = some true
      · simp only [if_pos hm]
        exact belF_of hG hid m _ _ (h.take hG hm hn)
      · simp only [if_neg hm]
        exact belF_of hG hid m _ _ (h.skip hm)
theorem belN_calc {N : List Nd} {it : Int} (hG : GoodN N) (hid : isN N it = true) {l : List Int} (h : belF N (it.toNat + 1) ((List.replicate (it.toNat + 1) false).set it.toNat true) [] = l) : (∀ x, x ∈ l ↔ x ∈ belN N it) ∧ (belN N it).length = l.length := by
  subst h
  rcases belF_of hG hid _ _ _ (Bel.start hid) with h | ⟨inn, h⟩
  · have := h.len; simp at this
  · have h1 := h.done hG hid
    exact ⟨h1, (nodup_len h.nodup (nodup_belN N it) h1).symm⟩
section
variable {w : World} {F : Nat → Prop} {p : Nat} {N N' : List Nd} {most i e : Int}
theorem var_ok (n k : Int) (hd : DagO w F p N most) (h : varN most N n k = (N', i, e)) :
    Ret Try.prog 12 #[ptr p, vi n, vi k] w (fun r w' => ∃ F', r = .tuple #[vi i, vi e] ∧ DagO w' F' p N' most ∧ (∀ b, b < w.heap.size → F' b → F b) ∧ Keep w w' F) :=
  (var_ret hd n k).mono (fun r w' ⟨F', h1, h2, h3, h4⟩ => by
    rw [h] at h1 h2
    exact ⟨F', h1, h2, h3, h4⟩)
theorem const_ok (n : Int) (x : W64) (hd : DagO w F p N most) (h : constN most N n x = (N', i, e)) :
    Ret Try.prog 13 #[ptr p, vi n, vw x] w (fun r w' => ∃ F', r = .tuple #[vi i, vi e] ∧ DagO w' F' p N' most ∧ (∀ b, b < w.heap.size → F' b → F b) ∧ Keep w w' F) :=
  (const_ret hd n x).mono (fun r w' ⟨F', h1, h2, h3, h4⟩ => by
    rw [h] at h1 h2
    exact ⟨F', h1, h2, h3, h4⟩)
theorem binary_ok (o a b : Int) (hd : DagO w F p N most) (h : binaryN most N o a b = (N', i, e)) :
    Ret Try.prog 14 #[ptr p, vi o, vi a, vi b] w (fun r w' => ∃ F', r = .tuple #[vi i, vi e] ∧ DagO w' F' p N' most ∧ (∀ b, b < w.heap.size → F' b → F b) ∧ Keep w w' F) :=
  (binary_ret hd o a b).mono (fun r w' ⟨F', h1, h2, h3, h4⟩ => by
    rw [h] at h1 h2
    exact ⟨F', h1, h2, h3, h4⟩)
theorem extend_ok (a n : Int) (sg : Bool) (hd : DagO w F p N most) (h : extendN most N a n sg = (N', i, e)) :
    Ret Try.prog 15 #[ptr p, vi a, vi n, .bool sg] w (fun r w' => ∃ F', r = .tuple #[vi i, vi e] ∧ DagO w' F' p N' most ∧ (∀ b, b < w.heap.size → F' b → F b) ∧ Keep w w' F) :=
  (extend_ret hd a n sg).mono (fun r w' ⟨F', h1, h2, h3, h4⟩ => by
    rw [h] at h1 h2
    exact ⟨F', h1, h2, h3, h4⟩)
theorem term_ok {s : Bt} (hd : DagO w F p N most) (it : Int) (h : smtN N it = (s, e)) :
    Ret Try.prog 7 #[ptr p, vi it] w (fun r w' => r = .tuple #[vs s, vi e] ∧ Keep w w' No) := by
  have := term_ret hd it
  rw [h] at this
  exact this
theorem script_ok {D : Nat → Prop} {cv : Value} {cs : List Int} {s : Bt} (hd : DagO w F p N most) (hc : LV vi w D cv cs) (hcs : cs.length ≤ 1000) (h : scrN N cs = (s, e)) :
    Ret Try.prog 9 #[ptr p, cv] w (fun r w' => r = .tuple #[vs s, vi e] ∧ Keep w w' No) := by
  have := script_ret hd hc hcs
  rw [h] at this
  exact this
end
theorem lvi_of_blk {w : World} {b n : Nat} {xs : List Int} (h : Blk w b (xs.map vi)) (hn : n = xs.length) {D : Nat → Prop} (hD : D b) : LV vi w D (.slice (some ⟨b, 0, none⟩) n n) xs := by
  subst hn
  exact ⟨_, _, rfl, Row.of_blk' h hD, Nat.le_refl _⟩
abbrev bN1 : List Nd := [⟨21, 8, 0, 0, 0, 0⟩]
abbrev bN2 : List Nd := bN1 ++ [⟨20, 8, 0, 0, 0, 1⟩]
abbrev bN3 : List Nd := bN2 ++ [⟨1, 8, 0, 1, 0, 0⟩]
abbrev bN4 : List Nd := bN3 ++ [⟨13, 1, 2, 0, 0, 0⟩]
abbrev bN5 : List Nd := bN4 ++ [⟨26, 16, 0, 0, 0, 0⟩]
theorem num_lt {n : Nat} (h : n < 10) : numB n = [dgt n] := by
  unfold numB
  have : (BitVec.ofInt 64 (n : Int)).toNat = n := by
    rw [BitVec.toNat_ofInt]; omega
  rw [this, digB_lt h]
theorem aw_n0 : numB 0 = ([48] : List UInt8) := num_lt (n := 0) (by decide)
theorem aw_n8 : numB 8 = ([56] : List UInt8) := num_lt (n := 8) (by decide)
theorem aw_d1 : digB 1 = ([49] : List UInt8) := digB_lt (by decide)
theorem aw_t0 (hG : GoodN bN5) : txtN bN5 0 = ([120, 48] : List UInt8) := by
  rw [show (0 : Int) = ((0 : Nat) : Int) from rfl, txtN_eq hG (i := 0) rfl]
  show ([120] : List UInt8) ++ numB 0 ++ [] = _
  rw [aw_n0]; rfl
theorem aw_t1 (hG : GoodN bN5) : txtN bN5 1 = ([40, 95, 32, 98, 118, 49, 32, 56, 41] : List UInt8) := by
  rw [show (1 : Int) = ((1 : Nat) : Int) from rfl, txtN_eq hG (i := 1) rfl]
  show (([40, 95, 32, 98, 118] : List UInt8) ++ digB 1 ++ ([32] : List UInt8) ++ numB 8 ++ ([41] : List UInt8)) ++ [] = _
  rw [aw_n8, aw_d1]; rfl
theorem aw_t2 (hG : GoodN bN5) : txtN bN5 2 = ([40, 98, 118, 97, 100, 100, 32, 120, 48, 32, 40, 95, 32, 98, 118, 49, 32, 56, 41, 41] : List UInt8) := by
  rw [show (2 : Int) = ((2 : Nat) : Int) from rfl, txtN_eq hG (i := 2) rfl]
  show ([40, 98, 118, 97, 100, 100, 32] : List UInt8) ++ (txtN bN5 0 ++ (([32] : List UInt8) ++ (txtN bN5 1 ++ (([41] : List UInt8) ++ [])))) = _
  rw [aw_t0 hG, aw_t1 hG]; rfl
theorem aw_t3 (hG : GoodN bN5) : txtN bN5 3 = ([40, 105, 116, 101, 32, 40, 98, 118, 117, 108, 116, 32, 40, 98, 118, 97, 100, 100, 32, 120, 48, 32, 40, 95, 32, 98, 118, 49, 32, 56, 41, 41, 32, 120, 48, 41, 32, 40, 95, 32, 98, 118, 49, 32, 49, 41, 32, 40, 95, 32, 98, 118, 48, 32, 49, 41, 41] : List UInt8) := by
  rw [show (3 : Int) = ((3 : Nat) : Int) from rfl, txtN_eq hG (i := 3) rfl]
  show ([40, 105, 116, 101, 32, 40, 98, 118, 117, 108, 116, 32] : List UInt8) ++ (txtN bN5 2 ++ (([32] : List UInt8) ++ (txtN bN5 0 ++ (([41, 32, 40, 95, 32, 98, 118, 49, 32, 49, 41, 32, 40, 95, 32, 98, 118, 48, 32, 49, 41, 41] : List UInt8) ++ [])))) = _
  rw [aw_t0 hG, aw_t2 hG]; rfl
theorem aw_t4 (hG : GoodN bN5) : txtN bN5 4 = ([40, 40, 95, 32, 115, 105, 103, 110, 95, 101, 120, 116, 101, 110, 100, 32, 56, 41, 32, 120, 48, 41] : List UInt8) := by
  rw [show (4 : Int) = ((4 : Nat) : Int) from rfl, txtN_eq hG (i := 4) rfl]
  show (([40, 40, 95, 32, 115, 105, 103, 110, 95, 101, 120, 116, 101, 110, 100, 32] : List UInt8) ++ numB 8 ++ ([41, 32] : List UInt8)) ++ (txtN bN5 0 ++ (([41] : List UInt8) ++ [])) = _
  rw [aw_t0 hG, aw_n8]; rfl
theorem aw_smt {i : Int} {s : Bt} (h : isN bN5 i = true) (hs : txtN bN5 i = s) (hl : s.length ≤ 4096) : smtN bN5 i = (s, 0) := by
  unfold smtN
  rw [h, if_neg (by decide), hs, if_pos hl]
theorem aw_script (hG : GoodN bN5) : scrN bN5 [3] = (([40, 115, 101, 116, 45, 108, 111, 103, 105, 99, 32, 81, 70, 95, 66, 86, 41, 10, 40, 100, 101, 99, 108, 97, 114, 101, 45, 102, 117, 110, 32, 120, 48, 32, 40, 41, 32, 40, 95, 32, 66, 105, 116, 86, 101, 99, 32, 56, 41, 41, 10, 40, 97, 115, 115, 101, 114, 116, 32, 40, 61, 32, 40, 105, 116, 101, 32, 40, 98, 118, 117, 108, 116, 32, 40, 98, 118, 97, 100, 100, 32, 120, 48, 32, 40, 95, 32, 98, 118, 49, 32, 56, 41, 41, 32, 120, 48, 41, 32, 40, 95, 32, 98, 118, 49, 32, 49, 41, 32, 40, 95, 32, 98, 118, 48, 32, 49, 41, 41, 32, 40, 95, 32, 98, 118, 49, 32, 49, 41, 41, 41, 10, 40, 99, 104, 101, 99, 107, 45, 115, 97, 116, 41, 10] : List UInt8), 0) := by
  have hs := aw_smt (i := 3) rfl (aw_t3 hG) (by decide)
  have e0 : scrE bN5 3 = 0 := by
    unfold scrE
    rw [if_neg (by decide), if_neg (by decide), hs]
  have hc := belN_calc (it := 3) hG rfl (l := [3, 2, 1, 0]) (by kernel_rfl)
  have hv : varsN bN5 3 = [0] := by rw [← varsN_of hc.1]; kernel_rfl
  rw [find_all (fun x hx => by simp only [List.mem_singleton] at hx; subst hx; exact e0)]
  have hvs : varsS bN5 [3] = [0] := by
    show varsN bN5 3 ++ [] = _
    rw [hv]; rfl
  have has : asrtsN bN5 [3] = asrtB (smtN bN5 3).1 ++ [] := rfl
  have hd : declB bN5 0 = ([40, 100, 101, 99, 108, 97, 114, 101, 45, 102, 117, 110, 32, 120, 48, 32, 40, 41, 32, 40, 95, 32, 66, 105, 116, 86, 101, 99, 32, 56, 41, 41, 10] : List UInt8) := by
    show ([40, 100, 101, 99, 108, 97, 114, 101, 45, 102, 117, 110, 32, 120] : List UInt8) ++ numB 0 ++ ([32, 40, 41, 32, 40, 95, 32, 66, 105, 116, 86, 101, 99, 32] : List UInt8) ++ numB 8 ++ ([41, 41, 10] : List UInt8) = _
    rw [aw_n0, aw_n8]; rfl
  rw [hvs, has, hs]
  have hsr : srt [0] = [0] := rfl
  rw [hsr, List.flatMap_singleton, hd]
  rfl
theorem aw_script2 : scrN bN5 [0] = ([], 2) := by
  have e2 : scrE bN5 0 = 2 := by
    unfold scrE
    rw [if_neg (by decide), if_pos (by decide)]
  rw [find_take (cs := [0]) (i := 0) (c := 0) rfl (fun x hx => by simp at hx) (by rw [e2]; decide), e2]
set_option maxHeartbeats 4000000 in
theorem awake54_ret (w : World) : Ret Try.prog 5 #[] w (fun v w' => v = .bool true ∧ Keep w w' No) := by
  have c1 : varN 20 [] 8 0 = (bN1, 0, 0) := by kernel_rfl
  have c2 : constN 20 bN1 8 1 = (bN2, 1, 0) := by kernel_rfl
  have c3 : binaryN 20 bN2 1 0 1 = (bN3, 2, 0) := by kernel_rfl
  have c4 : binaryN 20 bN3 13 2 0 = (bN4, 3, 0) := by kernel_rfl
  have c5 : extendN 20 bN4 0 16 true = (bN5, 4, 0) := by kernel_rfl
  refine ok5 _ _ ?_
  unfold sh5
  refine M.call_i (new_ret 20 w) ?_; rintro _ w1 ⟨F, p, rfl, hd1, hF, k1⟩
  rw [if_neg (by omega)] at hd1
  (repeat (first|refine ja ?_|refine jb ?_|refine jc ?_|refine jd ?_|refine je ?_|refine jf ?_|refine jg ?_|refine jh ?_|refine ji ?_|refine jj ?_|refine jk ?_|refine jl ?_|refine jm ?_|refine jn ?_|refine jo ?_|refine jp ?_|refine jq ?_|refine jr ?_|refine js ?_|refine jt ?_|refine ju ?_|refine jv ?_|refine jw ?_|refine jx ?_|refine jy ?_|refine jz ?_|refine jA ?_|refine jB ?_|refine jC ?_|refine jD ?_|refine jE ?_|refine jF ?_|refine jG ?_|refine jH ?_|refine jI ?_|refine jJ ?_|refine jK ?_|refine jL ?_|refine jM (by assumption) ?_|refine jN (by assumption) rfl ?_|refine jO (by assumption) ?_|refine jP (by assumption) rfl ?_|refine jQ ?_|refine jR ?_|refine jS ?_|refine jT ?_|refine jU (by assumption) rfl ?_))
  refine M.call_i (var_ok 8 0 hd1 c1) ?_; rintro _ w2 ⟨F2, rfl, hd2, hF2, k2⟩
  refine M.extract_i rfl ?_
  refine M.extract_i rfl ?_
  refine M.call_i (const_ok 8 1 hd2 c2) ?_; rintro _ w3 ⟨F3, rfl, hd3, hF3, k3⟩
  refine M.extract_i rfl ?_
  refine M.extract_i rfl ?_
  refine M.call_i (binary_ok 1 0 1 hd3 c3) ?_; rintro _ w4 ⟨F4, rfl, hd4, hF4, k4⟩
  refine M.extract_i rfl ?_
  refine M.extract_i rfl ?_
  refine M.call_i (binary_ok 13 2 0 hd4 c4) ?_; rintro _ w5 ⟨F5, rfl, hd5, hF5, k5⟩
  refine M.extract_i rfl ?_
  refine M.extract_i rfl ?_
  refine M.call_i (extend_ok 0 16 true hd5 c5) ?_; rintro _ w6 ⟨F6, rfl, hd6, hF6, k6⟩
  refine M.extract_i rfl ?_
  refine M.extract_i rfl ?_
  have g1 := k1.size; have g2 := k2.size; have g3 := k3.size; have g4 := k4.size; have g5 := k5.size
  have n2 : ∀ b, b < w.heap.size → ¬ F2 b := fun b hb h => by have := hF b (hF2 b (by omega) h); omega
  have n3 : ∀ b, b < w.heap.size → ¬ F3 b := fun b hb h => n2 b hb (hF3 b (by omega) h)
  have n4 : ∀ b, b < w.heap.size → ¬ F4 b := fun b hb h => n3 b hb (hF4 b (by omega) h)
  have n5 : ∀ b, b < w.heap.size → ¬ F5 b := fun b hb h => n4 b hb (hF5 b (by omega) h)
  have k06 : Keep w w6 No := ((((k1.trans k2 (fun b hb h => by have := hF b h; omega)).trans k3 (fun b hb h => n2 b hb h)).trans k4 (fun b hb h => n3 b hb h)).trans k5 (fun b hb h => n4 b hb h)).trans k6 (fun b hb h => n5 b hb h)
  have hG := hd6.good
  refine M.call_i (term_ok hd6 2 (aw_smt rfl (aw_t2 hG) (by decide))) ?_; rintro _ w7 ⟨rfl, k7⟩
  refine M.extract_i rfl ?_
  refine M.extract_i rfl ?_
  have k07 := k06.trans k7 (fun _ _ h => h)
  refine M.call_i (term_ok (hd6.keepN k7) 4 (aw_smt rfl (aw_t4 hG) (by decide))) ?_; rintro _ w8 ⟨rfl, k8⟩
  refine M.extract_i rfl ?_
  refine M.extract_i rfl ?_
  have k68 := k7.trans k8 (fun _ _ h => h)
  refine M.buildSlice_i (([3] : List Int).map vi) (by kernel_rfl) (fun w9 b9 k9 s9 => ?_)
  have k69 := k68.trans k9 (fun _ _ h => h)
  refine M.call_i (script_ok (hd6.keepN k69) (lvi_of_blk (D := fun _ => True) b9 rfl trivial) (by decide) (aw_script hG)) ?_; rintro _ w10 ⟨rfl, k10⟩
  refine M.extract_i rfl ?_
  refine M.extract_i rfl ?_
  have k610 := k69.trans k10 (fun _ _ h => h)
  refine M.buildSlice_i (([0] : List Int).map vi) (by kernel_rfl) (fun w11 b11 k11 s11 => ?_)
  have k611 := k610.trans k11 (fun _ _ h => h)
  refine M.call_i (script_ok (hd6.keepN k611) (lvi_of_blk (D := fun _ => True) b11 rfl trivial) (by decide) aw_script2) ?_; rintro _ w12 ⟨rfl, k12⟩
  refine M.extract_i rfl ?_
  refine M.extract_i rfl ?_
  have k612 := k611.trans k12 (fun _ _ h => h)
  refine M.call_i (term_ok (hd6.keepN k612) 77 (s := []) (e := 11) (by rfl)) ?_; rintro _ w13 ⟨rfl, k13⟩
  refine M.extract_i rfl ?_
  refine M.extract_i rfl ?_
  have k613 := k612.trans k13 (fun _ _ h => h)
  refine M.seq_i ?_
  rw [decide_eq_true rfl]
  (repeat (first|refine ja ?_|refine jb ?_|refine jc ?_|refine jd ?_|refine je ?_|refine jf ?_|refine jg ?_|refine jh ?_|refine ji ?_|refine jj ?_|refine jk ?_|refine jl ?_|refine jm ?_|refine jn ?_|refine jo ?_|refine jp ?_|refine jq ?_|refine jr ?_|refine js ?_|refine jt ?_|refine ju ?_|refine jv ?_|refine jw ?_|refine jx ?_|refine jy ?_|refine jz ?_|refine jA ?_|refine jB ?_|refine jC ?_|refine jD ?_|refine jE ?_|refine jF ?_|refine jG ?_|refine jH ?_|refine jI ?_|refine jJ ?_|refine jK ?_|refine jL ?_|refine jM (by assumption) ?_|refine jN (by assumption) rfl ?_|refine jO (by assumption) ?_|refine jP (by assumption) rfl ?_|refine jQ ?_|refine jR ?_|refine jS ?_|refine jT ?_|refine jU (by assumption) rfl ?_|refine jG ?_ (by decide)|refine jH ?_ (by decide)|refine jI ?_ (by decide)|refine jJ ?_ (by decide)|refine jC ?_ (by decide)|refine jy ?_ (by decide)))
  refine M.seq_i ?_
  rw [decide_eq_true rfl]
  (repeat (first|refine ja ?_|refine jb ?_|refine jc ?_|refine jd ?_|refine je ?_|refine jf ?_|refine jg ?_|refine jh ?_|refine ji ?_|refine jj ?_|refine jk ?_|refine jl ?_|refine jm ?_|refine jn ?_|refine jo ?_|refine jp ?_|refine jq ?_|refine jr ?_|refine js ?_|refine jt ?_|refine ju ?_|refine jv ?_|refine jw ?_|refine jx ?_|refine jy ?_|refine jz ?_|refine jA ?_|refine jB ?_|refine jC ?_|refine jD ?_|refine jE ?_|refine jF ?_|refine jG ?_|refine jH ?_|refine jI ?_|refine jJ ?_|refine jK ?_|refine jL ?_|refine jM (by assumption) ?_|refine jN (by assumption) rfl ?_|refine jO (by assumption) ?_|refine jP (by assumption) rfl ?_|refine jQ ?_|refine jR ?_|refine jS ?_|refine jT ?_|refine jU (by assumption) rfl ?_|refine jG ?_ (by decide)|refine jH ?_ (by decide)|refine jI ?_ (by decide)|refine jJ ?_ (by decide)|refine jC ?_ (by decide)|refine jy ?_ (by decide)))
  refine M.seq_i ?_
  rw [decide_eq_true rfl]
  (repeat (first|refine ja ?_|refine jb ?_|refine jc ?_|refine jd ?_|refine je ?_|refine jf ?_|refine jg ?_|refine jh ?_|refine ji ?_|refine jj ?_|refine jk ?_|refine jl ?_|refine jm ?_|refine jn ?_|refine jo ?_|refine jp ?_|refine jq ?_|refine jr ?_|refine js ?_|refine jt ?_|refine ju ?_|refine jv ?_|refine jw ?_|refine jx ?_|refine jy ?_|refine jz ?_|refine jA ?_|refine jB ?_|refine jC ?_|refine jD ?_|refine jE ?_|refine jF ?_|refine jG ?_|refine jH ?_|refine jI ?_|refine jJ ?_|refine jK ?_|refine jL ?_|refine jM (by assumption) ?_|refine jN (by assumption) rfl ?_|refine jO (by assumption) ?_|refine jP (by assumption) rfl ?_|refine jQ ?_|refine jR ?_|refine jS ?_|refine jT ?_|refine jU (by assumption) rfl ?_|refine jG ?_ (by decide)|refine jH ?_ (by decide)|refine jI ?_ (by decide)|refine jJ ?_ (by decide)|refine jC ?_ (by decide)|refine jy ?_ (by decide)))
  exact ⟨rfl, k06.trans k613 (fun _ _ h => h)⟩
end Go.Proofs.Ythkkjjbjpbgcpaa
