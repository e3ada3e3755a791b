import Derived.Test.YtnmbgfonlpjicaaUnit06P
namespace Go.Proofs.Ytnmbgfonlpjicaa
open Go.Mw
set_option linter.unusedVariables false
set_option linter.unusedSimpArgs false
set_option maxRecDepth 100000
attribute [local irreducible] M.val M.unit M.next M.pick M.new M.nilCheck M.load1 M.loadA M.store M.fieldAddr M.indexSl M.indexArr M.slice M.makeSlice M.buildSlice M.len M.lenS M.cap M.append M.extract M.conv M.not M.neg M.bin M.shift M.eqB M.eqNil M.call M.callv M.gd M.share M.cond M.loop M.draw pureW readW Ret
theorem heldC_snoc (s c : List Int) (x : Int) : heldC s (c ++ [x]) = (heldC s c || (decide (0 ≤ x) && decide (x ∈ s))) := by simp [heldC]
theorem openC_snoc (s c : List Int) (x : Int) : openC s (c ++ [x]) = openC s c ++ if 0 ≤ x ∧ x ∉ s ∧ notOf x ∉ s then [x] else [] := by
  unfold openC
  rw [List.filter_append]
  congr 1
  by_cases h : 0 ≤ x ∧ x ∉ s ∧ notOf x ∉ s
  · rw [if_pos h]; simp [List.filter_cons, h]
  · rw [if_neg h]
    rw [List.filter_cons, if_neg]
    · rfl
    · intro hh
      simp only [Bool.and_eq_true, decide_eq_true_eq] at hh
      exact h ⟨hh.1, hh.2.1, hh.2.2⟩
/-- A list of lists that is read. -/
structure LLr (w : World) (D : Nat → Prop) (A : Option Addr) (vs : List Value) (l : List (List Int)) : Prop where
  row : Row w D A vs
  len : vs.length = l.length
  all : ∀ (i : Nat) c, l[i]? = some c → ∃ u, vs[i]? = some u ∧ LV vi w D u c
def LL (w : World) (D : Nat → Prop) (v : Value) (l : List (List Int)) : Prop := ∃ A c vs, v = .slice A l.length c ∧ LLr w D A vs l ∧ l.length ≤ c
theorem LLr.keep {w w' : World} {D S : Nat → Prop} {A : Option Addr} {vs : List Value} {l : List (List Int)} (h : LLr w D A vs l) (k : Keep w w' S) (hs : ∀ b, b < w.heap.size → D b → ¬ S b) : LLr w' D A vs l :=
  ⟨h.row.keep k hs, h.len, fun i c hc => by obtain ⟨u, g1, g2⟩ := h.all i c hc; exact ⟨u, g1, g2.keep k hs⟩⟩
theorem LL.keep {w w' : World} {D S : Nat → Prop} {v : Value} {l : List (List Int)} (h : LL w D v l) (k : Keep w w' S) (hs : ∀ b, b < w.heap.size → D b → ¬ S b) : LL w' D v l := by
  obtain ⟨A, c, vs, h1, h2, h3⟩ := h
  exact ⟨A, c, vs, h1, h2.keep k hs, h3⟩
theorem M.idxLL_i {k : Kt} {w : World} {D : Nat → Prop} {A : Option Addr} {vs : List Value} {l : List (List Int)} {n cc : Nat} {d : IntKind} {i : Int} (h : LLr w D A vs l) (hn : l.length = n) (h0 : 0 ≤ i) {c : List Int} (hc : l[i.toNat]? = some c)
    (hk : ∀ b o u, w.cell? ⟨b, o + i.toNat, none⟩ = some u → LV vi w D u c → k (.pointer (some ⟨b, o + i.toNat, none⟩)) w) : M.indexSl 1 (.slice A n cc) (.int d i) k w := by
  obtain ⟨u, g1, g2⟩ := h.all _ _ hc
  have hlt := (List.getElem?_eq_some_iff.1 hc).1
  refine M.idxRow_i h.row (by rw [h.len, hn]) h0 (by omega) (fun b o hA hcc => hk b o u ?_ g2)
  rw [hcc, g1]
/-- How many literals: so that no list grows too long. -/
def FewL (l : List (List Int)) (set : List Int) : Prop := (l.flatten ++ set).length ≤ 100000000
theorem univ_few {l : List (List Int)} {set : List Int} (h : FewL l set) : (univ l set).length ≤ 100000000 := Nat.le_trans (len_srt _) h
theorem leftU_nil (l : List (List Int)) (set : List Int) : leftU l set [] = (univ l set).length := by
  unfold leftU
  rw [List.filter_eq_self.2]
  simp
end Go.Proofs.Ytnmbgfonlpjicaa
