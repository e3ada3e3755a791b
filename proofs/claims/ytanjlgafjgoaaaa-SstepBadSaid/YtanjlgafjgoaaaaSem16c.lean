import Derived.Test.YtanjlgafjgoaaaaSem16b
namespace Go.Proofs.Ytanjlgafjgoaaaa
open Go.Mw Go.Maps Go.MapKept
set_option linter.unusedVariables false
set_option linter.unusedSimpArgs false
set_option maxRecDepth 100000
attribute [local irreducible] M.val M.unit M.next M.pick M.new M.nilCheck M.load1 M.loadA M.store M.fieldAddr M.indexSl M.indexArr M.slice M.makeSlice M.buildSlice M.len M.lenS M.cap M.append M.extract M.conv M.not M.neg M.bin M.shift M.eqB M.eqNil M.scat M.call M.callv M.gd M.share M.cond M.loop M.draw pureW readW Ret
def HeldR (kv : List (Int × Value)) (held : List Int) (f : Int → W64) : Prop := ∀ k, lkp kv k = if k ∈ held then some (vw (f k)) else none
theorem HeldR.upd {kv : List (Int × Value)} {held : List Int} {f : Int → W64} (h : HeldR kv held f) (x : Int) : HeldR (upd kv x (vw (f x))) (x :: held) f := fun k => by
  rw [lkp_upd]
  by_cases hk : k = x
  · subst hk; rw [if_pos rfl, if_pos List.mem_cons_self]
  · rw [if_neg hk, h k]
    by_cases hm : k ∈ held
    · rw [if_pos hm, if_pos (List.mem_cons_of_mem _ hm)]
    · rw [if_neg hm, if_neg (by simp [hk, hm])]
theorem nil_or_snoc {α : Type} (l : List α) : l = [] ∨ ∃ a t, l = a ++ [t] := by
  rcases List.eq_nil_or_concat l with h | ⟨a, t, h⟩
  · exact .inl h
  · exact .inr ⟨a, t, by rw [h, List.concat_eq_append]⟩
/-- What 'of' answers. -/
def OfF (g : Value) (N : List Nd) (J : World → Prop) (f : Int → W64) : Prop :=
  ∀ (i : Nat) (n : Nd) (w : World) (I : World → Prop) (kt : Kt) (gv : Value), N[i]? = some n → J w → I w → (∀ w w', I w → Keep w w' No → I w') → GetF gv I (kidsN n) f → (∀ w', I w' → Keep w w' No → kt (vw (f i)) w') → M.callv Try.prog g #[encN n, gv] kt w
end Go.Proofs.Ytanjlgafjgoaaaa
