import Derived.Test.YthkkjjbjpbgcpaaLit
import Derived.Shelf.Sort.Plain
import Derived.Shelf.Slices.In.SortNone
import Derived.Shelf.Lay
import Derived.Lib.SortBridge
namespace Go.Proofs.Ythkkjjbjpbgcpaa
open Go.Mw Go.Shelf Go.Sort Go.Lib
set_option linter.unusedVariables false
set_option linter.unusedSimpArgs false
set_option maxRecDepth 100000
attribute [local irreducible] M.val M.unit M.next M.pick M.new M.nilCheck M.load1 M.loadA M.store M.fieldAddr M.indexSl M.indexArr M.slice M.makeSlice M.buildSlice M.len M.lenS M.cap M.append M.extract M.conv M.not M.neg M.bin M.shift M.eqB M.eqNil M.scat M.call M.callv M.gd M.share M.cond M.loop M.draw pureW readW Ret
shelf_lay Lays.n189 Nm 189 at Try as Try.lays189
abbrev leI (x y : Int) : Bool := decide (x ≤ y)
theorem sort_ret {w : World} {L : Nat → Prop} {v : Value} {xs : List Int} (h : GI w L v xs) (hf : xs.length < 4611686018427387904) :
    Ret Try.prog 59 #[v] w (fun r w' => r = .tuple #[] ∧ GI w' L v (xs.mergeSort leI) ∧ Keep w w' L) := by
  obtain ⟨h0, ⟨rfl, h2⟩ | ⟨b, c, rest, rfl, hL, hB, hl⟩⟩ := h
  · have hx : xs = [] := List.length_eq_zero_iff.1 h2
    subst hx
    refine ret_mk ((Any.slices_Sort_int_none Try.lays189 none 0 w).mono ?_)
    rintro e w' ⟨rfl, rfl⟩
    exact ⟨_, rfl, rfl, by simpa using GI.nil _ _, Keep.refl _ _⟩
  · have hcell : ∀ j (hj : j < xs.length), w.cell? ⟨b, 0 + j, none⟩ = some (vi xs[j]) := fun j hj => by
      rw [Nat.zero_add]
      exact hB.cell (by rw [List.getElem?_append_left (by simpa using hj)]; simp [hj])
    have hH : Holds (Value.int .i64) w b 0 xs.toArray := by
      intro j hj
      have hj : j < xs.length := by simpa using hj
      refine ⟨?_, hB.frozen⟩
      rw [hcell j hj]
      simp [hj]
    refine ret_mk ((Any.slices_Sort_int Try.lays189 b 0 c xs w hH hB.lt hf).mono ?_)
    rintro e w' ⟨rfl, q, os, rfl⟩
    have hlen : (xs.mergeSort fun x y => decide (x ≤ y)).length = xs.length := List.length_mergeSort ..
    rw [sorted_world (Value.int .i64) w b 0 q xs.toArray (xs.mergeSort fun x y => decide (x ≤ y)) os hH (by rw [hlen]; rfl)]
    generalize hys : (xs.mergeSort fun x y => decide (x ≤ y)) = ys at *
    have hB' : Blk (w.drewN q) b (xs.map vi ++ rest) := hB
    obtain ⟨g1, g2, g3⟩ := setCells_blk (ys.map vi) 0 (w.drewN q) (xs.map vi ++ rest) hB' (by simp; omega)
    have hlt : b < ((w.drewN q).setCells b 0 (ys.map vi)).heap.size := by rw [g3]; exact hB.lt
    refine ⟨_, rfl, rfl, ?_, ?_⟩
    · refine ⟨by simp, .inr ⟨b, c, rest, by simp [hlen], hL, ?_, by simp [hlen] at hl ⊢; omega⟩⟩
      have e1 : splice (xs.map vi ++ rest) 0 (ys.map vi) = ys.map vi ++ rest := by
        unfold splice
        simp [hlen]
      rw [e1] at g1
      obtain ⟨T, hT⟩ := g1
      exact ⟨T, by rw [heap_grow_old _ _ hlt]; exact hT⟩
    · refine ⟨g2.os, g2.tape, g2.output, ?_, fun i hi hi2 => ?_⟩
      · have : (grow ((w.drewN q).setCells b 0 (ys.map vi)) os).heap.size = ((w.drewN q).setCells b 0 (ys.map vi)).heap.size + os.size := by simp [grow]
        rw [this, g3]
        show w.heap.size ≤ w.heap.size + os.size
        omega
      · rw [heap_grow_old _ _ (by rw [g3]; exact hi)]
        exact g2.blk i hi (fun h => hi2 (by subst h; exact hL))
theorem sort_le (xs : List Int) : (xs.mergeSort leI).Pairwise (· ≤ ·) := by
  have := List.pairwise_mergeSort (le := leI) (fun a b c h1 h2 => by simp [leI] at *; omega) (fun a b => by simp [leI]; omega) xs
  exact this.imp (fun h => by simpa [leI] using h)
end Go.Proofs.Ythkkjjbjpbgcpaa
