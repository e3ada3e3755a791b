import Derived.Test.YthkkjjbjpbgcpaaRef15d
import Derived.Test.YthkkjjbjpbgcpaaSem16b
import Derived.Test.YthkkjjbjpbgcpaaLnGw
namespace Go.Proofs.Ythkkjjbjpbgcpaa
open Go.Mw Go.Maps Go.MapKept
set_option linter.unusedVariables false
set_option linter.unusedSimpArgs false
set_option maxRecDepth 100000
attribute [local irreducible] M.val M.unit M.next M.pick M.new M.nilCheck M.load1 M.loadA M.store M.fieldAddr M.indexSl M.indexArr M.slice M.makeSlice M.buildSlice M.len M.lenS M.cap M.append M.extract M.conv M.not M.neg M.bin M.shift M.eqB M.eqNil M.scat M.call M.callv M.gd M.share M.cond M.loop M.draw pureW readW Ret

theorem M.wat_i {K : Kt} {w : World} {D : Nat → Prop} {A : Option Addr} {vals : List W64} {n c : Nat} {k : Int} (hr : Row w D A (vals.map vw)) (hn : vals.length = n) (h0 : 0 ≤ k) (h1 : k < vals.length)
    (h : ∀ b o, w.cell? ⟨b, o, none⟩ = some (vw (vals.getD k.toNat 0)) → K (.pointer (some ⟨b, o, none⟩)) w) : M.indexSl 1 (.slice A n c) (vi k) K w := by
  have hl : k.toNat < vals.length := by omega
  refine M.idxLV_i hr hn h0 (by omega) (x := vals.getD k.toNat 0) ?_ (fun b o _ hc => h b _ hc)
  rw [List.getD_eq_getElem?_getD, List.getElem?_eq_getElem hl]; rfl
theorem ofI_nat {n : Int} (h0 : 0 ≤ n) (h1 : n ≤ 64) : (BitVec.ofInt 64 n).toNat = n.toNat := by
  rw [BitVec.toNat_ofInt]
  omega
section
variable {w : World} {D : Nat → Prop} {v : Value} {N : List Nd} {most : Int}
end
end Go.Proofs.Ythkkjjbjpbgcpaa
