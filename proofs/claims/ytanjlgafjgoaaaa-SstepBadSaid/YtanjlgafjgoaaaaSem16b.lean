import Derived.Test.YtanjlgafjgoaaaaSem16
namespace Go.Proofs.Ytanjlgafjgoaaaa
open Go.Mw Go.Maps Go.MapKept
set_option linter.unusedVariables false
set_option linter.unusedSimpArgs false
set_option maxRecDepth 100000
attribute [local irreducible] M.val M.unit M.next M.pick M.new M.nilCheck M.load1 M.loadA M.store M.fieldAddr M.indexSl M.indexArr M.slice M.makeSlice M.buildSlice M.len M.lenS M.cap M.append M.extract M.conv M.not M.neg M.bin M.shift M.eqB M.eqNil M.scat M.call M.callv M.gd M.share M.cond M.loop M.draw pureW readW Ret
/-- 'g' gives the words of some terms. -/
def GetF (g : Value) (I : World → Prop) (ks : List Int) (f : Int → W64) : Prop := ∀ k ∈ ks, ∀ (w : World) (kt : Kt), I w → (∀ w', I w' → Keep w w' No → kt (vw (f k)) w') → M.callv Try.prog g #[vi k] kt w
end Go.Proofs.Ytanjlgafjgoaaaa
