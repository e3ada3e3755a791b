import Derived.Test.YtanjlgafjgoaaaaDagO
import Derived.Test.YtanjlgafjgoaaaaWord3
namespace Go.Proofs.Ytanjlgafjgoaaaa
open Go.Mw
set_option linter.unusedVariables false
set_option linter.unusedSimpArgs false
set_option maxRecDepth 100000
attribute [local irreducible] M.val M.unit M.next M.pick M.new M.nilCheck M.load1 M.loadA M.store M.fieldAddr M.indexSl M.indexArr M.slice M.makeSlice M.buildSlice M.len M.lenS M.cap M.append M.extract M.conv M.not M.neg M.bin M.shift M.eqB M.eqNil M.scat M.call M.callv M.gd M.share M.cond M.loop M.draw pureW readW Ret
/-! ### terms that are made simpler: no program here -/
abbrev Rs := List Nd × Int × Int
def knownN (N : List Nd) (i : Int) : Option W64 := if isN N i then (if (nodeAt N i).op = 20 then some (nodeAt N i).val else none) else none
def isK (N : List Nd) (i : Int) (x : W64) : Bool := match knownN N i with
  | some v => decide (v = x)
  | none => false
def foldUn (most : Int) (N : List Nd) (op a : Int) : Rs :=
  if isN N a = true ∧ (op = 15 ∨ op = 16) then
    match knownN N a with
    | some v => constN most N (wdN N a) (unW op (wdN N a) v)
    | none => if (nodeAt N a).op = op then (N, (nodeAt N a).a, 0) else unaryN most N op a
  else unaryN most N op a
def rightN (N : List Nd) (op b : Int) : Bool :=
  if op = 1 ∨ op = 2 ∨ op = 7 ∨ op = 8 ∨ op = 9 ∨ op = 10 ∨ op = 11 then isK N b 0
  else if op = 3 ∨ op = 4 then isK N b 1
  else if op = 6 then isK N b (maskW (wdN N b))
  else false
def twinsN (op : Int) : Bool := decide (op = 1 ∨ op = 3 ∨ op = 6 ∨ op = 7 ∨ op = 8 ∨ op = 12)
def noughtN (N : List Nd) (op a b : Int) : Bool :=
  if (op = 8 ∨ op = 2 ∨ op = 13 ∨ op = 14) ∧ a = b then true
  else if op = 3 ∨ op = 6 then isK N a 0 || isK N b 0
  else if op = 9 ∨ op = 10 then isK N a 0
  else decide (op = 13) && isK N b 0
def foldBin (most : Int) (N : List Nd) (op a b : Int) : Rs :=
  if isN N a = false ∨ isN N b = false ∨ wdN N a ≠ wdN N b ∨ op < 1 ∨ 14 < op then binaryN most N op a b
  else match knownN N a, knownN N b with
    | some x, some y => constN most N (if 12 ≤ op then 1 else wdN N a) (binW op (wdN N a) x y)
    | _, _ =>
      if rightN N op b then (N, a, 0)
      else if twinsN op && rightN N op a then (N, b, 0)
      else if noughtN N op a b then constN most N (if 12 ≤ op then 1 else wdN N a) 0
      else if op = 12 ∧ a = b then constN most N 1 1
      else if (op = 6 ∨ op = 7) ∧ a = b then (N, a, 0)
      else binaryN most N op a b
/-- A wider one, unsigned. -/
def foldExt (most : Int) (N : List Nd) (a w : Int) : Rs :=
  if isN N a = false ∨ w < wdN N a ∨ 64 < w then extendN most N a w false
  else match knownN N a with
    | some v => constN most N w v
    | none => extendN most N a w false

end Go.Proofs.Ytanjlgafjgoaaaa
