/-
  No cell of these rows narrows 'for every input' (looked for: loops, veiled, ifaces, maps, wideKeys, modest, calm, conditions, laid).
  DERIVED. THE GIVEN ROWS OF THIS SEAT. 2 by the template 'for every input the law returns true; each argument reads behind the call as it read before'; 0 by the template 'total and deterministic' (their statements: YteahomhjoilahaaTotals.lean).
  GIVEN WITH THE SEED: the statements are not yours to turn. If you find one false, say at which input.
  Laid BY PROGRAM, IN A SANDBOX (cutbox-rows.mjs): the forced cells as the released guide's own fill.sh prints them over the translation 56010bf6e92d5e70… (all of the seat's roots in one cut). By AI agents, Wed Nov 11 2026. No macro, syntax, notation, axiom, sorry.
-/
import Derived.Test.YteahomhjoilahaaChecked
import GoSem.Claim
import GoSem.ClaimJoined
import GoSem.ClaimMapViews
import Derived.JoinedTies
import Derived.KernelRfl
namespace Go.Proofs.Yteahomhjoilahaa
/- THE CELL 'sum', in the pinned program and in every row, IS THE sha256 OF THE DUMP (.gsa) THAT YteahomhjoilahaaProg.lean LOADS. Nothing in Lean hashes anything: it is a label: what it is worth is what the hold of that sum in a sandbox is worth. -/
noncomputable def Try.pinned : Pinned := { name := "yteahomhjoilahaa", sum := "56010bf6e92d5e70c1c77ad806cfdccf2dca34132e0c12f2aa6c563a49873218", checked := Try.checked }
namespace Rows
def none {H : Type} : Left H := { results := [], args := [] }

/-- 'breakwaterlaw16.SemValues': WHATEVER THE INPUT: true; the input reads as it did. -/
def semValuesSpec : ChangeSpec := { name := "semValues", fn := fun _ => fun
  | [d1, d2, d3] => { results := [.lit (.bool true)], args := [d1, d2, d3] }
  | _ => none }
def semValuesRow : OpenClaim := { program := "yteahomhjoilahaa", sum := "56010bf6e92d5e70c1c77ad806cfdccf2dca34132e0c12f2aa6c563a49873218", func := "breakwater/breakwaterlaw16.SemValues", spec := "semValues", unfollowed := true, recurses := true, plainKeys := false, apart := false }
def SemValuesSaid : Prop := semValuesRow.holds Try.pinned (OpenSpec.ofChange semValuesSpec)

/-- ITS FALSE NEIGHBOUR: 'it returns false'. Refute it at one input. -/
def semValuesWrong : ChangeSpec := { name := "semValues", fn := fun _ => fun
  | [d1, d2, d3] => { results := [.lit (.bool false)], args := [d1, d2, d3] }
  | _ => none }
def SemValuesWrongFalsely : Prop := semValuesRow.holds Try.pinned (OpenSpec.ofChange semValuesWrong)

/-- 'breakwaterlaw16.SemFits': WHATEVER THE INPUT: true; the input reads as it did. -/
def semFitsSpec : ChangeSpec := { name := "semFits", fn := fun _ => fun
  | [d1, d2, d3] => { results := [.lit (.bool true)], args := [d1, d2, d3] }
  | _ => none }
def semFitsRow : OpenClaim := { program := "yteahomhjoilahaa", sum := "56010bf6e92d5e70c1c77ad806cfdccf2dca34132e0c12f2aa6c563a49873218", func := "breakwater/breakwaterlaw16.SemFits", spec := "semFits", unfollowed := true, recurses := true, plainKeys := false, apart := false }
def SemFitsSaid : Prop := semFitsRow.holds Try.pinned (OpenSpec.ofChange semFitsSpec)

/-- ITS FALSE NEIGHBOUR: 'it returns false'. Refute it at one input. -/
def semFitsWrong : ChangeSpec := { name := "semFits", fn := fun _ => fun
  | [d1, d2, d3] => { results := [.lit (.bool false)], args := [d1, d2, d3] }
  | _ => none }
def SemFitsWrongFalsely : Prop := semFitsRow.holds Try.pinned (OpenSpec.ofChange semFitsWrong)

/- THE SECOND FORM. 'bulk': how many values and letters a reading holds, each counted each time it is reached (what is shared counts as often as it is met; a slice's spare places count too). A statement '..UptoSaid' is the law's where the arguments, and the package variables that the reading takes, are together of bulk at most 1048576: NARROWER than '..Said'. Prove '..Said' where nothing that the law and all that it calls make is longer than what came in: it says more and counts as full. Else prove '..UptoSaid'. A law counts once. -/
mutual
def uptoBulk {H : Type} : DataW H → Nat
  | .lit (.string bytes) => bytes.length + 1
  | .lit _ => 1
  | .nil => 1
  | .ptr d => uptoBulk d + 1
  | .slice elems spare => uptoBulkAll elems + uptoBulkAll spare + 1
  | .agg parts => uptoBulkAll parts + 1
  | .iface _ d => uptoBulk d + 1
  | .map entries => uptoBulkEntries entries + 1
  | .held _ => 1
def uptoBulkAll {H : Type} : List (DataW H) → Nat
  | [] => 0
  | d :: r => uptoBulk d + uptoBulkAll r
def uptoBulkEntries {H : Type} : List (Lit × DataW H) → Nat
  | [] => 0
  | x :: r => uptoBulkEntry x + uptoBulkEntries r
def uptoBulkEntry {H : Type} : Lit × DataW H → Nat
  | (.string bytes, d) => bytes.length + uptoBulk d + 1
  | (_, d) => uptoBulk d + 1
 end
def uptoSmall : (H : Type) → List (DataW H) → Bool := fun _ ds => decide (uptoBulkAll ds ≤ 1048576)
def OpenSpec.upto (s : _root_.Go.ChangeSpec) : _root_.Go.OpenSpec := { _root_.Go.OpenSpec.ofChange s with cond := some uptoSmall }

/-- 'breakwaterlaw16.SemValues', WHERE WHAT IT READS IS OF BULK AT MOST 1048576: true; the input reads as it did. -/
def semValuesUptoRow : OpenClaim := { program := "yteahomhjoilahaa", sum := "56010bf6e92d5e70c1c77ad806cfdccf2dca34132e0c12f2aa6c563a49873218", func := "breakwater/breakwaterlaw16.SemValues", spec := "semValues", unfollowed := true, recurses := true, plainKeys := false, apart := false, narrowed := true }
def SemValuesUptoSaid : Prop := semValuesUptoRow.holds Try.pinned (OpenSpec.upto semValuesSpec)

/-- 'breakwaterlaw16.SemFits', WHERE WHAT IT READS IS OF BULK AT MOST 1048576: true; the input reads as it did. -/
def semFitsUptoRow : OpenClaim := { program := "yteahomhjoilahaa", sum := "56010bf6e92d5e70c1c77ad806cfdccf2dca34132e0c12f2aa6c563a49873218", func := "breakwater/breakwaterlaw16.SemFits", spec := "semFits", unfollowed := true, recurses := true, plainKeys := false, apart := false, narrowed := true }
def SemFitsUptoSaid : Prop := semFitsUptoRow.holds Try.pinned (OpenSpec.upto semFitsSpec)

end Rows
end Go.Proofs.Yteahomhjoilahaa
