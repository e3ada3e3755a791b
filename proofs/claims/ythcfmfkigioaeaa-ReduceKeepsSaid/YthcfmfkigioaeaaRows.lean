/-
  No cell of these rows narrows 'for every input' (looked for: loops, veiled, ifaces, maps, wideKeys, modest, calm, conditions, laid).
  DERIVED. THE GIVEN ROWS OF THIS SEAT. 2 by the template 'for every input the law returns true; each argument reads behind the call as it read before'; 0 by the template 'total and deterministic' (their statements: YthcfmfkigioaeaaTotals.lean).
  GIVEN WITH THE SEED: the statements are not yours to turn. If you find one false, say at which input.
  Laid BY PROGRAM, IN A SANDBOX (cutbox-rows.mjs): the forced cells as the released guide's own fill.sh prints them over the translation 41b527bea059d322… (all of the seat's roots in one cut). By AI agents, Wed Nov 11 2026. No macro, syntax, notation, axiom, sorry.
-/
import Derived.Test.YthcfmfkigioaeaaChecked
import GoSem.Claim
import GoSem.ClaimJoined
import GoSem.ClaimMapViews
import Derived.JoinedTies
import Derived.KernelRfl
namespace Go.Proofs.Ythcfmfkigioaeaa
/- THE CELL 'sum', in the pinned program and in every row, IS THE sha256 OF THE DUMP (.gsa) THAT YthcfmfkigioaeaaProg.lean LOADS. Nothing in Lean hashes anything: it is a label: what it is worth is what the hold of that sum in a sandbox is worth. -/
noncomputable def Try.pinned : Pinned := { name := "ythcfmfkigioaeaa", sum := "41b527bea059d3226190ecf16d3a7d86919e0a60859541eec01a75bda9a2040c", checked := Try.checked }
namespace Rows
def none {H : Type} : Left H := { results := [], args := [] }

/-- 'breakwaterlaw13.ReduceKeeps': WHATEVER THE INPUT: true; the input reads as it did. -/
def reduceKeepsSpec : ChangeSpec := { name := "reduceKeeps", fn := fun _ => fun
  | [d] => { results := [.lit (.bool true)], args := [d] }
  | _ => none }
def reduceKeepsRow : OpenClaim := { program := "ythcfmfkigioaeaa", sum := "41b527bea059d3226190ecf16d3a7d86919e0a60859541eec01a75bda9a2040c", func := "breakwater/breakwaterlaw13.ReduceKeeps", spec := "reduceKeeps", unfollowed := true, recurses := true, apart := false }
def ReduceKeepsSaid : Prop := reduceKeepsRow.holds Try.pinned (OpenSpec.ofChange reduceKeepsSpec)

/-- ITS FALSE NEIGHBOUR: 'it returns false'. Refute it at one input. -/
def reduceKeepsWrong : ChangeSpec := { name := "reduceKeeps", fn := fun _ => fun
  | [d] => { results := [.lit (.bool false)], args := [d] }
  | _ => none }
def ReduceKeepsWrongFalsely : Prop := reduceKeepsRow.holds Try.pinned (OpenSpec.ofChange reduceKeepsWrong)

/-- 'breakwaterlaw13.ReduceHalf': WHATEVER THE INPUT: true; the input reads as it did. -/
def reduceHalfSpec : ChangeSpec := { name := "reduceHalf", fn := fun _ => fun
  | [d] => { results := [.lit (.bool true)], args := [d] }
  | _ => none }
def reduceHalfRow : OpenClaim := { program := "ythcfmfkigioaeaa", sum := "41b527bea059d3226190ecf16d3a7d86919e0a60859541eec01a75bda9a2040c", func := "breakwater/breakwaterlaw13.ReduceHalf", spec := "reduceHalf", unfollowed := true, recurses := true, apart := false }
def ReduceHalfSaid : Prop := reduceHalfRow.holds Try.pinned (OpenSpec.ofChange reduceHalfSpec)

/-- ITS FALSE NEIGHBOUR: 'it returns false'. Refute it at one input. -/
def reduceHalfWrong : ChangeSpec := { name := "reduceHalf", fn := fun _ => fun
  | [d] => { results := [.lit (.bool false)], args := [d] }
  | _ => none }
def ReduceHalfWrongFalsely : Prop := reduceHalfRow.holds Try.pinned (OpenSpec.ofChange reduceHalfWrong)

/- THE SECOND FORM. 'bulk': how many values and letters a reading holds, each counted each time it is reached (what is shared counts as often as it is met; a slice's spare places count too). A statement '..UptoSaid' is the law's where the arguments, and the package variables that the reading takes, are together of bulk at most 1048576: NARROWER than '..Said'. Prove '..Said' where nothing that the law and all that it calls make is longer than what came in: it says more and counts as full. Else prove '..UptoSaid'. A law counts once. -/
mutual
def uptoBulk {H : Type} : DataW H → Nat
  | .lit (.string bytes) => bytes.length + 1
  | .lit _ => 1
  | .nil => 1
  | .ptr d => uptoBulk d + 1
  | .slice elems spare => uptoBulkAll elems + uptoBulkAll spare + 1
  | .agg parts => uptoBulkAll parts + 1
  | .iface _ d => uptoBulk d + 1
  | .map entries => uptoBulkEntries entries + 1
  | .held _ => 1
def uptoBulkAll {H : Type} : List (DataW H) → Nat
  | [] => 0
  | d :: r => uptoBulk d + uptoBulkAll r
def uptoBulkEntries {H : Type} : List (Lit × DataW H) → Nat
  | [] => 0
  | x :: r => uptoBulkEntry x + uptoBulkEntries r
def uptoBulkEntry {H : Type} : Lit × DataW H → Nat
  | (.string bytes, d) => bytes.length + uptoBulk d + 1
  | (_, d) => uptoBulk d + 1
 end
def uptoSmall : (H : Type) → List (DataW H) → Bool := fun _ ds => decide (uptoBulkAll ds ≤ 1048576)
def OpenSpec.upto (s : _root_.Go.ChangeSpec) : _root_.Go.OpenSpec := { _root_.Go.OpenSpec.ofChange s with cond := some uptoSmall }

/-- 'breakwaterlaw13.ReduceKeeps', WHERE WHAT IT READS IS OF BULK AT MOST 1048576: true; the input reads as it did. -/
def reduceKeepsUptoRow : OpenClaim := { program := "ythcfmfkigioaeaa", sum := "41b527bea059d3226190ecf16d3a7d86919e0a60859541eec01a75bda9a2040c", func := "breakwater/breakwaterlaw13.ReduceKeeps", spec := "reduceKeeps", unfollowed := true, recurses := true, apart := false, narrowed := true }
def ReduceKeepsUptoSaid : Prop := reduceKeepsUptoRow.holds Try.pinned (OpenSpec.upto reduceKeepsSpec)

/-- 'breakwaterlaw13.ReduceHalf', WHERE WHAT IT READS IS OF BULK AT MOST 1048576: true; the input reads as it did. -/
def reduceHalfUptoRow : OpenClaim := { program := "ythcfmfkigioaeaa", sum := "41b527bea059d3226190ecf16d3a7d86919e0a60859541eec01a75bda9a2040c", func := "breakwater/breakwaterlaw13.ReduceHalf", spec := "reduceHalf", unfollowed := true, recurses := true, apart := false, narrowed := true }
def ReduceHalfUptoSaid : Prop := reduceHalfUptoRow.holds Try.pinned (OpenSpec.upto reduceHalfSpec)

end Rows
end Go.Proofs.Ythcfmfkigioaeaa
