/-
  No cell of these rows narrows 'for every input' (looked for: loops, veiled, ifaces, maps, wideKeys, modest, calm, conditions, laid).
  DERIVED. THE GIVEN ROWS OF THIS SEAT. 2 by the template 'for every input the law returns true; each argument reads behind the call as it read before'; 0 by the template 'total and deterministic' (their statements: YtfffepeloiefiaaTotals.lean).
  GIVEN WITH THE SEED: the statements are not yours to turn. If you find one false, say at which input.
  Laid BY PROGRAM, IN A SANDBOX (cutbox-rows.mjs): the forced cells as the released guide's own fill.sh prints them over the translation 14dd66c49289c452… (all of the seat's roots in one cut). By AI agents, Wed Nov 11 2026. No macro, syntax, notation, axiom, sorry.
-/
import Derived.Test.YtfffepeloiefiaaChecked
import GoSem.Claim
import GoSem.ClaimJoined
import GoSem.ClaimMapViews
import Derived.JoinedTies
import Derived.KernelRfl
namespace Go.Proofs.Ytfffepeloiefiaa
/- THE CELL 'sum', in the pinned program and in every row, IS THE sha256 OF THE DUMP (.gsa) THAT YtfffepeloiefiaaProg.lean LOADS. Nothing in Lean hashes anything: it is a label: what it is worth is what the hold of that sum in a sandbox is worth. -/
noncomputable def Try.pinned : Pinned := { name := "ytfffepeloiefiaa", sum := "14dd66c49289c45280e1dd6a926962a6b8b00a6f5f44f73cdadbfc9a0154db69", checked := Try.checked }
namespace Rows
def none {H : Type} : Left H := { results := [], args := [] }

/-- 'breakwaterlaw39.ScrashLooks': WHATEVER THE INPUT: true; the input reads as it did. -/
def scrashLooksSpec : ChangeSpec := { name := "scrashLooks", fn := fun _ => fun
  | [d1, d2] => { results := [.lit (.bool true)], args := [d1, d2] }
  | _ => none }
def scrashLooksRow : OpenClaim := { program := "ytfffepeloiefiaa", sum := "14dd66c49289c45280e1dd6a926962a6b8b00a6f5f44f73cdadbfc9a0154db69", func := "breakwater/breakwaterlaw39.ScrashLooks", spec := "scrashLooks", unfollowed := true, recurses := true, plainKeys := false, apart := false }
def ScrashLooksSaid : Prop := scrashLooksRow.holds Try.pinned (OpenSpec.ofChange scrashLooksSpec)

/-- ITS FALSE NEIGHBOUR: 'it returns false'. Refute it at one input. -/
def scrashLooksWrong : ChangeSpec := { name := "scrashLooks", fn := fun _ => fun
  | [d1, d2] => { results := [.lit (.bool false)], args := [d1, d2] }
  | _ => none }
def ScrashLooksWrongFalsely : Prop := scrashLooksRow.holds Try.pinned (OpenSpec.ofChange scrashLooksWrong)

/-- 'breakwaterlaw39.ScrashMeans': WHATEVER THE INPUT: true; the input reads as it did. -/
def scrashMeansSpec : ChangeSpec := { name := "scrashMeans", fn := fun _ => fun
  | [d1, d2, d3] => { results := [.lit (.bool true)], args := [d1, d2, d3] }
  | _ => none }
def scrashMeansRow : OpenClaim := { program := "ytfffepeloiefiaa", sum := "14dd66c49289c45280e1dd6a926962a6b8b00a6f5f44f73cdadbfc9a0154db69", func := "breakwater/breakwaterlaw39.ScrashMeans", spec := "scrashMeans", unfollowed := true, recurses := true, plainKeys := false, apart := false }
def ScrashMeansSaid : Prop := scrashMeansRow.holds Try.pinned (OpenSpec.ofChange scrashMeansSpec)

/-- ITS FALSE NEIGHBOUR: 'it returns false'. Refute it at one input. -/
def scrashMeansWrong : ChangeSpec := { name := "scrashMeans", fn := fun _ => fun
  | [d1, d2, d3] => { results := [.lit (.bool false)], args := [d1, d2, d3] }
  | _ => none }
def ScrashMeansWrongFalsely : Prop := scrashMeansRow.holds Try.pinned (OpenSpec.ofChange scrashMeansWrong)

/- THE SECOND FORM. 'bulk': how many values and letters a reading holds, each counted each time it is reached (what is shared counts as often as it is met; a slice's spare places count too). A statement '..UptoSaid' is the law's where the arguments, and the package variables that the reading takes, are together of bulk at most 1048576: NARROWER than '..Said'. Prove '..Said' where nothing that the law and all that it calls make is longer than what came in: it says more and counts as full. Else prove '..UptoSaid'. A law counts once. -/
mutual
def uptoBulk {H : Type} : DataW H → Nat
  | .lit (.string bytes) => bytes.length + 1
  | .lit _ => 1
  | .nil => 1
  | .ptr d => uptoBulk d + 1
  | .slice elems spare => uptoBulkAll elems + uptoBulkAll spare + 1
  | .agg parts => uptoBulkAll parts + 1
  | .iface _ d => uptoBulk d + 1
  | .map entries => uptoBulkEntries entries + 1
  | .held _ => 1
def uptoBulkAll {H : Type} : List (DataW H) → Nat
  | [] => 0
  | d :: r => uptoBulk d + uptoBulkAll r
def uptoBulkEntries {H : Type} : List (Lit × DataW H) → Nat
  | [] => 0
  | x :: r => uptoBulkEntry x + uptoBulkEntries r
def uptoBulkEntry {H : Type} : Lit × DataW H → Nat
  | (.string bytes, d) => bytes.length + uptoBulk d + 1
  | (_, d) => uptoBulk d + 1
 end
def uptoSmall : (H : Type) → List (DataW H) → Bool := fun _ ds => decide (uptoBulkAll ds ≤ 1048576)
def OpenSpec.upto (s : _root_.Go.ChangeSpec) : _root_.Go.OpenSpec := { _root_.Go.OpenSpec.ofChange s with cond := some uptoSmall }

/-- 'breakwaterlaw39.ScrashLooks', WHERE WHAT IT READS IS OF BULK AT MOST 1048576: true; the input reads as it did. -/
def scrashLooksUptoRow : OpenClaim := { program := "ytfffepeloiefiaa", sum := "14dd66c49289c45280e1dd6a926962a6b8b00a6f5f44f73cdadbfc9a0154db69", func := "breakwater/breakwaterlaw39.ScrashLooks", spec := "scrashLooks", unfollowed := true, recurses := true, plainKeys := false, apart := false, narrowed := true }
def ScrashLooksUptoSaid : Prop := scrashLooksUptoRow.holds Try.pinned (OpenSpec.upto scrashLooksSpec)

/-- 'breakwaterlaw39.ScrashMeans', WHERE WHAT IT READS IS OF BULK AT MOST 1048576: true; the input reads as it did. -/
def scrashMeansUptoRow : OpenClaim := { program := "ytfffepeloiefiaa", sum := "14dd66c49289c45280e1dd6a926962a6b8b00a6f5f44f73cdadbfc9a0154db69", func := "breakwater/breakwaterlaw39.ScrashMeans", spec := "scrashMeans", unfollowed := true, recurses := true, plainKeys := false, apart := false, narrowed := true }
def ScrashMeansUptoSaid : Prop := scrashMeansUptoRow.holds Try.pinned (OpenSpec.upto scrashMeansSpec)

end Rows
end Go.Proofs.Ytfffepeloiefiaa
