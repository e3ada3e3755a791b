/-
  No cell of these rows narrows 'for every input' (looked for: loops, veiled, ifaces, maps, wideKeys, modest, calm, conditions, laid).
  DERIVED. THE GIVEN ROWS OF THIS SEAT. 2 by the template 'for every input the law returns true; each argument reads behind the call as it read before'; 0 by the template 'total and deterministic' (their statements: YtanjlgafjgoaaaaGreatTotals.lean).
  GIVEN WITH THE SEED: the statements are not yours to turn. If you find one false, say at which input.
  Laid BY PROGRAM, IN A SANDBOX (cutbox-rows.mjs): the forced cells as the released guide's own fill.sh prints them over the translation 7e55536fccdc5eb8… (all of the seat's roots in one cut). By AI agents, Wed Nov 11 2026. No macro, syntax, notation, axiom, sorry.
-/
import Derived.Test.YtanjlgafjgoaaaaGreatChecked
import GoSem.Claim
import GoSem.ClaimJoined
import GoSem.ClaimMapViews
import Derived.JoinedTies
import Derived.KernelRfl
namespace Go.Proofs.YtanjlgafjgoaaaaGreat
/- THE CELL 'sum', in the pinned program and in every row, IS THE sha256 OF THE DUMP (.gsa) THAT YtanjlgafjgoaaaaGreatProg.lean LOADS. Nothing in Lean hashes anything: it is a label: what it is worth is what the hold of that sum in a sandbox is worth. -/
noncomputable def Tryz.pinned : Pinned := { name := "ytanjlgafjgoaaaagreat", sum := "7e55536fccdc5eb83c1d48e023ba6a6c56c7a1147bfd6d2ff3fa84c7c1bbf350", checked := Tryz.checked }
namespace Rows
def none {H : Type} : Left H := { results := [], args := [] }

/-- 'breakwaterlaw37.SstepMeans': WHATEVER THE INPUT: true; the input reads as it did. -/
def sstepMeansSpec : ChangeSpec := { name := "sstepMeans", fn := fun _ => fun
  | [d1, d2, d3] => { results := [.lit (.bool true)], args := [d1, d2, d3] }
  | _ => none }
def sstepMeansRow : OpenClaim := { program := "ytanjlgafjgoaaaagreat", sum := "7e55536fccdc5eb83c1d48e023ba6a6c56c7a1147bfd6d2ff3fa84c7c1bbf350", func := "breakwater/breakwaterlaw37.SstepMeans", spec := "sstepMeans", inPlace := ["internal/bytealg.IndexByteString", "internal/bytealg.IndexString"], unfollowed := true, recurses := true, named := ["internal/bytealg.MaxLen"], plainKeys := false, apart := false }
def SstepMeansSaid : Prop := sstepMeansRow.holds Tryz.pinned (OpenSpec.ofChange sstepMeansSpec)

/-- ITS FALSE NEIGHBOUR: 'it returns false'. Refute it at one input. -/
def sstepMeansWrong : ChangeSpec := { name := "sstepMeans", fn := fun _ => fun
  | [d1, d2, d3] => { results := [.lit (.bool false)], args := [d1, d2, d3] }
  | _ => none }
def SstepMeansWrongFalsely : Prop := sstepMeansRow.holds Tryz.pinned (OpenSpec.ofChange sstepMeansWrong)

/-- 'breakwaterlaw37.SstepAll': WHATEVER THE INPUT: true; the input reads as it did. -/
def sstepAllSpec : ChangeSpec := { name := "sstepAll", fn := fun _ => fun
  | [d1, d2, d3] => { results := [.lit (.bool true)], args := [d1, d2, d3] }
  | _ => none }
def sstepAllRow : OpenClaim := { program := "ytanjlgafjgoaaaagreat", sum := "7e55536fccdc5eb83c1d48e023ba6a6c56c7a1147bfd6d2ff3fa84c7c1bbf350", func := "breakwater/breakwaterlaw37.SstepAll", spec := "sstepAll", inPlace := ["internal/bytealg.IndexByteString", "internal/bytealg.IndexString"], unfollowed := true, recurses := true, named := ["internal/bytealg.MaxLen"], plainKeys := false, apart := false }
def SstepAllSaid : Prop := sstepAllRow.holds Tryz.pinned (OpenSpec.ofChange sstepAllSpec)

/-- ITS FALSE NEIGHBOUR: 'it returns false'. Refute it at one input. -/
def sstepAllWrong : ChangeSpec := { name := "sstepAll", fn := fun _ => fun
  | [d1, d2, d3] => { results := [.lit (.bool false)], args := [d1, d2, d3] }
  | _ => none }
def SstepAllWrongFalsely : Prop := sstepAllRow.holds Tryz.pinned (OpenSpec.ofChange sstepAllWrong)

/- THE SECOND FORM. 'bulk': how many values and letters a reading holds, each counted each time it is reached (what is shared counts as often as it is met; a slice's spare places count too). A statement '..UptoSaid' is the law's where the arguments, and the package variables that the reading takes, are together of bulk at most 1048576: NARROWER than '..Said'. Prove '..Said' where nothing that the law and all that it calls make is longer than what came in: it says more and counts as full. Else prove '..UptoSaid'. A law counts once. -/
mutual
def uptoBulk {H : Type} : DataW H → Nat
  | .lit (.string bytes) => bytes.length + 1
  | .lit _ => 1
  | .nil => 1
  | .ptr d => uptoBulk d + 1
  | .slice elems spare => uptoBulkAll elems + uptoBulkAll spare + 1
  | .agg parts => uptoBulkAll parts + 1
  | .iface _ d => uptoBulk d + 1
  | .map entries => uptoBulkEntries entries + 1
  | .held _ => 1
def uptoBulkAll {H : Type} : List (DataW H) → Nat
  | [] => 0
  | d :: r => uptoBulk d + uptoBulkAll r
def uptoBulkEntries {H : Type} : List (Lit × DataW H) → Nat
  | [] => 0
  | x :: r => uptoBulkEntry x + uptoBulkEntries r
def uptoBulkEntry {H : Type} : Lit × DataW H → Nat
  | (.string bytes, d) => bytes.length + uptoBulk d + 1
  | (_, d) => uptoBulk d + 1
 end
def uptoSmall : (H : Type) → List (DataW H) → Bool := fun _ ds => decide (uptoBulkAll ds ≤ 1048576)
def OpenSpec.upto (s : _root_.Go.ChangeSpec) : _root_.Go.OpenSpec := { _root_.Go.OpenSpec.ofChange s with cond := some uptoSmall }

/-- 'breakwaterlaw37.SstepMeans', WHERE WHAT IT READS IS OF BULK AT MOST 1048576: true; the input reads as it did. -/
def sstepMeansUptoRow : OpenClaim := { program := "ytanjlgafjgoaaaagreat", sum := "7e55536fccdc5eb83c1d48e023ba6a6c56c7a1147bfd6d2ff3fa84c7c1bbf350", func := "breakwater/breakwaterlaw37.SstepMeans", spec := "sstepMeans", inPlace := ["internal/bytealg.IndexByteString", "internal/bytealg.IndexString"], unfollowed := true, recurses := true, named := ["internal/bytealg.MaxLen"], plainKeys := false, apart := false, narrowed := true }
def SstepMeansUptoSaid : Prop := sstepMeansUptoRow.holds Tryz.pinned (OpenSpec.upto sstepMeansSpec)

/-- 'breakwaterlaw37.SstepAll', WHERE WHAT IT READS IS OF BULK AT MOST 1048576: true; the input reads as it did. -/
def sstepAllUptoRow : OpenClaim := { program := "ytanjlgafjgoaaaagreat", sum := "7e55536fccdc5eb83c1d48e023ba6a6c56c7a1147bfd6d2ff3fa84c7c1bbf350", func := "breakwater/breakwaterlaw37.SstepAll", spec := "sstepAll", inPlace := ["internal/bytealg.IndexByteString", "internal/bytealg.IndexString"], unfollowed := true, recurses := true, named := ["internal/bytealg.MaxLen"], plainKeys := false, apart := false, narrowed := true }
def SstepAllUptoSaid : Prop := sstepAllUptoRow.holds Tryz.pinned (OpenSpec.upto sstepAllSpec)

end Rows
end Go.Proofs.YtanjlgafjgoaaaaGreat
