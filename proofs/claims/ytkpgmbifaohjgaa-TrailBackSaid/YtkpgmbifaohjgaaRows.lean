/-
  No cell of these rows narrows 'for every input' (looked for: loops, veiled, ifaces, maps, wideKeys, modest, calm, conditions, laid).
  DERIVED. THE GIVEN ROWS OF THIS SEAT. 9 by the template 'for every input the law returns true; each argument reads behind the call as it read before'; 0 by the template 'total and deterministic' (their statements: YtkpgmbifaohjgaaTotals.lean).
  GIVEN WITH THE SEED: the statements are not yours to turn. If you find one false, say at which input.
  Laid BY PROGRAM, IN A SANDBOX (cutbox-rows.mjs): the forced cells as the released guide's own fill.sh prints them over the translation 6507278d8bd4dbd7… (all of the seat's roots in one cut). By AI agents, Wed Nov 11 2026. No macro, syntax, notation, axiom, sorry.
-/
import Derived.Test.YtkpgmbifaohjgaaChecked
import GoSem.Claim
import GoSem.ClaimJoined
import GoSem.ClaimMapViews
import Derived.JoinedTies
import Derived.KernelRfl
namespace Go.Proofs.Ytkpgmbifaohjgaa
/- THE CELL 'sum', in the pinned program and in every row, IS THE sha256 OF THE DUMP (.gsa) THAT YtkpgmbifaohjgaaProg.lean LOADS. Nothing in Lean hashes anything: it is a label: what it is worth is what the hold of that sum in a sandbox is worth. -/
noncomputable def Try.pinned : Pinned := { name := "ytkpgmbifaohjgaa", sum := "6507278d8bd4dbd770485d36b296b9a558e11af4c97cf650470f5a3dad798581", checked := Try.checked }
namespace Rows
def none {H : Type} : Left H := { results := [], args := [] }

/-- 'breakwaterlaw39.ScrashLooks': WHATEVER THE INPUT: true; the input reads as it did. -/
def scrashLooksSpec : ChangeSpec := { name := "scrashLooks", fn := fun _ => fun
  | [d1, d2] => { results := [.lit (.bool true)], args := [d1, d2] }
  | _ => none }
def scrashLooksRow : OpenClaim := { program := "ytkpgmbifaohjgaa", sum := "6507278d8bd4dbd770485d36b296b9a558e11af4c97cf650470f5a3dad798581", func := "breakwater/breakwaterlaw39.ScrashLooks", spec := "scrashLooks", unfollowed := true, recurses := true, apart := false }
def ScrashLooksSaid : Prop := scrashLooksRow.holds Try.pinned (OpenSpec.ofChange scrashLooksSpec)

/-- ITS FALSE NEIGHBOUR: 'it returns false'. Refute it at one input. -/
def scrashLooksWrong : ChangeSpec := { name := "scrashLooks", fn := fun _ => fun
  | [d1, d2] => { results := [.lit (.bool false)], args := [d1, d2] }
  | _ => none }
def ScrashLooksWrongFalsely : Prop := scrashLooksRow.holds Try.pinned (OpenSpec.ofChange scrashLooksWrong)

/-- 'breakwaterlaw10.TrailPlays': WHATEVER THE INPUT: true; the input reads as it did. -/
def trailPlaysSpec : ChangeSpec := { name := "trailPlays", fn := fun _ => fun
  | [d1, d2, d3] => { results := [.lit (.bool true)], args := [d1, d2, d3] }
  | _ => none }
def trailPlaysRow : OpenClaim := { program := "ytkpgmbifaohjgaa", sum := "6507278d8bd4dbd770485d36b296b9a558e11af4c97cf650470f5a3dad798581", func := "breakwater/breakwaterlaw10.TrailPlays", spec := "trailPlays", apart := false }
def TrailPlaysSaid : Prop := trailPlaysRow.holds Try.pinned (OpenSpec.ofChange trailPlaysSpec)

/-- ITS FALSE NEIGHBOUR: 'it returns false'. Refute it at one input. -/
def trailPlaysWrong : ChangeSpec := { name := "trailPlays", fn := fun _ => fun
  | [d1, d2, d3] => { results := [.lit (.bool false)], args := [d1, d2, d3] }
  | _ => none }
def TrailPlaysWrongFalsely : Prop := trailPlaysRow.holds Try.pinned (OpenSpec.ofChange trailPlaysWrong)

/-- 'breakwaterlaw10.TrailBack': WHATEVER THE INPUT: true; the input reads as it did. -/
def trailBackSpec : ChangeSpec := { name := "trailBack", fn := fun _ => fun
  | [d1, d2, d3] => { results := [.lit (.bool true)], args := [d1, d2, d3] }
  | _ => none }
def trailBackRow : OpenClaim := { program := "ytkpgmbifaohjgaa", sum := "6507278d8bd4dbd770485d36b296b9a558e11af4c97cf650470f5a3dad798581", func := "breakwater/breakwaterlaw10.TrailBack", spec := "trailBack", apart := false }
def TrailBackSaid : Prop := trailBackRow.holds Try.pinned (OpenSpec.ofChange trailBackSpec)

/-- ITS FALSE NEIGHBOUR: 'it returns false'. Refute it at one input. -/
def trailBackWrong : ChangeSpec := { name := "trailBack", fn := fun _ => fun
  | [d1, d2, d3] => { results := [.lit (.bool false)], args := [d1, d2, d3] }
  | _ => none }
def TrailBackWrongFalsely : Prop := trailBackRow.holds Try.pinned (OpenSpec.ofChange trailBackWrong)

/-- 'breakwaterlaw10.TrailNone': WHATEVER THE INPUT: true; the input reads as it did. -/
def trailNoneSpec : ChangeSpec := { name := "trailNone", fn := fun _ => fun
  | [d] => { results := [.lit (.bool true)], args := [d] }
  | _ => none }
def trailNoneRow : OpenClaim := { program := "ytkpgmbifaohjgaa", sum := "6507278d8bd4dbd770485d36b296b9a558e11af4c97cf650470f5a3dad798581", func := "breakwater/breakwaterlaw10.TrailNone", spec := "trailNone", apart := false }
def TrailNoneSaid : Prop := trailNoneRow.holds Try.pinned (OpenSpec.ofChange trailNoneSpec)

/-- ITS FALSE NEIGHBOUR: 'it returns false'. Refute it at one input. -/
def trailNoneWrong : ChangeSpec := { name := "trailNone", fn := fun _ => fun
  | [d] => { results := [.lit (.bool false)], args := [d] }
  | _ => none }
def TrailNoneWrongFalsely : Prop := trailNoneRow.holds Try.pinned (OpenSpec.ofChange trailNoneWrong)

/-- 'breakwaterlaw13.ReduceKeeps': WHATEVER THE INPUT: true; the input reads as it did. -/
def reduceKeepsSpec : ChangeSpec := { name := "reduceKeeps", fn := fun _ => fun
  | [d] => { results := [.lit (.bool true)], args := [d] }
  | _ => none }
def reduceKeepsRow : OpenClaim := { program := "ytkpgmbifaohjgaa", sum := "6507278d8bd4dbd770485d36b296b9a558e11af4c97cf650470f5a3dad798581", func := "breakwater/breakwaterlaw13.ReduceKeeps", spec := "reduceKeeps", unfollowed := true, recurses := true, apart := false }
def ReduceKeepsSaid : Prop := reduceKeepsRow.holds Try.pinned (OpenSpec.ofChange reduceKeepsSpec)

/-- ITS FALSE NEIGHBOUR: 'it returns false'. Refute it at one input. -/
def reduceKeepsWrong : ChangeSpec := { name := "reduceKeeps", fn := fun _ => fun
  | [d] => { results := [.lit (.bool false)], args := [d] }
  | _ => none }
def ReduceKeepsWrongFalsely : Prop := reduceKeepsRow.holds Try.pinned (OpenSpec.ofChange reduceKeepsWrong)

/-- 'breakwaterlaw13.ReduceHalf': WHATEVER THE INPUT: true; the input reads as it did. -/
def reduceHalfSpec : ChangeSpec := { name := "reduceHalf", fn := fun _ => fun
  | [d] => { results := [.lit (.bool true)], args := [d] }
  | _ => none }
def reduceHalfRow : OpenClaim := { program := "ytkpgmbifaohjgaa", sum := "6507278d8bd4dbd770485d36b296b9a558e11af4c97cf650470f5a3dad798581", func := "breakwater/breakwaterlaw13.ReduceHalf", spec := "reduceHalf", unfollowed := true, recurses := true, apart := false }
def ReduceHalfSaid : Prop := reduceHalfRow.holds Try.pinned (OpenSpec.ofChange reduceHalfSpec)

/-- ITS FALSE NEIGHBOUR: 'it returns false'. Refute it at one input. -/
def reduceHalfWrong : ChangeSpec := { name := "reduceHalf", fn := fun _ => fun
  | [d] => { results := [.lit (.bool false)], args := [d] }
  | _ => none }
def ReduceHalfWrongFalsely : Prop := reduceHalfRow.holds Try.pinned (OpenSpec.ofChange reduceHalfWrong)

/-- 'breakwaterlaw11.WatchNone': WHATEVER THE INPUT: true; the input reads as it did. -/
def watchNoneSpec : ChangeSpec := { name := "watchNone", fn := fun _ => fun
  | [d] => { results := [.lit (.bool true)], args := [d] }
  | _ => none }
def watchNoneRow : OpenClaim := { program := "ytkpgmbifaohjgaa", sum := "6507278d8bd4dbd770485d36b296b9a558e11af4c97cf650470f5a3dad798581", func := "breakwater/breakwaterlaw11.WatchNone", spec := "watchNone", apart := false }
def WatchNoneSaid : Prop := watchNoneRow.holds Try.pinned (OpenSpec.ofChange watchNoneSpec)

/-- ITS FALSE NEIGHBOUR: 'it returns false'. Refute it at one input. -/
def watchNoneWrong : ChangeSpec := { name := "watchNone", fn := fun _ => fun
  | [d] => { results := [.lit (.bool false)], args := [d] }
  | _ => none }
def WatchNoneWrongFalsely : Prop := watchNoneRow.holds Try.pinned (OpenSpec.ofChange watchNoneWrong)

/-- 'breakwaterlaw11.WatchPlays': WHATEVER THE INPUT: true; the input reads as it did. -/
def watchPlaysSpec : ChangeSpec := { name := "watchPlays", fn := fun _ => fun
  | [d1, d2] => { results := [.lit (.bool true)], args := [d1, d2] }
  | _ => none }
def watchPlaysRow : OpenClaim := { program := "ytkpgmbifaohjgaa", sum := "6507278d8bd4dbd770485d36b296b9a558e11af4c97cf650470f5a3dad798581", func := "breakwater/breakwaterlaw11.WatchPlays", spec := "watchPlays", apart := false }
def WatchPlaysSaid : Prop := watchPlaysRow.holds Try.pinned (OpenSpec.ofChange watchPlaysSpec)

/-- ITS FALSE NEIGHBOUR: 'it returns false'. Refute it at one input. -/
def watchPlaysWrong : ChangeSpec := { name := "watchPlays", fn := fun _ => fun
  | [d1, d2] => { results := [.lit (.bool false)], args := [d1, d2] }
  | _ => none }
def WatchPlaysWrongFalsely : Prop := watchPlaysRow.holds Try.pinned (OpenSpec.ofChange watchPlaysWrong)

/-- 'breakwaterlaw11.WatchKeeps': WHATEVER THE INPUT: true; the input reads as it did. -/
def watchKeepsSpec : ChangeSpec := { name := "watchKeeps", fn := fun _ => fun
  | [d1, d2, d3] => { results := [.lit (.bool true)], args := [d1, d2, d3] }
  | _ => none }
def watchKeepsRow : OpenClaim := { program := "ytkpgmbifaohjgaa", sum := "6507278d8bd4dbd770485d36b296b9a558e11af4c97cf650470f5a3dad798581", func := "breakwater/breakwaterlaw11.WatchKeeps", spec := "watchKeeps", apart := false }
def WatchKeepsSaid : Prop := watchKeepsRow.holds Try.pinned (OpenSpec.ofChange watchKeepsSpec)

/-- ITS FALSE NEIGHBOUR: 'it returns false'. Refute it at one input. -/
def watchKeepsWrong : ChangeSpec := { name := "watchKeeps", fn := fun _ => fun
  | [d1, d2, d3] => { results := [.lit (.bool false)], args := [d1, d2, d3] }
  | _ => none }
def WatchKeepsWrongFalsely : Prop := watchKeepsRow.holds Try.pinned (OpenSpec.ofChange watchKeepsWrong)

/- THE SECOND FORM. 'bulk': how many values and letters a reading holds, each counted each time it is reached (what is shared counts as often as it is met; a slice's spare places count too). A statement '..UptoSaid' is the law's where the arguments, and the package variables that the reading takes, are together of bulk at most 1048576: NARROWER than '..Said'. Prove '..Said' where nothing that the law and all that it calls make is longer than what came in: it says more and counts as full. Else prove '..UptoSaid'. A law counts once. -/
mutual
def uptoBulk {H : Type} : DataW H → Nat
  | .lit (.string bytes) => bytes.length + 1
  | .lit _ => 1
  | .nil => 1
  | .ptr d => uptoBulk d + 1
  | .slice elems spare => uptoBulkAll elems + uptoBulkAll spare + 1
  | .agg parts => uptoBulkAll parts + 1
  | .iface _ d => uptoBulk d + 1
  | .map entries => uptoBulkEntries entries + 1
  | .held _ => 1
def uptoBulkAll {H : Type} : List (DataW H) → Nat
  | [] => 0
  | d :: r => uptoBulk d + uptoBulkAll r
def uptoBulkEntries {H : Type} : List (Lit × DataW H) → Nat
  | [] => 0
  | x :: r => uptoBulkEntry x + uptoBulkEntries r
def uptoBulkEntry {H : Type} : Lit × DataW H → Nat
  | (.string bytes, d) => bytes.length + uptoBulk d + 1
  | (_, d) => uptoBulk d + 1
 end
def uptoSmall : (H : Type) → List (DataW H) → Bool := fun _ ds => decide (uptoBulkAll ds ≤ 1048576)
def OpenSpec.upto (s : _root_.Go.ChangeSpec) : _root_.Go.OpenSpec := { _root_.Go.OpenSpec.ofChange s with cond := some uptoSmall }

/-- 'breakwaterlaw39.ScrashLooks', WHERE WHAT IT READS IS OF BULK AT MOST 1048576: true; the input reads as it did. -/
def scrashLooksUptoRow : OpenClaim := { program := "ytkpgmbifaohjgaa", sum := "6507278d8bd4dbd770485d36b296b9a558e11af4c97cf650470f5a3dad798581", func := "breakwater/breakwaterlaw39.ScrashLooks", spec := "scrashLooks", unfollowed := true, recurses := true, apart := false, narrowed := true }
def ScrashLooksUptoSaid : Prop := scrashLooksUptoRow.holds Try.pinned (OpenSpec.upto scrashLooksSpec)

/-- 'breakwaterlaw10.TrailPlays', WHERE WHAT IT READS IS OF BULK AT MOST 1048576: true; the input reads as it did. -/
def trailPlaysUptoRow : OpenClaim := { program := "ytkpgmbifaohjgaa", sum := "6507278d8bd4dbd770485d36b296b9a558e11af4c97cf650470f5a3dad798581", func := "breakwater/breakwaterlaw10.TrailPlays", spec := "trailPlays", apart := false, narrowed := true }
def TrailPlaysUptoSaid : Prop := trailPlaysUptoRow.holds Try.pinned (OpenSpec.upto trailPlaysSpec)

/-- 'breakwaterlaw10.TrailBack', WHERE WHAT IT READS IS OF BULK AT MOST 1048576: true; the input reads as it did. -/
def trailBackUptoRow : OpenClaim := { program := "ytkpgmbifaohjgaa", sum := "6507278d8bd4dbd770485d36b296b9a558e11af4c97cf650470f5a3dad798581", func := "breakwater/breakwaterlaw10.TrailBack", spec := "trailBack", apart := false, narrowed := true }
def TrailBackUptoSaid : Prop := trailBackUptoRow.holds Try.pinned (OpenSpec.upto trailBackSpec)

/-- 'breakwaterlaw10.TrailNone', WHERE WHAT IT READS IS OF BULK AT MOST 1048576: true; the input reads as it did. -/
def trailNoneUptoRow : OpenClaim := { program := "ytkpgmbifaohjgaa", sum := "6507278d8bd4dbd770485d36b296b9a558e11af4c97cf650470f5a3dad798581", func := "breakwater/breakwaterlaw10.TrailNone", spec := "trailNone", apart := false, narrowed := true }
def TrailNoneUptoSaid : Prop := trailNoneUptoRow.holds Try.pinned (OpenSpec.upto trailNoneSpec)

/-- 'breakwaterlaw13.ReduceKeeps', WHERE WHAT IT READS IS OF BULK AT MOST 1048576: true; the input reads as it did. -/
def reduceKeepsUptoRow : OpenClaim := { program := "ytkpgmbifaohjgaa", sum := "6507278d8bd4dbd770485d36b296b9a558e11af4c97cf650470f5a3dad798581", func := "breakwater/breakwaterlaw13.ReduceKeeps", spec := "reduceKeeps", unfollowed := true, recurses := true, apart := false, narrowed := true }
def ReduceKeepsUptoSaid : Prop := reduceKeepsUptoRow.holds Try.pinned (OpenSpec.upto reduceKeepsSpec)

/-- 'breakwaterlaw13.ReduceHalf', WHERE WHAT IT READS IS OF BULK AT MOST 1048576: true; the input reads as it did. -/
def reduceHalfUptoRow : OpenClaim := { program := "ytkpgmbifaohjgaa", sum := "6507278d8bd4dbd770485d36b296b9a558e11af4c97cf650470f5a3dad798581", func := "breakwater/breakwaterlaw13.ReduceHalf", spec := "reduceHalf", unfollowed := true, recurses := true, apart := false, narrowed := true }
def ReduceHalfUptoSaid : Prop := reduceHalfUptoRow.holds Try.pinned (OpenSpec.upto reduceHalfSpec)

/-- 'breakwaterlaw11.WatchNone', WHERE WHAT IT READS IS OF BULK AT MOST 1048576: true; the input reads as it did. -/
def watchNoneUptoRow : OpenClaim := { program := "ytkpgmbifaohjgaa", sum := "6507278d8bd4dbd770485d36b296b9a558e11af4c97cf650470f5a3dad798581", func := "breakwater/breakwaterlaw11.WatchNone", spec := "watchNone", apart := false, narrowed := true }
def WatchNoneUptoSaid : Prop := watchNoneUptoRow.holds Try.pinned (OpenSpec.upto watchNoneSpec)

/-- 'breakwaterlaw11.WatchPlays', WHERE WHAT IT READS IS OF BULK AT MOST 1048576: true; the input reads as it did. -/
def watchPlaysUptoRow : OpenClaim := { program := "ytkpgmbifaohjgaa", sum := "6507278d8bd4dbd770485d36b296b9a558e11af4c97cf650470f5a3dad798581", func := "breakwater/breakwaterlaw11.WatchPlays", spec := "watchPlays", apart := false, narrowed := true }
def WatchPlaysUptoSaid : Prop := watchPlaysUptoRow.holds Try.pinned (OpenSpec.upto watchPlaysSpec)

/-- 'breakwaterlaw11.WatchKeeps', WHERE WHAT IT READS IS OF BULK AT MOST 1048576: true; the input reads as it did. -/
def watchKeepsUptoRow : OpenClaim := { program := "ytkpgmbifaohjgaa", sum := "6507278d8bd4dbd770485d36b296b9a558e11af4c97cf650470f5a3dad798581", func := "breakwater/breakwaterlaw11.WatchKeeps", spec := "watchKeeps", apart := false, narrowed := true }
def WatchKeepsUptoSaid : Prop := watchKeepsUptoRow.holds Try.pinned (OpenSpec.upto watchKeepsSpec)

end Rows
end Go.Proofs.Ytkpgmbifaohjgaa
