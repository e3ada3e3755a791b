/-
  No cell of these rows narrows 'for every input' (looked for: loops, veiled, ifaces, maps, wideKeys, modest, calm, conditions, laid).
  DERIVED. THE GIVEN ROWS OF THIS SEAT. 8 by the template 'for every input the law returns true; each argument reads behind the call as it read before'; 0 by the template 'total and deterministic' (their statements: YtgbodhibflpgmaaTotals.lean).
  GIVEN WITH THE SEED: the statements are not yours to turn. If you find one false, say at which input.
  Laid BY PROGRAM, IN A SANDBOX (cutbox-rows.mjs): the forced cells as the released guide's own fill.sh prints them over the translation 8ba3e03796810edf… (all of the seat's roots in one cut). By AI agents, Wed Nov 11 2026. No macro, syntax, notation, axiom, sorry.
-/
import Derived.Test.YtgbodhibflpgmaaChecked
import GoSem.Claim
import GoSem.ClaimJoined
import GoSem.ClaimMapViews
import Derived.JoinedTies
import Derived.KernelRfl
namespace Go.Proofs.Ytgbodhibflpgmaa
/- THE CELL 'sum', in the pinned program and in every row, IS THE sha256 OF THE DUMP (.gsa) THAT YtgbodhibflpgmaaProg.lean LOADS. Nothing in Lean hashes anything: it is a label: what it is worth is what the hold of that sum in a sandbox is worth. -/
noncomputable def Try.pinned : Pinned := { name := "ytgbodhibflpgmaa", sum := "8ba3e03796810edfca540383f4296e2626f3fcd9d8b2f187112a7245d76fbc2b", checked := Try.checked }
namespace Rows
def none {H : Type} : Left H := { results := [], args := [] }

/-- 'breakwaterlaw36.SymStarts': WHATEVER THE INPUT: true; the input reads as it did. -/
def symStartsSpec : ChangeSpec := { name := "symStarts", fn := fun _ => fun
  | [d1, d2, d3] => { results := [.lit (.bool true)], args := [d1, d2, d3] }
  | _ => none }
def symStartsRow : OpenClaim := { program := "ytgbodhibflpgmaa", sum := "8ba3e03796810edfca540383f4296e2626f3fcd9d8b2f187112a7245d76fbc2b", func := "breakwater/breakwaterlaw36.SymStarts", spec := "symStarts", unfollowed := true, recurses := true, plainKeys := false, apart := false }
def SymStartsSaid : Prop := symStartsRow.holds Try.pinned (OpenSpec.ofChange symStartsSpec)

/-- ITS FALSE NEIGHBOUR: 'it returns false'. Refute it at one input. -/
def symStartsWrong : ChangeSpec := { name := "symStarts", fn := fun _ => fun
  | [d1, d2, d3] => { results := [.lit (.bool false)], args := [d1, d2, d3] }
  | _ => none }
def SymStartsWrongFalsely : Prop := symStartsRow.holds Try.pinned (OpenSpec.ofChange symStartsWrong)

/-- 'breakwaterlaw36.SymOf': WHATEVER THE INPUT: true; the input reads as it did. -/
def symOfSpec : ChangeSpec := { name := "symOf", fn := fun _ => fun
  | [d1, d2, d3] => { results := [.lit (.bool true)], args := [d1, d2, d3] }
  | _ => none }
def symOfRow : OpenClaim := { program := "ytgbodhibflpgmaa", sum := "8ba3e03796810edfca540383f4296e2626f3fcd9d8b2f187112a7245d76fbc2b", func := "breakwater/breakwaterlaw36.SymOf", spec := "symOf", unfollowed := true, recurses := true, plainKeys := false, apart := false }
def SymOfSaid : Prop := symOfRow.holds Try.pinned (OpenSpec.ofChange symOfSpec)

/-- ITS FALSE NEIGHBOUR: 'it returns false'. Refute it at one input. -/
def symOfWrong : ChangeSpec := { name := "symOf", fn := fun _ => fun
  | [d1, d2, d3] => { results := [.lit (.bool false)], args := [d1, d2, d3] }
  | _ => none }
def SymOfWrongFalsely : Prop := symOfRow.holds Try.pinned (OpenSpec.ofChange symOfWrong)

/-- 'breakwaterlaw06.UnitCloses': WHATEVER THE INPUT: true; the input reads as it did. -/
def unitClosesSpec : ChangeSpec := { name := "unitCloses", fn := fun _ => fun
  | [d1, d2, d3] => { results := [.lit (.bool true)], args := [d1, d2, d3] }
  | _ => none }
def unitClosesRow : OpenClaim := { program := "ytgbodhibflpgmaa", sum := "8ba3e03796810edfca540383f4296e2626f3fcd9d8b2f187112a7245d76fbc2b", func := "breakwater/breakwaterlaw06.UnitCloses", spec := "unitCloses", recurses := true, plainKeys := false, apart := false }
def UnitClosesSaid : Prop := unitClosesRow.holds Try.pinned (OpenSpec.ofChange unitClosesSpec)

/-- ITS FALSE NEIGHBOUR: 'it returns false'. Refute it at one input. -/
def unitClosesWrong : ChangeSpec := { name := "unitCloses", fn := fun _ => fun
  | [d1, d2, d3] => { results := [.lit (.bool false)], args := [d1, d2, d3] }
  | _ => none }
def UnitClosesWrongFalsely : Prop := unitClosesRow.holds Try.pinned (OpenSpec.ofChange unitClosesWrong)

/-- 'breakwaterlaw06.UnitSound': WHATEVER THE INPUT: true; the input reads as it did. -/
def unitSoundSpec : ChangeSpec := { name := "unitSound", fn := fun _ => fun
  | [d1, d2, d3] => { results := [.lit (.bool true)], args := [d1, d2, d3] }
  | _ => none }
def unitSoundRow : OpenClaim := { program := "ytgbodhibflpgmaa", sum := "8ba3e03796810edfca540383f4296e2626f3fcd9d8b2f187112a7245d76fbc2b", func := "breakwater/breakwaterlaw06.UnitSound", spec := "unitSound", recurses := true, plainKeys := false, apart := false }
def UnitSoundSaid : Prop := unitSoundRow.holds Try.pinned (OpenSpec.ofChange unitSoundSpec)

/-- ITS FALSE NEIGHBOUR: 'it returns false'. Refute it at one input. -/
def unitSoundWrong : ChangeSpec := { name := "unitSound", fn := fun _ => fun
  | [d1, d2, d3] => { results := [.lit (.bool false)], args := [d1, d2, d3] }
  | _ => none }
def UnitSoundWrongFalsely : Prop := unitSoundRow.holds Try.pinned (OpenSpec.ofChange unitSoundWrong)

/-- 'breakwaterlaw06.UnitMore': WHATEVER THE INPUT: true; the input reads as it did. -/
def unitMoreSpec : ChangeSpec := { name := "unitMore", fn := fun _ => fun
  | [d1, d2, d3] => { results := [.lit (.bool true)], args := [d1, d2, d3] }
  | _ => none }
def unitMoreRow : OpenClaim := { program := "ytgbodhibflpgmaa", sum := "8ba3e03796810edfca540383f4296e2626f3fcd9d8b2f187112a7245d76fbc2b", func := "breakwater/breakwaterlaw06.UnitMore", spec := "unitMore", recurses := true, plainKeys := false, apart := false }
def UnitMoreSaid : Prop := unitMoreRow.holds Try.pinned (OpenSpec.ofChange unitMoreSpec)

/-- ITS FALSE NEIGHBOUR: 'it returns false'. Refute it at one input. -/
def unitMoreWrong : ChangeSpec := { name := "unitMore", fn := fun _ => fun
  | [d1, d2, d3] => { results := [.lit (.bool false)], args := [d1, d2, d3] }
  | _ => none }
def UnitMoreWrongFalsely : Prop := unitMoreRow.holds Try.pinned (OpenSpec.ofChange unitMoreWrong)

/-- 'breakwaterlaw07.RupChecks': WHATEVER THE INPUT: true; the input reads as it did. -/
def rupChecksSpec : ChangeSpec := { name := "rupChecks", fn := fun _ => fun
  | [d1, d2] => { results := [.lit (.bool true)], args := [d1, d2] }
  | _ => none }
def rupChecksRow : OpenClaim := { program := "ytgbodhibflpgmaa", sum := "8ba3e03796810edfca540383f4296e2626f3fcd9d8b2f187112a7245d76fbc2b", func := "breakwater/breakwaterlaw07.RupChecks", spec := "rupChecks", unfollowed := true, recurses := true, plainKeys := false, apart := false }
def RupChecksSaid : Prop := rupChecksRow.holds Try.pinned (OpenSpec.ofChange rupChecksSpec)

/-- ITS FALSE NEIGHBOUR: 'it returns false'. Refute it at one input. -/
def rupChecksWrong : ChangeSpec := { name := "rupChecks", fn := fun _ => fun
  | [d1, d2] => { results := [.lit (.bool false)], args := [d1, d2] }
  | _ => none }
def RupChecksWrongFalsely : Prop := rupChecksRow.holds Try.pinned (OpenSpec.ofChange rupChecksWrong)

/-- 'breakwaterlaw07.RupSound': WHATEVER THE INPUT: true; the input reads as it did. -/
def rupSoundSpec : ChangeSpec := { name := "rupSound", fn := fun _ => fun
  | [d1, d2, d3] => { results := [.lit (.bool true)], args := [d1, d2, d3] }
  | _ => none }
def rupSoundRow : OpenClaim := { program := "ytgbodhibflpgmaa", sum := "8ba3e03796810edfca540383f4296e2626f3fcd9d8b2f187112a7245d76fbc2b", func := "breakwater/breakwaterlaw07.RupSound", spec := "rupSound", unfollowed := true, recurses := true, plainKeys := false, apart := false }
def RupSoundSaid : Prop := rupSoundRow.holds Try.pinned (OpenSpec.ofChange rupSoundSpec)

/-- ITS FALSE NEIGHBOUR: 'it returns false'. Refute it at one input. -/
def rupSoundWrong : ChangeSpec := { name := "rupSound", fn := fun _ => fun
  | [d1, d2, d3] => { results := [.lit (.bool false)], args := [d1, d2, d3] }
  | _ => none }
def RupSoundWrongFalsely : Prop := rupSoundRow.holds Try.pinned (OpenSpec.ofChange rupSoundWrong)

/-- 'breakwaterlaw39.ScrashMeans': WHATEVER THE INPUT: true; the input reads as it did. -/
def scrashMeansSpec : ChangeSpec := { name := "scrashMeans", fn := fun _ => fun
  | [d1, d2, d3] => { results := [.lit (.bool true)], args := [d1, d2, d3] }
  | _ => none }
def scrashMeansRow : OpenClaim := { program := "ytgbodhibflpgmaa", sum := "8ba3e03796810edfca540383f4296e2626f3fcd9d8b2f187112a7245d76fbc2b", func := "breakwater/breakwaterlaw39.ScrashMeans", spec := "scrashMeans", unfollowed := true, recurses := true, plainKeys := false, apart := false }
def ScrashMeansSaid : Prop := scrashMeansRow.holds Try.pinned (OpenSpec.ofChange scrashMeansSpec)

/-- ITS FALSE NEIGHBOUR: 'it returns false'. Refute it at one input. -/
def scrashMeansWrong : ChangeSpec := { name := "scrashMeans", fn := fun _ => fun
  | [d1, d2, d3] => { results := [.lit (.bool false)], args := [d1, d2, d3] }
  | _ => none }
def ScrashMeansWrongFalsely : Prop := scrashMeansRow.holds Try.pinned (OpenSpec.ofChange scrashMeansWrong)

/- THE SECOND FORM. 'bulk': how many values and letters a reading holds, each counted each time it is reached (what is shared counts as often as it is met; a slice's spare places count too). A statement '..UptoSaid' is the law's where the arguments, and the package variables that the reading takes, are together of bulk at most 1048576: NARROWER than '..Said'. Prove '..Said' where nothing that the law and all that it calls make is longer than what came in: it says more and counts as full. Else prove '..UptoSaid'. A law counts once. -/
mutual
def uptoBulk {H : Type} : DataW H → Nat
  | .lit (.string bytes) => bytes.length + 1
  | .lit _ => 1
  | .nil => 1
  | .ptr d => uptoBulk d + 1
  | .slice elems spare => uptoBulkAll elems + uptoBulkAll spare + 1
  | .agg parts => uptoBulkAll parts + 1
  | .iface _ d => uptoBulk d + 1
  | .map entries => uptoBulkEntries entries + 1
  | .held _ => 1
def uptoBulkAll {H : Type} : List (DataW H) → Nat
  | [] => 0
  | d :: r => uptoBulk d + uptoBulkAll r
def uptoBulkEntries {H : Type} : List (Lit × DataW H) → Nat
  | [] => 0
  | x :: r => uptoBulkEntry x + uptoBulkEntries r
def uptoBulkEntry {H : Type} : Lit × DataW H → Nat
  | (.string bytes, d) => bytes.length + uptoBulk d + 1
  | (_, d) => uptoBulk d + 1
 end
def uptoSmall : (H : Type) → List (DataW H) → Bool := fun _ ds => decide (uptoBulkAll ds ≤ 1048576)
def OpenSpec.upto (s : _root_.Go.ChangeSpec) : _root_.Go.OpenSpec := { _root_.Go.OpenSpec.ofChange s with cond := some uptoSmall }

/-- 'breakwaterlaw36.SymStarts', WHERE WHAT IT READS IS OF BULK AT MOST 1048576: true; the input reads as it did. -/
def symStartsUptoRow : OpenClaim := { program := "ytgbodhibflpgmaa", sum := "8ba3e03796810edfca540383f4296e2626f3fcd9d8b2f187112a7245d76fbc2b", func := "breakwater/breakwaterlaw36.SymStarts", spec := "symStarts", unfollowed := true, recurses := true, plainKeys := false, apart := false, narrowed := true }
def SymStartsUptoSaid : Prop := symStartsUptoRow.holds Try.pinned (OpenSpec.upto symStartsSpec)

/-- 'breakwaterlaw36.SymOf', WHERE WHAT IT READS IS OF BULK AT MOST 1048576: true; the input reads as it did. -/
def symOfUptoRow : OpenClaim := { program := "ytgbodhibflpgmaa", sum := "8ba3e03796810edfca540383f4296e2626f3fcd9d8b2f187112a7245d76fbc2b", func := "breakwater/breakwaterlaw36.SymOf", spec := "symOf", unfollowed := true, recurses := true, plainKeys := false, apart := false, narrowed := true }
def SymOfUptoSaid : Prop := symOfUptoRow.holds Try.pinned (OpenSpec.upto symOfSpec)

/-- 'breakwaterlaw06.UnitCloses', WHERE WHAT IT READS IS OF BULK AT MOST 1048576: true; the input reads as it did. -/
def unitClosesUptoRow : OpenClaim := { program := "ytgbodhibflpgmaa", sum := "8ba3e03796810edfca540383f4296e2626f3fcd9d8b2f187112a7245d76fbc2b", func := "breakwater/breakwaterlaw06.UnitCloses", spec := "unitCloses", recurses := true, plainKeys := false, apart := false, narrowed := true }
def UnitClosesUptoSaid : Prop := unitClosesUptoRow.holds Try.pinned (OpenSpec.upto unitClosesSpec)

/-- 'breakwaterlaw06.UnitSound', WHERE WHAT IT READS IS OF BULK AT MOST 1048576: true; the input reads as it did. -/
def unitSoundUptoRow : OpenClaim := { program := "ytgbodhibflpgmaa", sum := "8ba3e03796810edfca540383f4296e2626f3fcd9d8b2f187112a7245d76fbc2b", func := "breakwater/breakwaterlaw06.UnitSound", spec := "unitSound", recurses := true, plainKeys := false, apart := false, narrowed := true }
def UnitSoundUptoSaid : Prop := unitSoundUptoRow.holds Try.pinned (OpenSpec.upto unitSoundSpec)

/-- 'breakwaterlaw06.UnitMore', WHERE WHAT IT READS IS OF BULK AT MOST 1048576: true; the input reads as it did. -/
def unitMoreUptoRow : OpenClaim := { program := "ytgbodhibflpgmaa", sum := "8ba3e03796810edfca540383f4296e2626f3fcd9d8b2f187112a7245d76fbc2b", func := "breakwater/breakwaterlaw06.UnitMore", spec := "unitMore", recurses := true, plainKeys := false, apart := false, narrowed := true }
def UnitMoreUptoSaid : Prop := unitMoreUptoRow.holds Try.pinned (OpenSpec.upto unitMoreSpec)

/-- 'breakwaterlaw07.RupChecks', WHERE WHAT IT READS IS OF BULK AT MOST 1048576: true; the input reads as it did. -/
def rupChecksUptoRow : OpenClaim := { program := "ytgbodhibflpgmaa", sum := "8ba3e03796810edfca540383f4296e2626f3fcd9d8b2f187112a7245d76fbc2b", func := "breakwater/breakwaterlaw07.RupChecks", spec := "rupChecks", unfollowed := true, recurses := true, plainKeys := false, apart := false, narrowed := true }
def RupChecksUptoSaid : Prop := rupChecksUptoRow.holds Try.pinned (OpenSpec.upto rupChecksSpec)

/-- 'breakwaterlaw07.RupSound', WHERE WHAT IT READS IS OF BULK AT MOST 1048576: true; the input reads as it did. -/
def rupSoundUptoRow : OpenClaim := { program := "ytgbodhibflpgmaa", sum := "8ba3e03796810edfca540383f4296e2626f3fcd9d8b2f187112a7245d76fbc2b", func := "breakwater/breakwaterlaw07.RupSound", spec := "rupSound", unfollowed := true, recurses := true, plainKeys := false, apart := false, narrowed := true }
def RupSoundUptoSaid : Prop := rupSoundUptoRow.holds Try.pinned (OpenSpec.upto rupSoundSpec)

/-- 'breakwaterlaw39.ScrashMeans', WHERE WHAT IT READS IS OF BULK AT MOST 1048576: true; the input reads as it did. -/
def scrashMeansUptoRow : OpenClaim := { program := "ytgbodhibflpgmaa", sum := "8ba3e03796810edfca540383f4296e2626f3fcd9d8b2f187112a7245d76fbc2b", func := "breakwater/breakwaterlaw39.ScrashMeans", spec := "scrashMeans", unfollowed := true, recurses := true, plainKeys := false, apart := false, narrowed := true }
def ScrashMeansUptoSaid : Prop := scrashMeansUptoRow.holds Try.pinned (OpenSpec.upto scrashMeansSpec)

end Rows
end Go.Proofs.Ytgbodhibflpgmaa
