/-
  No cell of these rows narrows 'for every input' (looked for: loops, veiled, ifaces, maps, wideKeys, modest, calm, conditions, laid).
  DERIVED. THE GIVEN ROWS OF THIS SEAT. 10 by the template 'for every input the law returns true; each argument reads behind the call as it read before'; 0 by the template 'total and deterministic' (their statements: YtfkbacoiocniaaaTotals.lean).
  GIVEN WITH THE SEED: the statements are not yours to turn. If you find one false, say at which input.
  Laid BY PROGRAM, IN A SANDBOX (cutbox-rows.mjs): the forced cells as the released guide's own fill.sh prints them over the translation 93a07657a648b256… (all of the seat's roots in one cut). By AI agents, Wed Nov 11 2026. No macro, syntax, notation, axiom, sorry.
-/
import Derived.Test.YtfkbacoiocniaaaChecked
import GoSem.Claim
import GoSem.ClaimJoined
import GoSem.ClaimMapViews
import Derived.JoinedTies
import Derived.KernelRfl
namespace Go.Proofs.Ytfkbacoiocniaaa
/- THE CELL 'sum', in the pinned program and in every row, IS THE sha256 OF THE DUMP (.gsa) THAT YtfkbacoiocniaaaProg.lean LOADS. Nothing in Lean hashes anything: it is a label: what it is worth is what the hold of that sum in a sandbox is worth. -/
noncomputable def Try.pinned : Pinned := { name := "ytfkbacoiocniaaa", sum := "93a07657a648b2562035b1581fc82e19dcf4a7044261135709e9ab67508fea24", checked := Try.checked }
namespace Rows
def none {H : Type} : Left H := { results := [], args := [] }

/-- 'breakwaterlaw03.ClauseNormals': WHATEVER THE INPUT: true; the input reads as it did. -/
def clauseNormalsSpec : ChangeSpec := { name := "clauseNormals", fn := fun _ => fun
  | [d] => { results := [.lit (.bool true)], args := [d] }
  | _ => none }
def clauseNormalsRow : OpenClaim := { program := "ytfkbacoiocniaaa", sum := "93a07657a648b2562035b1581fc82e19dcf4a7044261135709e9ab67508fea24", func := "breakwater/breakwaterlaw03.ClauseNormals", spec := "clauseNormals", unfollowed := true, recurses := true, plainKeys := false, apart := false }
def ClauseNormalsSaid : Prop := clauseNormalsRow.holds Try.pinned (OpenSpec.ofChange clauseNormalsSpec)

/-- ITS FALSE NEIGHBOUR: 'it returns false'. Refute it at one input. -/
def clauseNormalsWrong : ChangeSpec := { name := "clauseNormals", fn := fun _ => fun
  | [d] => { results := [.lit (.bool false)], args := [d] }
  | _ => none }
def ClauseNormalsWrongFalsely : Prop := clauseNormalsRow.holds Try.pinned (OpenSpec.ofChange clauseNormalsWrong)

/-- 'breakwaterlaw03.ClauseLooks': WHATEVER THE INPUT: true; the input reads as it did. -/
def clauseLooksSpec : ChangeSpec := { name := "clauseLooks", fn := fun _ => fun
  | [d1, d2, d3] => { results := [.lit (.bool true)], args := [d1, d2, d3] }
  | _ => none }
def clauseLooksRow : OpenClaim := { program := "ytfkbacoiocniaaa", sum := "93a07657a648b2562035b1581fc82e19dcf4a7044261135709e9ab67508fea24", func := "breakwater/breakwaterlaw03.ClauseLooks", spec := "clauseLooks", unfollowed := true, recurses := true, plainKeys := false, apart := false }
def ClauseLooksSaid : Prop := clauseLooksRow.holds Try.pinned (OpenSpec.ofChange clauseLooksSpec)

/-- ITS FALSE NEIGHBOUR: 'it returns false'. Refute it at one input. -/
def clauseLooksWrong : ChangeSpec := { name := "clauseLooks", fn := fun _ => fun
  | [d1, d2, d3] => { results := [.lit (.bool false)], args := [d1, d2, d3] }
  | _ => none }
def ClauseLooksWrongFalsely : Prop := clauseLooksRow.holds Try.pinned (OpenSpec.ofChange clauseLooksWrong)

/-- 'breakwaterlaw03.ClauseResolves': WHATEVER THE INPUT: true; the input reads as it did. -/
def clauseResolvesSpec : ChangeSpec := { name := "clauseResolves", fn := fun _ => fun
  | [d1, d2, d3] => { results := [.lit (.bool true)], args := [d1, d2, d3] }
  | _ => none }
def clauseResolvesRow : OpenClaim := { program := "ytfkbacoiocniaaa", sum := "93a07657a648b2562035b1581fc82e19dcf4a7044261135709e9ab67508fea24", func := "breakwater/breakwaterlaw03.ClauseResolves", spec := "clauseResolves", unfollowed := true, recurses := true, plainKeys := false, apart := false }
def ClauseResolvesSaid : Prop := clauseResolvesRow.holds Try.pinned (OpenSpec.ofChange clauseResolvesSpec)

/-- ITS FALSE NEIGHBOUR: 'it returns false'. Refute it at one input. -/
def clauseResolvesWrong : ChangeSpec := { name := "clauseResolves", fn := fun _ => fun
  | [d1, d2, d3] => { results := [.lit (.bool false)], args := [d1, d2, d3] }
  | _ => none }
def ClauseResolvesWrongFalsely : Prop := clauseResolvesRow.holds Try.pinned (OpenSpec.ofChange clauseResolvesWrong)

/-- 'breakwaterlaw03.ClauseSound': WHATEVER THE INPUT: true; the input reads as it did. -/
def clauseSoundSpec : ChangeSpec := { name := "clauseSound", fn := fun _ => fun
  | [d1, d2, d3] => { results := [.lit (.bool true)], args := [d1, d2, d3] }
  | _ => none }
def clauseSoundRow : OpenClaim := { program := "ytfkbacoiocniaaa", sum := "93a07657a648b2562035b1581fc82e19dcf4a7044261135709e9ab67508fea24", func := "breakwater/breakwaterlaw03.ClauseSound", spec := "clauseSound", unfollowed := true, recurses := true, plainKeys := false, apart := false }
def ClauseSoundSaid : Prop := clauseSoundRow.holds Try.pinned (OpenSpec.ofChange clauseSoundSpec)

/-- ITS FALSE NEIGHBOUR: 'it returns false'. Refute it at one input. -/
def clauseSoundWrong : ChangeSpec := { name := "clauseSound", fn := fun _ => fun
  | [d1, d2, d3] => { results := [.lit (.bool false)], args := [d1, d2, d3] }
  | _ => none }
def ClauseSoundWrongFalsely : Prop := clauseSoundRow.holds Try.pinned (OpenSpec.ofChange clauseSoundWrong)

/-- 'breakwaterlaw03.ClauseAlways': WHATEVER THE INPUT: true; the input reads as it did. -/
def clauseAlwaysSpec : ChangeSpec := { name := "clauseAlways", fn := fun _ => fun
  | [d1, d2] => { results := [.lit (.bool true)], args := [d1, d2] }
  | _ => none }
def clauseAlwaysRow : OpenClaim := { program := "ytfkbacoiocniaaa", sum := "93a07657a648b2562035b1581fc82e19dcf4a7044261135709e9ab67508fea24", func := "breakwater/breakwaterlaw03.ClauseAlways", spec := "clauseAlways", unfollowed := true, recurses := true, plainKeys := false, apart := false }
def ClauseAlwaysSaid : Prop := clauseAlwaysRow.holds Try.pinned (OpenSpec.ofChange clauseAlwaysSpec)

/-- ITS FALSE NEIGHBOUR: 'it returns false'. Refute it at one input. -/
def clauseAlwaysWrong : ChangeSpec := { name := "clauseAlways", fn := fun _ => fun
  | [d1, d2] => { results := [.lit (.bool false)], args := [d1, d2] }
  | _ => none }
def ClauseAlwaysWrongFalsely : Prop := clauseAlwaysRow.holds Try.pinned (OpenSpec.ofChange clauseAlwaysWrong)

/-- 'breakwaterlaw43.SimpLooks': WHATEVER THE INPUT: true; the input reads as it did. -/
def simpLooksSpec : ChangeSpec := { name := "simpLooks", fn := fun _ => fun
  | [d1, d2] => { results := [.lit (.bool true)], args := [d1, d2] }
  | _ => none }
def simpLooksRow : OpenClaim := { program := "ytfkbacoiocniaaa", sum := "93a07657a648b2562035b1581fc82e19dcf4a7044261135709e9ab67508fea24", func := "breakwater/breakwaterlaw43.SimpLooks", spec := "simpLooks", unfollowed := true, recurses := true, plainKeys := false, apart := false }
def SimpLooksSaid : Prop := simpLooksRow.holds Try.pinned (OpenSpec.ofChange simpLooksSpec)

/-- ITS FALSE NEIGHBOUR: 'it returns false'. Refute it at one input. -/
def simpLooksWrong : ChangeSpec := { name := "simpLooks", fn := fun _ => fun
  | [d1, d2] => { results := [.lit (.bool false)], args := [d1, d2] }
  | _ => none }
def SimpLooksWrongFalsely : Prop := simpLooksRow.holds Try.pinned (OpenSpec.ofChange simpLooksWrong)

/-- 'breakwaterlaw43.SimpSame': WHATEVER THE INPUT: true; the input reads as it did. -/
def simpSameSpec : ChangeSpec := { name := "simpSame", fn := fun _ => fun
  | [d1, d2] => { results := [.lit (.bool true)], args := [d1, d2] }
  | _ => none }
def simpSameRow : OpenClaim := { program := "ytfkbacoiocniaaa", sum := "93a07657a648b2562035b1581fc82e19dcf4a7044261135709e9ab67508fea24", func := "breakwater/breakwaterlaw43.SimpSame", spec := "simpSame", unfollowed := true, recurses := true, plainKeys := false, apart := false }
def SimpSameSaid : Prop := simpSameRow.holds Try.pinned (OpenSpec.ofChange simpSameSpec)

/-- ITS FALSE NEIGHBOUR: 'it returns false'. Refute it at one input. -/
def simpSameWrong : ChangeSpec := { name := "simpSame", fn := fun _ => fun
  | [d1, d2] => { results := [.lit (.bool false)], args := [d1, d2] }
  | _ => none }
def SimpSameWrongFalsely : Prop := simpSameRow.holds Try.pinned (OpenSpec.ofChange simpSameWrong)

/-- 'breakwaterlaw43.SimpPure': WHATEVER THE INPUT: true; the input reads as it did. -/
def simpPureSpec : ChangeSpec := { name := "simpPure", fn := fun _ => fun
  | [d1, d2] => { results := [.lit (.bool true)], args := [d1, d2] }
  | _ => none }
def simpPureRow : OpenClaim := { program := "ytfkbacoiocniaaa", sum := "93a07657a648b2562035b1581fc82e19dcf4a7044261135709e9ab67508fea24", func := "breakwater/breakwaterlaw43.SimpPure", spec := "simpPure", unfollowed := true, recurses := true, plainKeys := false, apart := false }
def SimpPureSaid : Prop := simpPureRow.holds Try.pinned (OpenSpec.ofChange simpPureSpec)

/-- ITS FALSE NEIGHBOUR: 'it returns false'. Refute it at one input. -/
def simpPureWrong : ChangeSpec := { name := "simpPure", fn := fun _ => fun
  | [d1, d2] => { results := [.lit (.bool false)], args := [d1, d2] }
  | _ => none }
def SimpPureWrongFalsely : Prop := simpPureRow.holds Try.pinned (OpenSpec.ofChange simpPureWrong)

/-- 'breakwaterlaw54.SmtlibTerms': WHATEVER THE INPUT: true; the input reads as it did. -/
def smtlibTermsSpec : ChangeSpec := { name := "smtlibTerms", fn := fun _ => fun
  | [d1, d2] => { results := [.lit (.bool true)], args := [d1, d2] }
  | _ => none }
def smtlibTermsRow : OpenClaim := { program := "ytfkbacoiocniaaa", sum := "93a07657a648b2562035b1581fc82e19dcf4a7044261135709e9ab67508fea24", func := "breakwater/breakwaterlaw54.SmtlibTerms", spec := "smtlibTerms", inPlace := ["internal/abi.NoEscape"], unfollowed := true, recurses := true, plainKeys := false, apart := false }
def SmtlibTermsSaid : Prop := smtlibTermsRow.holds Try.pinned (OpenSpec.ofChange smtlibTermsSpec)

/-- ITS FALSE NEIGHBOUR: 'it returns false'. Refute it at one input. -/
def smtlibTermsWrong : ChangeSpec := { name := "smtlibTerms", fn := fun _ => fun
  | [d1, d2] => { results := [.lit (.bool false)], args := [d1, d2] }
  | _ => none }
def SmtlibTermsWrongFalsely : Prop := smtlibTermsRow.holds Try.pinned (OpenSpec.ofChange smtlibTermsWrong)

/-- 'breakwaterlaw54.SmtlibScripts': WHATEVER THE INPUT: true; the input reads as it did. -/
def smtlibScriptsSpec : ChangeSpec := { name := "smtlibScripts", fn := fun _ => fun
  | [d1, d2] => { results := [.lit (.bool true)], args := [d1, d2] }
  | _ => none }
def smtlibScriptsRow : OpenClaim := { program := "ytfkbacoiocniaaa", sum := "93a07657a648b2562035b1581fc82e19dcf4a7044261135709e9ab67508fea24", func := "breakwater/breakwaterlaw54.SmtlibScripts", spec := "smtlibScripts", inPlace := ["internal/abi.NoEscape"], unfollowed := true, recurses := true, plainKeys := false, apart := false }
def SmtlibScriptsSaid : Prop := smtlibScriptsRow.holds Try.pinned (OpenSpec.ofChange smtlibScriptsSpec)

/-- ITS FALSE NEIGHBOUR: 'it returns false'. Refute it at one input. -/
def smtlibScriptsWrong : ChangeSpec := { name := "smtlibScripts", fn := fun _ => fun
  | [d1, d2] => { results := [.lit (.bool false)], args := [d1, d2] }
  | _ => none }
def SmtlibScriptsWrongFalsely : Prop := smtlibScriptsRow.holds Try.pinned (OpenSpec.ofChange smtlibScriptsWrong)

/- THE SECOND FORM. 'bulk': how many values and letters a reading holds, each counted each time it is reached (what is shared counts as often as it is met; a slice's spare places count too). A statement '..UptoSaid' is the law's where the arguments, and the package variables that the reading takes, are together of bulk at most 1048576: NARROWER than '..Said'. Prove '..Said' where nothing that the law and all that it calls make is longer than what came in: it says more and counts as full. Else prove '..UptoSaid'. A law counts once. -/
mutual
def uptoBulk {H : Type} : DataW H → Nat
  | .lit (.string bytes) => bytes.length + 1
  | .lit _ => 1
  | .nil => 1
  | .ptr d => uptoBulk d + 1
  | .slice elems spare => uptoBulkAll elems + uptoBulkAll spare + 1
  | .agg parts => uptoBulkAll parts + 1
  | .iface _ d => uptoBulk d + 1
  | .map entries => uptoBulkEntries entries + 1
  | .held _ => 1
def uptoBulkAll {H : Type} : List (DataW H) → Nat
  | [] => 0
  | d :: r => uptoBulk d + uptoBulkAll r
def uptoBulkEntries {H : Type} : List (Lit × DataW H) → Nat
  | [] => 0
  | x :: r => uptoBulkEntry x + uptoBulkEntries r
def uptoBulkEntry {H : Type} : Lit × DataW H → Nat
  | (.string bytes, d) => bytes.length + uptoBulk d + 1
  | (_, d) => uptoBulk d + 1
 end
def uptoSmall : (H : Type) → List (DataW H) → Bool := fun _ ds => decide (uptoBulkAll ds ≤ 1048576)
def OpenSpec.upto (s : _root_.Go.ChangeSpec) : _root_.Go.OpenSpec := { _root_.Go.OpenSpec.ofChange s with cond := some uptoSmall }

/-- 'breakwaterlaw03.ClauseNormals', WHERE WHAT IT READS IS OF BULK AT MOST 1048576: true; the input reads as it did. -/
def clauseNormalsUptoRow : OpenClaim := { program := "ytfkbacoiocniaaa", sum := "93a07657a648b2562035b1581fc82e19dcf4a7044261135709e9ab67508fea24", func := "breakwater/breakwaterlaw03.ClauseNormals", spec := "clauseNormals", unfollowed := true, recurses := true, plainKeys := false, apart := false, narrowed := true }
def ClauseNormalsUptoSaid : Prop := clauseNormalsUptoRow.holds Try.pinned (OpenSpec.upto clauseNormalsSpec)

/-- 'breakwaterlaw03.ClauseLooks', WHERE WHAT IT READS IS OF BULK AT MOST 1048576: true; the input reads as it did. -/
def clauseLooksUptoRow : OpenClaim := { program := "ytfkbacoiocniaaa", sum := "93a07657a648b2562035b1581fc82e19dcf4a7044261135709e9ab67508fea24", func := "breakwater/breakwaterlaw03.ClauseLooks", spec := "clauseLooks", unfollowed := true, recurses := true, plainKeys := false, apart := false, narrowed := true }
def ClauseLooksUptoSaid : Prop := clauseLooksUptoRow.holds Try.pinned (OpenSpec.upto clauseLooksSpec)

/-- 'breakwaterlaw03.ClauseResolves', WHERE WHAT IT READS IS OF BULK AT MOST 1048576: true; the input reads as it did. -/
def clauseResolvesUptoRow : OpenClaim := { program := "ytfkbacoiocniaaa", sum := "93a07657a648b2562035b1581fc82e19dcf4a7044261135709e9ab67508fea24", func := "breakwater/breakwaterlaw03.ClauseResolves", spec := "clauseResolves", unfollowed := true, recurses := true, plainKeys := false, apart := false, narrowed := true }
def ClauseResolvesUptoSaid : Prop := clauseResolvesUptoRow.holds Try.pinned (OpenSpec.upto clauseResolvesSpec)

/-- 'breakwaterlaw03.ClauseSound', WHERE WHAT IT READS IS OF BULK AT MOST 1048576: true; the input reads as it did. -/
def clauseSoundUptoRow : OpenClaim := { program := "ytfkbacoiocniaaa", sum := "93a07657a648b2562035b1581fc82e19dcf4a7044261135709e9ab67508fea24", func := "breakwater/breakwaterlaw03.ClauseSound", spec := "clauseSound", unfollowed := true, recurses := true, plainKeys := false, apart := false, narrowed := true }
def ClauseSoundUptoSaid : Prop := clauseSoundUptoRow.holds Try.pinned (OpenSpec.upto clauseSoundSpec)

/-- 'breakwaterlaw03.ClauseAlways', WHERE WHAT IT READS IS OF BULK AT MOST 1048576: true; the input reads as it did. -/
def clauseAlwaysUptoRow : OpenClaim := { program := "ytfkbacoiocniaaa", sum := "93a07657a648b2562035b1581fc82e19dcf4a7044261135709e9ab67508fea24", func := "breakwater/breakwaterlaw03.ClauseAlways", spec := "clauseAlways", unfollowed := true, recurses := true, plainKeys := false, apart := false, narrowed := true }
def ClauseAlwaysUptoSaid : Prop := clauseAlwaysUptoRow.holds Try.pinned (OpenSpec.upto clauseAlwaysSpec)

/-- 'breakwaterlaw43.SimpLooks', WHERE WHAT IT READS IS OF BULK AT MOST 1048576: true; the input reads as it did. -/
def simpLooksUptoRow : OpenClaim := { program := "ytfkbacoiocniaaa", sum := "93a07657a648b2562035b1581fc82e19dcf4a7044261135709e9ab67508fea24", func := "breakwater/breakwaterlaw43.SimpLooks", spec := "simpLooks", unfollowed := true, recurses := true, plainKeys := false, apart := false, narrowed := true }
def SimpLooksUptoSaid : Prop := simpLooksUptoRow.holds Try.pinned (OpenSpec.upto simpLooksSpec)

/-- 'breakwaterlaw43.SimpSame', WHERE WHAT IT READS IS OF BULK AT MOST 1048576: true; the input reads as it did. -/
def simpSameUptoRow : OpenClaim := { program := "ytfkbacoiocniaaa", sum := "93a07657a648b2562035b1581fc82e19dcf4a7044261135709e9ab67508fea24", func := "breakwater/breakwaterlaw43.SimpSame", spec := "simpSame", unfollowed := true, recurses := true, plainKeys := false, apart := false, narrowed := true }
def SimpSameUptoSaid : Prop := simpSameUptoRow.holds Try.pinned (OpenSpec.upto simpSameSpec)

/-- 'breakwaterlaw43.SimpPure', WHERE WHAT IT READS IS OF BULK AT MOST 1048576: true; the input reads as it did. -/
def simpPureUptoRow : OpenClaim := { program := "ytfkbacoiocniaaa", sum := "93a07657a648b2562035b1581fc82e19dcf4a7044261135709e9ab67508fea24", func := "breakwater/breakwaterlaw43.SimpPure", spec := "simpPure", unfollowed := true, recurses := true, plainKeys := false, apart := false, narrowed := true }
def SimpPureUptoSaid : Prop := simpPureUptoRow.holds Try.pinned (OpenSpec.upto simpPureSpec)

/-- 'breakwaterlaw54.SmtlibTerms', WHERE WHAT IT READS IS OF BULK AT MOST 1048576: true; the input reads as it did. -/
def smtlibTermsUptoRow : OpenClaim := { program := "ytfkbacoiocniaaa", sum := "93a07657a648b2562035b1581fc82e19dcf4a7044261135709e9ab67508fea24", func := "breakwater/breakwaterlaw54.SmtlibTerms", spec := "smtlibTerms", inPlace := ["internal/abi.NoEscape"], unfollowed := true, recurses := true, plainKeys := false, apart := false, narrowed := true }
def SmtlibTermsUptoSaid : Prop := smtlibTermsUptoRow.holds Try.pinned (OpenSpec.upto smtlibTermsSpec)

/-- 'breakwaterlaw54.SmtlibScripts', WHERE WHAT IT READS IS OF BULK AT MOST 1048576: true; the input reads as it did. -/
def smtlibScriptsUptoRow : OpenClaim := { program := "ytfkbacoiocniaaa", sum := "93a07657a648b2562035b1581fc82e19dcf4a7044261135709e9ab67508fea24", func := "breakwater/breakwaterlaw54.SmtlibScripts", spec := "smtlibScripts", inPlace := ["internal/abi.NoEscape"], unfollowed := true, recurses := true, plainKeys := false, apart := false, narrowed := true }
def SmtlibScriptsUptoSaid : Prop := smtlibScriptsUptoRow.holds Try.pinned (OpenSpec.upto smtlibScriptsSpec)

end Rows
end Go.Proofs.Ytfkbacoiocniaaa
