/-
  No cell of these rows narrows 'for every input' (looked for: loops, veiled, ifaces, maps, wideKeys, modest, calm, conditions, laid).
  DERIVED. THE GIVEN ROWS OF THIS SEAT. 7 by the template 'for every input the law returns true; each argument reads behind the call as it read before'; 0 by the template 'total and deterministic' (their statements: YtfcmphigmfdceaaTotals.lean).
  GIVEN WITH THE SEED: the statements are not yours to turn. If you find one false, say at which input.
  Laid BY PROGRAM, IN A SANDBOX (cutbox-rows.mjs): the forced cells as the released guide's own fill.sh prints them over the translation 145bafb3fa709311… (all of the seat's roots in one cut). By AI agents, Wed Nov 11 2026. No macro, syntax, notation, axiom, sorry.
-/
import Derived.Test.YtfcmphigmfdceaaChecked
import GoSem.Claim
import GoSem.ClaimJoined
import GoSem.ClaimMapViews
import Derived.JoinedTies
import Derived.KernelRfl
namespace Go.Proofs.Ytfcmphigmfdceaa
/- THE CELL 'sum', in the pinned program and in every row, IS THE sha256 OF THE DUMP (.gsa) THAT YtfcmphigmfdceaaProg.lean LOADS. Nothing in Lean hashes anything: it is a label: what it is worth is what the hold of that sum in a sandbox is worth. -/
noncomputable def Try.pinned : Pinned := { name := "ytfcmphigmfdceaa", sum := "145bafb3fa70931171c2ea845442a3b3899e81f8a841bf45d759ddacfca8f722", checked := Try.checked }
namespace Rows
def none {H : Type} : Left H := { results := [], args := [] }

/-- 'hearsaylaw25.RewriteChecks': WHATEVER THE INPUT: true; the input reads as it did. -/
def rewriteChecksSpec : ChangeSpec := { name := "rewriteChecks", fn := fun _ => fun
  | [d] => { results := [.lit (.bool true)], args := [d] }
  | _ => none }
def rewriteChecksRow : OpenClaim := { program := "ytfcmphigmfdceaa", sum := "145bafb3fa70931171c2ea845442a3b3899e81f8a841bf45d759ddacfca8f722", func := "hearsay/hearsaylaw25.RewriteChecks", spec := "rewriteChecks", inPlace := ["internal/bytealg.abigen_runtime_cmpstring", "internal/abi.NoEscape"], unfollowed := true, recurses := true, apart := false }
def RewriteChecksSaid : Prop := rewriteChecksRow.holds Try.pinned (OpenSpec.ofChange rewriteChecksSpec)

/-- ITS FALSE NEIGHBOUR: 'it returns false'. Refute it at one input. -/
def rewriteChecksWrong : ChangeSpec := { name := "rewriteChecks", fn := fun _ => fun
  | [d] => { results := [.lit (.bool false)], args := [d] }
  | _ => none }
def RewriteChecksWrongFalsely : Prop := rewriteChecksRow.holds Try.pinned (OpenSpec.ofChange rewriteChecksWrong)

/-- 'hearsaylaw25.RewriteAsks': WHATEVER THE INPUT: true; the input reads as it did. -/
def rewriteAsksSpec : ChangeSpec := { name := "rewriteAsks", fn := fun _ => fun
  | [d1, d2] => { results := [.lit (.bool true)], args := [d1, d2] }
  | _ => none }
def rewriteAsksRow : OpenClaim := { program := "ytfcmphigmfdceaa", sum := "145bafb3fa70931171c2ea845442a3b3899e81f8a841bf45d759ddacfca8f722", func := "hearsay/hearsaylaw25.RewriteAsks", spec := "rewriteAsks", inPlace := ["internal/bytealg.abigen_runtime_cmpstring", "internal/abi.NoEscape"], unfollowed := true, recurses := true, apart := false }
def RewriteAsksSaid : Prop := rewriteAsksRow.holds Try.pinned (OpenSpec.ofChange rewriteAsksSpec)

/-- ITS FALSE NEIGHBOUR: 'it returns false'. Refute it at one input. -/
def rewriteAsksWrong : ChangeSpec := { name := "rewriteAsks", fn := fun _ => fun
  | [d1, d2] => { results := [.lit (.bool false)], args := [d1, d2] }
  | _ => none }
def RewriteAsksWrongFalsely : Prop := rewriteAsksRow.holds Try.pinned (OpenSpec.ofChange rewriteAsksWrong)

/-- 'hearsaylaw25.RewriteFirst': WHATEVER THE INPUT: true; the input reads as it did. -/
def rewriteFirstSpec : ChangeSpec := { name := "rewriteFirst", fn := fun _ => fun
  | [d1, d2, d3] => { results := [.lit (.bool true)], args := [d1, d2, d3] }
  | _ => none }
def rewriteFirstRow : OpenClaim := { program := "ytfcmphigmfdceaa", sum := "145bafb3fa70931171c2ea845442a3b3899e81f8a841bf45d759ddacfca8f722", func := "hearsay/hearsaylaw25.RewriteFirst", spec := "rewriteFirst", inPlace := ["internal/bytealg.abigen_runtime_cmpstring", "internal/abi.NoEscape"], unfollowed := true, recurses := true, apart := false }
def RewriteFirstSaid : Prop := rewriteFirstRow.holds Try.pinned (OpenSpec.ofChange rewriteFirstSpec)

/-- ITS FALSE NEIGHBOUR: 'it returns false'. Refute it at one input. -/
def rewriteFirstWrong : ChangeSpec := { name := "rewriteFirst", fn := fun _ => fun
  | [d1, d2, d3] => { results := [.lit (.bool false)], args := [d1, d2, d3] }
  | _ => none }
def RewriteFirstWrongFalsely : Prop := rewriteFirstRow.holds Try.pinned (OpenSpec.ofChange rewriteFirstWrong)

/-- 'hearsaylaw25.RewriteThere': WHATEVER THE INPUT: true; the input reads as it did. -/
def rewriteThereSpec : ChangeSpec := { name := "rewriteThere", fn := fun _ => fun
  | [d1, d2, d3, d4] => { results := [.lit (.bool true)], args := [d1, d2, d3, d4] }
  | _ => none }
def rewriteThereRow : OpenClaim := { program := "ytfcmphigmfdceaa", sum := "145bafb3fa70931171c2ea845442a3b3899e81f8a841bf45d759ddacfca8f722", func := "hearsay/hearsaylaw25.RewriteThere", spec := "rewriteThere", inPlace := ["internal/bytealg.abigen_runtime_cmpstring", "internal/abi.NoEscape"], unfollowed := true, recurses := true, apart := false }
def RewriteThereSaid : Prop := rewriteThereRow.holds Try.pinned (OpenSpec.ofChange rewriteThereSpec)

/-- ITS FALSE NEIGHBOUR: 'it returns false'. Refute it at one input. -/
def rewriteThereWrong : ChangeSpec := { name := "rewriteThere", fn := fun _ => fun
  | [d1, d2, d3, d4] => { results := [.lit (.bool false)], args := [d1, d2, d3, d4] }
  | _ => none }
def RewriteThereWrongFalsely : Prop := rewriteThereRow.holds Try.pinned (OpenSpec.ofChange rewriteThereWrong)

/-- 'hearsaylaw25.RewriteBacks': WHATEVER THE INPUT: true; the input reads as it did. -/
def rewriteBacksSpec : ChangeSpec := { name := "rewriteBacks", fn := fun _ => fun
  | [d1, d2, d3] => { results := [.lit (.bool true)], args := [d1, d2, d3] }
  | _ => none }
def rewriteBacksRow : OpenClaim := { program := "ytfcmphigmfdceaa", sum := "145bafb3fa70931171c2ea845442a3b3899e81f8a841bf45d759ddacfca8f722", func := "hearsay/hearsaylaw25.RewriteBacks", spec := "rewriteBacks", inPlace := ["internal/bytealg.abigen_runtime_cmpstring", "internal/abi.NoEscape"], unfollowed := true, recurses := true, apart := false }
def RewriteBacksSaid : Prop := rewriteBacksRow.holds Try.pinned (OpenSpec.ofChange rewriteBacksSpec)

/-- ITS FALSE NEIGHBOUR: 'it returns false'. Refute it at one input. -/
def rewriteBacksWrong : ChangeSpec := { name := "rewriteBacks", fn := fun _ => fun
  | [d1, d2, d3] => { results := [.lit (.bool false)], args := [d1, d2, d3] }
  | _ => none }
def RewriteBacksWrongFalsely : Prop := rewriteBacksRow.holds Try.pinned (OpenSpec.ofChange rewriteBacksWrong)

/-- 'hearsaylaw25.RewriteTurns': WHATEVER THE INPUT: true; the input reads as it did. -/
def rewriteTurnsSpec : ChangeSpec := { name := "rewriteTurns", fn := fun _ => fun
  | [d1, d2, d3] => { results := [.lit (.bool true)], args := [d1, d2, d3] }
  | _ => none }
def rewriteTurnsRow : OpenClaim := { program := "ytfcmphigmfdceaa", sum := "145bafb3fa70931171c2ea845442a3b3899e81f8a841bf45d759ddacfca8f722", func := "hearsay/hearsaylaw25.RewriteTurns", spec := "rewriteTurns", inPlace := ["internal/bytealg.abigen_runtime_cmpstring", "internal/abi.NoEscape"], unfollowed := true, recurses := true, apart := false }
def RewriteTurnsSaid : Prop := rewriteTurnsRow.holds Try.pinned (OpenSpec.ofChange rewriteTurnsSpec)

/-- ITS FALSE NEIGHBOUR: 'it returns false'. Refute it at one input. -/
def rewriteTurnsWrong : ChangeSpec := { name := "rewriteTurns", fn := fun _ => fun
  | [d1, d2, d3] => { results := [.lit (.bool false)], args := [d1, d2, d3] }
  | _ => none }
def RewriteTurnsWrongFalsely : Prop := rewriteTurnsRow.holds Try.pinned (OpenSpec.ofChange rewriteTurnsWrong)

/-- 'hearsaylaw25.RewriteKnown': WHATEVER THE INPUT: true; the input reads as it did. -/
def rewriteKnownSpec : ChangeSpec := { name := "rewriteKnown", fn := fun _ => fun
  | [] => { results := [.lit (.bool true)], args := [] }
  | _ => none }
def rewriteKnownRow : OpenClaim := { program := "ytfcmphigmfdceaa", sum := "145bafb3fa70931171c2ea845442a3b3899e81f8a841bf45d759ddacfca8f722", func := "hearsay/hearsaylaw25.RewriteKnown", spec := "rewriteKnown", inPlace := ["internal/bytealg.abigen_runtime_cmpstring", "internal/abi.NoEscape"], unfollowed := true, recurses := true, apart := false }
def RewriteKnownSaid : Prop := rewriteKnownRow.holds Try.pinned (OpenSpec.ofChange rewriteKnownSpec)

/-- ITS FALSE NEIGHBOUR: 'it returns false'. Refute it at one input. -/
def rewriteKnownWrong : ChangeSpec := { name := "rewriteKnown", fn := fun _ => fun
  | [] => { results := [.lit (.bool false)], args := [] }
  | _ => none }
def RewriteKnownWrongFalsely : Prop := rewriteKnownRow.holds Try.pinned (OpenSpec.ofChange rewriteKnownWrong)

/- THE SECOND FORM. 'bulk': how many values and letters a reading holds, each counted each time it is reached (what is shared counts as often as it is met; a slice's spare places count too). A statement '..UptoSaid' is the law's where the arguments, and the package variables that the reading takes, are together of bulk at most 1048576: NARROWER than '..Said'. Prove '..Said' where nothing that the law and all that it calls make is longer than what came in: it says more and counts as full. Else prove '..UptoSaid'. A law counts once. -/
mutual
def uptoBulk {H : Type} : DataW H → Nat
  | .lit (.string bytes) => bytes.length + 1
  | .lit _ => 1
  | .nil => 1
  | .ptr d => uptoBulk d + 1
  | .slice elems spare => uptoBulkAll elems + uptoBulkAll spare + 1
  | .agg parts => uptoBulkAll parts + 1
  | .iface _ d => uptoBulk d + 1
  | .map entries => uptoBulkEntries entries + 1
  | .held _ => 1
def uptoBulkAll {H : Type} : List (DataW H) → Nat
  | [] => 0
  | d :: r => uptoBulk d + uptoBulkAll r
def uptoBulkEntries {H : Type} : List (Lit × DataW H) → Nat
  | [] => 0
  | x :: r => uptoBulkEntry x + uptoBulkEntries r
def uptoBulkEntry {H : Type} : Lit × DataW H → Nat
  | (.string bytes, d) => bytes.length + uptoBulk d + 1
  | (_, d) => uptoBulk d + 1
 end
def uptoSmall : (H : Type) → List (DataW H) → Bool := fun _ ds => decide (uptoBulkAll ds ≤ 1048576)
def OpenSpec.upto (s : _root_.Go.ChangeSpec) : _root_.Go.OpenSpec := { _root_.Go.OpenSpec.ofChange s with cond := some uptoSmall }

/-- 'hearsaylaw25.RewriteChecks', WHERE WHAT IT READS IS OF BULK AT MOST 1048576: true; the input reads as it did. -/
def rewriteChecksUptoRow : OpenClaim := { program := "ytfcmphigmfdceaa", sum := "145bafb3fa70931171c2ea845442a3b3899e81f8a841bf45d759ddacfca8f722", func := "hearsay/hearsaylaw25.RewriteChecks", spec := "rewriteChecks", inPlace := ["internal/bytealg.abigen_runtime_cmpstring", "internal/abi.NoEscape"], unfollowed := true, recurses := true, apart := false, narrowed := true }
def RewriteChecksUptoSaid : Prop := rewriteChecksUptoRow.holds Try.pinned (OpenSpec.upto rewriteChecksSpec)

/-- 'hearsaylaw25.RewriteAsks', WHERE WHAT IT READS IS OF BULK AT MOST 1048576: true; the input reads as it did. -/
def rewriteAsksUptoRow : OpenClaim := { program := "ytfcmphigmfdceaa", sum := "145bafb3fa70931171c2ea845442a3b3899e81f8a841bf45d759ddacfca8f722", func := "hearsay/hearsaylaw25.RewriteAsks", spec := "rewriteAsks", inPlace := ["internal/bytealg.abigen_runtime_cmpstring", "internal/abi.NoEscape"], unfollowed := true, recurses := true, apart := false, narrowed := true }
def RewriteAsksUptoSaid : Prop := rewriteAsksUptoRow.holds Try.pinned (OpenSpec.upto rewriteAsksSpec)

/-- 'hearsaylaw25.RewriteFirst', WHERE WHAT IT READS IS OF BULK AT MOST 1048576: true; the input reads as it did. -/
def rewriteFirstUptoRow : OpenClaim := { program := "ytfcmphigmfdceaa", sum := "145bafb3fa70931171c2ea845442a3b3899e81f8a841bf45d759ddacfca8f722", func := "hearsay/hearsaylaw25.RewriteFirst", spec := "rewriteFirst", inPlace := ["internal/bytealg.abigen_runtime_cmpstring", "internal/abi.NoEscape"], unfollowed := true, recurses := true, apart := false, narrowed := true }
def RewriteFirstUptoSaid : Prop := rewriteFirstUptoRow.holds Try.pinned (OpenSpec.upto rewriteFirstSpec)

/-- 'hearsaylaw25.RewriteThere', WHERE WHAT IT READS IS OF BULK AT MOST 1048576: true; the input reads as it did. -/
def rewriteThereUptoRow : OpenClaim := { program := "ytfcmphigmfdceaa", sum := "145bafb3fa70931171c2ea845442a3b3899e81f8a841bf45d759ddacfca8f722", func := "hearsay/hearsaylaw25.RewriteThere", spec := "rewriteThere", inPlace := ["internal/bytealg.abigen_runtime_cmpstring", "internal/abi.NoEscape"], unfollowed := true, recurses := true, apart := false, narrowed := true }
def RewriteThereUptoSaid : Prop := rewriteThereUptoRow.holds Try.pinned (OpenSpec.upto rewriteThereSpec)

/-- 'hearsaylaw25.RewriteBacks', WHERE WHAT IT READS IS OF BULK AT MOST 1048576: true; the input reads as it did. -/
def rewriteBacksUptoRow : OpenClaim := { program := "ytfcmphigmfdceaa", sum := "145bafb3fa70931171c2ea845442a3b3899e81f8a841bf45d759ddacfca8f722", func := "hearsay/hearsaylaw25.RewriteBacks", spec := "rewriteBacks", inPlace := ["internal/bytealg.abigen_runtime_cmpstring", "internal/abi.NoEscape"], unfollowed := true, recurses := true, apart := false, narrowed := true }
def RewriteBacksUptoSaid : Prop := rewriteBacksUptoRow.holds Try.pinned (OpenSpec.upto rewriteBacksSpec)

/-- 'hearsaylaw25.RewriteTurns', WHERE WHAT IT READS IS OF BULK AT MOST 1048576: true; the input reads as it did. -/
def rewriteTurnsUptoRow : OpenClaim := { program := "ytfcmphigmfdceaa", sum := "145bafb3fa70931171c2ea845442a3b3899e81f8a841bf45d759ddacfca8f722", func := "hearsay/hearsaylaw25.RewriteTurns", spec := "rewriteTurns", inPlace := ["internal/bytealg.abigen_runtime_cmpstring", "internal/abi.NoEscape"], unfollowed := true, recurses := true, apart := false, narrowed := true }
def RewriteTurnsUptoSaid : Prop := rewriteTurnsUptoRow.holds Try.pinned (OpenSpec.upto rewriteTurnsSpec)

/-- 'hearsaylaw25.RewriteKnown', WHERE WHAT IT READS IS OF BULK AT MOST 1048576: true; the input reads as it did. -/
def rewriteKnownUptoRow : OpenClaim := { program := "ytfcmphigmfdceaa", sum := "145bafb3fa70931171c2ea845442a3b3899e81f8a841bf45d759ddacfca8f722", func := "hearsay/hearsaylaw25.RewriteKnown", spec := "rewriteKnown", inPlace := ["internal/bytealg.abigen_runtime_cmpstring", "internal/abi.NoEscape"], unfollowed := true, recurses := true, apart := false, narrowed := true }
def RewriteKnownUptoSaid : Prop := rewriteKnownUptoRow.holds Try.pinned (OpenSpec.upto rewriteKnownSpec)

end Rows
end Go.Proofs.Ytfcmphigmfdceaa
