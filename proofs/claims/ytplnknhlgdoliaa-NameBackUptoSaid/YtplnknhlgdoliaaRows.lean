/-
  No cell of these rows narrows 'for every input' (looked for: loops, veiled, ifaces, maps, wideKeys, modest, calm, conditions, laid).
  DERIVED. THE GIVEN ROWS OF THIS SEAT. 10 by the template 'for every input the law returns true; each argument reads behind the call as it read before'; 0 by the template 'total and deterministic' (their statements: YtplnknhlgdoliaaTotals.lean).
  GIVEN WITH THE SEED: the statements are not yours to turn. If you find one false, say at which input.
  Laid BY PROGRAM, IN A SANDBOX (cutbox-rows.mjs): the forced cells as the released guide's own fill.sh prints them over the translation cb3bedc6083d8602… (all of the seat's roots in one cut). By AI agents, Wed Nov 11 2026. No macro, syntax, notation, axiom, sorry.
-/
import Derived.Test.YtplnknhlgdoliaaChecked
import GoSem.Claim
import GoSem.ClaimJoined
import GoSem.ClaimMapViews
import Derived.JoinedTies
import Derived.KernelRfl
namespace Go.Proofs.Ytplnknhlgdoliaa
/- THE CELL 'sum', in the pinned program and in every row, IS THE sha256 OF THE DUMP (.gsa) THAT YtplnknhlgdoliaaProg.lean LOADS. Nothing in Lean hashes anything: it is a label: what it is worth is what the hold of that sum in a sandbox is worth. -/
noncomputable def Try.pinned : Pinned := { name := "ytplnknhlgdoliaa", sum := "cb3bedc6083d8602fe4c91755f55fe310f5f60a85979b641286d2176fbdec7a8", checked := Try.checked }
namespace Rows
def none {H : Type} : Left H := { results := [], args := [] }

/-- 'hearsaylaw01.NameChecks': WHATEVER THE INPUT: true; the input reads as it did. -/
def nameChecksSpec : ChangeSpec := { name := "nameChecks", fn := fun _ => fun
  | [d] => { results := [.lit (.bool true)], args := [d] }
  | _ => none }
def nameChecksRow : OpenClaim := { program := "ytplnknhlgdoliaa", sum := "cb3bedc6083d8602fe4c91755f55fe310f5f60a85979b641286d2176fbdec7a8", func := "hearsay/hearsaylaw01.NameChecks", spec := "nameChecks", inPlace := ["internal/abi.NoEscape"], unfollowed := true, recurses := true, apart := false }
def NameChecksSaid : Prop := nameChecksRow.holds Try.pinned (OpenSpec.ofChange nameChecksSpec)

/-- ITS FALSE NEIGHBOUR: 'it returns false'. Refute it at one input. -/
def nameChecksWrong : ChangeSpec := { name := "nameChecks", fn := fun _ => fun
  | [d] => { results := [.lit (.bool false)], args := [d] }
  | _ => none }
def NameChecksWrongFalsely : Prop := nameChecksRow.holds Try.pinned (OpenSpec.ofChange nameChecksWrong)

/-- 'hearsaylaw01.NameOf': WHATEVER THE INPUT: true; the input reads as it did. -/
def nameOfSpec : ChangeSpec := { name := "nameOf", fn := fun _ => fun
  | [d] => { results := [.lit (.bool true)], args := [d] }
  | _ => none }
def nameOfRow : OpenClaim := { program := "ytplnknhlgdoliaa", sum := "cb3bedc6083d8602fe4c91755f55fe310f5f60a85979b641286d2176fbdec7a8", func := "hearsay/hearsaylaw01.NameOf", spec := "nameOf", inPlace := ["internal/abi.NoEscape"], unfollowed := true, recurses := true, apart := false }
def NameOfSaid : Prop := nameOfRow.holds Try.pinned (OpenSpec.ofChange nameOfSpec)

/-- ITS FALSE NEIGHBOUR: 'it returns false'. Refute it at one input. -/
def nameOfWrong : ChangeSpec := { name := "nameOf", fn := fun _ => fun
  | [d] => { results := [.lit (.bool false)], args := [d] }
  | _ => none }
def NameOfWrongFalsely : Prop := nameOfRow.holds Try.pinned (OpenSpec.ofChange nameOfWrong)

/-- 'hearsaylaw01.NameBytes': WHATEVER THE INPUT: true; the input reads as it did. -/
def nameBytesSpec : ChangeSpec := { name := "nameBytes", fn := fun _ => fun
  | [d1, d2] => { results := [.lit (.bool true)], args := [d1, d2] }
  | _ => none }
def nameBytesRow : OpenClaim := { program := "ytplnknhlgdoliaa", sum := "cb3bedc6083d8602fe4c91755f55fe310f5f60a85979b641286d2176fbdec7a8", func := "hearsay/hearsaylaw01.NameBytes", spec := "nameBytes", inPlace := ["internal/abi.NoEscape"], unfollowed := true, recurses := true, apart := false }
def NameBytesSaid : Prop := nameBytesRow.holds Try.pinned (OpenSpec.ofChange nameBytesSpec)

/-- ITS FALSE NEIGHBOUR: 'it returns false'. Refute it at one input. -/
def nameBytesWrong : ChangeSpec := { name := "nameBytes", fn := fun _ => fun
  | [d1, d2] => { results := [.lit (.bool false)], args := [d1, d2] }
  | _ => none }
def NameBytesWrongFalsely : Prop := nameBytesRow.holds Try.pinned (OpenSpec.ofChange nameBytesWrong)

/-- 'hearsaylaw01.NameParses': WHATEVER THE INPUT: true; the input reads as it did. -/
def nameParsesSpec : ChangeSpec := { name := "nameParses", fn := fun _ => fun
  | [d1, d2] => { results := [.lit (.bool true)], args := [d1, d2] }
  | _ => none }
def nameParsesRow : OpenClaim := { program := "ytplnknhlgdoliaa", sum := "cb3bedc6083d8602fe4c91755f55fe310f5f60a85979b641286d2176fbdec7a8", func := "hearsay/hearsaylaw01.NameParses", spec := "nameParses", inPlace := ["internal/abi.NoEscape"], unfollowed := true, recurses := true, apart := false }
def NameParsesSaid : Prop := nameParsesRow.holds Try.pinned (OpenSpec.ofChange nameParsesSpec)

/-- ITS FALSE NEIGHBOUR: 'it returns false'. Refute it at one input. -/
def nameParsesWrong : ChangeSpec := { name := "nameParses", fn := fun _ => fun
  | [d1, d2] => { results := [.lit (.bool false)], args := [d1, d2] }
  | _ => none }
def NameParsesWrongFalsely : Prop := nameParsesRow.holds Try.pinned (OpenSpec.ofChange nameParsesWrong)

/-- 'hearsaylaw01.NameBack': WHATEVER THE INPUT: true; the input reads as it did. -/
def nameBackSpec : ChangeSpec := { name := "nameBack", fn := fun _ => fun
  | [d1, d2, d3, d4] => { results := [.lit (.bool true)], args := [d1, d2, d3, d4] }
  | _ => none }
def nameBackRow : OpenClaim := { program := "ytplnknhlgdoliaa", sum := "cb3bedc6083d8602fe4c91755f55fe310f5f60a85979b641286d2176fbdec7a8", func := "hearsay/hearsaylaw01.NameBack", spec := "nameBack", inPlace := ["internal/abi.NoEscape"], unfollowed := true, recurses := true, apart := false }
def NameBackSaid : Prop := nameBackRow.holds Try.pinned (OpenSpec.ofChange nameBackSpec)

/-- ITS FALSE NEIGHBOUR: 'it returns false'. Refute it at one input. -/
def nameBackWrong : ChangeSpec := { name := "nameBack", fn := fun _ => fun
  | [d1, d2, d3, d4] => { results := [.lit (.bool false)], args := [d1, d2, d3, d4] }
  | _ => none }
def NameBackWrongFalsely : Prop := nameBackRow.holds Try.pinned (OpenSpec.ofChange nameBackWrong)

/-- 'hearsaylaw01.NameJoins': WHATEVER THE INPUT: true; the input reads as it did. -/
def nameJoinsSpec : ChangeSpec := { name := "nameJoins", fn := fun _ => fun
  | [d1, d2] => { results := [.lit (.bool true)], args := [d1, d2] }
  | _ => none }
def nameJoinsRow : OpenClaim := { program := "ytplnknhlgdoliaa", sum := "cb3bedc6083d8602fe4c91755f55fe310f5f60a85979b641286d2176fbdec7a8", func := "hearsay/hearsaylaw01.NameJoins", spec := "nameJoins", inPlace := ["internal/abi.NoEscape"], unfollowed := true, recurses := true, apart := false }
def NameJoinsSaid : Prop := nameJoinsRow.holds Try.pinned (OpenSpec.ofChange nameJoinsSpec)

/-- ITS FALSE NEIGHBOUR: 'it returns false'. Refute it at one input. -/
def nameJoinsWrong : ChangeSpec := { name := "nameJoins", fn := fun _ => fun
  | [d1, d2] => { results := [.lit (.bool false)], args := [d1, d2] }
  | _ => none }
def NameJoinsWrongFalsely : Prop := nameJoinsRow.holds Try.pinned (OpenSpec.ofChange nameJoinsWrong)

/-- 'hearsaylaw01.NameUnder': WHATEVER THE INPUT: true; the input reads as it did. -/
def nameUnderSpec : ChangeSpec := { name := "nameUnder", fn := fun _ => fun
  | [d1, d2, d3] => { results := [.lit (.bool true)], args := [d1, d2, d3] }
  | _ => none }
def nameUnderRow : OpenClaim := { program := "ytplnknhlgdoliaa", sum := "cb3bedc6083d8602fe4c91755f55fe310f5f60a85979b641286d2176fbdec7a8", func := "hearsay/hearsaylaw01.NameUnder", spec := "nameUnder", inPlace := ["internal/abi.NoEscape"], unfollowed := true, recurses := true, apart := false }
def NameUnderSaid : Prop := nameUnderRow.holds Try.pinned (OpenSpec.ofChange nameUnderSpec)

/-- ITS FALSE NEIGHBOUR: 'it returns false'. Refute it at one input. -/
def nameUnderWrong : ChangeSpec := { name := "nameUnder", fn := fun _ => fun
  | [d1, d2, d3] => { results := [.lit (.bool false)], args := [d1, d2, d3] }
  | _ => none }
def NameUnderWrongFalsely : Prop := nameUnderRow.holds Try.pinned (OpenSpec.ofChange nameUnderWrong)

/-- 'hearsaylaw01.NameCmp': WHATEVER THE INPUT: true; the input reads as it did. -/
def nameCmpSpec : ChangeSpec := { name := "nameCmp", fn := fun _ => fun
  | [d1, d2] => { results := [.lit (.bool true)], args := [d1, d2] }
  | _ => none }
def nameCmpRow : OpenClaim := { program := "ytplnknhlgdoliaa", sum := "cb3bedc6083d8602fe4c91755f55fe310f5f60a85979b641286d2176fbdec7a8", func := "hearsay/hearsaylaw01.NameCmp", spec := "nameCmp", inPlace := ["internal/bytealg.abigen_runtime_cmpstring", "internal/abi.NoEscape"], unfollowed := true, recurses := true, apart := false }
def NameCmpSaid : Prop := nameCmpRow.holds Try.pinned (OpenSpec.ofChange nameCmpSpec)

/-- ITS FALSE NEIGHBOUR: 'it returns false'. Refute it at one input. -/
def nameCmpWrong : ChangeSpec := { name := "nameCmp", fn := fun _ => fun
  | [d1, d2] => { results := [.lit (.bool false)], args := [d1, d2] }
  | _ => none }
def NameCmpWrongFalsely : Prop := nameCmpRow.holds Try.pinned (OpenSpec.ofChange nameCmpWrong)

/-- 'hearsaylaw01.NameFamily': WHATEVER THE INPUT: true; the input reads as it did. -/
def nameFamilySpec : ChangeSpec := { name := "nameFamily", fn := fun _ => fun
  | [d1, d2] => { results := [.lit (.bool true)], args := [d1, d2] }
  | _ => none }
def nameFamilyRow : OpenClaim := { program := "ytplnknhlgdoliaa", sum := "cb3bedc6083d8602fe4c91755f55fe310f5f60a85979b641286d2176fbdec7a8", func := "hearsay/hearsaylaw01.NameFamily", spec := "nameFamily", inPlace := ["internal/abi.NoEscape"], unfollowed := true, recurses := true, apart := false }
def NameFamilySaid : Prop := nameFamilyRow.holds Try.pinned (OpenSpec.ofChange nameFamilySpec)

/-- ITS FALSE NEIGHBOUR: 'it returns false'. Refute it at one input. -/
def nameFamilyWrong : ChangeSpec := { name := "nameFamily", fn := fun _ => fun
  | [d1, d2] => { results := [.lit (.bool false)], args := [d1, d2] }
  | _ => none }
def NameFamilyWrongFalsely : Prop := nameFamilyRow.holds Try.pinned (OpenSpec.ofChange nameFamilyWrong)

/-- 'hearsaylaw01.NameOrder': WHATEVER THE INPUT: true; the input reads as it did. -/
def nameOrderSpec : ChangeSpec := { name := "nameOrder", fn := fun _ => fun
  | [d1, d2, d3] => { results := [.lit (.bool true)], args := [d1, d2, d3] }
  | _ => none }
def nameOrderRow : OpenClaim := { program := "ytplnknhlgdoliaa", sum := "cb3bedc6083d8602fe4c91755f55fe310f5f60a85979b641286d2176fbdec7a8", func := "hearsay/hearsaylaw01.NameOrder", spec := "nameOrder", inPlace := ["internal/bytealg.abigen_runtime_cmpstring", "internal/abi.NoEscape"], unfollowed := true, recurses := true, apart := false }
def NameOrderSaid : Prop := nameOrderRow.holds Try.pinned (OpenSpec.ofChange nameOrderSpec)

/-- ITS FALSE NEIGHBOUR: 'it returns false'. Refute it at one input. -/
def nameOrderWrong : ChangeSpec := { name := "nameOrder", fn := fun _ => fun
  | [d1, d2, d3] => { results := [.lit (.bool false)], args := [d1, d2, d3] }
  | _ => none }
def NameOrderWrongFalsely : Prop := nameOrderRow.holds Try.pinned (OpenSpec.ofChange nameOrderWrong)

/- THE SECOND FORM. 'bulk': how many values and letters a reading holds, each counted each time it is reached (what is shared counts as often as it is met; a slice's spare places count too). A statement '..UptoSaid' is the law's where the arguments, and the package variables that the reading takes, are together of bulk at most 1048576: NARROWER than '..Said'. Prove '..Said' where nothing that the law and all that it calls make is longer than what came in: it says more and counts as full. Else prove '..UptoSaid'. A law counts once. -/
mutual
def uptoBulk {H : Type} : DataW H → Nat
  | .lit (.string bytes) => bytes.length + 1
  | .lit _ => 1
  | .nil => 1
  | .ptr d => uptoBulk d + 1
  | .slice elems spare => uptoBulkAll elems + uptoBulkAll spare + 1
  | .agg parts => uptoBulkAll parts + 1
  | .iface _ d => uptoBulk d + 1
  | .map entries => uptoBulkEntries entries + 1
  | .held _ => 1
def uptoBulkAll {H : Type} : List (DataW H) → Nat
  | [] => 0
  | d :: r => uptoBulk d + uptoBulkAll r
def uptoBulkEntries {H : Type} : List (Lit × DataW H) → Nat
  | [] => 0
  | x :: r => uptoBulkEntry x + uptoBulkEntries r
def uptoBulkEntry {H : Type} : Lit × DataW H → Nat
  | (.string bytes, d) => bytes.length + uptoBulk d + 1
  | (_, d) => uptoBulk d + 1
 end
def uptoSmall : (H : Type) → List (DataW H) → Bool := fun _ ds => decide (uptoBulkAll ds ≤ 1048576)
def OpenSpec.upto (s : _root_.Go.ChangeSpec) : _root_.Go.OpenSpec := { _root_.Go.OpenSpec.ofChange s with cond := some uptoSmall }

/-- 'hearsaylaw01.NameChecks', WHERE WHAT IT READS IS OF BULK AT MOST 1048576: true; the input reads as it did. -/
def nameChecksUptoRow : OpenClaim := { program := "ytplnknhlgdoliaa", sum := "cb3bedc6083d8602fe4c91755f55fe310f5f60a85979b641286d2176fbdec7a8", func := "hearsay/hearsaylaw01.NameChecks", spec := "nameChecks", inPlace := ["internal/abi.NoEscape"], unfollowed := true, recurses := true, apart := false, narrowed := true }
def NameChecksUptoSaid : Prop := nameChecksUptoRow.holds Try.pinned (OpenSpec.upto nameChecksSpec)

/-- 'hearsaylaw01.NameOf', WHERE WHAT IT READS IS OF BULK AT MOST 1048576: true; the input reads as it did. -/
def nameOfUptoRow : OpenClaim := { program := "ytplnknhlgdoliaa", sum := "cb3bedc6083d8602fe4c91755f55fe310f5f60a85979b641286d2176fbdec7a8", func := "hearsay/hearsaylaw01.NameOf", spec := "nameOf", inPlace := ["internal/abi.NoEscape"], unfollowed := true, recurses := true, apart := false, narrowed := true }
def NameOfUptoSaid : Prop := nameOfUptoRow.holds Try.pinned (OpenSpec.upto nameOfSpec)

/-- 'hearsaylaw01.NameBytes', WHERE WHAT IT READS IS OF BULK AT MOST 1048576: true; the input reads as it did. -/
def nameBytesUptoRow : OpenClaim := { program := "ytplnknhlgdoliaa", sum := "cb3bedc6083d8602fe4c91755f55fe310f5f60a85979b641286d2176fbdec7a8", func := "hearsay/hearsaylaw01.NameBytes", spec := "nameBytes", inPlace := ["internal/abi.NoEscape"], unfollowed := true, recurses := true, apart := false, narrowed := true }
def NameBytesUptoSaid : Prop := nameBytesUptoRow.holds Try.pinned (OpenSpec.upto nameBytesSpec)

/-- 'hearsaylaw01.NameParses', WHERE WHAT IT READS IS OF BULK AT MOST 1048576: true; the input reads as it did. -/
def nameParsesUptoRow : OpenClaim := { program := "ytplnknhlgdoliaa", sum := "cb3bedc6083d8602fe4c91755f55fe310f5f60a85979b641286d2176fbdec7a8", func := "hearsay/hearsaylaw01.NameParses", spec := "nameParses", inPlace := ["internal/abi.NoEscape"], unfollowed := true, recurses := true, apart := false, narrowed := true }
def NameParsesUptoSaid : Prop := nameParsesUptoRow.holds Try.pinned (OpenSpec.upto nameParsesSpec)

/-- 'hearsaylaw01.NameBack', WHERE WHAT IT READS IS OF BULK AT MOST 1048576: true; the input reads as it did. -/
def nameBackUptoRow : OpenClaim := { program := "ytplnknhlgdoliaa", sum := "cb3bedc6083d8602fe4c91755f55fe310f5f60a85979b641286d2176fbdec7a8", func := "hearsay/hearsaylaw01.NameBack", spec := "nameBack", inPlace := ["internal/abi.NoEscape"], unfollowed := true, recurses := true, apart := false, narrowed := true }
def NameBackUptoSaid : Prop := nameBackUptoRow.holds Try.pinned (OpenSpec.upto nameBackSpec)

/-- 'hearsaylaw01.NameJoins', WHERE WHAT IT READS IS OF BULK AT MOST 1048576: true; the input reads as it did. -/
def nameJoinsUptoRow : OpenClaim := { program := "ytplnknhlgdoliaa", sum := "cb3bedc6083d8602fe4c91755f55fe310f5f60a85979b641286d2176fbdec7a8", func := "hearsay/hearsaylaw01.NameJoins", spec := "nameJoins", inPlace := ["internal/abi.NoEscape"], unfollowed := true, recurses := true, apart := false, narrowed := true }
def NameJoinsUptoSaid : Prop := nameJoinsUptoRow.holds Try.pinned (OpenSpec.upto nameJoinsSpec)

/-- 'hearsaylaw01.NameUnder', WHERE WHAT IT READS IS OF BULK AT MOST 1048576: true; the input reads as it did. -/
def nameUnderUptoRow : OpenClaim := { program := "ytplnknhlgdoliaa", sum := "cb3bedc6083d8602fe4c91755f55fe310f5f60a85979b641286d2176fbdec7a8", func := "hearsay/hearsaylaw01.NameUnder", spec := "nameUnder", inPlace := ["internal/abi.NoEscape"], unfollowed := true, recurses := true, apart := false, narrowed := true }
def NameUnderUptoSaid : Prop := nameUnderUptoRow.holds Try.pinned (OpenSpec.upto nameUnderSpec)

/-- 'hearsaylaw01.NameCmp', WHERE WHAT IT READS IS OF BULK AT MOST 1048576: true; the input reads as it did. -/
def nameCmpUptoRow : OpenClaim := { program := "ytplnknhlgdoliaa", sum := "cb3bedc6083d8602fe4c91755f55fe310f5f60a85979b641286d2176fbdec7a8", func := "hearsay/hearsaylaw01.NameCmp", spec := "nameCmp", inPlace := ["internal/bytealg.abigen_runtime_cmpstring", "internal/abi.NoEscape"], unfollowed := true, recurses := true, apart := false, narrowed := true }
def NameCmpUptoSaid : Prop := nameCmpUptoRow.holds Try.pinned (OpenSpec.upto nameCmpSpec)

/-- 'hearsaylaw01.NameFamily', WHERE WHAT IT READS IS OF BULK AT MOST 1048576: true; the input reads as it did. -/
def nameFamilyUptoRow : OpenClaim := { program := "ytplnknhlgdoliaa", sum := "cb3bedc6083d8602fe4c91755f55fe310f5f60a85979b641286d2176fbdec7a8", func := "hearsay/hearsaylaw01.NameFamily", spec := "nameFamily", inPlace := ["internal/abi.NoEscape"], unfollowed := true, recurses := true, apart := false, narrowed := true }
def NameFamilyUptoSaid : Prop := nameFamilyUptoRow.holds Try.pinned (OpenSpec.upto nameFamilySpec)

/-- 'hearsaylaw01.NameOrder', WHERE WHAT IT READS IS OF BULK AT MOST 1048576: true; the input reads as it did. -/
def nameOrderUptoRow : OpenClaim := { program := "ytplnknhlgdoliaa", sum := "cb3bedc6083d8602fe4c91755f55fe310f5f60a85979b641286d2176fbdec7a8", func := "hearsay/hearsaylaw01.NameOrder", spec := "nameOrder", inPlace := ["internal/bytealg.abigen_runtime_cmpstring", "internal/abi.NoEscape"], unfollowed := true, recurses := true, apart := false, narrowed := true }
def NameOrderUptoSaid : Prop := nameOrderUptoRow.holds Try.pinned (OpenSpec.upto nameOrderSpec)

end Rows
end Go.Proofs.Ytplnknhlgdoliaa
