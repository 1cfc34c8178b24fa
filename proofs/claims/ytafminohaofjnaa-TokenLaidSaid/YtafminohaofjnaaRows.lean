/-
  No cell of these rows narrows 'for every input' (looked for: loops, veiled, ifaces, maps, wideKeys, modest, calm, conditions, laid).
  DERIVED. THE GIVEN ROWS OF THIS SEAT. 7 by the template 'for every input the law returns true; each argument reads behind the call as it read before'; 0 by the template 'total and deterministic' (their statements: YtafminohaofjnaaTotals.lean).
  GIVEN WITH THE SEED: the statements are not yours to turn. If you find one false, say at which input.
  Laid BY PROGRAM, IN A SANDBOX (cutbox-rows.mjs): the forced cells as the released guide's own fill.sh prints them over the translation 2975448360993fa0… (all of the seat's roots in one cut). By AI agents, Wed Nov 11 2026. No macro, syntax, notation, axiom, sorry.
-/
import Derived.Test.YtafminohaofjnaaChecked
import GoSem.Claim
import GoSem.ClaimJoined
import GoSem.ClaimMapViews
import Derived.JoinedTies
import Derived.KernelRfl
namespace Go.Proofs.Ytafminohaofjnaa
/- THE CELL 'sum', in the pinned program and in every row, IS THE sha256 OF THE DUMP (.gsa) THAT YtafminohaofjnaaProg.lean LOADS. Nothing in Lean hashes anything: it is a label: what it is worth is what the hold of that sum in a sandbox is worth. -/
noncomputable def Try.pinned : Pinned := { name := "ytafminohaofjnaa", sum := "2975448360993fa0d402a77f18a396919e56d621ca09c0770bda409669d6d173", checked := Try.checked }
namespace Rows
def none {H : Type} : Left H := { results := [], args := [] }

/-- 'hearsaylaw08.TokenValues': WHATEVER THE INPUT: true; the input reads as it did. -/
def tokenValuesSpec : ChangeSpec := { name := "tokenValues", fn := fun _ => fun
  | [d] => { results := [.lit (.bool true)], args := [d] }
  | _ => none }
def tokenValuesRow : OpenClaim := { program := "ytafminohaofjnaa", sum := "2975448360993fa0d402a77f18a396919e56d621ca09c0770bda409669d6d173", func := "hearsay/hearsaylaw08.TokenValues", spec := "tokenValues", unfollowed := true, recurses := true, apart := false }
def TokenValuesSaid : Prop := tokenValuesRow.holds Try.pinned (OpenSpec.ofChange tokenValuesSpec)

/-- ITS FALSE NEIGHBOUR: 'it returns false'. Refute it at one input. -/
def tokenValuesWrong : ChangeSpec := { name := "tokenValues", fn := fun _ => fun
  | [d] => { results := [.lit (.bool false)], args := [d] }
  | _ => none }
def TokenValuesWrongFalsely : Prop := tokenValuesRow.holds Try.pinned (OpenSpec.ofChange tokenValuesWrong)

/-- 'hearsaylaw08.TokenEntries': WHATEVER THE INPUT: true; the input reads as it did. -/
def tokenEntriesSpec : ChangeSpec := { name := "tokenEntries", fn := fun _ => fun
  | [d] => { results := [.lit (.bool true)], args := [d] }
  | _ => none }
def tokenEntriesRow : OpenClaim := { program := "ytafminohaofjnaa", sum := "2975448360993fa0d402a77f18a396919e56d621ca09c0770bda409669d6d173", func := "hearsay/hearsaylaw08.TokenEntries", spec := "tokenEntries", apart := false }
def TokenEntriesSaid : Prop := tokenEntriesRow.holds Try.pinned (OpenSpec.ofChange tokenEntriesSpec)

/-- ITS FALSE NEIGHBOUR: 'it returns false'. Refute it at one input. -/
def tokenEntriesWrong : ChangeSpec := { name := "tokenEntries", fn := fun _ => fun
  | [d] => { results := [.lit (.bool false)], args := [d] }
  | _ => none }
def TokenEntriesWrongFalsely : Prop := tokenEntriesRow.holds Try.pinned (OpenSpec.ofChange tokenEntriesWrong)

/-- 'hearsaylaw08.TokenLaid': WHATEVER THE INPUT: true; the input reads as it did. -/
def tokenLaidSpec : ChangeSpec := { name := "tokenLaid", fn := fun _ => fun
  | [d] => { results := [.lit (.bool true)], args := [d] }
  | _ => none }
def tokenLaidRow : OpenClaim := { program := "ytafminohaofjnaa", sum := "2975448360993fa0d402a77f18a396919e56d621ca09c0770bda409669d6d173", func := "hearsay/hearsaylaw08.TokenLaid", spec := "tokenLaid", apart := false }
def TokenLaidSaid : Prop := tokenLaidRow.holds Try.pinned (OpenSpec.ofChange tokenLaidSpec)

/-- ITS FALSE NEIGHBOUR: 'it returns false'. Refute it at one input. -/
def tokenLaidWrong : ChangeSpec := { name := "tokenLaid", fn := fun _ => fun
  | [d] => { results := [.lit (.bool false)], args := [d] }
  | _ => none }
def TokenLaidWrongFalsely : Prop := tokenLaidRow.holds Try.pinned (OpenSpec.ofChange tokenLaidWrong)

/-- 'hearsaylaw08.TokenPlaces': WHATEVER THE INPUT: true; the input reads as it did. -/
def tokenPlacesSpec : ChangeSpec := { name := "tokenPlaces", fn := fun _ => fun
  | [d] => { results := [.lit (.bool true)], args := [d] }
  | _ => none }
def tokenPlacesRow : OpenClaim := { program := "ytafminohaofjnaa", sum := "2975448360993fa0d402a77f18a396919e56d621ca09c0770bda409669d6d173", func := "hearsay/hearsaylaw08.TokenPlaces", spec := "tokenPlaces", apart := false }
def TokenPlacesSaid : Prop := tokenPlacesRow.holds Try.pinned (OpenSpec.ofChange tokenPlacesSpec)

/-- ITS FALSE NEIGHBOUR: 'it returns false'. Refute it at one input. -/
def tokenPlacesWrong : ChangeSpec := { name := "tokenPlaces", fn := fun _ => fun
  | [d] => { results := [.lit (.bool false)], args := [d] }
  | _ => none }
def TokenPlacesWrongFalsely : Prop := tokenPlacesRow.holds Try.pinned (OpenSpec.ofChange tokenPlacesWrong)

/-- 'hearsaylaw08.TokenTail': WHATEVER THE INPUT: true; the input reads as it did. -/
def tokenTailSpec : ChangeSpec := { name := "tokenTail", fn := fun _ => fun
  | [d1, d2] => { results := [.lit (.bool true)], args := [d1, d2] }
  | _ => none }
def tokenTailRow : OpenClaim := { program := "ytafminohaofjnaa", sum := "2975448360993fa0d402a77f18a396919e56d621ca09c0770bda409669d6d173", func := "hearsay/hearsaylaw08.TokenTail", spec := "tokenTail", apart := false }
def TokenTailSaid : Prop := tokenTailRow.holds Try.pinned (OpenSpec.ofChange tokenTailSpec)

/-- ITS FALSE NEIGHBOUR: 'it returns false'. Refute it at one input. -/
def tokenTailWrong : ChangeSpec := { name := "tokenTail", fn := fun _ => fun
  | [d1, d2] => { results := [.lit (.bool false)], args := [d1, d2] }
  | _ => none }
def TokenTailWrongFalsely : Prop := tokenTailRow.holds Try.pinned (OpenSpec.ofChange tokenTailWrong)

/-- 'hearsaylaw08.TokenOwn': WHATEVER THE INPUT: true; the input reads as it did. -/
def tokenOwnSpec : ChangeSpec := { name := "tokenOwn", fn := fun _ => fun
  | [d] => { results := [.lit (.bool true)], args := [d] }
  | _ => none }
def tokenOwnRow : OpenClaim := { program := "ytafminohaofjnaa", sum := "2975448360993fa0d402a77f18a396919e56d621ca09c0770bda409669d6d173", func := "hearsay/hearsaylaw08.TokenOwn", spec := "tokenOwn", apart := false }
def TokenOwnSaid : Prop := tokenOwnRow.holds Try.pinned (OpenSpec.ofChange tokenOwnSpec)

/-- ITS FALSE NEIGHBOUR: 'it returns false'. Refute it at one input. -/
def tokenOwnWrong : ChangeSpec := { name := "tokenOwn", fn := fun _ => fun
  | [d] => { results := [.lit (.bool false)], args := [d] }
  | _ => none }
def TokenOwnWrongFalsely : Prop := tokenOwnRow.holds Try.pinned (OpenSpec.ofChange tokenOwnWrong)

/-- 'hearsaylaw08.TokenKnown': WHATEVER THE INPUT: true; the input reads as it did. -/
def tokenKnownSpec : ChangeSpec := { name := "tokenKnown", fn := fun _ => fun
  | [] => { results := [.lit (.bool true)], args := [] }
  | _ => none }
def tokenKnownRow : OpenClaim := { program := "ytafminohaofjnaa", sum := "2975448360993fa0d402a77f18a396919e56d621ca09c0770bda409669d6d173", func := "hearsay/hearsaylaw08.TokenKnown", spec := "tokenKnown", unfollowed := true, recurses := true, apart := false }
def TokenKnownSaid : Prop := tokenKnownRow.holds Try.pinned (OpenSpec.ofChange tokenKnownSpec)

/-- ITS FALSE NEIGHBOUR: 'it returns false'. Refute it at one input. -/
def tokenKnownWrong : ChangeSpec := { name := "tokenKnown", fn := fun _ => fun
  | [] => { results := [.lit (.bool false)], args := [] }
  | _ => none }
def TokenKnownWrongFalsely : Prop := tokenKnownRow.holds Try.pinned (OpenSpec.ofChange tokenKnownWrong)

/- THE SECOND FORM. 'bulk': how many values and letters a reading holds, each counted each time it is reached (what is shared counts as often as it is met; a slice's spare places count too). A statement '..UptoSaid' is the law's where the arguments, and the package variables that the reading takes, are together of bulk at most 1048576: NARROWER than '..Said'. Prove '..Said' where nothing that the law and all that it calls make is longer than what came in: it says more and counts as full. Else prove '..UptoSaid'. A law counts once. -/
mutual
def uptoBulk {H : Type} : DataW H → Nat
  | .lit (.string bytes) => bytes.length + 1
  | .lit _ => 1
  | .nil => 1
  | .ptr d => uptoBulk d + 1
  | .slice elems spare => uptoBulkAll elems + uptoBulkAll spare + 1
  | .agg parts => uptoBulkAll parts + 1
  | .iface _ d => uptoBulk d + 1
  | .map entries => uptoBulkEntries entries + 1
  | .held _ => 1
def uptoBulkAll {H : Type} : List (DataW H) → Nat
  | [] => 0
  | d :: r => uptoBulk d + uptoBulkAll r
def uptoBulkEntries {H : Type} : List (Lit × DataW H) → Nat
  | [] => 0
  | x :: r => uptoBulkEntry x + uptoBulkEntries r
def uptoBulkEntry {H : Type} : Lit × DataW H → Nat
  | (.string bytes, d) => bytes.length + uptoBulk d + 1
  | (_, d) => uptoBulk d + 1
 end
def uptoSmall : (H : Type) → List (DataW H) → Bool := fun _ ds => decide (uptoBulkAll ds ≤ 1048576)
def OpenSpec.upto (s : _root_.Go.ChangeSpec) : _root_.Go.OpenSpec := { _root_.Go.OpenSpec.ofChange s with cond := some uptoSmall }

/-- 'hearsaylaw08.TokenValues', WHERE WHAT IT READS IS OF BULK AT MOST 1048576: true; the input reads as it did. -/
def tokenValuesUptoRow : OpenClaim := { program := "ytafminohaofjnaa", sum := "2975448360993fa0d402a77f18a396919e56d621ca09c0770bda409669d6d173", func := "hearsay/hearsaylaw08.TokenValues", spec := "tokenValues", unfollowed := true, recurses := true, apart := false, narrowed := true }
def TokenValuesUptoSaid : Prop := tokenValuesUptoRow.holds Try.pinned (OpenSpec.upto tokenValuesSpec)

/-- 'hearsaylaw08.TokenEntries', WHERE WHAT IT READS IS OF BULK AT MOST 1048576: true; the input reads as it did. -/
def tokenEntriesUptoRow : OpenClaim := { program := "ytafminohaofjnaa", sum := "2975448360993fa0d402a77f18a396919e56d621ca09c0770bda409669d6d173", func := "hearsay/hearsaylaw08.TokenEntries", spec := "tokenEntries", apart := false, narrowed := true }
def TokenEntriesUptoSaid : Prop := tokenEntriesUptoRow.holds Try.pinned (OpenSpec.upto tokenEntriesSpec)

/-- 'hearsaylaw08.TokenLaid', WHERE WHAT IT READS IS OF BULK AT MOST 1048576: true; the input reads as it did. -/
def tokenLaidUptoRow : OpenClaim := { program := "ytafminohaofjnaa", sum := "2975448360993fa0d402a77f18a396919e56d621ca09c0770bda409669d6d173", func := "hearsay/hearsaylaw08.TokenLaid", spec := "tokenLaid", apart := false, narrowed := true }
def TokenLaidUptoSaid : Prop := tokenLaidUptoRow.holds Try.pinned (OpenSpec.upto tokenLaidSpec)

/-- 'hearsaylaw08.TokenPlaces', WHERE WHAT IT READS IS OF BULK AT MOST 1048576: true; the input reads as it did. -/
def tokenPlacesUptoRow : OpenClaim := { program := "ytafminohaofjnaa", sum := "2975448360993fa0d402a77f18a396919e56d621ca09c0770bda409669d6d173", func := "hearsay/hearsaylaw08.TokenPlaces", spec := "tokenPlaces", apart := false, narrowed := true }
def TokenPlacesUptoSaid : Prop := tokenPlacesUptoRow.holds Try.pinned (OpenSpec.upto tokenPlacesSpec)

/-- 'hearsaylaw08.TokenTail', WHERE WHAT IT READS IS OF BULK AT MOST 1048576: true; the input reads as it did. -/
def tokenTailUptoRow : OpenClaim := { program := "ytafminohaofjnaa", sum := "2975448360993fa0d402a77f18a396919e56d621ca09c0770bda409669d6d173", func := "hearsay/hearsaylaw08.TokenTail", spec := "tokenTail", apart := false, narrowed := true }
def TokenTailUptoSaid : Prop := tokenTailUptoRow.holds Try.pinned (OpenSpec.upto tokenTailSpec)

/-- 'hearsaylaw08.TokenOwn', WHERE WHAT IT READS IS OF BULK AT MOST 1048576: true; the input reads as it did. -/
def tokenOwnUptoRow : OpenClaim := { program := "ytafminohaofjnaa", sum := "2975448360993fa0d402a77f18a396919e56d621ca09c0770bda409669d6d173", func := "hearsay/hearsaylaw08.TokenOwn", spec := "tokenOwn", apart := false, narrowed := true }
def TokenOwnUptoSaid : Prop := tokenOwnUptoRow.holds Try.pinned (OpenSpec.upto tokenOwnSpec)

/-- 'hearsaylaw08.TokenKnown', WHERE WHAT IT READS IS OF BULK AT MOST 1048576: true; the input reads as it did. -/
def tokenKnownUptoRow : OpenClaim := { program := "ytafminohaofjnaa", sum := "2975448360993fa0d402a77f18a396919e56d621ca09c0770bda409669d6d173", func := "hearsay/hearsaylaw08.TokenKnown", spec := "tokenKnown", unfollowed := true, recurses := true, apart := false, narrowed := true }
def TokenKnownUptoSaid : Prop := tokenKnownUptoRow.holds Try.pinned (OpenSpec.upto tokenKnownSpec)

end Rows
end Go.Proofs.Ytafminohaofjnaa
