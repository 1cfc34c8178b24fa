/-
  No cell of these rows narrows 'for every input' (looked for: loops, veiled, ifaces, maps, wideKeys, modest, calm, conditions, laid).
  DERIVED. THE GIVEN ROWS OF THIS SEAT. 4 by the template 'for every input the law returns true; each argument reads behind the call as it read before'; 0 by the template 'total and deterministic' (their statements: YtihmblbnnhcdnaaTotals.lean).
  GIVEN WITH THE SEED: the statements are not yours to turn. If you find one false, say at which input.
  Laid BY PROGRAM, IN A SANDBOX (cutbox-rows.mjs): the forced cells as the released guide's own fill.sh prints them over the translation ef1fbab570af6048… (all of the seat's roots in one cut). By AI agents, Wed Nov 11 2026. No macro, syntax, notation, axiom, sorry.
-/
import Derived.Test.YtihmblbnnhcdnaaChecked
import GoSem.Claim
import GoSem.ClaimJoined
import GoSem.ClaimMapViews
import Derived.JoinedTies
import Derived.KernelRfl
namespace Go.Proofs.Ytihmblbnnhcdnaa
/- THE CELL 'sum', in the pinned program and in every row, IS THE sha256 OF THE DUMP (.gsa) THAT YtihmblbnnhcdnaaProg.lean LOADS. Nothing in Lean hashes anything: it is a label: what it is worth is what the hold of that sum in a sandbox is worth. -/
noncomputable def Try.pinned : Pinned := { name := "ytihmblbnnhcdnaa", sum := "ef1fbab570af604883cec36dea05859fa784db8a784ac8bbed7d153a1203901a", checked := Try.checked }
namespace Rows
def none {H : Type} : Left H := { results := [], args := [] }

/-- 'hearsaylaw18.RumorPlays': WHATEVER THE INPUT: true; the input reads as it did. -/
def rumorPlaysSpec : ChangeSpec := { name := "rumorPlays", fn := fun _ => fun
  | [d1, d2] => { results := [.lit (.bool true)], args := [d1, d2] }
  | _ => none }
def rumorPlaysRow : OpenClaim := { program := "ytihmblbnnhcdnaa", sum := "ef1fbab570af604883cec36dea05859fa784db8a784ac8bbed7d153a1203901a", func := "hearsay/hearsaylaw18.RumorPlays", spec := "rumorPlays", unfollowed := true, recurses := true, apart := false }
def RumorPlaysSaid : Prop := rumorPlaysRow.holds Try.pinned (OpenSpec.ofChange rumorPlaysSpec)

/-- ITS FALSE NEIGHBOUR: 'it returns false'. Refute it at one input. -/
def rumorPlaysWrong : ChangeSpec := { name := "rumorPlays", fn := fun _ => fun
  | [d1, d2] => { results := [.lit (.bool false)], args := [d1, d2] }
  | _ => none }
def RumorPlaysWrongFalsely : Prop := rumorPlaysRow.holds Try.pinned (OpenSpec.ofChange rumorPlaysWrong)

/-- 'hearsaylaw18.RumorNil': WHATEVER THE INPUT: true; the input reads as it did. -/
def rumorNilSpec : ChangeSpec := { name := "rumorNil", fn := fun _ => fun
  | [d1, d2] => { results := [.lit (.bool true)], args := [d1, d2] }
  | _ => none }
def rumorNilRow : OpenClaim := { program := "ytihmblbnnhcdnaa", sum := "ef1fbab570af604883cec36dea05859fa784db8a784ac8bbed7d153a1203901a", func := "hearsay/hearsaylaw18.RumorNil", spec := "rumorNil", unfollowed := true, recurses := true, apart := false }
def RumorNilSaid : Prop := rumorNilRow.holds Try.pinned (OpenSpec.ofChange rumorNilSpec)

/-- ITS FALSE NEIGHBOUR: 'it returns false'. Refute it at one input. -/
def rumorNilWrong : ChangeSpec := { name := "rumorNil", fn := fun _ => fun
  | [d1, d2] => { results := [.lit (.bool false)], args := [d1, d2] }
  | _ => none }
def RumorNilWrongFalsely : Prop := rumorNilRow.holds Try.pinned (OpenSpec.ofChange rumorNilWrong)

/-- 'hearsaylaw18.RumorTimes': WHATEVER THE INPUT: true; the input reads as it did. -/
def rumorTimesSpec : ChangeSpec := { name := "rumorTimes", fn := fun _ => fun
  | [d1, d2, d3] => { results := [.lit (.bool true)], args := [d1, d2, d3] }
  | _ => none }
def rumorTimesRow : OpenClaim := { program := "ytihmblbnnhcdnaa", sum := "ef1fbab570af604883cec36dea05859fa784db8a784ac8bbed7d153a1203901a", func := "hearsay/hearsaylaw18.RumorTimes", spec := "rumorTimes", unfollowed := true, recurses := true, apart := false }
def RumorTimesSaid : Prop := rumorTimesRow.holds Try.pinned (OpenSpec.ofChange rumorTimesSpec)

/-- ITS FALSE NEIGHBOUR: 'it returns false'. Refute it at one input. -/
def rumorTimesWrong : ChangeSpec := { name := "rumorTimes", fn := fun _ => fun
  | [d1, d2, d3] => { results := [.lit (.bool false)], args := [d1, d2, d3] }
  | _ => none }
def RumorTimesWrongFalsely : Prop := rumorTimesRow.holds Try.pinned (OpenSpec.ofChange rumorTimesWrong)

/-- 'hearsaylaw18.RumorStrong': WHATEVER THE INPUT: true; the input reads as it did. -/
def rumorStrongSpec : ChangeSpec := { name := "rumorStrong", fn := fun _ => fun
  | [d] => { results := [.lit (.bool true)], args := [d] }
  | _ => none }
def rumorStrongRow : OpenClaim := { program := "ytihmblbnnhcdnaa", sum := "ef1fbab570af604883cec36dea05859fa784db8a784ac8bbed7d153a1203901a", func := "hearsay/hearsaylaw18.RumorStrong", spec := "rumorStrong", unfollowed := true, recurses := true, apart := false }
def RumorStrongSaid : Prop := rumorStrongRow.holds Try.pinned (OpenSpec.ofChange rumorStrongSpec)

/-- ITS FALSE NEIGHBOUR: 'it returns false'. Refute it at one input. -/
def rumorStrongWrong : ChangeSpec := { name := "rumorStrong", fn := fun _ => fun
  | [d] => { results := [.lit (.bool false)], args := [d] }
  | _ => none }
def RumorStrongWrongFalsely : Prop := rumorStrongRow.holds Try.pinned (OpenSpec.ofChange rumorStrongWrong)

/- THE SECOND FORM. 'bulk': how many values and letters a reading holds, each counted each time it is reached (what is shared counts as often as it is met; a slice's spare places count too). A statement '..UptoSaid' is the law's where the arguments, and the package variables that the reading takes, are together of bulk at most 1048576: NARROWER than '..Said'. Prove '..Said' where nothing that the law and all that it calls make is longer than what came in: it says more and counts as full. Else prove '..UptoSaid'. A law counts once. -/
mutual
def uptoBulk {H : Type} : DataW H → Nat
  | .lit (.string bytes) => bytes.length + 1
  | .lit _ => 1
  | .nil => 1
  | .ptr d => uptoBulk d + 1
  | .slice elems spare => uptoBulkAll elems + uptoBulkAll spare + 1
  | .agg parts => uptoBulkAll parts + 1
  | .iface _ d => uptoBulk d + 1
  | .map entries => uptoBulkEntries entries + 1
  | .held _ => 1
def uptoBulkAll {H : Type} : List (DataW H) → Nat
  | [] => 0
  | d :: r => uptoBulk d + uptoBulkAll r
def uptoBulkEntries {H : Type} : List (Lit × DataW H) → Nat
  | [] => 0
  | x :: r => uptoBulkEntry x + uptoBulkEntries r
def uptoBulkEntry {H : Type} : Lit × DataW H → Nat
  | (.string bytes, d) => bytes.length + uptoBulk d + 1
  | (_, d) => uptoBulk d + 1
 end
def uptoSmall : (H : Type) → List (DataW H) → Bool := fun _ ds => decide (uptoBulkAll ds ≤ 1048576)
def OpenSpec.upto (s : _root_.Go.ChangeSpec) : _root_.Go.OpenSpec := { _root_.Go.OpenSpec.ofChange s with cond := some uptoSmall }

/-- 'hearsaylaw18.RumorPlays', WHERE WHAT IT READS IS OF BULK AT MOST 1048576: true; the input reads as it did. -/
def rumorPlaysUptoRow : OpenClaim := { program := "ytihmblbnnhcdnaa", sum := "ef1fbab570af604883cec36dea05859fa784db8a784ac8bbed7d153a1203901a", func := "hearsay/hearsaylaw18.RumorPlays", spec := "rumorPlays", unfollowed := true, recurses := true, apart := false, narrowed := true }
def RumorPlaysUptoSaid : Prop := rumorPlaysUptoRow.holds Try.pinned (OpenSpec.upto rumorPlaysSpec)

/-- 'hearsaylaw18.RumorNil', WHERE WHAT IT READS IS OF BULK AT MOST 1048576: true; the input reads as it did. -/
def rumorNilUptoRow : OpenClaim := { program := "ytihmblbnnhcdnaa", sum := "ef1fbab570af604883cec36dea05859fa784db8a784ac8bbed7d153a1203901a", func := "hearsay/hearsaylaw18.RumorNil", spec := "rumorNil", unfollowed := true, recurses := true, apart := false, narrowed := true }
def RumorNilUptoSaid : Prop := rumorNilUptoRow.holds Try.pinned (OpenSpec.upto rumorNilSpec)

/-- 'hearsaylaw18.RumorTimes', WHERE WHAT IT READS IS OF BULK AT MOST 1048576: true; the input reads as it did. -/
def rumorTimesUptoRow : OpenClaim := { program := "ytihmblbnnhcdnaa", sum := "ef1fbab570af604883cec36dea05859fa784db8a784ac8bbed7d153a1203901a", func := "hearsay/hearsaylaw18.RumorTimes", spec := "rumorTimes", unfollowed := true, recurses := true, apart := false, narrowed := true }
def RumorTimesUptoSaid : Prop := rumorTimesUptoRow.holds Try.pinned (OpenSpec.upto rumorTimesSpec)

/-- 'hearsaylaw18.RumorStrong', WHERE WHAT IT READS IS OF BULK AT MOST 1048576: true; the input reads as it did. -/
def rumorStrongUptoRow : OpenClaim := { program := "ytihmblbnnhcdnaa", sum := "ef1fbab570af604883cec36dea05859fa784db8a784ac8bbed7d153a1203901a", func := "hearsay/hearsaylaw18.RumorStrong", spec := "rumorStrong", unfollowed := true, recurses := true, apart := false, narrowed := true }
def RumorStrongUptoSaid : Prop := rumorStrongUptoRow.holds Try.pinned (OpenSpec.upto rumorStrongSpec)

end Rows
end Go.Proofs.Ytihmblbnnhcdnaa
