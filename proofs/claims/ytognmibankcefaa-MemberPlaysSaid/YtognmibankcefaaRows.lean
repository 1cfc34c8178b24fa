/-
  No cell of these rows narrows 'for every input' (looked for: loops, veiled, ifaces, maps, wideKeys, modest, calm, conditions, laid).
  DERIVED. THE GIVEN ROWS OF THIS SEAT. 6 by the template 'for every input the law returns true; each argument reads behind the call as it read before'; 0 by the template 'total and deterministic' (their statements: YtognmibankcefaaTotals.lean).
  GIVEN WITH THE SEED: the statements are not yours to turn. If you find one false, say at which input.
  Laid BY PROGRAM, IN A SANDBOX (cutbox-rows.mjs): the forced cells as the released guide's own fill.sh prints them over the translation 0e3ae9c0faae5148… (all of the seat's roots in one cut). By AI agents, Wed Nov 11 2026. No macro, syntax, notation, axiom, sorry.
-/
import Derived.Test.YtognmibankcefaaChecked
import GoSem.Claim
import GoSem.ClaimJoined
import GoSem.ClaimMapViews
import Derived.JoinedTies
import Derived.KernelRfl
namespace Go.Proofs.Ytognmibankcefaa
/- THE CELL 'sum', in the pinned program and in every row, IS THE sha256 OF THE DUMP (.gsa) THAT YtognmibankcefaaProg.lean LOADS. Nothing in Lean hashes anything: it is a label: what it is worth is what the hold of that sum in a sandbox is worth. -/
noncomputable def Try.pinned : Pinned := { name := "ytognmibankcefaa", sum := "0e3ae9c0faae5148805b347a16e19a85fac403539a613be11a874e2a90b86e92", checked := Try.checked }
namespace Rows
def none {H : Type} : Left H := { results := [], args := [] }

/-- 'hearsaylaw17.MemberCmps': WHATEVER THE INPUT: true; the input reads as it did. -/
def memberCmpsSpec : ChangeSpec := { name := "memberCmps", fn := fun _ => fun
  | [d1, d2] => { results := [.lit (.bool true)], args := [d1, d2] }
  | _ => none }
def memberCmpsRow : OpenClaim := { program := "ytognmibankcefaa", sum := "0e3ae9c0faae5148805b347a16e19a85fac403539a613be11a874e2a90b86e92", func := "hearsay/hearsaylaw17.MemberCmps", spec := "memberCmps", unfollowed := true, recurses := true, apart := false }
def MemberCmpsSaid : Prop := memberCmpsRow.holds Try.pinned (OpenSpec.ofChange memberCmpsSpec)

/-- ITS FALSE NEIGHBOUR: 'it returns false'. Refute it at one input. -/
def memberCmpsWrong : ChangeSpec := { name := "memberCmps", fn := fun _ => fun
  | [d1, d2] => { results := [.lit (.bool false)], args := [d1, d2] }
  | _ => none }
def MemberCmpsWrongFalsely : Prop := memberCmpsRow.holds Try.pinned (OpenSpec.ofChange memberCmpsWrong)

/-- 'hearsaylaw17.MemberMeets': WHATEVER THE INPUT: true; the input reads as it did. -/
def memberMeetsSpec : ChangeSpec := { name := "memberMeets", fn := fun _ => fun
  | [d1, d2] => { results := [.lit (.bool true)], args := [d1, d2] }
  | _ => none }
def memberMeetsRow : OpenClaim := { program := "ytognmibankcefaa", sum := "0e3ae9c0faae5148805b347a16e19a85fac403539a613be11a874e2a90b86e92", func := "hearsay/hearsaylaw17.MemberMeets", spec := "memberMeets", unfollowed := true, recurses := true, apart := false }
def MemberMeetsSaid : Prop := memberMeetsRow.holds Try.pinned (OpenSpec.ofChange memberMeetsSpec)

/-- ITS FALSE NEIGHBOUR: 'it returns false'. Refute it at one input. -/
def memberMeetsWrong : ChangeSpec := { name := "memberMeets", fn := fun _ => fun
  | [d1, d2] => { results := [.lit (.bool false)], args := [d1, d2] }
  | _ => none }
def MemberMeetsWrongFalsely : Prop := memberMeetsRow.holds Try.pinned (OpenSpec.ofChange memberMeetsWrong)

/-- 'hearsaylaw17.MemberLattice': WHATEVER THE INPUT: true; the input reads as it did. -/
def memberLatticeSpec : ChangeSpec := { name := "memberLattice", fn := fun _ => fun
  | [d1, d2] => { results := [.lit (.bool true)], args := [d1, d2] }
  | _ => none }
def memberLatticeRow : OpenClaim := { program := "ytognmibankcefaa", sum := "0e3ae9c0faae5148805b347a16e19a85fac403539a613be11a874e2a90b86e92", func := "hearsay/hearsaylaw17.MemberLattice", spec := "memberLattice", unfollowed := true, recurses := true, apart := false }
def MemberLatticeSaid : Prop := memberLatticeRow.holds Try.pinned (OpenSpec.ofChange memberLatticeSpec)

/-- ITS FALSE NEIGHBOUR: 'it returns false'. Refute it at one input. -/
def memberLatticeWrong : ChangeSpec := { name := "memberLattice", fn := fun _ => fun
  | [d1, d2] => { results := [.lit (.bool false)], args := [d1, d2] }
  | _ => none }
def MemberLatticeWrongFalsely : Prop := memberLatticeRow.holds Try.pinned (OpenSpec.ofChange memberLatticeWrong)

/-- 'hearsaylaw17.MemberPlays': WHATEVER THE INPUT: true; the input reads as it did. -/
def memberPlaysSpec : ChangeSpec := { name := "memberPlays", fn := fun _ => fun
  | [d] => { results := [.lit (.bool true)], args := [d] }
  | _ => none }
def memberPlaysRow : OpenClaim := { program := "ytognmibankcefaa", sum := "0e3ae9c0faae5148805b347a16e19a85fac403539a613be11a874e2a90b86e92", func := "hearsay/hearsaylaw17.MemberPlays", spec := "memberPlays", inPlace := ["maps.clone"], unfollowed := true, recurses := true, apart := false }
def MemberPlaysSaid : Prop := memberPlaysRow.holds Try.pinned (OpenSpec.ofChange memberPlaysSpec)

/-- ITS FALSE NEIGHBOUR: 'it returns false'. Refute it at one input. -/
def memberPlaysWrong : ChangeSpec := { name := "memberPlays", fn := fun _ => fun
  | [d] => { results := [.lit (.bool false)], args := [d] }
  | _ => none }
def MemberPlaysWrongFalsely : Prop := memberPlaysRow.holds Try.pinned (OpenSpec.ofChange memberPlaysWrong)

/-- 'hearsaylaw17.MemberNil': WHATEVER THE INPUT: true; the input reads as it did. -/
def memberNilSpec : ChangeSpec := { name := "memberNil", fn := fun _ => fun
  | [d] => { results := [.lit (.bool true)], args := [d] }
  | _ => none }
def memberNilRow : OpenClaim := { program := "ytognmibankcefaa", sum := "0e3ae9c0faae5148805b347a16e19a85fac403539a613be11a874e2a90b86e92", func := "hearsay/hearsaylaw17.MemberNil", spec := "memberNil", inPlace := ["maps.clone"], unfollowed := true, recurses := true, apart := false }
def MemberNilSaid : Prop := memberNilRow.holds Try.pinned (OpenSpec.ofChange memberNilSpec)

/-- ITS FALSE NEIGHBOUR: 'it returns false'. Refute it at one input. -/
def memberNilWrong : ChangeSpec := { name := "memberNil", fn := fun _ => fun
  | [d] => { results := [.lit (.bool false)], args := [d] }
  | _ => none }
def MemberNilWrongFalsely : Prop := memberNilRow.holds Try.pinned (OpenSpec.ofChange memberNilWrong)

/-- 'hearsaylaw17.MemberRises': WHATEVER THE INPUT: true; the input reads as it did. -/
def memberRisesSpec : ChangeSpec := { name := "memberRises", fn := fun _ => fun
  | [d] => { results := [.lit (.bool true)], args := [d] }
  | _ => none }
def memberRisesRow : OpenClaim := { program := "ytognmibankcefaa", sum := "0e3ae9c0faae5148805b347a16e19a85fac403539a613be11a874e2a90b86e92", func := "hearsay/hearsaylaw17.MemberRises", spec := "memberRises", inPlace := ["maps.clone"], unfollowed := true, recurses := true, apart := false }
def MemberRisesSaid : Prop := memberRisesRow.holds Try.pinned (OpenSpec.ofChange memberRisesSpec)

/-- ITS FALSE NEIGHBOUR: 'it returns false'. Refute it at one input. -/
def memberRisesWrong : ChangeSpec := { name := "memberRises", fn := fun _ => fun
  | [d] => { results := [.lit (.bool false)], args := [d] }
  | _ => none }
def MemberRisesWrongFalsely : Prop := memberRisesRow.holds Try.pinned (OpenSpec.ofChange memberRisesWrong)

/- THE SECOND FORM. 'bulk': how many values and letters a reading holds, each counted each time it is reached (what is shared counts as often as it is met; a slice's spare places count too). A statement '..UptoSaid' is the law's where the arguments, and the package variables that the reading takes, are together of bulk at most 1048576: NARROWER than '..Said'. Prove '..Said' where nothing that the law and all that it calls make is longer than what came in: it says more and counts as full. Else prove '..UptoSaid'. A law counts once. -/
mutual
def uptoBulk {H : Type} : DataW H → Nat
  | .lit (.string bytes) => bytes.length + 1
  | .lit _ => 1
  | .nil => 1
  | .ptr d => uptoBulk d + 1
  | .slice elems spare => uptoBulkAll elems + uptoBulkAll spare + 1
  | .agg parts => uptoBulkAll parts + 1
  | .iface _ d => uptoBulk d + 1
  | .map entries => uptoBulkEntries entries + 1
  | .held _ => 1
def uptoBulkAll {H : Type} : List (DataW H) → Nat
  | [] => 0
  | d :: r => uptoBulk d + uptoBulkAll r
def uptoBulkEntries {H : Type} : List (Lit × DataW H) → Nat
  | [] => 0
  | x :: r => uptoBulkEntry x + uptoBulkEntries r
def uptoBulkEntry {H : Type} : Lit × DataW H → Nat
  | (.string bytes, d) => bytes.length + uptoBulk d + 1
  | (_, d) => uptoBulk d + 1
 end
def uptoSmall : (H : Type) → List (DataW H) → Bool := fun _ ds => decide (uptoBulkAll ds ≤ 1048576)
def OpenSpec.upto (s : _root_.Go.ChangeSpec) : _root_.Go.OpenSpec := { _root_.Go.OpenSpec.ofChange s with cond := some uptoSmall }

/-- 'hearsaylaw17.MemberCmps', WHERE WHAT IT READS IS OF BULK AT MOST 1048576: true; the input reads as it did. -/
def memberCmpsUptoRow : OpenClaim := { program := "ytognmibankcefaa", sum := "0e3ae9c0faae5148805b347a16e19a85fac403539a613be11a874e2a90b86e92", func := "hearsay/hearsaylaw17.MemberCmps", spec := "memberCmps", unfollowed := true, recurses := true, apart := false, narrowed := true }
def MemberCmpsUptoSaid : Prop := memberCmpsUptoRow.holds Try.pinned (OpenSpec.upto memberCmpsSpec)

/-- 'hearsaylaw17.MemberMeets', WHERE WHAT IT READS IS OF BULK AT MOST 1048576: true; the input reads as it did. -/
def memberMeetsUptoRow : OpenClaim := { program := "ytognmibankcefaa", sum := "0e3ae9c0faae5148805b347a16e19a85fac403539a613be11a874e2a90b86e92", func := "hearsay/hearsaylaw17.MemberMeets", spec := "memberMeets", unfollowed := true, recurses := true, apart := false, narrowed := true }
def MemberMeetsUptoSaid : Prop := memberMeetsUptoRow.holds Try.pinned (OpenSpec.upto memberMeetsSpec)

/-- 'hearsaylaw17.MemberLattice', WHERE WHAT IT READS IS OF BULK AT MOST 1048576: true; the input reads as it did. -/
def memberLatticeUptoRow : OpenClaim := { program := "ytognmibankcefaa", sum := "0e3ae9c0faae5148805b347a16e19a85fac403539a613be11a874e2a90b86e92", func := "hearsay/hearsaylaw17.MemberLattice", spec := "memberLattice", unfollowed := true, recurses := true, apart := false, narrowed := true }
def MemberLatticeUptoSaid : Prop := memberLatticeUptoRow.holds Try.pinned (OpenSpec.upto memberLatticeSpec)

/-- 'hearsaylaw17.MemberPlays', WHERE WHAT IT READS IS OF BULK AT MOST 1048576: true; the input reads as it did. -/
def memberPlaysUptoRow : OpenClaim := { program := "ytognmibankcefaa", sum := "0e3ae9c0faae5148805b347a16e19a85fac403539a613be11a874e2a90b86e92", func := "hearsay/hearsaylaw17.MemberPlays", spec := "memberPlays", inPlace := ["maps.clone"], unfollowed := true, recurses := true, apart := false, narrowed := true }
def MemberPlaysUptoSaid : Prop := memberPlaysUptoRow.holds Try.pinned (OpenSpec.upto memberPlaysSpec)

/-- 'hearsaylaw17.MemberNil', WHERE WHAT IT READS IS OF BULK AT MOST 1048576: true; the input reads as it did. -/
def memberNilUptoRow : OpenClaim := { program := "ytognmibankcefaa", sum := "0e3ae9c0faae5148805b347a16e19a85fac403539a613be11a874e2a90b86e92", func := "hearsay/hearsaylaw17.MemberNil", spec := "memberNil", inPlace := ["maps.clone"], unfollowed := true, recurses := true, apart := false, narrowed := true }
def MemberNilUptoSaid : Prop := memberNilUptoRow.holds Try.pinned (OpenSpec.upto memberNilSpec)

/-- 'hearsaylaw17.MemberRises', WHERE WHAT IT READS IS OF BULK AT MOST 1048576: true; the input reads as it did. -/
def memberRisesUptoRow : OpenClaim := { program := "ytognmibankcefaa", sum := "0e3ae9c0faae5148805b347a16e19a85fac403539a613be11a874e2a90b86e92", func := "hearsay/hearsaylaw17.MemberRises", spec := "memberRises", inPlace := ["maps.clone"], unfollowed := true, recurses := true, apart := false, narrowed := true }
def MemberRisesUptoSaid : Prop := memberRisesUptoRow.holds Try.pinned (OpenSpec.upto memberRisesSpec)

end Rows
end Go.Proofs.Ytognmibankcefaa
