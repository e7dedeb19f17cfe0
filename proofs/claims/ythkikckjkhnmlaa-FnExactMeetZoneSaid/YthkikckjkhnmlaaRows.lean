/-
  No cell of these rows narrows 'for every input' (looked for: loops, veiled, ifaces, maps, wideKeys, modest, calm, conditions, laid).
  DERIVED. THE GIVEN ROWS OF THIS SEAT. 6 by the template 'for every input the law returns true; each argument reads behind the call as it read before'; 0 by the template 'total and deterministic' (their statements: YthkikckjkhnmlaaTotals.lean).
  GIVEN WITH THE SEED: the statements are not yours to turn. If you find one false, say at which input.
  Laid BY PROGRAM, IN A SANDBOX (cutbox-rows.mjs): the forced cells as the released guide's own fill.sh prints them over the translation 80a230b05beaebf7… (all of the seat's roots in one cut). By AI agents, Wed Nov 11 2026. No macro, syntax, notation, axiom, sorry.
-/
import Derived.Test.YthkikckjkhnmlaaChecked
import GoSem.Claim
import GoSem.ClaimJoined
import GoSem.ClaimMapViews
import Derived.JoinedTies
import Derived.KernelRfl
namespace Go.Proofs.Ythkikckjkhnmlaa
/- THE CELL 'sum', in the pinned program and in every row, IS THE sha256 OF THE DUMP (.gsa) THAT YthkikckjkhnmlaaProg.lean LOADS. Nothing in Lean hashes anything: it is a label: what it is worth is what the hold of that sum in a sandbox is worth. -/
noncomputable def Try.pinned : Pinned := { name := "ythkikckjkhnmlaa", sum := "80a230b05beaebf7281453847f60ad6df82c8a334890e5f7d95f1ce7fa4a82ac", checked := Try.checked }
namespace Rows
def none {H : Type} : Left H := { results := [], args := [] }

/-- 'laws.FnExactNormalLoop': WHATEVER THE INPUT: true; the input reads as it did. -/
def fnExactNormalLoopSpec : ChangeSpec := { name := "fnExactNormalLoop", fn := fun _ => fun
  | [d1, d2] => { results := [.lit (.bool true)], args := [d1, d2] }
  | _ => none }
def fnExactNormalLoopRow : OpenClaim := { program := "ythkikckjkhnmlaa", sum := "80a230b05beaebf7281453847f60ad6df82c8a334890e5f7d95f1ce7fa4a82ac", func := "loop.example/g01357/laws.FnExactNormalLoop", spec := "fnExactNormalLoop", apart := false }
def FnExactNormalLoopSaid : Prop := fnExactNormalLoopRow.holds Try.pinned (OpenSpec.ofChange fnExactNormalLoopSpec)

/-- ITS FALSE NEIGHBOUR: 'it returns false'. Refute it at one input. -/
def fnExactNormalLoopWrong : ChangeSpec := { name := "fnExactNormalLoop", fn := fun _ => fun
  | [d1, d2] => { results := [.lit (.bool false)], args := [d1, d2] }
  | _ => none }
def FnExactNormalLoopWrongFalsely : Prop := fnExactNormalLoopRow.holds Try.pinned (OpenSpec.ofChange fnExactNormalLoopWrong)

/-- 'laws.FnExactMeetZone': WHATEVER THE INPUT: true; the input reads as it did. -/
def fnExactMeetZoneSpec : ChangeSpec := { name := "fnExactMeetZone", fn := fun _ => fun
  | [d1, d2] => { results := [.lit (.bool true)], args := [d1, d2] }
  | _ => none }
def fnExactMeetZoneRow : OpenClaim := { program := "ythkikckjkhnmlaa", sum := "80a230b05beaebf7281453847f60ad6df82c8a334890e5f7d95f1ce7fa4a82ac", func := "loop.example/g01357/laws.FnExactMeetZone", spec := "fnExactMeetZone", apart := false }
def FnExactMeetZoneSaid : Prop := fnExactMeetZoneRow.holds Try.pinned (OpenSpec.ofChange fnExactMeetZoneSpec)

/-- ITS FALSE NEIGHBOUR: 'it returns false'. Refute it at one input. -/
def fnExactMeetZoneWrong : ChangeSpec := { name := "fnExactMeetZone", fn := fun _ => fun
  | [d1, d2] => { results := [.lit (.bool false)], args := [d1, d2] }
  | _ => none }
def FnExactMeetZoneWrongFalsely : Prop := fnExactMeetZoneRow.holds Try.pinned (OpenSpec.ofChange fnExactMeetZoneWrong)

/-- 'laws.FnExactLaterZone': WHATEVER THE INPUT: true; the input reads as it did. -/
def fnExactLaterZoneSpec : ChangeSpec := { name := "fnExactLaterZone", fn := fun _ => fun
  | [d] => { results := [.lit (.bool true)], args := [d] }
  | _ => none }
def fnExactLaterZoneRow : OpenClaim := { program := "ythkikckjkhnmlaa", sum := "80a230b05beaebf7281453847f60ad6df82c8a334890e5f7d95f1ce7fa4a82ac", func := "loop.example/g01357/laws.FnExactLaterZone", spec := "fnExactLaterZone", apart := false }
def FnExactLaterZoneSaid : Prop := fnExactLaterZoneRow.holds Try.pinned (OpenSpec.ofChange fnExactLaterZoneSpec)

/-- ITS FALSE NEIGHBOUR: 'it returns false'. Refute it at one input. -/
def fnExactLaterZoneWrong : ChangeSpec := { name := "fnExactLaterZone", fn := fun _ => fun
  | [d] => { results := [.lit (.bool false)], args := [d] }
  | _ => none }
def FnExactLaterZoneWrongFalsely : Prop := fnExactLaterZoneRow.holds Try.pinned (OpenSpec.ofChange fnExactLaterZoneWrong)

/-- 'laws.FnExactResetZone': WHATEVER THE INPUT: true; the input reads as it did. -/
def fnExactResetZoneSpec : ChangeSpec := { name := "fnExactResetZone", fn := fun _ => fun
  | [d1, d2] => { results := [.lit (.bool true)], args := [d1, d2] }
  | _ => none }
def fnExactResetZoneRow : OpenClaim := { program := "ythkikckjkhnmlaa", sum := "80a230b05beaebf7281453847f60ad6df82c8a334890e5f7d95f1ce7fa4a82ac", func := "loop.example/g01357/laws.FnExactResetZone", spec := "fnExactResetZone", apart := false }
def FnExactResetZoneSaid : Prop := fnExactResetZoneRow.holds Try.pinned (OpenSpec.ofChange fnExactResetZoneSpec)

/-- ITS FALSE NEIGHBOUR: 'it returns false'. Refute it at one input. -/
def fnExactResetZoneWrong : ChangeSpec := { name := "fnExactResetZone", fn := fun _ => fun
  | [d1, d2] => { results := [.lit (.bool false)], args := [d1, d2] }
  | _ => none }
def FnExactResetZoneWrongFalsely : Prop := fnExactResetZoneRow.holds Try.pinned (OpenSpec.ofChange fnExactResetZoneWrong)

/-- 'laws.FnKepts': WHATEVER THE INPUT: true; the input reads as it did. -/
def fnKeptsSpec : ChangeSpec := { name := "fnKepts", fn := fun _ => fun
  | [d1, d2] => { results := [.lit (.bool true)], args := [d1, d2] }
  | _ => none }
def fnKeptsRow : OpenClaim := { program := "ythkikckjkhnmlaa", sum := "80a230b05beaebf7281453847f60ad6df82c8a334890e5f7d95f1ce7fa4a82ac", func := "loop.example/g01357/laws.FnKepts", spec := "fnKepts", unfollowed := true, recurses := true, apart := false }
def FnKeptsSaid : Prop := fnKeptsRow.holds Try.pinned (OpenSpec.ofChange fnKeptsSpec)

/-- ITS FALSE NEIGHBOUR: 'it returns false'. Refute it at one input. -/
def fnKeptsWrong : ChangeSpec := { name := "fnKepts", fn := fun _ => fun
  | [d1, d2] => { results := [.lit (.bool false)], args := [d1, d2] }
  | _ => none }
def FnKeptsWrongFalsely : Prop := fnKeptsRow.holds Try.pinned (OpenSpec.ofChange fnKeptsWrong)

/-- 'laws.FnExactSameKept': WHATEVER THE INPUT: true; the input reads as it did. -/
def fnExactSameKeptSpec : ChangeSpec := { name := "fnExactSameKept", fn := fun _ => fun
  | [d1, d2] => { results := [.lit (.bool true)], args := [d1, d2] }
  | _ => none }
def fnExactSameKeptRow : OpenClaim := { program := "ythkikckjkhnmlaa", sum := "80a230b05beaebf7281453847f60ad6df82c8a334890e5f7d95f1ce7fa4a82ac", func := "loop.example/g01357/laws.FnExactSameKept", spec := "fnExactSameKept", unfollowed := true, recurses := true, apart := false }
def FnExactSameKeptSaid : Prop := fnExactSameKeptRow.holds Try.pinned (OpenSpec.ofChange fnExactSameKeptSpec)

/-- ITS FALSE NEIGHBOUR: 'it returns false'. Refute it at one input. -/
def fnExactSameKeptWrong : ChangeSpec := { name := "fnExactSameKept", fn := fun _ => fun
  | [d1, d2] => { results := [.lit (.bool false)], args := [d1, d2] }
  | _ => none }
def FnExactSameKeptWrongFalsely : Prop := fnExactSameKeptRow.holds Try.pinned (OpenSpec.ofChange fnExactSameKeptWrong)

/- THE SECOND FORM. 'bulk': how many values and letters a reading holds, each counted each time it is reached (what is shared counts as often as it is met; a slice's spare places count too). A statement '..UptoSaid' is the law's where the arguments, and the package variables that the reading takes, are together of bulk at most 1048576: NARROWER than '..Said'. Prove '..Said' where nothing that the law and all that it calls make is longer than what came in: it says more and counts as full. Else prove '..UptoSaid'. A law counts once. -/
mutual
def uptoBulk {H : Type} : DataW H → Nat
  | .lit (.string bytes) => bytes.length + 1
  | .lit _ => 1
  | .nil => 1
  | .ptr d => uptoBulk d + 1
  | .slice elems spare => uptoBulkAll elems + uptoBulkAll spare + 1
  | .agg parts => uptoBulkAll parts + 1
  | .iface _ d => uptoBulk d + 1
  | .map entries => uptoBulkEntries entries + 1
  | .held _ => 1
def uptoBulkAll {H : Type} : List (DataW H) → Nat
  | [] => 0
  | d :: r => uptoBulk d + uptoBulkAll r
def uptoBulkEntries {H : Type} : List (Lit × DataW H) → Nat
  | [] => 0
  | x :: r => uptoBulkEntry x + uptoBulkEntries r
def uptoBulkEntry {H : Type} : Lit × DataW H → Nat
  | (.string bytes, d) => bytes.length + uptoBulk d + 1
  | (_, d) => uptoBulk d + 1
 end
def uptoSmall : (H : Type) → List (DataW H) → Bool := fun _ ds => decide (uptoBulkAll ds ≤ 1048576)
def OpenSpec.upto (s : _root_.Go.ChangeSpec) : _root_.Go.OpenSpec := { _root_.Go.OpenSpec.ofChange s with cond := some uptoSmall }

/-- 'laws.FnExactNormalLoop', WHERE WHAT IT READS IS OF BULK AT MOST 1048576: true; the input reads as it did. -/
def fnExactNormalLoopUptoRow : OpenClaim := { program := "ythkikckjkhnmlaa", sum := "80a230b05beaebf7281453847f60ad6df82c8a334890e5f7d95f1ce7fa4a82ac", func := "loop.example/g01357/laws.FnExactNormalLoop", spec := "fnExactNormalLoop", apart := false, narrowed := true }
def FnExactNormalLoopUptoSaid : Prop := fnExactNormalLoopUptoRow.holds Try.pinned (OpenSpec.upto fnExactNormalLoopSpec)

/-- 'laws.FnExactMeetZone', WHERE WHAT IT READS IS OF BULK AT MOST 1048576: true; the input reads as it did. -/
def fnExactMeetZoneUptoRow : OpenClaim := { program := "ythkikckjkhnmlaa", sum := "80a230b05beaebf7281453847f60ad6df82c8a334890e5f7d95f1ce7fa4a82ac", func := "loop.example/g01357/laws.FnExactMeetZone", spec := "fnExactMeetZone", apart := false, narrowed := true }
def FnExactMeetZoneUptoSaid : Prop := fnExactMeetZoneUptoRow.holds Try.pinned (OpenSpec.upto fnExactMeetZoneSpec)

/-- 'laws.FnExactLaterZone', WHERE WHAT IT READS IS OF BULK AT MOST 1048576: true; the input reads as it did. -/
def fnExactLaterZoneUptoRow : OpenClaim := { program := "ythkikckjkhnmlaa", sum := "80a230b05beaebf7281453847f60ad6df82c8a334890e5f7d95f1ce7fa4a82ac", func := "loop.example/g01357/laws.FnExactLaterZone", spec := "fnExactLaterZone", apart := false, narrowed := true }
def FnExactLaterZoneUptoSaid : Prop := fnExactLaterZoneUptoRow.holds Try.pinned (OpenSpec.upto fnExactLaterZoneSpec)

/-- 'laws.FnExactResetZone', WHERE WHAT IT READS IS OF BULK AT MOST 1048576: true; the input reads as it did. -/
def fnExactResetZoneUptoRow : OpenClaim := { program := "ythkikckjkhnmlaa", sum := "80a230b05beaebf7281453847f60ad6df82c8a334890e5f7d95f1ce7fa4a82ac", func := "loop.example/g01357/laws.FnExactResetZone", spec := "fnExactResetZone", apart := false, narrowed := true }
def FnExactResetZoneUptoSaid : Prop := fnExactResetZoneUptoRow.holds Try.pinned (OpenSpec.upto fnExactResetZoneSpec)

/-- 'laws.FnKepts', WHERE WHAT IT READS IS OF BULK AT MOST 1048576: true; the input reads as it did. -/
def fnKeptsUptoRow : OpenClaim := { program := "ythkikckjkhnmlaa", sum := "80a230b05beaebf7281453847f60ad6df82c8a334890e5f7d95f1ce7fa4a82ac", func := "loop.example/g01357/laws.FnKepts", spec := "fnKepts", unfollowed := true, recurses := true, apart := false, narrowed := true }
def FnKeptsUptoSaid : Prop := fnKeptsUptoRow.holds Try.pinned (OpenSpec.upto fnKeptsSpec)

/-- 'laws.FnExactSameKept', WHERE WHAT IT READS IS OF BULK AT MOST 1048576: true; the input reads as it did. -/
def fnExactSameKeptUptoRow : OpenClaim := { program := "ythkikckjkhnmlaa", sum := "80a230b05beaebf7281453847f60ad6df82c8a334890e5f7d95f1ce7fa4a82ac", func := "loop.example/g01357/laws.FnExactSameKept", spec := "fnExactSameKept", unfollowed := true, recurses := true, apart := false, narrowed := true }
def FnExactSameKeptUptoSaid : Prop := fnExactSameKeptUptoRow.holds Try.pinned (OpenSpec.upto fnExactSameKeptSpec)

end Rows
end Go.Proofs.Ythkikckjkhnmlaa
