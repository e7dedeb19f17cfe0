/-
  No cell of these rows narrows 'for every input' (looked for: loops, veiled, ifaces, maps, wideKeys, modest, calm, conditions, laid).
  DERIVED. THE GIVEN ROWS OF THIS SEAT. 7 by the template 'for every input the law returns true; each argument reads behind the call as it read before'; 0 by the template 'total and deterministic' (their statements: YthilbincoogfkaaTotals.lean).
  GIVEN WITH THE SEED: the statements are not yours to turn. If you find one false, say at which input.
  Laid BY PROGRAM, IN A SANDBOX (cutbox-rows.mjs): the forced cells as the released guide's own fill.sh prints them over the translation e63143f337ddfaa3… (all of the seat's roots in one cut). By AI agents, Wed Nov 11 2026. No macro, syntax, notation, axiom, sorry.
-/
import Derived.Test.YthilbincoogfkaaChecked
import GoSem.Claim
import GoSem.ClaimJoined
import GoSem.ClaimMapViews
import Derived.JoinedTies
import Derived.KernelRfl
namespace Go.Proofs.Ythilbincoogfkaa
/- THE CELL 'sum', in the pinned program and in every row, IS THE sha256 OF THE DUMP (.gsa) THAT YthilbincoogfkaaProg.lean LOADS. Nothing in Lean hashes anything: it is a label: what it is worth is what the hold of that sum in a sandbox is worth. -/
noncomputable def Try.pinned : Pinned := { name := "ythilbincoogfkaa", sum := "e63143f337ddfaa35f7f9c4aabb3cc4e20fbaf1699ae7a64ac86bfa7e9821306", checked := Try.checked }
namespace Rows
def none {H : Type} : Left H := { results := [], args := [] }

/-- 'laws.FnExactBackwardOf': WHATEVER THE INPUT: true; the input reads as it did. -/
def fnExactBackwardOfSpec : ChangeSpec := { name := "fnExactBackwardOf", fn := fun _ => fun
  | [d1, d2] => { results := [.lit (.bool true)], args := [d1, d2] }
  | _ => none }
def fnExactBackwardOfRow : OpenClaim := { program := "ythilbincoogfkaa", sum := "e63143f337ddfaa35f7f9c4aabb3cc4e20fbaf1699ae7a64ac86bfa7e9821306", func := "loop.example/g01357/laws.FnExactBackwardOf", spec := "fnExactBackwardOf", unfollowed := true, recurses := true, apart := false }
def FnExactBackwardOfSaid : Prop := fnExactBackwardOfRow.holds Try.pinned (OpenSpec.ofChange fnExactBackwardOfSpec)

/-- ITS FALSE NEIGHBOUR: 'it returns false'. Refute it at one input. -/
def fnExactBackwardOfWrong : ChangeSpec := { name := "fnExactBackwardOf", fn := fun _ => fun
  | [d1, d2] => { results := [.lit (.bool false)], args := [d1, d2] }
  | _ => none }
def FnExactBackwardOfWrongFalsely : Prop := fnExactBackwardOfRow.holds Try.pinned (OpenSpec.ofChange fnExactBackwardOfWrong)

/-- 'laws.FnExactHiddenAt': WHATEVER THE INPUT: true; the input reads as it did. -/
def fnExactHiddenAtSpec : ChangeSpec := { name := "fnExactHiddenAt", fn := fun _ => fun
  | [d1, d2, d3] => { results := [.lit (.bool true)], args := [d1, d2, d3] }
  | _ => none }
def fnExactHiddenAtRow : OpenClaim := { program := "ythilbincoogfkaa", sum := "e63143f337ddfaa35f7f9c4aabb3cc4e20fbaf1699ae7a64ac86bfa7e9821306", func := "loop.example/g01357/laws.FnExactHiddenAt", spec := "fnExactHiddenAt", unfollowed := true, recurses := true, apart := false }
def FnExactHiddenAtSaid : Prop := fnExactHiddenAtRow.holds Try.pinned (OpenSpec.ofChange fnExactHiddenAtSpec)

/-- ITS FALSE NEIGHBOUR: 'it returns false'. Refute it at one input. -/
def fnExactHiddenAtWrong : ChangeSpec := { name := "fnExactHiddenAt", fn := fun _ => fun
  | [d1, d2, d3] => { results := [.lit (.bool false)], args := [d1, d2, d3] }
  | _ => none }
def FnExactHiddenAtWrongFalsely : Prop := fnExactHiddenAtRow.holds Try.pinned (OpenSpec.ofChange fnExactHiddenAtWrong)

/-- 'laws.FnExactPairAt': WHATEVER THE INPUT: true; the input reads as it did. -/
def fnExactPairAtSpec : ChangeSpec := { name := "fnExactPairAt", fn := fun _ => fun
  | [d1, d2, d3] => { results := [.lit (.bool true)], args := [d1, d2, d3] }
  | _ => none }
def fnExactPairAtRow : OpenClaim := { program := "ythilbincoogfkaa", sum := "e63143f337ddfaa35f7f9c4aabb3cc4e20fbaf1699ae7a64ac86bfa7e9821306", func := "loop.example/g01357/laws.FnExactPairAt", spec := "fnExactPairAt", unfollowed := true, recurses := true, apart := false }
def FnExactPairAtSaid : Prop := fnExactPairAtRow.holds Try.pinned (OpenSpec.ofChange fnExactPairAtSpec)

/-- ITS FALSE NEIGHBOUR: 'it returns false'. Refute it at one input. -/
def fnExactPairAtWrong : ChangeSpec := { name := "fnExactPairAt", fn := fun _ => fun
  | [d1, d2, d3] => { results := [.lit (.bool false)], args := [d1, d2, d3] }
  | _ => none }
def FnExactPairAtWrongFalsely : Prop := fnExactPairAtRow.holds Try.pinned (OpenSpec.ofChange fnExactPairAtWrong)

/-- 'laws.FnExactLearnOnce': WHATEVER THE INPUT: true; the input reads as it did. -/
def fnExactLearnOnceSpec : ChangeSpec := { name := "fnExactLearnOnce", fn := fun _ => fun
  | [d1, d2] => { results := [.lit (.bool true)], args := [d1, d2] }
  | _ => none }
def fnExactLearnOnceRow : OpenClaim := { program := "ythilbincoogfkaa", sum := "e63143f337ddfaa35f7f9c4aabb3cc4e20fbaf1699ae7a64ac86bfa7e9821306", func := "loop.example/g01357/laws.FnExactLearnOnce", spec := "fnExactLearnOnce", unfollowed := true, recurses := true, apart := false }
def FnExactLearnOnceSaid : Prop := fnExactLearnOnceRow.holds Try.pinned (OpenSpec.ofChange fnExactLearnOnceSpec)

/-- ITS FALSE NEIGHBOUR: 'it returns false'. Refute it at one input. -/
def fnExactLearnOnceWrong : ChangeSpec := { name := "fnExactLearnOnce", fn := fun _ => fun
  | [d1, d2] => { results := [.lit (.bool false)], args := [d1, d2] }
  | _ => none }
def FnExactLearnOnceWrongFalsely : Prop := fnExactLearnOnceRow.holds Try.pinned (OpenSpec.ofChange fnExactLearnOnceWrong)

/-- 'laws.FnExactLearnRounds': WHATEVER THE INPUT: true; the input reads as it did. -/
def fnExactLearnRoundsSpec : ChangeSpec := { name := "fnExactLearnRounds", fn := fun _ => fun
  | [d1, d2, d3] => { results := [.lit (.bool true)], args := [d1, d2, d3] }
  | _ => none }
def fnExactLearnRoundsRow : OpenClaim := { program := "ythilbincoogfkaa", sum := "e63143f337ddfaa35f7f9c4aabb3cc4e20fbaf1699ae7a64ac86bfa7e9821306", func := "loop.example/g01357/laws.FnExactLearnRounds", spec := "fnExactLearnRounds", unfollowed := true, recurses := true, apart := false }
def FnExactLearnRoundsSaid : Prop := fnExactLearnRoundsRow.holds Try.pinned (OpenSpec.ofChange fnExactLearnRoundsSpec)

/-- ITS FALSE NEIGHBOUR: 'it returns false'. Refute it at one input. -/
def fnExactLearnRoundsWrong : ChangeSpec := { name := "fnExactLearnRounds", fn := fun _ => fun
  | [d1, d2, d3] => { results := [.lit (.bool false)], args := [d1, d2, d3] }
  | _ => none }
def FnExactLearnRoundsWrongFalsely : Prop := fnExactLearnRoundsRow.holds Try.pinned (OpenSpec.ofChange fnExactLearnRoundsWrong)

/-- 'laws.FnExactLikesShared': WHATEVER THE INPUT: true; the input reads as it did. -/
def fnExactLikesSharedSpec : ChangeSpec := { name := "fnExactLikesShared", fn := fun _ => fun
  | [d1, d2, d3] => { results := [.lit (.bool true)], args := [d1, d2, d3] }
  | _ => none }
def fnExactLikesSharedRow : OpenClaim := { program := "ythilbincoogfkaa", sum := "e63143f337ddfaa35f7f9c4aabb3cc4e20fbaf1699ae7a64ac86bfa7e9821306", func := "loop.example/g01357/laws.FnExactLikesShared", spec := "fnExactLikesShared", inPlace := ["math.Float64frombits", "math.Float64bits"], apart := false }
def FnExactLikesSharedSaid : Prop := fnExactLikesSharedRow.holds Try.pinned (OpenSpec.ofChange fnExactLikesSharedSpec)

/-- ITS FALSE NEIGHBOUR: 'it returns false'. Refute it at one input. -/
def fnExactLikesSharedWrong : ChangeSpec := { name := "fnExactLikesShared", fn := fun _ => fun
  | [d1, d2, d3] => { results := [.lit (.bool false)], args := [d1, d2, d3] }
  | _ => none }
def FnExactLikesSharedWrongFalsely : Prop := fnExactLikesSharedRow.holds Try.pinned (OpenSpec.ofChange fnExactLikesSharedWrong)

/-- 'laws.FnExactRecoverKepts': WHATEVER THE INPUT: true; the input reads as it did. -/
def fnExactRecoverKeptsSpec : ChangeSpec := { name := "fnExactRecoverKepts", fn := fun _ => fun
  | [d] => { results := [.lit (.bool true)], args := [d] }
  | _ => none }
def fnExactRecoverKeptsRow : OpenClaim := { program := "ythilbincoogfkaa", sum := "e63143f337ddfaa35f7f9c4aabb3cc4e20fbaf1699ae7a64ac86bfa7e9821306", func := "loop.example/g01357/laws.FnExactRecoverKepts", spec := "fnExactRecoverKepts", apart := false }
def FnExactRecoverKeptsSaid : Prop := fnExactRecoverKeptsRow.holds Try.pinned (OpenSpec.ofChange fnExactRecoverKeptsSpec)

/-- ITS FALSE NEIGHBOUR: 'it returns false'. Refute it at one input. -/
def fnExactRecoverKeptsWrong : ChangeSpec := { name := "fnExactRecoverKepts", fn := fun _ => fun
  | [d] => { results := [.lit (.bool false)], args := [d] }
  | _ => none }
def FnExactRecoverKeptsWrongFalsely : Prop := fnExactRecoverKeptsRow.holds Try.pinned (OpenSpec.ofChange fnExactRecoverKeptsWrong)

/- THE SECOND FORM. 'bulk': how many values and letters a reading holds, each counted each time it is reached (what is shared counts as often as it is met; a slice's spare places count too). A statement '..UptoSaid' is the law's where the arguments, and the package variables that the reading takes, are together of bulk at most 1048576: NARROWER than '..Said'. Prove '..Said' where nothing that the law and all that it calls make is longer than what came in: it says more and counts as full. Else prove '..UptoSaid'. A law counts once. -/
mutual
def uptoBulk {H : Type} : DataW H → Nat
  | .lit (.string bytes) => bytes.length + 1
  | .lit _ => 1
  | .nil => 1
  | .ptr d => uptoBulk d + 1
  | .slice elems spare => uptoBulkAll elems + uptoBulkAll spare + 1
  | .agg parts => uptoBulkAll parts + 1
  | .iface _ d => uptoBulk d + 1
  | .map entries => uptoBulkEntries entries + 1
  | .held _ => 1
def uptoBulkAll {H : Type} : List (DataW H) → Nat
  | [] => 0
  | d :: r => uptoBulk d + uptoBulkAll r
def uptoBulkEntries {H : Type} : List (Lit × DataW H) → Nat
  | [] => 0
  | x :: r => uptoBulkEntry x + uptoBulkEntries r
def uptoBulkEntry {H : Type} : Lit × DataW H → Nat
  | (.string bytes, d) => bytes.length + uptoBulk d + 1
  | (_, d) => uptoBulk d + 1
 end
def uptoSmall : (H : Type) → List (DataW H) → Bool := fun _ ds => decide (uptoBulkAll ds ≤ 1048576)
def OpenSpec.upto (s : _root_.Go.ChangeSpec) : _root_.Go.OpenSpec := { _root_.Go.OpenSpec.ofChange s with cond := some uptoSmall }

/-- 'laws.FnExactBackwardOf', WHERE WHAT IT READS IS OF BULK AT MOST 1048576: true; the input reads as it did. -/
def fnExactBackwardOfUptoRow : OpenClaim := { program := "ythilbincoogfkaa", sum := "e63143f337ddfaa35f7f9c4aabb3cc4e20fbaf1699ae7a64ac86bfa7e9821306", func := "loop.example/g01357/laws.FnExactBackwardOf", spec := "fnExactBackwardOf", unfollowed := true, recurses := true, apart := false, narrowed := true }
def FnExactBackwardOfUptoSaid : Prop := fnExactBackwardOfUptoRow.holds Try.pinned (OpenSpec.upto fnExactBackwardOfSpec)

/-- 'laws.FnExactHiddenAt', WHERE WHAT IT READS IS OF BULK AT MOST 1048576: true; the input reads as it did. -/
def fnExactHiddenAtUptoRow : OpenClaim := { program := "ythilbincoogfkaa", sum := "e63143f337ddfaa35f7f9c4aabb3cc4e20fbaf1699ae7a64ac86bfa7e9821306", func := "loop.example/g01357/laws.FnExactHiddenAt", spec := "fnExactHiddenAt", unfollowed := true, recurses := true, apart := false, narrowed := true }
def FnExactHiddenAtUptoSaid : Prop := fnExactHiddenAtUptoRow.holds Try.pinned (OpenSpec.upto fnExactHiddenAtSpec)

/-- 'laws.FnExactPairAt', WHERE WHAT IT READS IS OF BULK AT MOST 1048576: true; the input reads as it did. -/
def fnExactPairAtUptoRow : OpenClaim := { program := "ythilbincoogfkaa", sum := "e63143f337ddfaa35f7f9c4aabb3cc4e20fbaf1699ae7a64ac86bfa7e9821306", func := "loop.example/g01357/laws.FnExactPairAt", spec := "fnExactPairAt", unfollowed := true, recurses := true, apart := false, narrowed := true }
def FnExactPairAtUptoSaid : Prop := fnExactPairAtUptoRow.holds Try.pinned (OpenSpec.upto fnExactPairAtSpec)

/-- 'laws.FnExactLearnOnce', WHERE WHAT IT READS IS OF BULK AT MOST 1048576: true; the input reads as it did. -/
def fnExactLearnOnceUptoRow : OpenClaim := { program := "ythilbincoogfkaa", sum := "e63143f337ddfaa35f7f9c4aabb3cc4e20fbaf1699ae7a64ac86bfa7e9821306", func := "loop.example/g01357/laws.FnExactLearnOnce", spec := "fnExactLearnOnce", unfollowed := true, recurses := true, apart := false, narrowed := true }
def FnExactLearnOnceUptoSaid : Prop := fnExactLearnOnceUptoRow.holds Try.pinned (OpenSpec.upto fnExactLearnOnceSpec)

/-- 'laws.FnExactLearnRounds', WHERE WHAT IT READS IS OF BULK AT MOST 1048576: true; the input reads as it did. -/
def fnExactLearnRoundsUptoRow : OpenClaim := { program := "ythilbincoogfkaa", sum := "e63143f337ddfaa35f7f9c4aabb3cc4e20fbaf1699ae7a64ac86bfa7e9821306", func := "loop.example/g01357/laws.FnExactLearnRounds", spec := "fnExactLearnRounds", unfollowed := true, recurses := true, apart := false, narrowed := true }
def FnExactLearnRoundsUptoSaid : Prop := fnExactLearnRoundsUptoRow.holds Try.pinned (OpenSpec.upto fnExactLearnRoundsSpec)

/-- 'laws.FnExactLikesShared', WHERE WHAT IT READS IS OF BULK AT MOST 1048576: true; the input reads as it did. -/
def fnExactLikesSharedUptoRow : OpenClaim := { program := "ythilbincoogfkaa", sum := "e63143f337ddfaa35f7f9c4aabb3cc4e20fbaf1699ae7a64ac86bfa7e9821306", func := "loop.example/g01357/laws.FnExactLikesShared", spec := "fnExactLikesShared", inPlace := ["math.Float64frombits", "math.Float64bits"], apart := false, narrowed := true }
def FnExactLikesSharedUptoSaid : Prop := fnExactLikesSharedUptoRow.holds Try.pinned (OpenSpec.upto fnExactLikesSharedSpec)

/-- 'laws.FnExactRecoverKepts', WHERE WHAT IT READS IS OF BULK AT MOST 1048576: true; the input reads as it did. -/
def fnExactRecoverKeptsUptoRow : OpenClaim := { program := "ythilbincoogfkaa", sum := "e63143f337ddfaa35f7f9c4aabb3cc4e20fbaf1699ae7a64ac86bfa7e9821306", func := "loop.example/g01357/laws.FnExactRecoverKepts", spec := "fnExactRecoverKepts", apart := false, narrowed := true }
def FnExactRecoverKeptsUptoSaid : Prop := fnExactRecoverKeptsUptoRow.holds Try.pinned (OpenSpec.upto fnExactRecoverKeptsSpec)

end Rows
end Go.Proofs.Ythilbincoogfkaa
