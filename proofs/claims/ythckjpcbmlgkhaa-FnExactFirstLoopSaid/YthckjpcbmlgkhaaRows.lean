/-
  No cell of these rows narrows 'for every input' (looked for: loops, veiled, ifaces, maps, wideKeys, modest, calm, conditions, laid).
  DERIVED. THE GIVEN ROWS OF THIS SEAT. 12 by the template 'for every input the law returns true; each argument reads behind the call as it read before'; 0 by the template 'total and deterministic' (their statements: YthckjpcbmlgkhaaTotals.lean).
  GIVEN WITH THE SEED: the statements are not yours to turn. If you find one false, say at which input.
  Laid BY PROGRAM, IN A SANDBOX (cutbox-rows.mjs): the forced cells as the released guide's own fill.sh prints them over the translation b36e91d94442ea56… (all of the seat's roots in one cut). By AI agents, Wed Nov 11 2026. No macro, syntax, notation, axiom, sorry.
-/
import Derived.Test.YthckjpcbmlgkhaaChecked
import GoSem.Claim
import GoSem.ClaimJoined
import GoSem.ClaimMapViews
import Derived.JoinedTies
import Derived.KernelRfl
namespace Go.Proofs.Ythckjpcbmlgkhaa
/- THE CELL 'sum', in the pinned program and in every row, IS THE sha256 OF THE DUMP (.gsa) THAT YthckjpcbmlgkhaaProg.lean LOADS. Nothing in Lean hashes anything: it is a label: what it is worth is what the hold of that sum in a sandbox is worth. -/
noncomputable def Try.pinned : Pinned := { name := "ythckjpcbmlgkhaa", sum := "b36e91d94442ea5678dc9b4101a0c96ee9f8d7f2b52c70c87f109aa6802019ae", checked := Try.checked }
namespace Rows
def none {H : Type} : Left H := { results := [], args := [] }

/-- 'laws.FnExactApartModels': WHATEVER THE INPUT: true; the input reads as it did. -/
def fnExactApartModelsSpec : ChangeSpec := { name := "fnExactApartModels", fn := fun _ => fun
  | [d1, d2, d3] => { results := [.lit (.bool true)], args := [d1, d2, d3] }
  | _ => none }
def fnExactApartModelsRow : OpenClaim := { program := "ythckjpcbmlgkhaa", sum := "b36e91d94442ea5678dc9b4101a0c96ee9f8d7f2b52c70c87f109aa6802019ae", func := "loop.example/g01357/laws.FnExactApartModels", spec := "fnExactApartModels", apart := false }
def FnExactApartModelsSaid : Prop := fnExactApartModelsRow.holds Try.pinned (OpenSpec.ofChange fnExactApartModelsSpec)

/-- ITS FALSE NEIGHBOUR: 'it returns false'. Refute it at one input. -/
def fnExactApartModelsWrong : ChangeSpec := { name := "fnExactApartModels", fn := fun _ => fun
  | [d1, d2, d3] => { results := [.lit (.bool false)], args := [d1, d2, d3] }
  | _ => none }
def FnExactApartModelsWrongFalsely : Prop := fnExactApartModelsRow.holds Try.pinned (OpenSpec.ofChange fnExactApartModelsWrong)

/-- 'laws.FnExactFirstLoop': WHATEVER THE INPUT: true; the input reads as it did. -/
def fnExactFirstLoopSpec : ChangeSpec := { name := "fnExactFirstLoop", fn := fun _ => fun
  | [d1, d2] => { results := [.lit (.bool true)], args := [d1, d2] }
  | _ => none }
def fnExactFirstLoopRow : OpenClaim := { program := "ythckjpcbmlgkhaa", sum := "b36e91d94442ea5678dc9b4101a0c96ee9f8d7f2b52c70c87f109aa6802019ae", func := "loop.example/g01357/laws.FnExactFirstLoop", spec := "fnExactFirstLoop", apart := false }
def FnExactFirstLoopSaid : Prop := fnExactFirstLoopRow.holds Try.pinned (OpenSpec.ofChange fnExactFirstLoopSpec)

/-- ITS FALSE NEIGHBOUR: 'it returns false'. Refute it at one input. -/
def fnExactFirstLoopWrong : ChangeSpec := { name := "fnExactFirstLoop", fn := fun _ => fun
  | [d1, d2] => { results := [.lit (.bool false)], args := [d1, d2] }
  | _ => none }
def FnExactFirstLoopWrongFalsely : Prop := fnExactFirstLoopRow.holds Try.pinned (OpenSpec.ofChange fnExactFirstLoopWrong)

/-- 'laws.FnExactForwardOf': WHATEVER THE INPUT: true; the input reads as it did. -/
def fnExactForwardOfSpec : ChangeSpec := { name := "fnExactForwardOf", fn := fun _ => fun
  | [d1, d2] => { results := [.lit (.bool true)], args := [d1, d2] }
  | _ => none }
def fnExactForwardOfRow : OpenClaim := { program := "ythckjpcbmlgkhaa", sum := "b36e91d94442ea5678dc9b4101a0c96ee9f8d7f2b52c70c87f109aa6802019ae", func := "loop.example/g01357/laws.FnExactForwardOf", spec := "fnExactForwardOf", unfollowed := true, recurses := true, apart := false }
def FnExactForwardOfSaid : Prop := fnExactForwardOfRow.holds Try.pinned (OpenSpec.ofChange fnExactForwardOfSpec)

/-- ITS FALSE NEIGHBOUR: 'it returns false'. Refute it at one input. -/
def fnExactForwardOfWrong : ChangeSpec := { name := "fnExactForwardOf", fn := fun _ => fun
  | [d1, d2] => { results := [.lit (.bool false)], args := [d1, d2] }
  | _ => none }
def FnExactForwardOfWrongFalsely : Prop := fnExactForwardOfRow.holds Try.pinned (OpenSpec.ofChange fnExactForwardOfWrong)

/-- 'laws.FnExactNextLetters': WHATEVER THE INPUT: true; the input reads as it did. -/
def fnExactNextLettersSpec : ChangeSpec := { name := "fnExactNextLetters", fn := fun _ => fun
  | [d1, d2] => { results := [.lit (.bool true)], args := [d1, d2] }
  | _ => none }
def fnExactNextLettersRow : OpenClaim := { program := "ythckjpcbmlgkhaa", sum := "b36e91d94442ea5678dc9b4101a0c96ee9f8d7f2b52c70c87f109aa6802019ae", func := "loop.example/g01357/laws.FnExactNextLetters", spec := "fnExactNextLetters", unfollowed := true, recurses := true, apart := false }
def FnExactNextLettersSaid : Prop := fnExactNextLettersRow.holds Try.pinned (OpenSpec.ofChange fnExactNextLettersSpec)

/-- ITS FALSE NEIGHBOUR: 'it returns false'. Refute it at one input. -/
def fnExactNextLettersWrong : ChangeSpec := { name := "fnExactNextLetters", fn := fun _ => fun
  | [d1, d2] => { results := [.lit (.bool false)], args := [d1, d2] }
  | _ => none }
def FnExactNextLettersWrongFalsely : Prop := fnExactNextLettersRow.holds Try.pinned (OpenSpec.ofChange fnExactNextLettersWrong)

/-- 'laws.FnExactLogChanceOf': WHATEVER THE INPUT: true; the input reads as it did. -/
def fnExactLogChanceOfSpec : ChangeSpec := { name := "fnExactLogChanceOf", fn := fun _ => fun
  | [d1, d2] => { results := [.lit (.bool true)], args := [d1, d2] }
  | _ => none }
def fnExactLogChanceOfRow : OpenClaim := { program := "ythckjpcbmlgkhaa", sum := "b36e91d94442ea5678dc9b4101a0c96ee9f8d7f2b52c70c87f109aa6802019ae", func := "loop.example/g01357/laws.FnExactLogChanceOf", spec := "fnExactLogChanceOf", inPlace := ["math.Float64frombits", "math.Float64bits"], apart := false }
def FnExactLogChanceOfSaid : Prop := fnExactLogChanceOfRow.holds Try.pinned (OpenSpec.ofChange fnExactLogChanceOfSpec)

/-- ITS FALSE NEIGHBOUR: 'it returns false'. Refute it at one input. -/
def fnExactLogChanceOfWrong : ChangeSpec := { name := "fnExactLogChanceOf", fn := fun _ => fun
  | [d1, d2] => { results := [.lit (.bool false)], args := [d1, d2] }
  | _ => none }
def FnExactLogChanceOfWrongFalsely : Prop := fnExactLogChanceOfRow.holds Try.pinned (OpenSpec.ofChange fnExactLogChanceOfWrong)

/-- 'laws.FnExactBackwardOf': WHATEVER THE INPUT: true; the input reads as it did. -/
def fnExactBackwardOfSpec : ChangeSpec := { name := "fnExactBackwardOf", fn := fun _ => fun
  | [d1, d2] => { results := [.lit (.bool true)], args := [d1, d2] }
  | _ => none }
def fnExactBackwardOfRow : OpenClaim := { program := "ythckjpcbmlgkhaa", sum := "b36e91d94442ea5678dc9b4101a0c96ee9f8d7f2b52c70c87f109aa6802019ae", func := "loop.example/g01357/laws.FnExactBackwardOf", spec := "fnExactBackwardOf", unfollowed := true, recurses := true, apart := false }
def FnExactBackwardOfSaid : Prop := fnExactBackwardOfRow.holds Try.pinned (OpenSpec.ofChange fnExactBackwardOfSpec)

/-- ITS FALSE NEIGHBOUR: 'it returns false'. Refute it at one input. -/
def fnExactBackwardOfWrong : ChangeSpec := { name := "fnExactBackwardOf", fn := fun _ => fun
  | [d1, d2] => { results := [.lit (.bool false)], args := [d1, d2] }
  | _ => none }
def FnExactBackwardOfWrongFalsely : Prop := fnExactBackwardOfRow.holds Try.pinned (OpenSpec.ofChange fnExactBackwardOfWrong)

/-- 'laws.FnExactMoreBits': WHATEVER THE INPUT: true; the input reads as it did. -/
def fnExactMoreBitsSpec : ChangeSpec := { name := "fnExactMoreBits", fn := fun _ => fun
  | [d1, d2, d3] => { results := [.lit (.bool true)], args := [d1, d2, d3] }
  | _ => none }
def fnExactMoreBitsRow : OpenClaim := { program := "ythckjpcbmlgkhaa", sum := "b36e91d94442ea5678dc9b4101a0c96ee9f8d7f2b52c70c87f109aa6802019ae", func := "loop.example/g01357/laws.FnExactMoreBits", spec := "fnExactMoreBits", inPlace := ["math.Float64frombits", "math.Float64bits"], apart := false }
def FnExactMoreBitsSaid : Prop := fnExactMoreBitsRow.holds Try.pinned (OpenSpec.ofChange fnExactMoreBitsSpec)

/-- ITS FALSE NEIGHBOUR: 'it returns false'. Refute it at one input. -/
def fnExactMoreBitsWrong : ChangeSpec := { name := "fnExactMoreBits", fn := fun _ => fun
  | [d1, d2, d3] => { results := [.lit (.bool false)], args := [d1, d2, d3] }
  | _ => none }
def FnExactMoreBitsWrongFalsely : Prop := fnExactMoreBitsRow.holds Try.pinned (OpenSpec.ofChange fnExactMoreBitsWrong)

/-- 'laws.FnExactHiddenAt': WHATEVER THE INPUT: true; the input reads as it did. -/
def fnExactHiddenAtSpec : ChangeSpec := { name := "fnExactHiddenAt", fn := fun _ => fun
  | [d1, d2, d3] => { results := [.lit (.bool true)], args := [d1, d2, d3] }
  | _ => none }
def fnExactHiddenAtRow : OpenClaim := { program := "ythckjpcbmlgkhaa", sum := "b36e91d94442ea5678dc9b4101a0c96ee9f8d7f2b52c70c87f109aa6802019ae", func := "loop.example/g01357/laws.FnExactHiddenAt", spec := "fnExactHiddenAt", unfollowed := true, recurses := true, apart := false }
def FnExactHiddenAtSaid : Prop := fnExactHiddenAtRow.holds Try.pinned (OpenSpec.ofChange fnExactHiddenAtSpec)

/-- ITS FALSE NEIGHBOUR: 'it returns false'. Refute it at one input. -/
def fnExactHiddenAtWrong : ChangeSpec := { name := "fnExactHiddenAt", fn := fun _ => fun
  | [d1, d2, d3] => { results := [.lit (.bool false)], args := [d1, d2, d3] }
  | _ => none }
def FnExactHiddenAtWrongFalsely : Prop := fnExactHiddenAtRow.holds Try.pinned (OpenSpec.ofChange fnExactHiddenAtWrong)

/-- 'laws.FnExactPairAt': WHATEVER THE INPUT: true; the input reads as it did. -/
def fnExactPairAtSpec : ChangeSpec := { name := "fnExactPairAt", fn := fun _ => fun
  | [d1, d2, d3] => { results := [.lit (.bool true)], args := [d1, d2, d3] }
  | _ => none }
def fnExactPairAtRow : OpenClaim := { program := "ythckjpcbmlgkhaa", sum := "b36e91d94442ea5678dc9b4101a0c96ee9f8d7f2b52c70c87f109aa6802019ae", func := "loop.example/g01357/laws.FnExactPairAt", spec := "fnExactPairAt", unfollowed := true, recurses := true, apart := false }
def FnExactPairAtSaid : Prop := fnExactPairAtRow.holds Try.pinned (OpenSpec.ofChange fnExactPairAtSpec)

/-- ITS FALSE NEIGHBOUR: 'it returns false'. Refute it at one input. -/
def fnExactPairAtWrong : ChangeSpec := { name := "fnExactPairAt", fn := fun _ => fun
  | [d1, d2, d3] => { results := [.lit (.bool false)], args := [d1, d2, d3] }
  | _ => none }
def FnExactPairAtWrongFalsely : Prop := fnExactPairAtRow.holds Try.pinned (OpenSpec.ofChange fnExactPairAtWrong)

/-- 'laws.FnExactLikeOf': WHATEVER THE INPUT: true; the input reads as it did. -/
def fnExactLikeOfSpec : ChangeSpec := { name := "fnExactLikeOf", fn := fun _ => fun
  | [d1, d2] => { results := [.lit (.bool true)], args := [d1, d2] }
  | _ => none }
def fnExactLikeOfRow : OpenClaim := { program := "ythckjpcbmlgkhaa", sum := "b36e91d94442ea5678dc9b4101a0c96ee9f8d7f2b52c70c87f109aa6802019ae", func := "loop.example/g01357/laws.FnExactLikeOf", spec := "fnExactLikeOf", inPlace := ["math.Float64frombits", "math.Float64bits"], apart := false }
def FnExactLikeOfSaid : Prop := fnExactLikeOfRow.holds Try.pinned (OpenSpec.ofChange fnExactLikeOfSpec)

/-- ITS FALSE NEIGHBOUR: 'it returns false'. Refute it at one input. -/
def fnExactLikeOfWrong : ChangeSpec := { name := "fnExactLikeOf", fn := fun _ => fun
  | [d1, d2] => { results := [.lit (.bool false)], args := [d1, d2] }
  | _ => none }
def FnExactLikeOfWrongFalsely : Prop := fnExactLikeOfRow.holds Try.pinned (OpenSpec.ofChange fnExactLikeOfWrong)

/-- 'laws.FnExactLikesShared': WHATEVER THE INPUT: true; the input reads as it did. -/
def fnExactLikesSharedSpec : ChangeSpec := { name := "fnExactLikesShared", fn := fun _ => fun
  | [d1, d2, d3] => { results := [.lit (.bool true)], args := [d1, d2, d3] }
  | _ => none }
def fnExactLikesSharedRow : OpenClaim := { program := "ythckjpcbmlgkhaa", sum := "b36e91d94442ea5678dc9b4101a0c96ee9f8d7f2b52c70c87f109aa6802019ae", func := "loop.example/g01357/laws.FnExactLikesShared", spec := "fnExactLikesShared", inPlace := ["math.Float64frombits", "math.Float64bits"], apart := false }
def FnExactLikesSharedSaid : Prop := fnExactLikesSharedRow.holds Try.pinned (OpenSpec.ofChange fnExactLikesSharedSpec)

/-- ITS FALSE NEIGHBOUR: 'it returns false'. Refute it at one input. -/
def fnExactLikesSharedWrong : ChangeSpec := { name := "fnExactLikesShared", fn := fun _ => fun
  | [d1, d2, d3] => { results := [.lit (.bool false)], args := [d1, d2, d3] }
  | _ => none }
def FnExactLikesSharedWrongFalsely : Prop := fnExactLikesSharedRow.holds Try.pinned (OpenSpec.ofChange fnExactLikesSharedWrong)

/-- 'laws.FnExactLearnOnce': WHATEVER THE INPUT: true; the input reads as it did. -/
def fnExactLearnOnceSpec : ChangeSpec := { name := "fnExactLearnOnce", fn := fun _ => fun
  | [d1, d2] => { results := [.lit (.bool true)], args := [d1, d2] }
  | _ => none }
def fnExactLearnOnceRow : OpenClaim := { program := "ythckjpcbmlgkhaa", sum := "b36e91d94442ea5678dc9b4101a0c96ee9f8d7f2b52c70c87f109aa6802019ae", func := "loop.example/g01357/laws.FnExactLearnOnce", spec := "fnExactLearnOnce", unfollowed := true, recurses := true, apart := false }
def FnExactLearnOnceSaid : Prop := fnExactLearnOnceRow.holds Try.pinned (OpenSpec.ofChange fnExactLearnOnceSpec)

/-- ITS FALSE NEIGHBOUR: 'it returns false'. Refute it at one input. -/
def fnExactLearnOnceWrong : ChangeSpec := { name := "fnExactLearnOnce", fn := fun _ => fun
  | [d1, d2] => { results := [.lit (.bool false)], args := [d1, d2] }
  | _ => none }
def FnExactLearnOnceWrongFalsely : Prop := fnExactLearnOnceRow.holds Try.pinned (OpenSpec.ofChange fnExactLearnOnceWrong)

/- THE SECOND FORM. 'bulk': how many values and letters a reading holds, each counted each time it is reached (what is shared counts as often as it is met; a slice's spare places count too). A statement '..UptoSaid' is the law's where the arguments, and the package variables that the reading takes, are together of bulk at most 1048576: NARROWER than '..Said'. Prove '..Said' where nothing that the law and all that it calls make is longer than what came in: it says more and counts as full. Else prove '..UptoSaid'. A law counts once. -/
mutual
def uptoBulk {H : Type} : DataW H → Nat
  | .lit (.string bytes) => bytes.length + 1
  | .lit _ => 1
  | .nil => 1
  | .ptr d => uptoBulk d + 1
  | .slice elems spare => uptoBulkAll elems + uptoBulkAll spare + 1
  | .agg parts => uptoBulkAll parts + 1
  | .iface _ d => uptoBulk d + 1
  | .map entries => uptoBulkEntries entries + 1
  | .held _ => 1
def uptoBulkAll {H : Type} : List (DataW H) → Nat
  | [] => 0
  | d :: r => uptoBulk d + uptoBulkAll r
def uptoBulkEntries {H : Type} : List (Lit × DataW H) → Nat
  | [] => 0
  | x :: r => uptoBulkEntry x + uptoBulkEntries r
def uptoBulkEntry {H : Type} : Lit × DataW H → Nat
  | (.string bytes, d) => bytes.length + uptoBulk d + 1
  | (_, d) => uptoBulk d + 1
 end
def uptoSmall : (H : Type) → List (DataW H) → Bool := fun _ ds => decide (uptoBulkAll ds ≤ 1048576)
def OpenSpec.upto (s : _root_.Go.ChangeSpec) : _root_.Go.OpenSpec := { _root_.Go.OpenSpec.ofChange s with cond := some uptoSmall }

/-- 'laws.FnExactApartModels', WHERE WHAT IT READS IS OF BULK AT MOST 1048576: true; the input reads as it did. -/
def fnExactApartModelsUptoRow : OpenClaim := { program := "ythckjpcbmlgkhaa", sum := "b36e91d94442ea5678dc9b4101a0c96ee9f8d7f2b52c70c87f109aa6802019ae", func := "loop.example/g01357/laws.FnExactApartModels", spec := "fnExactApartModels", apart := false, narrowed := true }
def FnExactApartModelsUptoSaid : Prop := fnExactApartModelsUptoRow.holds Try.pinned (OpenSpec.upto fnExactApartModelsSpec)

/-- 'laws.FnExactFirstLoop', WHERE WHAT IT READS IS OF BULK AT MOST 1048576: true; the input reads as it did. -/
def fnExactFirstLoopUptoRow : OpenClaim := { program := "ythckjpcbmlgkhaa", sum := "b36e91d94442ea5678dc9b4101a0c96ee9f8d7f2b52c70c87f109aa6802019ae", func := "loop.example/g01357/laws.FnExactFirstLoop", spec := "fnExactFirstLoop", apart := false, narrowed := true }
def FnExactFirstLoopUptoSaid : Prop := fnExactFirstLoopUptoRow.holds Try.pinned (OpenSpec.upto fnExactFirstLoopSpec)

/-- 'laws.FnExactForwardOf', WHERE WHAT IT READS IS OF BULK AT MOST 1048576: true; the input reads as it did. -/
def fnExactForwardOfUptoRow : OpenClaim := { program := "ythckjpcbmlgkhaa", sum := "b36e91d94442ea5678dc9b4101a0c96ee9f8d7f2b52c70c87f109aa6802019ae", func := "loop.example/g01357/laws.FnExactForwardOf", spec := "fnExactForwardOf", unfollowed := true, recurses := true, apart := false, narrowed := true }
def FnExactForwardOfUptoSaid : Prop := fnExactForwardOfUptoRow.holds Try.pinned (OpenSpec.upto fnExactForwardOfSpec)

/-- 'laws.FnExactNextLetters', WHERE WHAT IT READS IS OF BULK AT MOST 1048576: true; the input reads as it did. -/
def fnExactNextLettersUptoRow : OpenClaim := { program := "ythckjpcbmlgkhaa", sum := "b36e91d94442ea5678dc9b4101a0c96ee9f8d7f2b52c70c87f109aa6802019ae", func := "loop.example/g01357/laws.FnExactNextLetters", spec := "fnExactNextLetters", unfollowed := true, recurses := true, apart := false, narrowed := true }
def FnExactNextLettersUptoSaid : Prop := fnExactNextLettersUptoRow.holds Try.pinned (OpenSpec.upto fnExactNextLettersSpec)

/-- 'laws.FnExactLogChanceOf', WHERE WHAT IT READS IS OF BULK AT MOST 1048576: true; the input reads as it did. -/
def fnExactLogChanceOfUptoRow : OpenClaim := { program := "ythckjpcbmlgkhaa", sum := "b36e91d94442ea5678dc9b4101a0c96ee9f8d7f2b52c70c87f109aa6802019ae", func := "loop.example/g01357/laws.FnExactLogChanceOf", spec := "fnExactLogChanceOf", inPlace := ["math.Float64frombits", "math.Float64bits"], apart := false, narrowed := true }
def FnExactLogChanceOfUptoSaid : Prop := fnExactLogChanceOfUptoRow.holds Try.pinned (OpenSpec.upto fnExactLogChanceOfSpec)

/-- 'laws.FnExactBackwardOf', WHERE WHAT IT READS IS OF BULK AT MOST 1048576: true; the input reads as it did. -/
def fnExactBackwardOfUptoRow : OpenClaim := { program := "ythckjpcbmlgkhaa", sum := "b36e91d94442ea5678dc9b4101a0c96ee9f8d7f2b52c70c87f109aa6802019ae", func := "loop.example/g01357/laws.FnExactBackwardOf", spec := "fnExactBackwardOf", unfollowed := true, recurses := true, apart := false, narrowed := true }
def FnExactBackwardOfUptoSaid : Prop := fnExactBackwardOfUptoRow.holds Try.pinned (OpenSpec.upto fnExactBackwardOfSpec)

/-- 'laws.FnExactMoreBits', WHERE WHAT IT READS IS OF BULK AT MOST 1048576: true; the input reads as it did. -/
def fnExactMoreBitsUptoRow : OpenClaim := { program := "ythckjpcbmlgkhaa", sum := "b36e91d94442ea5678dc9b4101a0c96ee9f8d7f2b52c70c87f109aa6802019ae", func := "loop.example/g01357/laws.FnExactMoreBits", spec := "fnExactMoreBits", inPlace := ["math.Float64frombits", "math.Float64bits"], apart := false, narrowed := true }
def FnExactMoreBitsUptoSaid : Prop := fnExactMoreBitsUptoRow.holds Try.pinned (OpenSpec.upto fnExactMoreBitsSpec)

/-- 'laws.FnExactHiddenAt', WHERE WHAT IT READS IS OF BULK AT MOST 1048576: true; the input reads as it did. -/
def fnExactHiddenAtUptoRow : OpenClaim := { program := "ythckjpcbmlgkhaa", sum := "b36e91d94442ea5678dc9b4101a0c96ee9f8d7f2b52c70c87f109aa6802019ae", func := "loop.example/g01357/laws.FnExactHiddenAt", spec := "fnExactHiddenAt", unfollowed := true, recurses := true, apart := false, narrowed := true }
def FnExactHiddenAtUptoSaid : Prop := fnExactHiddenAtUptoRow.holds Try.pinned (OpenSpec.upto fnExactHiddenAtSpec)

/-- 'laws.FnExactPairAt', WHERE WHAT IT READS IS OF BULK AT MOST 1048576: true; the input reads as it did. -/
def fnExactPairAtUptoRow : OpenClaim := { program := "ythckjpcbmlgkhaa", sum := "b36e91d94442ea5678dc9b4101a0c96ee9f8d7f2b52c70c87f109aa6802019ae", func := "loop.example/g01357/laws.FnExactPairAt", spec := "fnExactPairAt", unfollowed := true, recurses := true, apart := false, narrowed := true }
def FnExactPairAtUptoSaid : Prop := fnExactPairAtUptoRow.holds Try.pinned (OpenSpec.upto fnExactPairAtSpec)

/-- 'laws.FnExactLikeOf', WHERE WHAT IT READS IS OF BULK AT MOST 1048576: true; the input reads as it did. -/
def fnExactLikeOfUptoRow : OpenClaim := { program := "ythckjpcbmlgkhaa", sum := "b36e91d94442ea5678dc9b4101a0c96ee9f8d7f2b52c70c87f109aa6802019ae", func := "loop.example/g01357/laws.FnExactLikeOf", spec := "fnExactLikeOf", inPlace := ["math.Float64frombits", "math.Float64bits"], apart := false, narrowed := true }
def FnExactLikeOfUptoSaid : Prop := fnExactLikeOfUptoRow.holds Try.pinned (OpenSpec.upto fnExactLikeOfSpec)

/-- 'laws.FnExactLikesShared', WHERE WHAT IT READS IS OF BULK AT MOST 1048576: true; the input reads as it did. -/
def fnExactLikesSharedUptoRow : OpenClaim := { program := "ythckjpcbmlgkhaa", sum := "b36e91d94442ea5678dc9b4101a0c96ee9f8d7f2b52c70c87f109aa6802019ae", func := "loop.example/g01357/laws.FnExactLikesShared", spec := "fnExactLikesShared", inPlace := ["math.Float64frombits", "math.Float64bits"], apart := false, narrowed := true }
def FnExactLikesSharedUptoSaid : Prop := fnExactLikesSharedUptoRow.holds Try.pinned (OpenSpec.upto fnExactLikesSharedSpec)

/-- 'laws.FnExactLearnOnce', WHERE WHAT IT READS IS OF BULK AT MOST 1048576: true; the input reads as it did. -/
def fnExactLearnOnceUptoRow : OpenClaim := { program := "ythckjpcbmlgkhaa", sum := "b36e91d94442ea5678dc9b4101a0c96ee9f8d7f2b52c70c87f109aa6802019ae", func := "loop.example/g01357/laws.FnExactLearnOnce", spec := "fnExactLearnOnce", unfollowed := true, recurses := true, apart := false, narrowed := true }
def FnExactLearnOnceUptoSaid : Prop := fnExactLearnOnceUptoRow.holds Try.pinned (OpenSpec.upto fnExactLearnOnceSpec)

end Rows
end Go.Proofs.Ythckjpcbmlgkhaa
