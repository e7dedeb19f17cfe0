/-
  No cell of these rows narrows 'for every input' (looked for: loops, veiled, ifaces, maps, wideKeys, modest, calm, conditions, laid).
  DERIVED. THE GIVEN ROWS OF THIS SEAT. 11 by the template 'for every input the law returns true; each argument reads behind the call as it read before'; 0 by the template 'total and deterministic' (their statements: YtlipeppmdeanbaaTotals.lean).
  GIVEN WITH THE SEED: the statements are not yours to turn. If you find one false, say at which input.
  Laid BY PROGRAM, IN A SANDBOX (cutbox-rows.mjs): the forced cells as the released guide's own fill.sh prints them over the translation 22e74a18c07e77a2… (all of the seat's roots in one cut). By AI agents, Wed Nov 11 2026. No macro, syntax, notation, axiom, sorry.
-/
import Derived.Test.YtlipeppmdeanbaaChecked
import GoSem.Claim
import GoSem.ClaimJoined
import GoSem.ClaimMapViews
import Derived.JoinedTies
import Derived.KernelRfl
namespace Go.Proofs.Ytlipeppmdeanbaa
/- THE CELL 'sum', in the pinned program and in every row, IS THE sha256 OF THE DUMP (.gsa) THAT YtlipeppmdeanbaaProg.lean LOADS. Nothing in Lean hashes anything: it is a label: what it is worth is what the hold of that sum in a sandbox is worth. -/
noncomputable def Try.pinned : Pinned := { name := "ytlipeppmdeanbaa", sum := "22e74a18c07e77a2a932e0fef3a9d61c6b781f7fbbc25472df49201a014fd368", checked := Try.checked }
namespace Rows
def none {H : Type} : Left H := { results := [], args := [] }

/-- 'laws.FnExactAllWords': WHATEVER THE INPUT: true; the input reads as it did. -/
def fnExactAllWordsSpec : ChangeSpec := { name := "fnExactAllWords", fn := fun _ => fun
  | [d1, d2, d3] => { results := [.lit (.bool true)], args := [d1, d2, d3] }
  | _ => none }
def fnExactAllWordsRow : OpenClaim := { program := "ytlipeppmdeanbaa", sum := "22e74a18c07e77a2a932e0fef3a9d61c6b781f7fbbc25472df49201a014fd368", func := "loop.example/g01357/laws.FnExactAllWords", spec := "fnExactAllWords", unfollowed := true, recurses := true, apart := false }
def FnExactAllWordsSaid : Prop := fnExactAllWordsRow.holds Try.pinned (OpenSpec.ofChange fnExactAllWordsSpec)

/-- ITS FALSE NEIGHBOUR: 'it returns false'. Refute it at one input. -/
def fnExactAllWordsWrong : ChangeSpec := { name := "fnExactAllWords", fn := fun _ => fun
  | [d1, d2, d3] => { results := [.lit (.bool false)], args := [d1, d2, d3] }
  | _ => none }
def FnExactAllWordsWrongFalsely : Prop := fnExactAllWordsRow.holds Try.pinned (OpenSpec.ofChange fnExactAllWordsWrong)

/-- 'laws.FnExactHiddenChance': WHATEVER THE INPUT: true; the input reads as it did. -/
def fnExactHiddenChanceSpec : ChangeSpec := { name := "fnExactHiddenChance", fn := fun _ => fun
  | [d1, d2, d3] => { results := [.lit (.bool true)], args := [d1, d2, d3] }
  | _ => none }
def fnExactHiddenChanceRow : OpenClaim := { program := "ytlipeppmdeanbaa", sum := "22e74a18c07e77a2a932e0fef3a9d61c6b781f7fbbc25472df49201a014fd368", func := "loop.example/g01357/laws.FnExactHiddenChance", spec := "fnExactHiddenChance", apart := false }
def FnExactHiddenChanceSaid : Prop := fnExactHiddenChanceRow.holds Try.pinned (OpenSpec.ofChange fnExactHiddenChanceSpec)

/-- ITS FALSE NEIGHBOUR: 'it returns false'. Refute it at one input. -/
def fnExactHiddenChanceWrong : ChangeSpec := { name := "fnExactHiddenChance", fn := fun _ => fun
  | [d1, d2, d3] => { results := [.lit (.bool false)], args := [d1, d2, d3] }
  | _ => none }
def FnExactHiddenChanceWrongFalsely : Prop := fnExactHiddenChanceRow.holds Try.pinned (OpenSpec.ofChange fnExactHiddenChanceWrong)

/-- 'laws.FnExactMeetChance': WHATEVER THE INPUT: true; the input reads as it did. -/
def fnExactMeetChanceSpec : ChangeSpec := { name := "fnExactMeetChance", fn := fun _ => fun
  | [d1, d2, d3] => { results := [.lit (.bool true)], args := [d1, d2, d3] }
  | _ => none }
def fnExactMeetChanceRow : OpenClaim := { program := "ytlipeppmdeanbaa", sum := "22e74a18c07e77a2a932e0fef3a9d61c6b781f7fbbc25472df49201a014fd368", func := "loop.example/g01357/laws.FnExactMeetChance", spec := "fnExactMeetChance", apart := false }
def FnExactMeetChanceSaid : Prop := fnExactMeetChanceRow.holds Try.pinned (OpenSpec.ofChange fnExactMeetChanceSpec)

/-- ITS FALSE NEIGHBOUR: 'it returns false'. Refute it at one input. -/
def fnExactMeetChanceWrong : ChangeSpec := { name := "fnExactMeetChance", fn := fun _ => fun
  | [d1, d2, d3] => { results := [.lit (.bool false)], args := [d1, d2, d3] }
  | _ => none }
def FnExactMeetChanceWrongFalsely : Prop := fnExactMeetChanceRow.holds Try.pinned (OpenSpec.ofChange fnExactMeetChanceWrong)

/-- 'laws.FnExactReadsLoop': WHATEVER THE INPUT: true; the input reads as it did. -/
def fnExactReadsLoopSpec : ChangeSpec := { name := "fnExactReadsLoop", fn := fun _ => fun
  | [d1, d2] => { results := [.lit (.bool true)], args := [d1, d2] }
  | _ => none }
def fnExactReadsLoopRow : OpenClaim := { program := "ytlipeppmdeanbaa", sum := "22e74a18c07e77a2a932e0fef3a9d61c6b781f7fbbc25472df49201a014fd368", func := "loop.example/g01357/laws.FnExactReadsLoop", spec := "fnExactReadsLoop", apart := false }
def FnExactReadsLoopSaid : Prop := fnExactReadsLoopRow.holds Try.pinned (OpenSpec.ofChange fnExactReadsLoopSpec)

/-- ITS FALSE NEIGHBOUR: 'it returns false'. Refute it at one input. -/
def fnExactReadsLoopWrong : ChangeSpec := { name := "fnExactReadsLoop", fn := fun _ => fun
  | [d1, d2] => { results := [.lit (.bool false)], args := [d1, d2] }
  | _ => none }
def FnExactReadsLoopWrongFalsely : Prop := fnExactReadsLoopRow.holds Try.pinned (OpenSpec.ofChange fnExactReadsLoopWrong)

/-- 'laws.FnExactTurnGame': WHATEVER THE INPUT: true; the input reads as it did. -/
def fnExactTurnGameSpec : ChangeSpec := { name := "fnExactTurnGame", fn := fun _ => fun
  | [d] => { results := [.lit (.bool true)], args := [d] }
  | _ => none }
def fnExactTurnGameRow : OpenClaim := { program := "ytlipeppmdeanbaa", sum := "22e74a18c07e77a2a932e0fef3a9d61c6b781f7fbbc25472df49201a014fd368", func := "loop.example/g01357/laws.FnExactTurnGame", spec := "fnExactTurnGame", unfollowed := true, recurses := true, apart := false }
def FnExactTurnGameSaid : Prop := fnExactTurnGameRow.holds Try.pinned (OpenSpec.ofChange fnExactTurnGameSpec)

/-- ITS FALSE NEIGHBOUR: 'it returns false'. Refute it at one input. -/
def fnExactTurnGameWrong : ChangeSpec := { name := "fnExactTurnGame", fn := fun _ => fun
  | [d] => { results := [.lit (.bool false)], args := [d] }
  | _ => none }
def FnExactTurnGameWrongFalsely : Prop := fnExactTurnGameRow.holds Try.pinned (OpenSpec.ofChange fnExactTurnGameWrong)

/-- 'laws.FnExactChanceOf': WHATEVER THE INPUT: true; the input reads as it did. -/
def fnExactChanceOfSpec : ChangeSpec := { name := "fnExactChanceOf", fn := fun _ => fun
  | [d1, d2] => { results := [.lit (.bool true)], args := [d1, d2] }
  | _ => none }
def fnExactChanceOfRow : OpenClaim := { program := "ytlipeppmdeanbaa", sum := "22e74a18c07e77a2a932e0fef3a9d61c6b781f7fbbc25472df49201a014fd368", func := "loop.example/g01357/laws.FnExactChanceOf", spec := "fnExactChanceOf", apart := false }
def FnExactChanceOfSaid : Prop := fnExactChanceOfRow.holds Try.pinned (OpenSpec.ofChange fnExactChanceOfSpec)

/-- ITS FALSE NEIGHBOUR: 'it returns false'. Refute it at one input. -/
def fnExactChanceOfWrong : ChangeSpec := { name := "fnExactChanceOf", fn := fun _ => fun
  | [d1, d2] => { results := [.lit (.bool false)], args := [d1, d2] }
  | _ => none }
def FnExactChanceOfWrongFalsely : Prop := fnExactChanceOfRow.holds Try.pinned (OpenSpec.ofChange fnExactChanceOfWrong)

/-- 'laws.FnExactApartModels': WHATEVER THE INPUT: true; the input reads as it did. -/
def fnExactApartModelsSpec : ChangeSpec := { name := "fnExactApartModels", fn := fun _ => fun
  | [d1, d2, d3] => { results := [.lit (.bool true)], args := [d1, d2, d3] }
  | _ => none }
def fnExactApartModelsRow : OpenClaim := { program := "ytlipeppmdeanbaa", sum := "22e74a18c07e77a2a932e0fef3a9d61c6b781f7fbbc25472df49201a014fd368", func := "loop.example/g01357/laws.FnExactApartModels", spec := "fnExactApartModels", apart := false }
def FnExactApartModelsSaid : Prop := fnExactApartModelsRow.holds Try.pinned (OpenSpec.ofChange fnExactApartModelsSpec)

/-- ITS FALSE NEIGHBOUR: 'it returns false'. Refute it at one input. -/
def fnExactApartModelsWrong : ChangeSpec := { name := "fnExactApartModels", fn := fun _ => fun
  | [d1, d2, d3] => { results := [.lit (.bool false)], args := [d1, d2, d3] }
  | _ => none }
def FnExactApartModelsWrongFalsely : Prop := fnExactApartModelsRow.holds Try.pinned (OpenSpec.ofChange fnExactApartModelsWrong)

/-- 'laws.FnExactStoreKepts': WHATEVER THE INPUT: true; the input reads as it did. -/
def fnExactStoreKeptsSpec : ChangeSpec := { name := "fnExactStoreKepts", fn := fun _ => fun
  | [d] => { results := [.lit (.bool true)], args := [d] }
  | _ => none }
def fnExactStoreKeptsRow : OpenClaim := { program := "ytlipeppmdeanbaa", sum := "22e74a18c07e77a2a932e0fef3a9d61c6b781f7fbbc25472df49201a014fd368", func := "loop.example/g01357/laws.FnExactStoreKepts", spec := "fnExactStoreKepts", apart := false }
def FnExactStoreKeptsSaid : Prop := fnExactStoreKeptsRow.holds Try.pinned (OpenSpec.ofChange fnExactStoreKeptsSpec)

/-- ITS FALSE NEIGHBOUR: 'it returns false'. Refute it at one input. -/
def fnExactStoreKeptsWrong : ChangeSpec := { name := "fnExactStoreKepts", fn := fun _ => fun
  | [d] => { results := [.lit (.bool false)], args := [d] }
  | _ => none }
def FnExactStoreKeptsWrongFalsely : Prop := fnExactStoreKeptsRow.holds Try.pinned (OpenSpec.ofChange fnExactStoreKeptsWrong)

/-- 'laws.FnExactStatesOfLoop': WHATEVER THE INPUT: true; the input reads as it did. -/
def fnExactStatesOfLoopSpec : ChangeSpec := { name := "fnExactStatesOfLoop", fn := fun _ => fun
  | [d1, d2] => { results := [.lit (.bool true)], args := [d1, d2] }
  | _ => none }
def fnExactStatesOfLoopRow : OpenClaim := { program := "ytlipeppmdeanbaa", sum := "22e74a18c07e77a2a932e0fef3a9d61c6b781f7fbbc25472df49201a014fd368", func := "loop.example/g01357/laws.FnExactStatesOfLoop", spec := "fnExactStatesOfLoop", apart := false }
def FnExactStatesOfLoopSaid : Prop := fnExactStatesOfLoopRow.holds Try.pinned (OpenSpec.ofChange fnExactStatesOfLoopSpec)

/-- ITS FALSE NEIGHBOUR: 'it returns false'. Refute it at one input. -/
def fnExactStatesOfLoopWrong : ChangeSpec := { name := "fnExactStatesOfLoop", fn := fun _ => fun
  | [d1, d2] => { results := [.lit (.bool false)], args := [d1, d2] }
  | _ => none }
def FnExactStatesOfLoopWrongFalsely : Prop := fnExactStatesOfLoopRow.holds Try.pinned (OpenSpec.ofChange fnExactStatesOfLoopWrong)

/-- 'laws.FnExactReachOf': WHATEVER THE INPUT: true; the input reads as it did. -/
def fnExactReachOfSpec : ChangeSpec := { name := "fnExactReachOf", fn := fun _ => fun
  | [d1, d2, d3] => { results := [.lit (.bool true)], args := [d1, d2, d3] }
  | _ => none }
def fnExactReachOfRow : OpenClaim := { program := "ytlipeppmdeanbaa", sum := "22e74a18c07e77a2a932e0fef3a9d61c6b781f7fbbc25472df49201a014fd368", func := "loop.example/g01357/laws.FnExactReachOf", spec := "fnExactReachOf", unfollowed := true, recurses := true, apart := false }
def FnExactReachOfSaid : Prop := fnExactReachOfRow.holds Try.pinned (OpenSpec.ofChange fnExactReachOfSpec)

/-- ITS FALSE NEIGHBOUR: 'it returns false'. Refute it at one input. -/
def fnExactReachOfWrong : ChangeSpec := { name := "fnExactReachOf", fn := fun _ => fun
  | [d1, d2, d3] => { results := [.lit (.bool false)], args := [d1, d2, d3] }
  | _ => none }
def FnExactReachOfWrongFalsely : Prop := fnExactReachOfRow.holds Try.pinned (OpenSpec.ofChange fnExactReachOfWrong)

/-- 'laws.FnExactLoadKept': WHATEVER THE INPUT: true; the input reads as it did. -/
def fnExactLoadKeptSpec : ChangeSpec := { name := "fnExactLoadKept", fn := fun _ => fun
  | [d] => { results := [.lit (.bool true)], args := [d] }
  | _ => none }
def fnExactLoadKeptRow : OpenClaim := { program := "ytlipeppmdeanbaa", sum := "22e74a18c07e77a2a932e0fef3a9d61c6b781f7fbbc25472df49201a014fd368", func := "loop.example/g01357/laws.FnExactLoadKept", spec := "fnExactLoadKept", apart := false }
def FnExactLoadKeptSaid : Prop := fnExactLoadKeptRow.holds Try.pinned (OpenSpec.ofChange fnExactLoadKeptSpec)

/-- ITS FALSE NEIGHBOUR: 'it returns false'. Refute it at one input. -/
def fnExactLoadKeptWrong : ChangeSpec := { name := "fnExactLoadKept", fn := fun _ => fun
  | [d] => { results := [.lit (.bool false)], args := [d] }
  | _ => none }
def FnExactLoadKeptWrongFalsely : Prop := fnExactLoadKeptRow.holds Try.pinned (OpenSpec.ofChange fnExactLoadKeptWrong)

/- THE SECOND FORM. 'bulk': how many values and letters a reading holds, each counted each time it is reached (what is shared counts as often as it is met; a slice's spare places count too). A statement '..UptoSaid' is the law's where the arguments, and the package variables that the reading takes, are together of bulk at most 1048576: NARROWER than '..Said'. Prove '..Said' where nothing that the law and all that it calls make is longer than what came in: it says more and counts as full. Else prove '..UptoSaid'. A law counts once. -/
mutual
def uptoBulk {H : Type} : DataW H → Nat
  | .lit (.string bytes) => bytes.length + 1
  | .lit _ => 1
  | .nil => 1
  | .ptr d => uptoBulk d + 1
  | .slice elems spare => uptoBulkAll elems + uptoBulkAll spare + 1
  | .agg parts => uptoBulkAll parts + 1
  | .iface _ d => uptoBulk d + 1
  | .map entries => uptoBulkEntries entries + 1
  | .held _ => 1
def uptoBulkAll {H : Type} : List (DataW H) → Nat
  | [] => 0
  | d :: r => uptoBulk d + uptoBulkAll r
def uptoBulkEntries {H : Type} : List (Lit × DataW H) → Nat
  | [] => 0
  | x :: r => uptoBulkEntry x + uptoBulkEntries r
def uptoBulkEntry {H : Type} : Lit × DataW H → Nat
  | (.string bytes, d) => bytes.length + uptoBulk d + 1
  | (_, d) => uptoBulk d + 1
 end
def uptoSmall : (H : Type) → List (DataW H) → Bool := fun _ ds => decide (uptoBulkAll ds ≤ 1048576)
def OpenSpec.upto (s : _root_.Go.ChangeSpec) : _root_.Go.OpenSpec := { _root_.Go.OpenSpec.ofChange s with cond := some uptoSmall }

/-- 'laws.FnExactAllWords', WHERE WHAT IT READS IS OF BULK AT MOST 1048576: true; the input reads as it did. -/
def fnExactAllWordsUptoRow : OpenClaim := { program := "ytlipeppmdeanbaa", sum := "22e74a18c07e77a2a932e0fef3a9d61c6b781f7fbbc25472df49201a014fd368", func := "loop.example/g01357/laws.FnExactAllWords", spec := "fnExactAllWords", unfollowed := true, recurses := true, apart := false, narrowed := true }
def FnExactAllWordsUptoSaid : Prop := fnExactAllWordsUptoRow.holds Try.pinned (OpenSpec.upto fnExactAllWordsSpec)

/-- 'laws.FnExactHiddenChance', WHERE WHAT IT READS IS OF BULK AT MOST 1048576: true; the input reads as it did. -/
def fnExactHiddenChanceUptoRow : OpenClaim := { program := "ytlipeppmdeanbaa", sum := "22e74a18c07e77a2a932e0fef3a9d61c6b781f7fbbc25472df49201a014fd368", func := "loop.example/g01357/laws.FnExactHiddenChance", spec := "fnExactHiddenChance", apart := false, narrowed := true }
def FnExactHiddenChanceUptoSaid : Prop := fnExactHiddenChanceUptoRow.holds Try.pinned (OpenSpec.upto fnExactHiddenChanceSpec)

/-- 'laws.FnExactMeetChance', WHERE WHAT IT READS IS OF BULK AT MOST 1048576: true; the input reads as it did. -/
def fnExactMeetChanceUptoRow : OpenClaim := { program := "ytlipeppmdeanbaa", sum := "22e74a18c07e77a2a932e0fef3a9d61c6b781f7fbbc25472df49201a014fd368", func := "loop.example/g01357/laws.FnExactMeetChance", spec := "fnExactMeetChance", apart := false, narrowed := true }
def FnExactMeetChanceUptoSaid : Prop := fnExactMeetChanceUptoRow.holds Try.pinned (OpenSpec.upto fnExactMeetChanceSpec)

/-- 'laws.FnExactReadsLoop', WHERE WHAT IT READS IS OF BULK AT MOST 1048576: true; the input reads as it did. -/
def fnExactReadsLoopUptoRow : OpenClaim := { program := "ytlipeppmdeanbaa", sum := "22e74a18c07e77a2a932e0fef3a9d61c6b781f7fbbc25472df49201a014fd368", func := "loop.example/g01357/laws.FnExactReadsLoop", spec := "fnExactReadsLoop", apart := false, narrowed := true }
def FnExactReadsLoopUptoSaid : Prop := fnExactReadsLoopUptoRow.holds Try.pinned (OpenSpec.upto fnExactReadsLoopSpec)

/-- 'laws.FnExactTurnGame', WHERE WHAT IT READS IS OF BULK AT MOST 1048576: true; the input reads as it did. -/
def fnExactTurnGameUptoRow : OpenClaim := { program := "ytlipeppmdeanbaa", sum := "22e74a18c07e77a2a932e0fef3a9d61c6b781f7fbbc25472df49201a014fd368", func := "loop.example/g01357/laws.FnExactTurnGame", spec := "fnExactTurnGame", unfollowed := true, recurses := true, apart := false, narrowed := true }
def FnExactTurnGameUptoSaid : Prop := fnExactTurnGameUptoRow.holds Try.pinned (OpenSpec.upto fnExactTurnGameSpec)

/-- 'laws.FnExactChanceOf', WHERE WHAT IT READS IS OF BULK AT MOST 1048576: true; the input reads as it did. -/
def fnExactChanceOfUptoRow : OpenClaim := { program := "ytlipeppmdeanbaa", sum := "22e74a18c07e77a2a932e0fef3a9d61c6b781f7fbbc25472df49201a014fd368", func := "loop.example/g01357/laws.FnExactChanceOf", spec := "fnExactChanceOf", apart := false, narrowed := true }
def FnExactChanceOfUptoSaid : Prop := fnExactChanceOfUptoRow.holds Try.pinned (OpenSpec.upto fnExactChanceOfSpec)

/-- 'laws.FnExactApartModels', WHERE WHAT IT READS IS OF BULK AT MOST 1048576: true; the input reads as it did. -/
def fnExactApartModelsUptoRow : OpenClaim := { program := "ytlipeppmdeanbaa", sum := "22e74a18c07e77a2a932e0fef3a9d61c6b781f7fbbc25472df49201a014fd368", func := "loop.example/g01357/laws.FnExactApartModels", spec := "fnExactApartModels", apart := false, narrowed := true }
def FnExactApartModelsUptoSaid : Prop := fnExactApartModelsUptoRow.holds Try.pinned (OpenSpec.upto fnExactApartModelsSpec)

/-- 'laws.FnExactStoreKepts', WHERE WHAT IT READS IS OF BULK AT MOST 1048576: true; the input reads as it did. -/
def fnExactStoreKeptsUptoRow : OpenClaim := { program := "ytlipeppmdeanbaa", sum := "22e74a18c07e77a2a932e0fef3a9d61c6b781f7fbbc25472df49201a014fd368", func := "loop.example/g01357/laws.FnExactStoreKepts", spec := "fnExactStoreKepts", apart := false, narrowed := true }
def FnExactStoreKeptsUptoSaid : Prop := fnExactStoreKeptsUptoRow.holds Try.pinned (OpenSpec.upto fnExactStoreKeptsSpec)

/-- 'laws.FnExactStatesOfLoop', WHERE WHAT IT READS IS OF BULK AT MOST 1048576: true; the input reads as it did. -/
def fnExactStatesOfLoopUptoRow : OpenClaim := { program := "ytlipeppmdeanbaa", sum := "22e74a18c07e77a2a932e0fef3a9d61c6b781f7fbbc25472df49201a014fd368", func := "loop.example/g01357/laws.FnExactStatesOfLoop", spec := "fnExactStatesOfLoop", apart := false, narrowed := true }
def FnExactStatesOfLoopUptoSaid : Prop := fnExactStatesOfLoopUptoRow.holds Try.pinned (OpenSpec.upto fnExactStatesOfLoopSpec)

/-- 'laws.FnExactReachOf', WHERE WHAT IT READS IS OF BULK AT MOST 1048576: true; the input reads as it did. -/
def fnExactReachOfUptoRow : OpenClaim := { program := "ytlipeppmdeanbaa", sum := "22e74a18c07e77a2a932e0fef3a9d61c6b781f7fbbc25472df49201a014fd368", func := "loop.example/g01357/laws.FnExactReachOf", spec := "fnExactReachOf", unfollowed := true, recurses := true, apart := false, narrowed := true }
def FnExactReachOfUptoSaid : Prop := fnExactReachOfUptoRow.holds Try.pinned (OpenSpec.upto fnExactReachOfSpec)

/-- 'laws.FnExactLoadKept', WHERE WHAT IT READS IS OF BULK AT MOST 1048576: true; the input reads as it did. -/
def fnExactLoadKeptUptoRow : OpenClaim := { program := "ytlipeppmdeanbaa", sum := "22e74a18c07e77a2a932e0fef3a9d61c6b781f7fbbc25472df49201a014fd368", func := "loop.example/g01357/laws.FnExactLoadKept", spec := "fnExactLoadKept", apart := false, narrowed := true }
def FnExactLoadKeptUptoSaid : Prop := fnExactLoadKeptUptoRow.holds Try.pinned (OpenSpec.upto fnExactLoadKeptSpec)

end Rows
end Go.Proofs.Ytlipeppmdeanbaa
