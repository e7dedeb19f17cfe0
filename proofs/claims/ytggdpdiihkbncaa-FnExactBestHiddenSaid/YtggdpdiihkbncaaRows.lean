/-
  No cell of these rows narrows 'for every input' (looked for: loops, veiled, ifaces, maps, wideKeys, modest, calm, conditions, laid).
  DERIVED. THE GIVEN ROWS OF THIS SEAT. 12 by the template 'for every input the law returns true; each argument reads behind the call as it read before'; 0 by the template 'total and deterministic' (their statements: YtggdpdiihkbncaaTotals.lean).
  GIVEN WITH THE SEED: the statements are not yours to turn. If you find one false, say at which input.
  Laid BY PROGRAM, IN A SANDBOX (cutbox-rows.mjs): the forced cells as the released guide's own fill.sh prints them over the translation 245df033ab7a3650… (all of the seat's roots in one cut). By AI agents, Wed Nov 11 2026. No macro, syntax, notation, axiom, sorry.
-/
import Derived.Test.YtggdpdiihkbncaaChecked
import GoSem.Claim
import GoSem.ClaimJoined
import GoSem.ClaimMapViews
import Derived.JoinedTies
import Derived.KernelRfl
namespace Go.Proofs.Ytggdpdiihkbncaa
/- THE CELL 'sum', in the pinned program and in every row, IS THE sha256 OF THE DUMP (.gsa) THAT YtggdpdiihkbncaaProg.lean LOADS. Nothing in Lean hashes anything: it is a label: what it is worth is what the hold of that sum in a sandbox is worth. -/
noncomputable def Try.pinned : Pinned := { name := "ytggdpdiihkbncaa", sum := "245df033ab7a3650a80f0d67cb26e4955a9224ae230316a5eb878b334013f8cd", checked := Try.checked }
namespace Rows
def none {H : Type} : Left H := { results := [], args := [] }

/-- 'laws.FnExactBestHidden': WHATEVER THE INPUT: true; the input reads as it did. -/
def fnExactBestHiddenSpec : ChangeSpec := { name := "fnExactBestHidden", fn := fun _ => fun
  | [d1, d2] => { results := [.lit (.bool true)], args := [d1, d2] }
  | _ => none }
def fnExactBestHiddenRow : OpenClaim := { program := "ytggdpdiihkbncaa", sum := "245df033ab7a3650a80f0d67cb26e4955a9224ae230316a5eb878b334013f8cd", func := "loop.example/g01357/laws.FnExactBestHidden", spec := "fnExactBestHidden", apart := false }
def FnExactBestHiddenSaid : Prop := fnExactBestHiddenRow.holds Try.pinned (OpenSpec.ofChange fnExactBestHiddenSpec)

/-- ITS FALSE NEIGHBOUR: 'it returns false'. Refute it at one input. -/
def fnExactBestHiddenWrong : ChangeSpec := { name := "fnExactBestHidden", fn := fun _ => fun
  | [d1, d2] => { results := [.lit (.bool false)], args := [d1, d2] }
  | _ => none }
def FnExactBestHiddenWrongFalsely : Prop := fnExactBestHiddenRow.holds Try.pinned (OpenSpec.ofChange fnExactBestHiddenWrong)

/-- 'laws.FnZones': WHATEVER THE INPUT: true; the input reads as it did. -/
def fnZonesSpec : ChangeSpec := { name := "fnZones", fn := fun _ => fun
  | [d1, d2] => { results := [.lit (.bool true)], args := [d1, d2] }
  | _ => none }
def fnZonesRow : OpenClaim := { program := "ytggdpdiihkbncaa", sum := "245df033ab7a3650a80f0d67cb26e4955a9224ae230316a5eb878b334013f8cd", func := "loop.example/g01357/laws.FnZones", spec := "fnZones", apart := false }
def FnZonesSaid : Prop := fnZonesRow.holds Try.pinned (OpenSpec.ofChange fnZonesSpec)

/-- ITS FALSE NEIGHBOUR: 'it returns false'. Refute it at one input. -/
def fnZonesWrong : ChangeSpec := { name := "fnZones", fn := fun _ => fun
  | [d1, d2] => { results := [.lit (.bool false)], args := [d1, d2] }
  | _ => none }
def FnZonesWrongFalsely : Prop := fnZonesRow.holds Try.pinned (OpenSpec.ofChange fnZonesWrong)

/-- 'laws.FnExactFirstLoop': WHATEVER THE INPUT: true; the input reads as it did. -/
def fnExactFirstLoopSpec : ChangeSpec := { name := "fnExactFirstLoop", fn := fun _ => fun
  | [d1, d2] => { results := [.lit (.bool true)], args := [d1, d2] }
  | _ => none }
def fnExactFirstLoopRow : OpenClaim := { program := "ytggdpdiihkbncaa", sum := "245df033ab7a3650a80f0d67cb26e4955a9224ae230316a5eb878b334013f8cd", func := "loop.example/g01357/laws.FnExactFirstLoop", spec := "fnExactFirstLoop", apart := false }
def FnExactFirstLoopSaid : Prop := fnExactFirstLoopRow.holds Try.pinned (OpenSpec.ofChange fnExactFirstLoopSpec)

/-- ITS FALSE NEIGHBOUR: 'it returns false'. Refute it at one input. -/
def fnExactFirstLoopWrong : ChangeSpec := { name := "fnExactFirstLoop", fn := fun _ => fun
  | [d1, d2] => { results := [.lit (.bool false)], args := [d1, d2] }
  | _ => none }
def FnExactFirstLoopWrongFalsely : Prop := fnExactFirstLoopRow.holds Try.pinned (OpenSpec.ofChange fnExactFirstLoopWrong)

/-- 'laws.FnExactRecoverKepts': WHATEVER THE INPUT: true; the input reads as it did. -/
def fnExactRecoverKeptsSpec : ChangeSpec := { name := "fnExactRecoverKepts", fn := fun _ => fun
  | [d] => { results := [.lit (.bool true)], args := [d] }
  | _ => none }
def fnExactRecoverKeptsRow : OpenClaim := { program := "ytggdpdiihkbncaa", sum := "245df033ab7a3650a80f0d67cb26e4955a9224ae230316a5eb878b334013f8cd", func := "loop.example/g01357/laws.FnExactRecoverKepts", spec := "fnExactRecoverKepts", apart := false }
def FnExactRecoverKeptsSaid : Prop := fnExactRecoverKeptsRow.holds Try.pinned (OpenSpec.ofChange fnExactRecoverKeptsSpec)

/-- ITS FALSE NEIGHBOUR: 'it returns false'. Refute it at one input. -/
def fnExactRecoverKeptsWrong : ChangeSpec := { name := "fnExactRecoverKepts", fn := fun _ => fun
  | [d] => { results := [.lit (.bool false)], args := [d] }
  | _ => none }
def FnExactRecoverKeptsWrongFalsely : Prop := fnExactRecoverKeptsRow.holds Try.pinned (OpenSpec.ofChange fnExactRecoverKeptsWrong)

/-- 'laws.FnExactForwardOf': WHATEVER THE INPUT: true; the input reads as it did. -/
def fnExactForwardOfSpec : ChangeSpec := { name := "fnExactForwardOf", fn := fun _ => fun
  | [d1, d2] => { results := [.lit (.bool true)], args := [d1, d2] }
  | _ => none }
def fnExactForwardOfRow : OpenClaim := { program := "ytggdpdiihkbncaa", sum := "245df033ab7a3650a80f0d67cb26e4955a9224ae230316a5eb878b334013f8cd", func := "loop.example/g01357/laws.FnExactForwardOf", spec := "fnExactForwardOf", unfollowed := true, recurses := true, apart := false }
def FnExactForwardOfSaid : Prop := fnExactForwardOfRow.holds Try.pinned (OpenSpec.ofChange fnExactForwardOfSpec)

/-- ITS FALSE NEIGHBOUR: 'it returns false'. Refute it at one input. -/
def fnExactForwardOfWrong : ChangeSpec := { name := "fnExactForwardOf", fn := fun _ => fun
  | [d1, d2] => { results := [.lit (.bool false)], args := [d1, d2] }
  | _ => none }
def FnExactForwardOfWrongFalsely : Prop := fnExactForwardOfRow.holds Try.pinned (OpenSpec.ofChange fnExactForwardOfWrong)

/-- 'laws.FnExactNewDesk': WHATEVER THE INPUT: true; the input reads as it did. -/
def fnExactNewDeskSpec : ChangeSpec := { name := "fnExactNewDesk", fn := fun _ => fun
  | [] => { results := [.lit (.bool true)], args := [] }
  | _ => none }
def fnExactNewDeskRow : OpenClaim := { program := "ytggdpdiihkbncaa", sum := "245df033ab7a3650a80f0d67cb26e4955a9224ae230316a5eb878b334013f8cd", func := "loop.example/g01357/laws.FnExactNewDesk", spec := "fnExactNewDesk", apart := false }
def FnExactNewDeskSaid : Prop := fnExactNewDeskRow.holds Try.pinned (OpenSpec.ofChange fnExactNewDeskSpec)

/-- ITS FALSE NEIGHBOUR: 'it returns false'. Refute it at one input. -/
def fnExactNewDeskWrong : ChangeSpec := { name := "fnExactNewDesk", fn := fun _ => fun
  | [] => { results := [.lit (.bool false)], args := [] }
  | _ => none }
def FnExactNewDeskWrongFalsely : Prop := fnExactNewDeskRow.holds Try.pinned (OpenSpec.ofChange fnExactNewDeskWrong)

/-- 'laws.FnHidden': WHATEVER THE INPUT: true; the input reads as it did. -/
def fnHiddenSpec : ChangeSpec := { name := "fnHidden", fn := fun _ => fun
  | [d1, d2] => { results := [.lit (.bool true)], args := [d1, d2] }
  | _ => none }
def fnHiddenRow : OpenClaim := { program := "ytggdpdiihkbncaa", sum := "245df033ab7a3650a80f0d67cb26e4955a9224ae230316a5eb878b334013f8cd", func := "loop.example/g01357/laws.FnHidden", spec := "fnHidden", unfollowed := true, recurses := true, apart := false }
def FnHiddenSaid : Prop := fnHiddenRow.holds Try.pinned (OpenSpec.ofChange fnHiddenSpec)

/-- ITS FALSE NEIGHBOUR: 'it returns false'. Refute it at one input. -/
def fnHiddenWrong : ChangeSpec := { name := "fnHidden", fn := fun _ => fun
  | [d1, d2] => { results := [.lit (.bool false)], args := [d1, d2] }
  | _ => none }
def FnHiddenWrongFalsely : Prop := fnHiddenRow.holds Try.pinned (OpenSpec.ofChange fnHiddenWrong)

/-- 'laws.FnExactNextLetters': WHATEVER THE INPUT: true; the input reads as it did. -/
def fnExactNextLettersSpec : ChangeSpec := { name := "fnExactNextLetters", fn := fun _ => fun
  | [d1, d2] => { results := [.lit (.bool true)], args := [d1, d2] }
  | _ => none }
def fnExactNextLettersRow : OpenClaim := { program := "ytggdpdiihkbncaa", sum := "245df033ab7a3650a80f0d67cb26e4955a9224ae230316a5eb878b334013f8cd", func := "loop.example/g01357/laws.FnExactNextLetters", spec := "fnExactNextLetters", unfollowed := true, recurses := true, apart := false }
def FnExactNextLettersSaid : Prop := fnExactNextLettersRow.holds Try.pinned (OpenSpec.ofChange fnExactNextLettersSpec)

/-- ITS FALSE NEIGHBOUR: 'it returns false'. Refute it at one input. -/
def fnExactNextLettersWrong : ChangeSpec := { name := "fnExactNextLetters", fn := fun _ => fun
  | [d1, d2] => { results := [.lit (.bool false)], args := [d1, d2] }
  | _ => none }
def FnExactNextLettersWrongFalsely : Prop := fnExactNextLettersRow.holds Try.pinned (OpenSpec.ofChange fnExactNextLettersWrong)

/-- 'laws.FnLoops': WHATEVER THE INPUT: true; the input reads as it did. -/
def fnLoopsSpec : ChangeSpec := { name := "fnLoops", fn := fun _ => fun
  | [d1, d2] => { results := [.lit (.bool true)], args := [d1, d2] }
  | _ => none }
def fnLoopsRow : OpenClaim := { program := "ytggdpdiihkbncaa", sum := "245df033ab7a3650a80f0d67cb26e4955a9224ae230316a5eb878b334013f8cd", func := "loop.example/g01357/laws.FnLoops", spec := "fnLoops", apart := false }
def FnLoopsSaid : Prop := fnLoopsRow.holds Try.pinned (OpenSpec.ofChange fnLoopsSpec)

/-- ITS FALSE NEIGHBOUR: 'it returns false'. Refute it at one input. -/
def fnLoopsWrong : ChangeSpec := { name := "fnLoops", fn := fun _ => fun
  | [d1, d2] => { results := [.lit (.bool false)], args := [d1, d2] }
  | _ => none }
def FnLoopsWrongFalsely : Prop := fnLoopsRow.holds Try.pinned (OpenSpec.ofChange fnLoopsWrong)

/-- 'laws.FnExactSolveGame': WHATEVER THE INPUT: true; the input reads as it did. -/
def fnExactSolveGameSpec : ChangeSpec := { name := "fnExactSolveGame", fn := fun _ => fun
  | [d] => { results := [.lit (.bool true)], args := [d] }
  | _ => none }
def fnExactSolveGameRow : OpenClaim := { program := "ytggdpdiihkbncaa", sum := "245df033ab7a3650a80f0d67cb26e4955a9224ae230316a5eb878b334013f8cd", func := "loop.example/g01357/laws.FnExactSolveGame", spec := "fnExactSolveGame", unfollowed := true, recurses := true, apart := false }
def FnExactSolveGameSaid : Prop := fnExactSolveGameRow.holds Try.pinned (OpenSpec.ofChange fnExactSolveGameSpec)

/-- ITS FALSE NEIGHBOUR: 'it returns false'. Refute it at one input. -/
def fnExactSolveGameWrong : ChangeSpec := { name := "fnExactSolveGame", fn := fun _ => fun
  | [d] => { results := [.lit (.bool false)], args := [d] }
  | _ => none }
def FnExactSolveGameWrongFalsely : Prop := fnExactSolveGameRow.holds Try.pinned (OpenSpec.ofChange fnExactSolveGameWrong)

/-- 'laws.FnExactLogChanceOf': WHATEVER THE INPUT: true; the input reads as it did. -/
def fnExactLogChanceOfSpec : ChangeSpec := { name := "fnExactLogChanceOf", fn := fun _ => fun
  | [d1, d2] => { results := [.lit (.bool true)], args := [d1, d2] }
  | _ => none }
def fnExactLogChanceOfRow : OpenClaim := { program := "ytggdpdiihkbncaa", sum := "245df033ab7a3650a80f0d67cb26e4955a9224ae230316a5eb878b334013f8cd", func := "loop.example/g01357/laws.FnExactLogChanceOf", spec := "fnExactLogChanceOf", inPlace := ["math.Float64frombits", "math.Float64bits"], apart := false }
def FnExactLogChanceOfSaid : Prop := fnExactLogChanceOfRow.holds Try.pinned (OpenSpec.ofChange fnExactLogChanceOfSpec)

/-- ITS FALSE NEIGHBOUR: 'it returns false'. Refute it at one input. -/
def fnExactLogChanceOfWrong : ChangeSpec := { name := "fnExactLogChanceOf", fn := fun _ => fun
  | [d1, d2] => { results := [.lit (.bool false)], args := [d1, d2] }
  | _ => none }
def FnExactLogChanceOfWrongFalsely : Prop := fnExactLogChanceOfRow.holds Try.pinned (OpenSpec.ofChange fnExactLogChanceOfWrong)

/-- 'laws.FnExactBackwardOf': WHATEVER THE INPUT: true; the input reads as it did. -/
def fnExactBackwardOfSpec : ChangeSpec := { name := "fnExactBackwardOf", fn := fun _ => fun
  | [d1, d2] => { results := [.lit (.bool true)], args := [d1, d2] }
  | _ => none }
def fnExactBackwardOfRow : OpenClaim := { program := "ytggdpdiihkbncaa", sum := "245df033ab7a3650a80f0d67cb26e4955a9224ae230316a5eb878b334013f8cd", func := "loop.example/g01357/laws.FnExactBackwardOf", spec := "fnExactBackwardOf", unfollowed := true, recurses := true, apart := false }
def FnExactBackwardOfSaid : Prop := fnExactBackwardOfRow.holds Try.pinned (OpenSpec.ofChange fnExactBackwardOfSpec)

/-- ITS FALSE NEIGHBOUR: 'it returns false'. Refute it at one input. -/
def fnExactBackwardOfWrong : ChangeSpec := { name := "fnExactBackwardOf", fn := fun _ => fun
  | [d1, d2] => { results := [.lit (.bool false)], args := [d1, d2] }
  | _ => none }
def FnExactBackwardOfWrongFalsely : Prop := fnExactBackwardOfRow.holds Try.pinned (OpenSpec.ofChange fnExactBackwardOfWrong)

/- THE SECOND FORM. 'bulk': how many values and letters a reading holds, each counted each time it is reached (what is shared counts as often as it is met; a slice's spare places count too). A statement '..UptoSaid' is the law's where the arguments, and the package variables that the reading takes, are together of bulk at most 1048576: NARROWER than '..Said'. Prove '..Said' where nothing that the law and all that it calls make is longer than what came in: it says more and counts as full. Else prove '..UptoSaid'. A law counts once. -/
mutual
def uptoBulk {H : Type} : DataW H → Nat
  | .lit (.string bytes) => bytes.length + 1
  | .lit _ => 1
  | .nil => 1
  | .ptr d => uptoBulk d + 1
  | .slice elems spare => uptoBulkAll elems + uptoBulkAll spare + 1
  | .agg parts => uptoBulkAll parts + 1
  | .iface _ d => uptoBulk d + 1
  | .map entries => uptoBulkEntries entries + 1
  | .held _ => 1
def uptoBulkAll {H : Type} : List (DataW H) → Nat
  | [] => 0
  | d :: r => uptoBulk d + uptoBulkAll r
def uptoBulkEntries {H : Type} : List (Lit × DataW H) → Nat
  | [] => 0
  | x :: r => uptoBulkEntry x + uptoBulkEntries r
def uptoBulkEntry {H : Type} : Lit × DataW H → Nat
  | (.string bytes, d) => bytes.length + uptoBulk d + 1
  | (_, d) => uptoBulk d + 1
 end
def uptoSmall : (H : Type) → List (DataW H) → Bool := fun _ ds => decide (uptoBulkAll ds ≤ 1048576)
def OpenSpec.upto (s : _root_.Go.ChangeSpec) : _root_.Go.OpenSpec := { _root_.Go.OpenSpec.ofChange s with cond := some uptoSmall }

/-- 'laws.FnExactBestHidden', WHERE WHAT IT READS IS OF BULK AT MOST 1048576: true; the input reads as it did. -/
def fnExactBestHiddenUptoRow : OpenClaim := { program := "ytggdpdiihkbncaa", sum := "245df033ab7a3650a80f0d67cb26e4955a9224ae230316a5eb878b334013f8cd", func := "loop.example/g01357/laws.FnExactBestHidden", spec := "fnExactBestHidden", apart := false, narrowed := true }
def FnExactBestHiddenUptoSaid : Prop := fnExactBestHiddenUptoRow.holds Try.pinned (OpenSpec.upto fnExactBestHiddenSpec)

/-- 'laws.FnZones', WHERE WHAT IT READS IS OF BULK AT MOST 1048576: true; the input reads as it did. -/
def fnZonesUptoRow : OpenClaim := { program := "ytggdpdiihkbncaa", sum := "245df033ab7a3650a80f0d67cb26e4955a9224ae230316a5eb878b334013f8cd", func := "loop.example/g01357/laws.FnZones", spec := "fnZones", apart := false, narrowed := true }
def FnZonesUptoSaid : Prop := fnZonesUptoRow.holds Try.pinned (OpenSpec.upto fnZonesSpec)

/-- 'laws.FnExactFirstLoop', WHERE WHAT IT READS IS OF BULK AT MOST 1048576: true; the input reads as it did. -/
def fnExactFirstLoopUptoRow : OpenClaim := { program := "ytggdpdiihkbncaa", sum := "245df033ab7a3650a80f0d67cb26e4955a9224ae230316a5eb878b334013f8cd", func := "loop.example/g01357/laws.FnExactFirstLoop", spec := "fnExactFirstLoop", apart := false, narrowed := true }
def FnExactFirstLoopUptoSaid : Prop := fnExactFirstLoopUptoRow.holds Try.pinned (OpenSpec.upto fnExactFirstLoopSpec)

/-- 'laws.FnExactRecoverKepts', WHERE WHAT IT READS IS OF BULK AT MOST 1048576: true; the input reads as it did. -/
def fnExactRecoverKeptsUptoRow : OpenClaim := { program := "ytggdpdiihkbncaa", sum := "245df033ab7a3650a80f0d67cb26e4955a9224ae230316a5eb878b334013f8cd", func := "loop.example/g01357/laws.FnExactRecoverKepts", spec := "fnExactRecoverKepts", apart := false, narrowed := true }
def FnExactRecoverKeptsUptoSaid : Prop := fnExactRecoverKeptsUptoRow.holds Try.pinned (OpenSpec.upto fnExactRecoverKeptsSpec)

/-- 'laws.FnExactForwardOf', WHERE WHAT IT READS IS OF BULK AT MOST 1048576: true; the input reads as it did. -/
def fnExactForwardOfUptoRow : OpenClaim := { program := "ytggdpdiihkbncaa", sum := "245df033ab7a3650a80f0d67cb26e4955a9224ae230316a5eb878b334013f8cd", func := "loop.example/g01357/laws.FnExactForwardOf", spec := "fnExactForwardOf", unfollowed := true, recurses := true, apart := false, narrowed := true }
def FnExactForwardOfUptoSaid : Prop := fnExactForwardOfUptoRow.holds Try.pinned (OpenSpec.upto fnExactForwardOfSpec)

/-- 'laws.FnExactNewDesk', WHERE WHAT IT READS IS OF BULK AT MOST 1048576: true; the input reads as it did. -/
def fnExactNewDeskUptoRow : OpenClaim := { program := "ytggdpdiihkbncaa", sum := "245df033ab7a3650a80f0d67cb26e4955a9224ae230316a5eb878b334013f8cd", func := "loop.example/g01357/laws.FnExactNewDesk", spec := "fnExactNewDesk", apart := false, narrowed := true }
def FnExactNewDeskUptoSaid : Prop := fnExactNewDeskUptoRow.holds Try.pinned (OpenSpec.upto fnExactNewDeskSpec)

/-- 'laws.FnHidden', WHERE WHAT IT READS IS OF BULK AT MOST 1048576: true; the input reads as it did. -/
def fnHiddenUptoRow : OpenClaim := { program := "ytggdpdiihkbncaa", sum := "245df033ab7a3650a80f0d67cb26e4955a9224ae230316a5eb878b334013f8cd", func := "loop.example/g01357/laws.FnHidden", spec := "fnHidden", unfollowed := true, recurses := true, apart := false, narrowed := true }
def FnHiddenUptoSaid : Prop := fnHiddenUptoRow.holds Try.pinned (OpenSpec.upto fnHiddenSpec)

/-- 'laws.FnExactNextLetters', WHERE WHAT IT READS IS OF BULK AT MOST 1048576: true; the input reads as it did. -/
def fnExactNextLettersUptoRow : OpenClaim := { program := "ytggdpdiihkbncaa", sum := "245df033ab7a3650a80f0d67cb26e4955a9224ae230316a5eb878b334013f8cd", func := "loop.example/g01357/laws.FnExactNextLetters", spec := "fnExactNextLetters", unfollowed := true, recurses := true, apart := false, narrowed := true }
def FnExactNextLettersUptoSaid : Prop := fnExactNextLettersUptoRow.holds Try.pinned (OpenSpec.upto fnExactNextLettersSpec)

/-- 'laws.FnLoops', WHERE WHAT IT READS IS OF BULK AT MOST 1048576: true; the input reads as it did. -/
def fnLoopsUptoRow : OpenClaim := { program := "ytggdpdiihkbncaa", sum := "245df033ab7a3650a80f0d67cb26e4955a9224ae230316a5eb878b334013f8cd", func := "loop.example/g01357/laws.FnLoops", spec := "fnLoops", apart := false, narrowed := true }
def FnLoopsUptoSaid : Prop := fnLoopsUptoRow.holds Try.pinned (OpenSpec.upto fnLoopsSpec)

/-- 'laws.FnExactSolveGame', WHERE WHAT IT READS IS OF BULK AT MOST 1048576: true; the input reads as it did. -/
def fnExactSolveGameUptoRow : OpenClaim := { program := "ytggdpdiihkbncaa", sum := "245df033ab7a3650a80f0d67cb26e4955a9224ae230316a5eb878b334013f8cd", func := "loop.example/g01357/laws.FnExactSolveGame", spec := "fnExactSolveGame", unfollowed := true, recurses := true, apart := false, narrowed := true }
def FnExactSolveGameUptoSaid : Prop := fnExactSolveGameUptoRow.holds Try.pinned (OpenSpec.upto fnExactSolveGameSpec)

/-- 'laws.FnExactLogChanceOf', WHERE WHAT IT READS IS OF BULK AT MOST 1048576: true; the input reads as it did. -/
def fnExactLogChanceOfUptoRow : OpenClaim := { program := "ytggdpdiihkbncaa", sum := "245df033ab7a3650a80f0d67cb26e4955a9224ae230316a5eb878b334013f8cd", func := "loop.example/g01357/laws.FnExactLogChanceOf", spec := "fnExactLogChanceOf", inPlace := ["math.Float64frombits", "math.Float64bits"], apart := false, narrowed := true }
def FnExactLogChanceOfUptoSaid : Prop := fnExactLogChanceOfUptoRow.holds Try.pinned (OpenSpec.upto fnExactLogChanceOfSpec)

/-- 'laws.FnExactBackwardOf', WHERE WHAT IT READS IS OF BULK AT MOST 1048576: true; the input reads as it did. -/
def fnExactBackwardOfUptoRow : OpenClaim := { program := "ytggdpdiihkbncaa", sum := "245df033ab7a3650a80f0d67cb26e4955a9224ae230316a5eb878b334013f8cd", func := "loop.example/g01357/laws.FnExactBackwardOf", spec := "fnExactBackwardOf", unfollowed := true, recurses := true, apart := false, narrowed := true }
def FnExactBackwardOfUptoSaid : Prop := fnExactBackwardOfUptoRow.holds Try.pinned (OpenSpec.upto fnExactBackwardOfSpec)

end Rows
end Go.Proofs.Ytggdpdiihkbncaa
