/-
  No cell of these rows narrows 'for every input' (looked for: loops, veiled, ifaces, maps, wideKeys, modest, calm, conditions, laid).
  DERIVED. THE GIVEN ROWS OF THIS SEAT. 4 by the template 'for every input the law returns true; each argument reads behind the call as it read before'; 0 by the template 'total and deterministic' (their statements: YtjekgiabgglokaaTotals.lean).
  GIVEN WITH THE SEED: the statements are not yours to turn. If you find one false, say at which input.
  Laid BY PROGRAM, IN A SANDBOX (cutbox-rows.mjs): the forced cells as the released guide's own fill.sh prints them over the translation 97607549eba6950f… (all of the seat's roots in one cut). By AI agents, Wed Nov 11 2026. No macro, syntax, notation, axiom, sorry.
-/
import Derived.Test.YtjekgiabgglokaaChecked
import GoSem.Claim
import GoSem.ClaimJoined
import GoSem.ClaimMapViews
import Derived.JoinedTies
import Derived.KernelRfl
namespace Go.Proofs.Ytjekgiabgglokaa
/- THE CELL 'sum', in the pinned program and in every row, IS THE sha256 OF THE DUMP (.gsa) THAT YtjekgiabgglokaaProg.lean LOADS. Nothing in Lean hashes anything: it is a label: what it is worth is what the hold of that sum in a sandbox is worth. -/
noncomputable def Try.pinned : Pinned := { name := "ytjekgiabgglokaa", sum := "97607549eba6950f7ed0bc3864d1134f6daafce3ef99094381ed4163833a390d", checked := Try.checked }
namespace Rows
def none {H : Type} : Left H := { results := [], args := [] }

/-- 'laws.FnExactAllWords': WHATEVER THE INPUT: true; the input reads as it did. -/
def fnExactAllWordsSpec : ChangeSpec := { name := "fnExactAllWords", fn := fun _ => fun
  | [d1, d2, d3] => { results := [.lit (.bool true)], args := [d1, d2, d3] }
  | _ => none }
def fnExactAllWordsRow : OpenClaim := { program := "ytjekgiabgglokaa", sum := "97607549eba6950f7ed0bc3864d1134f6daafce3ef99094381ed4163833a390d", func := "loop.example/g01357/laws.FnExactAllWords", spec := "fnExactAllWords", unfollowed := true, recurses := true, apart := false }
def FnExactAllWordsSaid : Prop := fnExactAllWordsRow.holds Try.pinned (OpenSpec.ofChange fnExactAllWordsSpec)

/-- ITS FALSE NEIGHBOUR: 'it returns false'. Refute it at one input. -/
def fnExactAllWordsWrong : ChangeSpec := { name := "fnExactAllWords", fn := fun _ => fun
  | [d1, d2, d3] => { results := [.lit (.bool false)], args := [d1, d2, d3] }
  | _ => none }
def FnExactAllWordsWrongFalsely : Prop := fnExactAllWordsRow.holds Try.pinned (OpenSpec.ofChange fnExactAllWordsWrong)

/-- 'laws.FnChances': WHATEVER THE INPUT: true; the input reads as it did. -/
def fnChancesSpec : ChangeSpec := { name := "fnChances", fn := fun _ => fun
  | [d1, d2] => { results := [.lit (.bool true)], args := [d1, d2] }
  | _ => none }
def fnChancesRow : OpenClaim := { program := "ytjekgiabgglokaa", sum := "97607549eba6950f7ed0bc3864d1134f6daafce3ef99094381ed4163833a390d", func := "loop.example/g01357/laws.FnChances", spec := "fnChances", inPlace := ["math.Float64frombits", "math.Float64bits"], unfollowed := true, recurses := true, apart := false }
def FnChancesSaid : Prop := fnChancesRow.holds Try.pinned (OpenSpec.ofChange fnChancesSpec)

/-- ITS FALSE NEIGHBOUR: 'it returns false'. Refute it at one input. -/
def fnChancesWrong : ChangeSpec := { name := "fnChances", fn := fun _ => fun
  | [d1, d2] => { results := [.lit (.bool false)], args := [d1, d2] }
  | _ => none }
def FnChancesWrongFalsely : Prop := fnChancesRow.holds Try.pinned (OpenSpec.ofChange fnChancesWrong)

/-- 'laws.FnLearned': WHATEVER THE INPUT: true; the input reads as it did. -/
def fnLearnedSpec : ChangeSpec := { name := "fnLearned", fn := fun _ => fun
  | [d1, d2] => { results := [.lit (.bool true)], args := [d1, d2] }
  | _ => none }
def fnLearnedRow : OpenClaim := { program := "ytjekgiabgglokaa", sum := "97607549eba6950f7ed0bc3864d1134f6daafce3ef99094381ed4163833a390d", func := "loop.example/g01357/laws.FnLearned", spec := "fnLearned", inPlace := ["math.Float64frombits", "math.Float64bits", "math.Float32bits"], unfollowed := true, recurses := true, apart := false }
def FnLearnedSaid : Prop := fnLearnedRow.holds Try.pinned (OpenSpec.ofChange fnLearnedSpec)

/-- ITS FALSE NEIGHBOUR: 'it returns false'. Refute it at one input. -/
def fnLearnedWrong : ChangeSpec := { name := "fnLearned", fn := fun _ => fun
  | [d1, d2] => { results := [.lit (.bool false)], args := [d1, d2] }
  | _ => none }
def FnLearnedWrongFalsely : Prop := fnLearnedRow.holds Try.pinned (OpenSpec.ofChange fnLearnedWrong)

/-- 'laws.FnTwoModels': WHATEVER THE INPUT: true; the input reads as it did. -/
def fnTwoModelsSpec : ChangeSpec := { name := "fnTwoModels", fn := fun _ => fun
  | [d1, d2] => { results := [.lit (.bool true)], args := [d1, d2] }
  | _ => none }
def fnTwoModelsRow : OpenClaim := { program := "ytjekgiabgglokaa", sum := "97607549eba6950f7ed0bc3864d1134f6daafce3ef99094381ed4163833a390d", func := "loop.example/g01357/laws.FnTwoModels", spec := "fnTwoModels", inPlace := ["math.Float64frombits", "math.Float32bits"], unfollowed := true, recurses := true, apart := false }
def FnTwoModelsSaid : Prop := fnTwoModelsRow.holds Try.pinned (OpenSpec.ofChange fnTwoModelsSpec)

/-- ITS FALSE NEIGHBOUR: 'it returns false'. Refute it at one input. -/
def fnTwoModelsWrong : ChangeSpec := { name := "fnTwoModels", fn := fun _ => fun
  | [d1, d2] => { results := [.lit (.bool false)], args := [d1, d2] }
  | _ => none }
def FnTwoModelsWrongFalsely : Prop := fnTwoModelsRow.holds Try.pinned (OpenSpec.ofChange fnTwoModelsWrong)

/- THE SECOND FORM. 'bulk': how many values and letters a reading holds, each counted each time it is reached (what is shared counts as often as it is met; a slice's spare places count too). A statement '..UptoSaid' is the law's where the arguments, and the package variables that the reading takes, are together of bulk at most 1048576: NARROWER than '..Said'. Prove '..Said' where nothing that the law and all that it calls make is longer than what came in: it says more and counts as full. Else prove '..UptoSaid'. A law counts once. -/
mutual
def uptoBulk {H : Type} : DataW H → Nat
  | .lit (.string bytes) => bytes.length + 1
  | .lit _ => 1
  | .nil => 1
  | .ptr d => uptoBulk d + 1
  | .slice elems spare => uptoBulkAll elems + uptoBulkAll spare + 1
  | .agg parts => uptoBulkAll parts + 1
  | .iface _ d => uptoBulk d + 1
  | .map entries => uptoBulkEntries entries + 1
  | .held _ => 1
def uptoBulkAll {H : Type} : List (DataW H) → Nat
  | [] => 0
  | d :: r => uptoBulk d + uptoBulkAll r
def uptoBulkEntries {H : Type} : List (Lit × DataW H) → Nat
  | [] => 0
  | x :: r => uptoBulkEntry x + uptoBulkEntries r
def uptoBulkEntry {H : Type} : Lit × DataW H → Nat
  | (.string bytes, d) => bytes.length + uptoBulk d + 1
  | (_, d) => uptoBulk d + 1
 end
def uptoSmall : (H : Type) → List (DataW H) → Bool := fun _ ds => decide (uptoBulkAll ds ≤ 1048576)
def OpenSpec.upto (s : _root_.Go.ChangeSpec) : _root_.Go.OpenSpec := { _root_.Go.OpenSpec.ofChange s with cond := some uptoSmall }

/-- 'laws.FnExactAllWords', WHERE WHAT IT READS IS OF BULK AT MOST 1048576: true; the input reads as it did. -/
def fnExactAllWordsUptoRow : OpenClaim := { program := "ytjekgiabgglokaa", sum := "97607549eba6950f7ed0bc3864d1134f6daafce3ef99094381ed4163833a390d", func := "loop.example/g01357/laws.FnExactAllWords", spec := "fnExactAllWords", unfollowed := true, recurses := true, apart := false, narrowed := true }
def FnExactAllWordsUptoSaid : Prop := fnExactAllWordsUptoRow.holds Try.pinned (OpenSpec.upto fnExactAllWordsSpec)

/-- 'laws.FnChances', WHERE WHAT IT READS IS OF BULK AT MOST 1048576: true; the input reads as it did. -/
def fnChancesUptoRow : OpenClaim := { program := "ytjekgiabgglokaa", sum := "97607549eba6950f7ed0bc3864d1134f6daafce3ef99094381ed4163833a390d", func := "loop.example/g01357/laws.FnChances", spec := "fnChances", inPlace := ["math.Float64frombits", "math.Float64bits"], unfollowed := true, recurses := true, apart := false, narrowed := true }
def FnChancesUptoSaid : Prop := fnChancesUptoRow.holds Try.pinned (OpenSpec.upto fnChancesSpec)

/-- 'laws.FnLearned', WHERE WHAT IT READS IS OF BULK AT MOST 1048576: true; the input reads as it did. -/
def fnLearnedUptoRow : OpenClaim := { program := "ytjekgiabgglokaa", sum := "97607549eba6950f7ed0bc3864d1134f6daafce3ef99094381ed4163833a390d", func := "loop.example/g01357/laws.FnLearned", spec := "fnLearned", inPlace := ["math.Float64frombits", "math.Float64bits", "math.Float32bits"], unfollowed := true, recurses := true, apart := false, narrowed := true }
def FnLearnedUptoSaid : Prop := fnLearnedUptoRow.holds Try.pinned (OpenSpec.upto fnLearnedSpec)

/-- 'laws.FnTwoModels', WHERE WHAT IT READS IS OF BULK AT MOST 1048576: true; the input reads as it did. -/
def fnTwoModelsUptoRow : OpenClaim := { program := "ytjekgiabgglokaa", sum := "97607549eba6950f7ed0bc3864d1134f6daafce3ef99094381ed4163833a390d", func := "loop.example/g01357/laws.FnTwoModels", spec := "fnTwoModels", inPlace := ["math.Float64frombits", "math.Float32bits"], unfollowed := true, recurses := true, apart := false, narrowed := true }
def FnTwoModelsUptoSaid : Prop := fnTwoModelsUptoRow.holds Try.pinned (OpenSpec.upto fnTwoModelsSpec)

end Rows
end Go.Proofs.Ytjekgiabgglokaa
