/-
  No cell of these rows narrows 'for every input' (looked for: loops, veiled, ifaces, maps, wideKeys, modest, calm, conditions, laid).
  DERIVED. THE GIVEN ROWS OF THIS SEAT. 7 by the template 'for every input the law returns true; each argument reads behind the call as it read before'; 0 by the template 'total and deterministic' (their statements: YtkejogbikbnafaaTotals.lean).
  GIVEN WITH THE SEED: the statements are not yours to turn. If you find one false, say at which input.
  Laid BY PROGRAM, IN A SANDBOX (cutbox-rows.mjs): the forced cells as the released guide's own fill.sh prints them over the translation 3ac28dec4b6680b5… (all of the seat's roots in one cut). By AI agents, Wed Nov 11 2026. No macro, syntax, notation, axiom, sorry.
-/
import Derived.Test.YtkejogbikbnafaaChecked
import GoSem.Claim
import GoSem.ClaimJoined
import GoSem.ClaimMapViews
import Derived.JoinedTies
import Derived.KernelRfl
namespace Go.Proofs.Ytkejogbikbnafaa
/- THE CELL 'sum', in the pinned program and in every row, IS THE sha256 OF THE DUMP (.gsa) THAT YtkejogbikbnafaaProg.lean LOADS. Nothing in Lean hashes anything: it is a label: what it is worth is what the hold of that sum in a sandbox is worth. -/
noncomputable def Try.pinned : Pinned := { name := "ytkejogbikbnafaa", sum := "3ac28dec4b6680b512ff553b9c761db94d8b757d5accd64a9ec209971604bec0", checked := Try.checked }
namespace Rows
def none {H : Type} : Left H := { results := [], args := [] }

/-- 'laws.FnExactTurnGame': WHATEVER THE INPUT: true; the input reads as it did. -/
def fnExactTurnGameSpec : ChangeSpec := { name := "fnExactTurnGame", fn := fun _ => fun
  | [d] => { results := [.lit (.bool true)], args := [d] }
  | _ => none }
def fnExactTurnGameRow : OpenClaim := { program := "ytkejogbikbnafaa", sum := "3ac28dec4b6680b512ff553b9c761db94d8b757d5accd64a9ec209971604bec0", func := "loop.example/g01357/laws.FnExactTurnGame", spec := "fnExactTurnGame", unfollowed := true, recurses := true, apart := false }
def FnExactTurnGameSaid : Prop := fnExactTurnGameRow.holds Try.pinned (OpenSpec.ofChange fnExactTurnGameSpec)

/-- ITS FALSE NEIGHBOUR: 'it returns false'. Refute it at one input. -/
def fnExactTurnGameWrong : ChangeSpec := { name := "fnExactTurnGame", fn := fun _ => fun
  | [d] => { results := [.lit (.bool false)], args := [d] }
  | _ => none }
def FnExactTurnGameWrongFalsely : Prop := fnExactTurnGameRow.holds Try.pinned (OpenSpec.ofChange fnExactTurnGameWrong)

/-- 'laws.FnExactReachOf': WHATEVER THE INPUT: true; the input reads as it did. -/
def fnExactReachOfSpec : ChangeSpec := { name := "fnExactReachOf", fn := fun _ => fun
  | [d1, d2, d3] => { results := [.lit (.bool true)], args := [d1, d2, d3] }
  | _ => none }
def fnExactReachOfRow : OpenClaim := { program := "ytkejogbikbnafaa", sum := "3ac28dec4b6680b512ff553b9c761db94d8b757d5accd64a9ec209971604bec0", func := "loop.example/g01357/laws.FnExactReachOf", spec := "fnExactReachOf", unfollowed := true, recurses := true, apart := false }
def FnExactReachOfSaid : Prop := fnExactReachOfRow.holds Try.pinned (OpenSpec.ofChange fnExactReachOfSpec)

/-- ITS FALSE NEIGHBOUR: 'it returns false'. Refute it at one input. -/
def fnExactReachOfWrong : ChangeSpec := { name := "fnExactReachOf", fn := fun _ => fun
  | [d1, d2, d3] => { results := [.lit (.bool false)], args := [d1, d2, d3] }
  | _ => none }
def FnExactReachOfWrongFalsely : Prop := fnExactReachOfRow.holds Try.pinned (OpenSpec.ofChange fnExactReachOfWrong)

/-- 'laws.FnExactSolveGame': WHATEVER THE INPUT: true; the input reads as it did. -/
def fnExactSolveGameSpec : ChangeSpec := { name := "fnExactSolveGame", fn := fun _ => fun
  | [d] => { results := [.lit (.bool true)], args := [d] }
  | _ => none }
def fnExactSolveGameRow : OpenClaim := { program := "ytkejogbikbnafaa", sum := "3ac28dec4b6680b512ff553b9c761db94d8b757d5accd64a9ec209971604bec0", func := "loop.example/g01357/laws.FnExactSolveGame", spec := "fnExactSolveGame", unfollowed := true, recurses := true, apart := false }
def FnExactSolveGameSaid : Prop := fnExactSolveGameRow.holds Try.pinned (OpenSpec.ofChange fnExactSolveGameSpec)

/-- ITS FALSE NEIGHBOUR: 'it returns false'. Refute it at one input. -/
def fnExactSolveGameWrong : ChangeSpec := { name := "fnExactSolveGame", fn := fun _ => fun
  | [d] => { results := [.lit (.bool false)], args := [d] }
  | _ => none }
def FnExactSolveGameWrongFalsely : Prop := fnExactSolveGameRow.holds Try.pinned (OpenSpec.ofChange fnExactSolveGameWrong)

/-- 'laws.FnExactGamesShared': WHATEVER THE INPUT: true; the input reads as it did. -/
def fnExactGamesSharedSpec : ChangeSpec := { name := "fnExactGamesShared", fn := fun _ => fun
  | [d1, d2] => { results := [.lit (.bool true)], args := [d1, d2] }
  | _ => none }
def fnExactGamesSharedRow : OpenClaim := { program := "ytkejogbikbnafaa", sum := "3ac28dec4b6680b512ff553b9c761db94d8b757d5accd64a9ec209971604bec0", func := "loop.example/g01357/laws.FnExactGamesShared", spec := "fnExactGamesShared", unfollowed := true, recurses := true, apart := false }
def FnExactGamesSharedSaid : Prop := fnExactGamesSharedRow.holds Try.pinned (OpenSpec.ofChange fnExactGamesSharedSpec)

/-- ITS FALSE NEIGHBOUR: 'it returns false'. Refute it at one input. -/
def fnExactGamesSharedWrong : ChangeSpec := { name := "fnExactGamesShared", fn := fun _ => fun
  | [d1, d2] => { results := [.lit (.bool false)], args := [d1, d2] }
  | _ => none }
def FnExactGamesSharedWrongFalsely : Prop := fnExactGamesSharedRow.holds Try.pinned (OpenSpec.ofChange fnExactGamesSharedWrong)

/-- 'laws.FnExactIsWinning': WHATEVER THE INPUT: true; the input reads as it did. -/
def fnExactIsWinningSpec : ChangeSpec := { name := "fnExactIsWinning", fn := fun _ => fun
  | [d1, d2, d3] => { results := [.lit (.bool true)], args := [d1, d2, d3] }
  | _ => none }
def fnExactIsWinningRow : OpenClaim := { program := "ytkejogbikbnafaa", sum := "3ac28dec4b6680b512ff553b9c761db94d8b757d5accd64a9ec209971604bec0", func := "loop.example/g01357/laws.FnExactIsWinning", spec := "fnExactIsWinning", unfollowed := true, recurses := true, apart := false }
def FnExactIsWinningSaid : Prop := fnExactIsWinningRow.holds Try.pinned (OpenSpec.ofChange fnExactIsWinningSpec)

/-- ITS FALSE NEIGHBOUR: 'it returns false'. Refute it at one input. -/
def fnExactIsWinningWrong : ChangeSpec := { name := "fnExactIsWinning", fn := fun _ => fun
  | [d1, d2, d3] => { results := [.lit (.bool false)], args := [d1, d2, d3] }
  | _ => none }
def FnExactIsWinningWrongFalsely : Prop := fnExactIsWinningRow.holds Try.pinned (OpenSpec.ofChange fnExactIsWinningWrong)

/-- 'laws.FnExactMovesOfGame': WHATEVER THE INPUT: true; the input reads as it did. -/
def fnExactMovesOfGameSpec : ChangeSpec := { name := "fnExactMovesOfGame", fn := fun _ => fun
  | [d] => { results := [.lit (.bool true)], args := [d] }
  | _ => none }
def fnExactMovesOfGameRow : OpenClaim := { program := "ytkejogbikbnafaa", sum := "3ac28dec4b6680b512ff553b9c761db94d8b757d5accd64a9ec209971604bec0", func := "loop.example/g01357/laws.FnExactMovesOfGame", spec := "fnExactMovesOfGame", unfollowed := true, recurses := true, apart := false }
def FnExactMovesOfGameSaid : Prop := fnExactMovesOfGameRow.holds Try.pinned (OpenSpec.ofChange fnExactMovesOfGameSpec)

/-- ITS FALSE NEIGHBOUR: 'it returns false'. Refute it at one input. -/
def fnExactMovesOfGameWrong : ChangeSpec := { name := "fnExactMovesOfGame", fn := fun _ => fun
  | [d] => { results := [.lit (.bool false)], args := [d] }
  | _ => none }
def FnExactMovesOfGameWrongFalsely : Prop := fnExactMovesOfGameRow.holds Try.pinned (OpenSpec.ofChange fnExactMovesOfGameWrong)

/-- 'laws.FnExactAllWords': WHATEVER THE INPUT: true; the input reads as it did. -/
def fnExactAllWordsSpec : ChangeSpec := { name := "fnExactAllWords", fn := fun _ => fun
  | [d1, d2, d3] => { results := [.lit (.bool true)], args := [d1, d2, d3] }
  | _ => none }
def fnExactAllWordsRow : OpenClaim := { program := "ytkejogbikbnafaa", sum := "3ac28dec4b6680b512ff553b9c761db94d8b757d5accd64a9ec209971604bec0", func := "loop.example/g01357/laws.FnExactAllWords", spec := "fnExactAllWords", unfollowed := true, recurses := true, apart := false }
def FnExactAllWordsSaid : Prop := fnExactAllWordsRow.holds Try.pinned (OpenSpec.ofChange fnExactAllWordsSpec)

/-- ITS FALSE NEIGHBOUR: 'it returns false'. Refute it at one input. -/
def fnExactAllWordsWrong : ChangeSpec := { name := "fnExactAllWords", fn := fun _ => fun
  | [d1, d2, d3] => { results := [.lit (.bool false)], args := [d1, d2, d3] }
  | _ => none }
def FnExactAllWordsWrongFalsely : Prop := fnExactAllWordsRow.holds Try.pinned (OpenSpec.ofChange fnExactAllWordsWrong)

/- THE SECOND FORM. 'bulk': how many values and letters a reading holds, each counted each time it is reached (what is shared counts as often as it is met; a slice's spare places count too). A statement '..UptoSaid' is the law's where the arguments, and the package variables that the reading takes, are together of bulk at most 1048576: NARROWER than '..Said'. Prove '..Said' where nothing that the law and all that it calls make is longer than what came in: it says more and counts as full. Else prove '..UptoSaid'. A law counts once. -/
mutual
def uptoBulk {H : Type} : DataW H → Nat
  | .lit (.string bytes) => bytes.length + 1
  | .lit _ => 1
  | .nil => 1
  | .ptr d => uptoBulk d + 1
  | .slice elems spare => uptoBulkAll elems + uptoBulkAll spare + 1
  | .agg parts => uptoBulkAll parts + 1
  | .iface _ d => uptoBulk d + 1
  | .map entries => uptoBulkEntries entries + 1
  | .held _ => 1
def uptoBulkAll {H : Type} : List (DataW H) → Nat
  | [] => 0
  | d :: r => uptoBulk d + uptoBulkAll r
def uptoBulkEntries {H : Type} : List (Lit × DataW H) → Nat
  | [] => 0
  | x :: r => uptoBulkEntry x + uptoBulkEntries r
def uptoBulkEntry {H : Type} : Lit × DataW H → Nat
  | (.string bytes, d) => bytes.length + uptoBulk d + 1
  | (_, d) => uptoBulk d + 1
 end
def uptoSmall : (H : Type) → List (DataW H) → Bool := fun _ ds => decide (uptoBulkAll ds ≤ 1048576)
def OpenSpec.upto (s : _root_.Go.ChangeSpec) : _root_.Go.OpenSpec := { _root_.Go.OpenSpec.ofChange s with cond := some uptoSmall }

/-- 'laws.FnExactTurnGame', WHERE WHAT IT READS IS OF BULK AT MOST 1048576: true; the input reads as it did. -/
def fnExactTurnGameUptoRow : OpenClaim := { program := "ytkejogbikbnafaa", sum := "3ac28dec4b6680b512ff553b9c761db94d8b757d5accd64a9ec209971604bec0", func := "loop.example/g01357/laws.FnExactTurnGame", spec := "fnExactTurnGame", unfollowed := true, recurses := true, apart := false, narrowed := true }
def FnExactTurnGameUptoSaid : Prop := fnExactTurnGameUptoRow.holds Try.pinned (OpenSpec.upto fnExactTurnGameSpec)

/-- 'laws.FnExactReachOf', WHERE WHAT IT READS IS OF BULK AT MOST 1048576: true; the input reads as it did. -/
def fnExactReachOfUptoRow : OpenClaim := { program := "ytkejogbikbnafaa", sum := "3ac28dec4b6680b512ff553b9c761db94d8b757d5accd64a9ec209971604bec0", func := "loop.example/g01357/laws.FnExactReachOf", spec := "fnExactReachOf", unfollowed := true, recurses := true, apart := false, narrowed := true }
def FnExactReachOfUptoSaid : Prop := fnExactReachOfUptoRow.holds Try.pinned (OpenSpec.upto fnExactReachOfSpec)

/-- 'laws.FnExactSolveGame', WHERE WHAT IT READS IS OF BULK AT MOST 1048576: true; the input reads as it did. -/
def fnExactSolveGameUptoRow : OpenClaim := { program := "ytkejogbikbnafaa", sum := "3ac28dec4b6680b512ff553b9c761db94d8b757d5accd64a9ec209971604bec0", func := "loop.example/g01357/laws.FnExactSolveGame", spec := "fnExactSolveGame", unfollowed := true, recurses := true, apart := false, narrowed := true }
def FnExactSolveGameUptoSaid : Prop := fnExactSolveGameUptoRow.holds Try.pinned (OpenSpec.upto fnExactSolveGameSpec)

/-- 'laws.FnExactGamesShared', WHERE WHAT IT READS IS OF BULK AT MOST 1048576: true; the input reads as it did. -/
def fnExactGamesSharedUptoRow : OpenClaim := { program := "ytkejogbikbnafaa", sum := "3ac28dec4b6680b512ff553b9c761db94d8b757d5accd64a9ec209971604bec0", func := "loop.example/g01357/laws.FnExactGamesShared", spec := "fnExactGamesShared", unfollowed := true, recurses := true, apart := false, narrowed := true }
def FnExactGamesSharedUptoSaid : Prop := fnExactGamesSharedUptoRow.holds Try.pinned (OpenSpec.upto fnExactGamesSharedSpec)

/-- 'laws.FnExactIsWinning', WHERE WHAT IT READS IS OF BULK AT MOST 1048576: true; the input reads as it did. -/
def fnExactIsWinningUptoRow : OpenClaim := { program := "ytkejogbikbnafaa", sum := "3ac28dec4b6680b512ff553b9c761db94d8b757d5accd64a9ec209971604bec0", func := "loop.example/g01357/laws.FnExactIsWinning", spec := "fnExactIsWinning", unfollowed := true, recurses := true, apart := false, narrowed := true }
def FnExactIsWinningUptoSaid : Prop := fnExactIsWinningUptoRow.holds Try.pinned (OpenSpec.upto fnExactIsWinningSpec)

/-- 'laws.FnExactMovesOfGame', WHERE WHAT IT READS IS OF BULK AT MOST 1048576: true; the input reads as it did. -/
def fnExactMovesOfGameUptoRow : OpenClaim := { program := "ytkejogbikbnafaa", sum := "3ac28dec4b6680b512ff553b9c761db94d8b757d5accd64a9ec209971604bec0", func := "loop.example/g01357/laws.FnExactMovesOfGame", spec := "fnExactMovesOfGame", unfollowed := true, recurses := true, apart := false, narrowed := true }
def FnExactMovesOfGameUptoSaid : Prop := fnExactMovesOfGameUptoRow.holds Try.pinned (OpenSpec.upto fnExactMovesOfGameSpec)

/-- 'laws.FnExactAllWords', WHERE WHAT IT READS IS OF BULK AT MOST 1048576: true; the input reads as it did. -/
def fnExactAllWordsUptoRow : OpenClaim := { program := "ytkejogbikbnafaa", sum := "3ac28dec4b6680b512ff553b9c761db94d8b757d5accd64a9ec209971604bec0", func := "loop.example/g01357/laws.FnExactAllWords", spec := "fnExactAllWords", unfollowed := true, recurses := true, apart := false, narrowed := true }
def FnExactAllWordsUptoSaid : Prop := fnExactAllWordsUptoRow.holds Try.pinned (OpenSpec.upto fnExactAllWordsSpec)

end Rows
end Go.Proofs.Ytkejogbikbnafaa
