/-
  No cell of these rows narrows 'for every input' (looked for: loops, veiled, ifaces, maps, wideKeys, modest, calm, conditions, laid).
  DERIVED. THE GIVEN ROWS OF THIS SEAT. 11 by the template 'for every input the law returns true; each argument reads behind the call as it read before'; 0 by the template 'total and deterministic' (their statements: YtphjhfpeomifiaaTotals.lean).
  GIVEN WITH THE SEED: the statements are not yours to turn. If you find one false, say at which input.
  Laid BY PROGRAM, IN A SANDBOX (cutbox-rows.mjs): the forced cells as the released guide's own fill.sh prints them over the translation d93bb6f6e98b4528… (all of the seat's roots in one cut). By AI agents, Wed Nov 11 2026. No macro, syntax, notation, axiom, sorry.
-/
import Derived.Test.YtphjhfpeomifiaaChecked
import GoSem.Claim
import GoSem.ClaimJoined
import GoSem.ClaimMapViews
import Derived.JoinedTies
import Derived.KernelRfl
namespace Go.Proofs.Ytphjhfpeomifiaa
/- THE CELL 'sum', in the pinned program and in every row, IS THE sha256 OF THE DUMP (.gsa) THAT YtphjhfpeomifiaaProg.lean LOADS. Nothing in Lean hashes anything: it is a label: what it is worth is what the hold of that sum in a sandbox is worth. -/
noncomputable def Try.pinned : Pinned := { name := "ytphjhfpeomifiaa", sum := "d93bb6f6e98b4528606f6abff6da16e05ea44a2c2f9d4d6197999a143c01f018", checked := Try.checked }
namespace Rows
def none {H : Type} : Left H := { results := [], args := [] }

/-- 'laws.FnExactCountGames': WHATEVER THE INPUT: true; the input reads as it did. -/
def fnExactCountGamesSpec : ChangeSpec := { name := "fnExactCountGames", fn := fun _ => fun
  | [d1, d2] => { results := [.lit (.bool true)], args := [d1, d2] }
  | _ => none }
def fnExactCountGamesRow : OpenClaim := { program := "ytphjhfpeomifiaa", sum := "d93bb6f6e98b4528606f6abff6da16e05ea44a2c2f9d4d6197999a143c01f018", func := "loop.example/g01306/laws.FnExactCountGames", spec := "fnExactCountGames", unfollowed := true, recurses := true, plainKeys := false, apart := false }
def FnExactCountGamesSaid : Prop := fnExactCountGamesRow.holds Try.pinned (OpenSpec.ofChange fnExactCountGamesSpec)

/-- ITS FALSE NEIGHBOUR: 'it returns false'. Refute it at one input. -/
def fnExactCountGamesWrong : ChangeSpec := { name := "fnExactCountGames", fn := fun _ => fun
  | [d1, d2] => { results := [.lit (.bool false)], args := [d1, d2] }
  | _ => none }
def FnExactCountGamesWrongFalsely : Prop := fnExactCountGamesRow.holds Try.pinned (OpenSpec.ofChange fnExactCountGamesWrong)

/-- 'laws.FnExactCountGamesBy': WHATEVER THE INPUT: true; the input reads as it did. -/
def fnExactCountGamesBySpec : ChangeSpec := { name := "fnExactCountGamesBy", fn := fun _ => fun
  | [d1, d2, d3] => { results := [.lit (.bool true)], args := [d1, d2, d3] }
  | _ => none }
def fnExactCountGamesByRow : OpenClaim := { program := "ytphjhfpeomifiaa", sum := "d93bb6f6e98b4528606f6abff6da16e05ea44a2c2f9d4d6197999a143c01f018", func := "loop.example/g01306/laws.FnExactCountGamesBy", spec := "fnExactCountGamesBy", unfollowed := true, recurses := true, plainKeys := false, apart := false }
def FnExactCountGamesBySaid : Prop := fnExactCountGamesByRow.holds Try.pinned (OpenSpec.ofChange fnExactCountGamesBySpec)

/-- ITS FALSE NEIGHBOUR: 'it returns false'. Refute it at one input. -/
def fnExactCountGamesByWrong : ChangeSpec := { name := "fnExactCountGamesBy", fn := fun _ => fun
  | [d1, d2, d3] => { results := [.lit (.bool false)], args := [d1, d2, d3] }
  | _ => none }
def FnExactCountGamesByWrongFalsely : Prop := fnExactCountGamesByRow.holds Try.pinned (OpenSpec.ofChange fnExactCountGamesByWrong)

/-- 'laws.FnExactJumpsOfGame': WHATEVER THE INPUT: true; the input reads as it did. -/
def fnExactJumpsOfGameSpec : ChangeSpec := { name := "fnExactJumpsOfGame", fn := fun _ => fun
  | [d1, d2] => { results := [.lit (.bool true)], args := [d1, d2] }
  | _ => none }
def fnExactJumpsOfGameRow : OpenClaim := { program := "ytphjhfpeomifiaa", sum := "d93bb6f6e98b4528606f6abff6da16e05ea44a2c2f9d4d6197999a143c01f018", func := "loop.example/g01306/laws.FnExactJumpsOfGame", spec := "fnExactJumpsOfGame", unfollowed := true, recurses := true, plainKeys := false, apart := false }
def FnExactJumpsOfGameSaid : Prop := fnExactJumpsOfGameRow.holds Try.pinned (OpenSpec.ofChange fnExactJumpsOfGameSpec)

/-- ITS FALSE NEIGHBOUR: 'it returns false'. Refute it at one input. -/
def fnExactJumpsOfGameWrong : ChangeSpec := { name := "fnExactJumpsOfGame", fn := fun _ => fun
  | [d1, d2] => { results := [.lit (.bool false)], args := [d1, d2] }
  | _ => none }
def FnExactJumpsOfGameWrongFalsely : Prop := fnExactJumpsOfGameRow.holds Try.pinned (OpenSpec.ofChange fnExactJumpsOfGameWrong)

/-- 'laws.FnExactIsGame': WHATEVER THE INPUT: true; the input reads as it did. -/
def fnExactIsGameSpec : ChangeSpec := { name := "fnExactIsGame", fn := fun _ => fun
  | [d1, d2] => { results := [.lit (.bool true)], args := [d1, d2] }
  | _ => none }
def fnExactIsGameRow : OpenClaim := { program := "ytphjhfpeomifiaa", sum := "d93bb6f6e98b4528606f6abff6da16e05ea44a2c2f9d4d6197999a143c01f018", func := "loop.example/g01306/laws.FnExactIsGame", spec := "fnExactIsGame", unfollowed := true, recurses := true, plainKeys := false, apart := false }
def FnExactIsGameSaid : Prop := fnExactIsGameRow.holds Try.pinned (OpenSpec.ofChange fnExactIsGameSpec)

/-- ITS FALSE NEIGHBOUR: 'it returns false'. Refute it at one input. -/
def fnExactIsGameWrong : ChangeSpec := { name := "fnExactIsGame", fn := fun _ => fun
  | [d1, d2] => { results := [.lit (.bool false)], args := [d1, d2] }
  | _ => none }
def FnExactIsGameWrongFalsely : Prop := fnExactIsGameRow.holds Try.pinned (OpenSpec.ofChange fnExactIsGameWrong)

/-- 'laws.FnExactGameTable': WHATEVER THE INPUT: true; the input reads as it did. -/
def fnExactGameTableSpec : ChangeSpec := { name := "fnExactGameTable", fn := fun _ => fun
  | [d1, d2] => { results := [.lit (.bool true)], args := [d1, d2] }
  | _ => none }
def fnExactGameTableRow : OpenClaim := { program := "ytphjhfpeomifiaa", sum := "d93bb6f6e98b4528606f6abff6da16e05ea44a2c2f9d4d6197999a143c01f018", func := "loop.example/g01306/laws.FnExactGameTable", spec := "fnExactGameTable", unfollowed := true, recurses := true, plainKeys := false, apart := false }
def FnExactGameTableSaid : Prop := fnExactGameTableRow.holds Try.pinned (OpenSpec.ofChange fnExactGameTableSpec)

/-- ITS FALSE NEIGHBOUR: 'it returns false'. Refute it at one input. -/
def fnExactGameTableWrong : ChangeSpec := { name := "fnExactGameTable", fn := fun _ => fun
  | [d1, d2] => { results := [.lit (.bool false)], args := [d1, d2] }
  | _ => none }
def FnExactGameTableWrongFalsely : Prop := fnExactGameTableRow.holds Try.pinned (OpenSpec.ofChange fnExactGameTableWrong)

/-- 'laws.FnExactFewestJumps': WHATEVER THE INPUT: true; the input reads as it did. -/
def fnExactFewestJumpsSpec : ChangeSpec := { name := "fnExactFewestJumps", fn := fun _ => fun
  | [d1, d2] => { results := [.lit (.bool true)], args := [d1, d2] }
  | _ => none }
def fnExactFewestJumpsRow : OpenClaim := { program := "ytphjhfpeomifiaa", sum := "d93bb6f6e98b4528606f6abff6da16e05ea44a2c2f9d4d6197999a143c01f018", func := "loop.example/g01306/laws.FnExactFewestJumps", spec := "fnExactFewestJumps", unfollowed := true, recurses := true, plainKeys := false, apart := false }
def FnExactFewestJumpsSaid : Prop := fnExactFewestJumpsRow.holds Try.pinned (OpenSpec.ofChange fnExactFewestJumpsSpec)

/-- ITS FALSE NEIGHBOUR: 'it returns false'. Refute it at one input. -/
def fnExactFewestJumpsWrong : ChangeSpec := { name := "fnExactFewestJumps", fn := fun _ => fun
  | [d1, d2] => { results := [.lit (.bool false)], args := [d1, d2] }
  | _ => none }
def FnExactFewestJumpsWrongFalsely : Prop := fnExactFewestJumpsRow.holds Try.pinned (OpenSpec.ofChange fnExactFewestJumpsWrong)

/-- 'laws.FnExactMostJumps': WHATEVER THE INPUT: true; the input reads as it did. -/
def fnExactMostJumpsSpec : ChangeSpec := { name := "fnExactMostJumps", fn := fun _ => fun
  | [d1, d2] => { results := [.lit (.bool true)], args := [d1, d2] }
  | _ => none }
def fnExactMostJumpsRow : OpenClaim := { program := "ytphjhfpeomifiaa", sum := "d93bb6f6e98b4528606f6abff6da16e05ea44a2c2f9d4d6197999a143c01f018", func := "loop.example/g01306/laws.FnExactMostJumps", spec := "fnExactMostJumps", unfollowed := true, recurses := true, plainKeys := false, apart := false }
def FnExactMostJumpsSaid : Prop := fnExactMostJumpsRow.holds Try.pinned (OpenSpec.ofChange fnExactMostJumpsSpec)

/-- ITS FALSE NEIGHBOUR: 'it returns false'. Refute it at one input. -/
def fnExactMostJumpsWrong : ChangeSpec := { name := "fnExactMostJumps", fn := fun _ => fun
  | [d1, d2] => { results := [.lit (.bool false)], args := [d1, d2] }
  | _ => none }
def FnExactMostJumpsWrongFalsely : Prop := fnExactMostJumpsRow.holds Try.pinned (OpenSpec.ofChange fnExactMostJumpsWrong)

/-- 'laws.FnExactGameLengths': WHATEVER THE INPUT: true; the input reads as it did. -/
def fnExactGameLengthsSpec : ChangeSpec := { name := "fnExactGameLengths", fn := fun _ => fun
  | [d] => { results := [.lit (.bool true)], args := [d] }
  | _ => none }
def fnExactGameLengthsRow : OpenClaim := { program := "ytphjhfpeomifiaa", sum := "d93bb6f6e98b4528606f6abff6da16e05ea44a2c2f9d4d6197999a143c01f018", func := "loop.example/g01306/laws.FnExactGameLengths", spec := "fnExactGameLengths", unfollowed := true, recurses := true, plainKeys := false, apart := false }
def FnExactGameLengthsSaid : Prop := fnExactGameLengthsRow.holds Try.pinned (OpenSpec.ofChange fnExactGameLengthsSpec)

/-- ITS FALSE NEIGHBOUR: 'it returns false'. Refute it at one input. -/
def fnExactGameLengthsWrong : ChangeSpec := { name := "fnExactGameLengths", fn := fun _ => fun
  | [d] => { results := [.lit (.bool false)], args := [d] }
  | _ => none }
def FnExactGameLengthsWrongFalsely : Prop := fnExactGameLengthsRow.holds Try.pinned (OpenSpec.ofChange fnExactGameLengthsWrong)

/-- 'laws.FnExactGameOfRank': WHATEVER THE INPUT: true; the input reads as it did. -/
def fnExactGameOfRankSpec : ChangeSpec := { name := "fnExactGameOfRank", fn := fun _ => fun
  | [d1, d2, d3] => { results := [.lit (.bool true)], args := [d1, d2, d3] }
  | _ => none }
def fnExactGameOfRankRow : OpenClaim := { program := "ytphjhfpeomifiaa", sum := "d93bb6f6e98b4528606f6abff6da16e05ea44a2c2f9d4d6197999a143c01f018", func := "loop.example/g01306/laws.FnExactGameOfRank", spec := "fnExactGameOfRank", unfollowed := true, recurses := true, plainKeys := false, apart := false }
def FnExactGameOfRankSaid : Prop := fnExactGameOfRankRow.holds Try.pinned (OpenSpec.ofChange fnExactGameOfRankSpec)

/-- ITS FALSE NEIGHBOUR: 'it returns false'. Refute it at one input. -/
def fnExactGameOfRankWrong : ChangeSpec := { name := "fnExactGameOfRank", fn := fun _ => fun
  | [d1, d2, d3] => { results := [.lit (.bool false)], args := [d1, d2, d3] }
  | _ => none }
def FnExactGameOfRankWrongFalsely : Prop := fnExactGameOfRankRow.holds Try.pinned (OpenSpec.ofChange fnExactGameOfRankWrong)

/-- 'laws.FnExactAverageJumps': WHATEVER THE INPUT: true; the input reads as it did. -/
def fnExactAverageJumpsSpec : ChangeSpec := { name := "fnExactAverageJumps", fn := fun _ => fun
  | [d1, d2] => { results := [.lit (.bool true)], args := [d1, d2] }
  | _ => none }
def fnExactAverageJumpsRow : OpenClaim := { program := "ytphjhfpeomifiaa", sum := "d93bb6f6e98b4528606f6abff6da16e05ea44a2c2f9d4d6197999a143c01f018", func := "loop.example/g01306/laws.FnExactAverageJumps", spec := "fnExactAverageJumps", unfollowed := true, recurses := true, plainKeys := false, apart := false }
def FnExactAverageJumpsSaid : Prop := fnExactAverageJumpsRow.holds Try.pinned (OpenSpec.ofChange fnExactAverageJumpsSpec)

/-- ITS FALSE NEIGHBOUR: 'it returns false'. Refute it at one input. -/
def fnExactAverageJumpsWrong : ChangeSpec := { name := "fnExactAverageJumps", fn := fun _ => fun
  | [d1, d2] => { results := [.lit (.bool false)], args := [d1, d2] }
  | _ => none }
def FnExactAverageJumpsWrongFalsely : Prop := fnExactAverageJumpsRow.holds Try.pinned (OpenSpec.ofChange fnExactAverageJumpsWrong)

/-- 'laws.FnExactRankOfGame': WHATEVER THE INPUT: true; the input reads as it did. -/
def fnExactRankOfGameSpec : ChangeSpec := { name := "fnExactRankOfGame", fn := fun _ => fun
  | [d1, d2] => { results := [.lit (.bool true)], args := [d1, d2] }
  | _ => none }
def fnExactRankOfGameRow : OpenClaim := { program := "ytphjhfpeomifiaa", sum := "d93bb6f6e98b4528606f6abff6da16e05ea44a2c2f9d4d6197999a143c01f018", func := "loop.example/g01306/laws.FnExactRankOfGame", spec := "fnExactRankOfGame", unfollowed := true, recurses := true, plainKeys := false, apart := false }
def FnExactRankOfGameSaid : Prop := fnExactRankOfGameRow.holds Try.pinned (OpenSpec.ofChange fnExactRankOfGameSpec)

/-- ITS FALSE NEIGHBOUR: 'it returns false'. Refute it at one input. -/
def fnExactRankOfGameWrong : ChangeSpec := { name := "fnExactRankOfGame", fn := fun _ => fun
  | [d1, d2] => { results := [.lit (.bool false)], args := [d1, d2] }
  | _ => none }
def FnExactRankOfGameWrongFalsely : Prop := fnExactRankOfGameRow.holds Try.pinned (OpenSpec.ofChange fnExactRankOfGameWrong)

/- THE SECOND FORM. 'bulk': how many values and letters a reading holds, each counted each time it is reached (what is shared counts as often as it is met; a slice's spare places count too). A statement '..UptoSaid' is the law's where the arguments, and the package variables that the reading takes, are together of bulk at most 1048576: NARROWER than '..Said'. Prove '..Said' where nothing that the law and all that it calls make is longer than what came in: it says more and counts as full. Else prove '..UptoSaid'. A law counts once. -/
mutual
def uptoBulk {H : Type} : DataW H → Nat
  | .lit (.string bytes) => bytes.length + 1
  | .lit _ => 1
  | .nil => 1
  | .ptr d => uptoBulk d + 1
  | .slice elems spare => uptoBulkAll elems + uptoBulkAll spare + 1
  | .agg parts => uptoBulkAll parts + 1
  | .iface _ d => uptoBulk d + 1
  | .map entries => uptoBulkEntries entries + 1
  | .held _ => 1
def uptoBulkAll {H : Type} : List (DataW H) → Nat
  | [] => 0
  | d :: r => uptoBulk d + uptoBulkAll r
def uptoBulkEntries {H : Type} : List (Lit × DataW H) → Nat
  | [] => 0
  | x :: r => uptoBulkEntry x + uptoBulkEntries r
def uptoBulkEntry {H : Type} : Lit × DataW H → Nat
  | (.string bytes, d) => bytes.length + uptoBulk d + 1
  | (_, d) => uptoBulk d + 1
 end
def uptoSmall : (H : Type) → List (DataW H) → Bool := fun _ ds => decide (uptoBulkAll ds ≤ 1048576)
def OpenSpec.upto (s : _root_.Go.ChangeSpec) : _root_.Go.OpenSpec := { _root_.Go.OpenSpec.ofChange s with cond := some uptoSmall }

/-- 'laws.FnExactCountGames', WHERE WHAT IT READS IS OF BULK AT MOST 1048576: true; the input reads as it did. -/
def fnExactCountGamesUptoRow : OpenClaim := { program := "ytphjhfpeomifiaa", sum := "d93bb6f6e98b4528606f6abff6da16e05ea44a2c2f9d4d6197999a143c01f018", func := "loop.example/g01306/laws.FnExactCountGames", spec := "fnExactCountGames", unfollowed := true, recurses := true, plainKeys := false, apart := false, narrowed := true }
def FnExactCountGamesUptoSaid : Prop := fnExactCountGamesUptoRow.holds Try.pinned (OpenSpec.upto fnExactCountGamesSpec)

/-- 'laws.FnExactCountGamesBy', WHERE WHAT IT READS IS OF BULK AT MOST 1048576: true; the input reads as it did. -/
def fnExactCountGamesByUptoRow : OpenClaim := { program := "ytphjhfpeomifiaa", sum := "d93bb6f6e98b4528606f6abff6da16e05ea44a2c2f9d4d6197999a143c01f018", func := "loop.example/g01306/laws.FnExactCountGamesBy", spec := "fnExactCountGamesBy", unfollowed := true, recurses := true, plainKeys := false, apart := false, narrowed := true }
def FnExactCountGamesByUptoSaid : Prop := fnExactCountGamesByUptoRow.holds Try.pinned (OpenSpec.upto fnExactCountGamesBySpec)

/-- 'laws.FnExactJumpsOfGame', WHERE WHAT IT READS IS OF BULK AT MOST 1048576: true; the input reads as it did. -/
def fnExactJumpsOfGameUptoRow : OpenClaim := { program := "ytphjhfpeomifiaa", sum := "d93bb6f6e98b4528606f6abff6da16e05ea44a2c2f9d4d6197999a143c01f018", func := "loop.example/g01306/laws.FnExactJumpsOfGame", spec := "fnExactJumpsOfGame", unfollowed := true, recurses := true, plainKeys := false, apart := false, narrowed := true }
def FnExactJumpsOfGameUptoSaid : Prop := fnExactJumpsOfGameUptoRow.holds Try.pinned (OpenSpec.upto fnExactJumpsOfGameSpec)

/-- 'laws.FnExactIsGame', WHERE WHAT IT READS IS OF BULK AT MOST 1048576: true; the input reads as it did. -/
def fnExactIsGameUptoRow : OpenClaim := { program := "ytphjhfpeomifiaa", sum := "d93bb6f6e98b4528606f6abff6da16e05ea44a2c2f9d4d6197999a143c01f018", func := "loop.example/g01306/laws.FnExactIsGame", spec := "fnExactIsGame", unfollowed := true, recurses := true, plainKeys := false, apart := false, narrowed := true }
def FnExactIsGameUptoSaid : Prop := fnExactIsGameUptoRow.holds Try.pinned (OpenSpec.upto fnExactIsGameSpec)

/-- 'laws.FnExactGameTable', WHERE WHAT IT READS IS OF BULK AT MOST 1048576: true; the input reads as it did. -/
def fnExactGameTableUptoRow : OpenClaim := { program := "ytphjhfpeomifiaa", sum := "d93bb6f6e98b4528606f6abff6da16e05ea44a2c2f9d4d6197999a143c01f018", func := "loop.example/g01306/laws.FnExactGameTable", spec := "fnExactGameTable", unfollowed := true, recurses := true, plainKeys := false, apart := false, narrowed := true }
def FnExactGameTableUptoSaid : Prop := fnExactGameTableUptoRow.holds Try.pinned (OpenSpec.upto fnExactGameTableSpec)

/-- 'laws.FnExactFewestJumps', WHERE WHAT IT READS IS OF BULK AT MOST 1048576: true; the input reads as it did. -/
def fnExactFewestJumpsUptoRow : OpenClaim := { program := "ytphjhfpeomifiaa", sum := "d93bb6f6e98b4528606f6abff6da16e05ea44a2c2f9d4d6197999a143c01f018", func := "loop.example/g01306/laws.FnExactFewestJumps", spec := "fnExactFewestJumps", unfollowed := true, recurses := true, plainKeys := false, apart := false, narrowed := true }
def FnExactFewestJumpsUptoSaid : Prop := fnExactFewestJumpsUptoRow.holds Try.pinned (OpenSpec.upto fnExactFewestJumpsSpec)

/-- 'laws.FnExactMostJumps', WHERE WHAT IT READS IS OF BULK AT MOST 1048576: true; the input reads as it did. -/
def fnExactMostJumpsUptoRow : OpenClaim := { program := "ytphjhfpeomifiaa", sum := "d93bb6f6e98b4528606f6abff6da16e05ea44a2c2f9d4d6197999a143c01f018", func := "loop.example/g01306/laws.FnExactMostJumps", spec := "fnExactMostJumps", unfollowed := true, recurses := true, plainKeys := false, apart := false, narrowed := true }
def FnExactMostJumpsUptoSaid : Prop := fnExactMostJumpsUptoRow.holds Try.pinned (OpenSpec.upto fnExactMostJumpsSpec)

/-- 'laws.FnExactGameLengths', WHERE WHAT IT READS IS OF BULK AT MOST 1048576: true; the input reads as it did. -/
def fnExactGameLengthsUptoRow : OpenClaim := { program := "ytphjhfpeomifiaa", sum := "d93bb6f6e98b4528606f6abff6da16e05ea44a2c2f9d4d6197999a143c01f018", func := "loop.example/g01306/laws.FnExactGameLengths", spec := "fnExactGameLengths", unfollowed := true, recurses := true, plainKeys := false, apart := false, narrowed := true }
def FnExactGameLengthsUptoSaid : Prop := fnExactGameLengthsUptoRow.holds Try.pinned (OpenSpec.upto fnExactGameLengthsSpec)

/-- 'laws.FnExactGameOfRank', WHERE WHAT IT READS IS OF BULK AT MOST 1048576: true; the input reads as it did. -/
def fnExactGameOfRankUptoRow : OpenClaim := { program := "ytphjhfpeomifiaa", sum := "d93bb6f6e98b4528606f6abff6da16e05ea44a2c2f9d4d6197999a143c01f018", func := "loop.example/g01306/laws.FnExactGameOfRank", spec := "fnExactGameOfRank", unfollowed := true, recurses := true, plainKeys := false, apart := false, narrowed := true }
def FnExactGameOfRankUptoSaid : Prop := fnExactGameOfRankUptoRow.holds Try.pinned (OpenSpec.upto fnExactGameOfRankSpec)

/-- 'laws.FnExactAverageJumps', WHERE WHAT IT READS IS OF BULK AT MOST 1048576: true; the input reads as it did. -/
def fnExactAverageJumpsUptoRow : OpenClaim := { program := "ytphjhfpeomifiaa", sum := "d93bb6f6e98b4528606f6abff6da16e05ea44a2c2f9d4d6197999a143c01f018", func := "loop.example/g01306/laws.FnExactAverageJumps", spec := "fnExactAverageJumps", unfollowed := true, recurses := true, plainKeys := false, apart := false, narrowed := true }
def FnExactAverageJumpsUptoSaid : Prop := fnExactAverageJumpsUptoRow.holds Try.pinned (OpenSpec.upto fnExactAverageJumpsSpec)

/-- 'laws.FnExactRankOfGame', WHERE WHAT IT READS IS OF BULK AT MOST 1048576: true; the input reads as it did. -/
def fnExactRankOfGameUptoRow : OpenClaim := { program := "ytphjhfpeomifiaa", sum := "d93bb6f6e98b4528606f6abff6da16e05ea44a2c2f9d4d6197999a143c01f018", func := "loop.example/g01306/laws.FnExactRankOfGame", spec := "fnExactRankOfGame", unfollowed := true, recurses := true, plainKeys := false, apart := false, narrowed := true }
def FnExactRankOfGameUptoSaid : Prop := fnExactRankOfGameUptoRow.holds Try.pinned (OpenSpec.upto fnExactRankOfGameSpec)

end Rows
end Go.Proofs.Ytphjhfpeomifiaa
