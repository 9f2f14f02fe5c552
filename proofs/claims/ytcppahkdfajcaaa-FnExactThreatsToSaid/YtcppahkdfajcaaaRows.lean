/-
  No cell of these rows narrows 'for every input' (looked for: loops, veiled, ifaces, maps, wideKeys, modest, calm, conditions, laid).
  DERIVED. THE GIVEN ROWS OF THIS SEAT. 16 by the template 'for every input the law returns true; each argument reads behind the call as it read before'; 0 by the template 'total and deterministic' (their statements: YtcppahkdfajcaaaTotals.lean).
  GIVEN WITH THE SEED: the statements are not yours to turn. If you find one false, say at which input.
  Laid BY PROGRAM, IN A SANDBOX (cutbox-rows.mjs): the forced cells as the released guide's own fill.sh prints them over the translation 384fb13f3635dd25… (all of the seat's roots in one cut). By AI agents, Wed Nov 11 2026. No macro, syntax, notation, axiom, sorry.
-/
import Derived.Test.YtcppahkdfajcaaaChecked
import GoSem.Claim
import GoSem.ClaimJoined
import GoSem.ClaimMapViews
import Derived.JoinedTies
import Derived.KernelRfl
namespace Go.Proofs.Ytcppahkdfajcaaa
/- THE CELL 'sum', in the pinned program and in every row, IS THE sha256 OF THE DUMP (.gsa) THAT YtcppahkdfajcaaaProg.lean LOADS. Nothing in Lean hashes anything: it is a label: what it is worth is what the hold of that sum in a sandbox is worth. -/
noncomputable def Try.pinned : Pinned := { name := "ytcppahkdfajcaaa", sum := "384fb13f3635dd25f241e3a7573d6bc030f8c57a2dfd14c44a9d9ebcc6ea05e3", checked := Try.checked }
namespace Rows
def none {H : Type} : Left H := { results := [], args := [] }

/-- 'laws.FnExactIsTrack': WHATEVER THE INPUT: true; the input reads as it did. -/
def fnExactIsTrackSpec : ChangeSpec := { name := "fnExactIsTrack", fn := fun _ => fun
  | [d] => { results := [.lit (.bool true)], args := [d] }
  | _ => none }
def fnExactIsTrackRow : OpenClaim := { program := "ytcppahkdfajcaaa", sum := "384fb13f3635dd25f241e3a7573d6bc030f8c57a2dfd14c44a9d9ebcc6ea05e3", func := "loop.example/g01306/laws.FnExactIsTrack", spec := "fnExactIsTrack", unfollowed := true, recurses := true, apart := false }
def FnExactIsTrackSaid : Prop := fnExactIsTrackRow.holds Try.pinned (OpenSpec.ofChange fnExactIsTrackSpec)

/-- ITS FALSE NEIGHBOUR: 'it returns false'. Refute it at one input. -/
def fnExactIsTrackWrong : ChangeSpec := { name := "fnExactIsTrack", fn := fun _ => fun
  | [d] => { results := [.lit (.bool false)], args := [d] }
  | _ => none }
def FnExactIsTrackWrongFalsely : Prop := fnExactIsTrackRow.holds Try.pinned (OpenSpec.ofChange fnExactIsTrackWrong)

/-- 'laws.FnExactTrackSquare': WHATEVER THE INPUT: true; the input reads as it did. -/
def fnExactTrackSquareSpec : ChangeSpec := { name := "fnExactTrackSquare", fn := fun _ => fun
  | [d1, d2, d3] => { results := [.lit (.bool true)], args := [d1, d2, d3] }
  | _ => none }
def fnExactTrackSquareRow : OpenClaim := { program := "ytcppahkdfajcaaa", sum := "384fb13f3635dd25f241e3a7573d6bc030f8c57a2dfd14c44a9d9ebcc6ea05e3", func := "loop.example/g01306/laws.FnExactTrackSquare", spec := "fnExactTrackSquare", unfollowed := true, recurses := true, apart := false }
def FnExactTrackSquareSaid : Prop := fnExactTrackSquareRow.holds Try.pinned (OpenSpec.ofChange fnExactTrackSquareSpec)

/-- ITS FALSE NEIGHBOUR: 'it returns false'. Refute it at one input. -/
def fnExactTrackSquareWrong : ChangeSpec := { name := "fnExactTrackSquare", fn := fun _ => fun
  | [d1, d2, d3] => { results := [.lit (.bool false)], args := [d1, d2, d3] }
  | _ => none }
def FnExactTrackSquareWrongFalsely : Prop := fnExactTrackSquareRow.holds Try.pinned (OpenSpec.ofChange fnExactTrackSquareWrong)

/-- 'laws.FnExactIsTrackState': WHATEVER THE INPUT: true; the input reads as it did. -/
def fnExactIsTrackStateSpec : ChangeSpec := { name := "fnExactIsTrackState", fn := fun _ => fun
  | [d1, d2] => { results := [.lit (.bool true)], args := [d1, d2] }
  | _ => none }
def fnExactIsTrackStateRow : OpenClaim := { program := "ytcppahkdfajcaaa", sum := "384fb13f3635dd25f241e3a7573d6bc030f8c57a2dfd14c44a9d9ebcc6ea05e3", func := "loop.example/g01306/laws.FnExactIsTrackState", spec := "fnExactIsTrackState", unfollowed := true, recurses := true, apart := false }
def FnExactIsTrackStateSaid : Prop := fnExactIsTrackStateRow.holds Try.pinned (OpenSpec.ofChange fnExactIsTrackStateSpec)

/-- ITS FALSE NEIGHBOUR: 'it returns false'. Refute it at one input. -/
def fnExactIsTrackStateWrong : ChangeSpec := { name := "fnExactIsTrackState", fn := fun _ => fun
  | [d1, d2] => { results := [.lit (.bool false)], args := [d1, d2] }
  | _ => none }
def FnExactIsTrackStateWrongFalsely : Prop := fnExactIsTrackStateRow.holds Try.pinned (OpenSpec.ofChange fnExactIsTrackStateWrong)

/-- 'laws.FnExactIsDonePlayer': WHATEVER THE INPUT: true; the input reads as it did. -/
def fnExactIsDonePlayerSpec : ChangeSpec := { name := "fnExactIsDonePlayer", fn := fun _ => fun
  | [d1, d2, d3] => { results := [.lit (.bool true)], args := [d1, d2, d3] }
  | _ => none }
def fnExactIsDonePlayerRow : OpenClaim := { program := "ytcppahkdfajcaaa", sum := "384fb13f3635dd25f241e3a7573d6bc030f8c57a2dfd14c44a9d9ebcc6ea05e3", func := "loop.example/g01306/laws.FnExactIsDonePlayer", spec := "fnExactIsDonePlayer", unfollowed := true, recurses := true, apart := false }
def FnExactIsDonePlayerSaid : Prop := fnExactIsDonePlayerRow.holds Try.pinned (OpenSpec.ofChange fnExactIsDonePlayerSpec)

/-- ITS FALSE NEIGHBOUR: 'it returns false'. Refute it at one input. -/
def fnExactIsDonePlayerWrong : ChangeSpec := { name := "fnExactIsDonePlayer", fn := fun _ => fun
  | [d1, d2, d3] => { results := [.lit (.bool false)], args := [d1, d2, d3] }
  | _ => none }
def FnExactIsDonePlayerWrongFalsely : Prop := fnExactIsDonePlayerRow.holds Try.pinned (OpenSpec.ofChange fnExactIsDonePlayerWrong)

/-- 'laws.FnExactTrackStart': WHATEVER THE INPUT: true; the input reads as it did. -/
def fnExactTrackStartSpec : ChangeSpec := { name := "fnExactTrackStart", fn := fun _ => fun
  | [d] => { results := [.lit (.bool true)], args := [d] }
  | _ => none }
def fnExactTrackStartRow : OpenClaim := { program := "ytcppahkdfajcaaa", sum := "384fb13f3635dd25f241e3a7573d6bc030f8c57a2dfd14c44a9d9ebcc6ea05e3", func := "loop.example/g01306/laws.FnExactTrackStart", spec := "fnExactTrackStart", unfollowed := true, recurses := true, apart := false }
def FnExactTrackStartSaid : Prop := fnExactTrackStartRow.holds Try.pinned (OpenSpec.ofChange fnExactTrackStartSpec)

/-- ITS FALSE NEIGHBOUR: 'it returns false'. Refute it at one input. -/
def fnExactTrackStartWrong : ChangeSpec := { name := "fnExactTrackStart", fn := fun _ => fun
  | [d] => { results := [.lit (.bool false)], args := [d] }
  | _ => none }
def FnExactTrackStartWrongFalsely : Prop := fnExactTrackStartRow.holds Try.pinned (OpenSpec.ofChange fnExactTrackStartWrong)

/-- 'laws.FnExactFewestMovesHome': WHATEVER THE INPUT: true; the input reads as it did. -/
def fnExactFewestMovesHomeSpec : ChangeSpec := { name := "fnExactFewestMovesHome", fn := fun _ => fun
  | [d1, d2, d3] => { results := [.lit (.bool true)], args := [d1, d2, d3] }
  | _ => none }
def fnExactFewestMovesHomeRow : OpenClaim := { program := "ytcppahkdfajcaaa", sum := "384fb13f3635dd25f241e3a7573d6bc030f8c57a2dfd14c44a9d9ebcc6ea05e3", func := "loop.example/g01306/laws.FnExactFewestMovesHome", spec := "fnExactFewestMovesHome", unfollowed := true, recurses := true, apart := false }
def FnExactFewestMovesHomeSaid : Prop := fnExactFewestMovesHomeRow.holds Try.pinned (OpenSpec.ofChange fnExactFewestMovesHomeSpec)

/-- ITS FALSE NEIGHBOUR: 'it returns false'. Refute it at one input. -/
def fnExactFewestMovesHomeWrong : ChangeSpec := { name := "fnExactFewestMovesHome", fn := fun _ => fun
  | [d1, d2, d3] => { results := [.lit (.bool false)], args := [d1, d2, d3] }
  | _ => none }
def FnExactFewestMovesHomeWrongFalsely : Prop := fnExactFewestMovesHomeRow.holds Try.pinned (OpenSpec.ofChange fnExactFewestMovesHomeWrong)

/-- 'laws.FnExactCanGo': WHATEVER THE INPUT: true; the input reads as it did. -/
def fnExactCanGoSpec : ChangeSpec := { name := "fnExactCanGo", fn := fun _ => fun
  | [d1, d2, d3, d4, d5] => { results := [.lit (.bool true)], args := [d1, d2, d3, d4, d5] }
  | _ => none }
def fnExactCanGoRow : OpenClaim := { program := "ytcppahkdfajcaaa", sum := "384fb13f3635dd25f241e3a7573d6bc030f8c57a2dfd14c44a9d9ebcc6ea05e3", func := "loop.example/g01306/laws.FnExactCanGo", spec := "fnExactCanGo", unfollowed := true, recurses := true, apart := false }
def FnExactCanGoSaid : Prop := fnExactCanGoRow.holds Try.pinned (OpenSpec.ofChange fnExactCanGoSpec)

/-- ITS FALSE NEIGHBOUR: 'it returns false'. Refute it at one input. -/
def fnExactCanGoWrong : ChangeSpec := { name := "fnExactCanGo", fn := fun _ => fun
  | [d1, d2, d3, d4, d5] => { results := [.lit (.bool false)], args := [d1, d2, d3, d4, d5] }
  | _ => none }
def FnExactCanGoWrongFalsely : Prop := fnExactCanGoRow.holds Try.pinned (OpenSpec.ofChange fnExactCanGoWrong)

/-- 'laws.FnExactTokensAt': WHATEVER THE INPUT: true; the input reads as it did. -/
def fnExactTokensAtSpec : ChangeSpec := { name := "fnExactTokensAt", fn := fun _ => fun
  | [d1, d2, d3] => { results := [.lit (.bool true)], args := [d1, d2, d3] }
  | _ => none }
def fnExactTokensAtRow : OpenClaim := { program := "ytcppahkdfajcaaa", sum := "384fb13f3635dd25f241e3a7573d6bc030f8c57a2dfd14c44a9d9ebcc6ea05e3", func := "loop.example/g01306/laws.FnExactTokensAt", spec := "fnExactTokensAt", unfollowed := true, recurses := true, apart := false }
def FnExactTokensAtSaid : Prop := fnExactTokensAtRow.holds Try.pinned (OpenSpec.ofChange fnExactTokensAtSpec)

/-- ITS FALSE NEIGHBOUR: 'it returns false'. Refute it at one input. -/
def fnExactTokensAtWrong : ChangeSpec := { name := "fnExactTokensAt", fn := fun _ => fun
  | [d1, d2, d3] => { results := [.lit (.bool false)], args := [d1, d2, d3] }
  | _ => none }
def FnExactTokensAtWrongFalsely : Prop := fnExactTokensAtRow.holds Try.pinned (OpenSpec.ofChange fnExactTokensAtWrong)

/-- 'laws.FnExactStepsMade': WHATEVER THE INPUT: true; the input reads as it did. -/
def fnExactStepsMadeSpec : ChangeSpec := { name := "fnExactStepsMade", fn := fun _ => fun
  | [d1, d2] => { results := [.lit (.bool true)], args := [d1, d2] }
  | _ => none }
def fnExactStepsMadeRow : OpenClaim := { program := "ytcppahkdfajcaaa", sum := "384fb13f3635dd25f241e3a7573d6bc030f8c57a2dfd14c44a9d9ebcc6ea05e3", func := "loop.example/g01306/laws.FnExactStepsMade", spec := "fnExactStepsMade", unfollowed := true, recurses := true, apart := false }
def FnExactStepsMadeSaid : Prop := fnExactStepsMadeRow.holds Try.pinned (OpenSpec.ofChange fnExactStepsMadeSpec)

/-- ITS FALSE NEIGHBOUR: 'it returns false'. Refute it at one input. -/
def fnExactStepsMadeWrong : ChangeSpec := { name := "fnExactStepsMade", fn := fun _ => fun
  | [d1, d2] => { results := [.lit (.bool false)], args := [d1, d2] }
  | _ => none }
def FnExactStepsMadeWrongFalsely : Prop := fnExactStepsMadeRow.holds Try.pinned (OpenSpec.ofChange fnExactStepsMadeWrong)

/-- 'laws.FnExactTokensToGo': WHATEVER THE INPUT: true; the input reads as it did. -/
def fnExactTokensToGoSpec : ChangeSpec := { name := "fnExactTokensToGo", fn := fun _ => fun
  | [d1, d2, d3, d4] => { results := [.lit (.bool true)], args := [d1, d2, d3, d4] }
  | _ => none }
def fnExactTokensToGoRow : OpenClaim := { program := "ytcppahkdfajcaaa", sum := "384fb13f3635dd25f241e3a7573d6bc030f8c57a2dfd14c44a9d9ebcc6ea05e3", func := "loop.example/g01306/laws.FnExactTokensToGo", spec := "fnExactTokensToGo", unfollowed := true, recurses := true, apart := false }
def FnExactTokensToGoSaid : Prop := fnExactTokensToGoRow.holds Try.pinned (OpenSpec.ofChange fnExactTokensToGoSpec)

/-- ITS FALSE NEIGHBOUR: 'it returns false'. Refute it at one input. -/
def fnExactTokensToGoWrong : ChangeSpec := { name := "fnExactTokensToGo", fn := fun _ => fun
  | [d1, d2, d3, d4] => { results := [.lit (.bool false)], args := [d1, d2, d3, d4] }
  | _ => none }
def FnExactTokensToGoWrongFalsely : Prop := fnExactTokensToGoRow.holds Try.pinned (OpenSpec.ofChange fnExactTokensToGoWrong)

/-- 'laws.FnExactThreatsTo': WHATEVER THE INPUT: true; the input reads as it did. -/
def fnExactThreatsToSpec : ChangeSpec := { name := "fnExactThreatsTo", fn := fun _ => fun
  | [d1, d2, d3] => { results := [.lit (.bool true)], args := [d1, d2, d3] }
  | _ => none }
def fnExactThreatsToRow : OpenClaim := { program := "ytcppahkdfajcaaa", sum := "384fb13f3635dd25f241e3a7573d6bc030f8c57a2dfd14c44a9d9ebcc6ea05e3", func := "loop.example/g01306/laws.FnExactThreatsTo", spec := "fnExactThreatsTo", unfollowed := true, recurses := true, apart := false }
def FnExactThreatsToSaid : Prop := fnExactThreatsToRow.holds Try.pinned (OpenSpec.ofChange fnExactThreatsToSpec)

/-- ITS FALSE NEIGHBOUR: 'it returns false'. Refute it at one input. -/
def fnExactThreatsToWrong : ChangeSpec := { name := "fnExactThreatsTo", fn := fun _ => fun
  | [d1, d2, d3] => { results := [.lit (.bool false)], args := [d1, d2, d3] }
  | _ => none }
def FnExactThreatsToWrongFalsely : Prop := fnExactThreatsToRow.holds Try.pinned (OpenSpec.ofChange fnExactThreatsToWrong)

/-- 'laws.FnExactHomesSent': WHATEVER THE INPUT: true; the input reads as it did. -/
def fnExactHomesSentSpec : ChangeSpec := { name := "fnExactHomesSent", fn := fun _ => fun
  | [d1, d2] => { results := [.lit (.bool true)], args := [d1, d2] }
  | _ => none }
def fnExactHomesSentRow : OpenClaim := { program := "ytcppahkdfajcaaa", sum := "384fb13f3635dd25f241e3a7573d6bc030f8c57a2dfd14c44a9d9ebcc6ea05e3", func := "loop.example/g01306/laws.FnExactHomesSent", spec := "fnExactHomesSent", unfollowed := true, recurses := true, apart := false }
def FnExactHomesSentSaid : Prop := fnExactHomesSentRow.holds Try.pinned (OpenSpec.ofChange fnExactHomesSentSpec)

/-- ITS FALSE NEIGHBOUR: 'it returns false'. Refute it at one input. -/
def fnExactHomesSentWrong : ChangeSpec := { name := "fnExactHomesSent", fn := fun _ => fun
  | [d1, d2] => { results := [.lit (.bool false)], args := [d1, d2] }
  | _ => none }
def FnExactHomesSentWrongFalsely : Prop := fnExactHomesSentRow.holds Try.pinned (OpenSpec.ofChange fnExactHomesSentWrong)

/-- 'laws.FnExactMoveThatCannot': WHATEVER THE INPUT: true; the input reads as it did. -/
def fnExactMoveThatCannotSpec : ChangeSpec := { name := "fnExactMoveThatCannot", fn := fun _ => fun
  | [d1, d2] => { results := [.lit (.bool true)], args := [d1, d2] }
  | _ => none }
def fnExactMoveThatCannotRow : OpenClaim := { program := "ytcppahkdfajcaaa", sum := "384fb13f3635dd25f241e3a7573d6bc030f8c57a2dfd14c44a9d9ebcc6ea05e3", func := "loop.example/g01306/laws.FnExactMoveThatCannot", spec := "fnExactMoveThatCannot", unfollowed := true, recurses := true, apart := false }
def FnExactMoveThatCannotSaid : Prop := fnExactMoveThatCannotRow.holds Try.pinned (OpenSpec.ofChange fnExactMoveThatCannotSpec)

/-- ITS FALSE NEIGHBOUR: 'it returns false'. Refute it at one input. -/
def fnExactMoveThatCannotWrong : ChangeSpec := { name := "fnExactMoveThatCannot", fn := fun _ => fun
  | [d1, d2] => { results := [.lit (.bool false)], args := [d1, d2] }
  | _ => none }
def FnExactMoveThatCannotWrongFalsely : Prop := fnExactMoveThatCannotRow.holds Try.pinned (OpenSpec.ofChange fnExactMoveThatCannotWrong)

/-- 'laws.FnExactBestToken': WHATEVER THE INPUT: true; the input reads as it did. -/
def fnExactBestTokenSpec : ChangeSpec := { name := "fnExactBestToken", fn := fun _ => fun
  | [d1, d2, d3, d4] => { results := [.lit (.bool true)], args := [d1, d2, d3, d4] }
  | _ => none }
def fnExactBestTokenRow : OpenClaim := { program := "ytcppahkdfajcaaa", sum := "384fb13f3635dd25f241e3a7573d6bc030f8c57a2dfd14c44a9d9ebcc6ea05e3", func := "loop.example/g01306/laws.FnExactBestToken", spec := "fnExactBestToken", unfollowed := true, recurses := true, apart := false }
def FnExactBestTokenSaid : Prop := fnExactBestTokenRow.holds Try.pinned (OpenSpec.ofChange fnExactBestTokenSpec)

/-- ITS FALSE NEIGHBOUR: 'it returns false'. Refute it at one input. -/
def fnExactBestTokenWrong : ChangeSpec := { name := "fnExactBestToken", fn := fun _ => fun
  | [d1, d2, d3, d4] => { results := [.lit (.bool false)], args := [d1, d2, d3, d4] }
  | _ => none }
def FnExactBestTokenWrongFalsely : Prop := fnExactBestTokenRow.holds Try.pinned (OpenSpec.ofChange fnExactBestTokenWrong)

/-- 'laws.FnExactGoToken': WHATEVER THE INPUT: true; the input reads as it did. -/
def fnExactGoTokenSpec : ChangeSpec := { name := "fnExactGoToken", fn := fun _ => fun
  | [d1, d2, d3, d4, d5] => { results := [.lit (.bool true)], args := [d1, d2, d3, d4, d5] }
  | _ => none }
def fnExactGoTokenRow : OpenClaim := { program := "ytcppahkdfajcaaa", sum := "384fb13f3635dd25f241e3a7573d6bc030f8c57a2dfd14c44a9d9ebcc6ea05e3", func := "loop.example/g01306/laws.FnExactGoToken", spec := "fnExactGoToken", unfollowed := true, recurses := true, apart := false }
def FnExactGoTokenSaid : Prop := fnExactGoTokenRow.holds Try.pinned (OpenSpec.ofChange fnExactGoTokenSpec)

/-- ITS FALSE NEIGHBOUR: 'it returns false'. Refute it at one input. -/
def fnExactGoTokenWrong : ChangeSpec := { name := "fnExactGoToken", fn := fun _ => fun
  | [d1, d2, d3, d4, d5] => { results := [.lit (.bool false)], args := [d1, d2, d3, d4, d5] }
  | _ => none }
def FnExactGoTokenWrongFalsely : Prop := fnExactGoTokenRow.holds Try.pinned (OpenSpec.ofChange fnExactGoTokenWrong)

/-- 'laws.FnExactPlayTrack': WHATEVER THE INPUT: true; the input reads as it did. -/
def fnExactPlayTrackSpec : ChangeSpec := { name := "fnExactPlayTrack", fn := fun _ => fun
  | [d1, d2] => { results := [.lit (.bool true)], args := [d1, d2] }
  | _ => none }
def fnExactPlayTrackRow : OpenClaim := { program := "ytcppahkdfajcaaa", sum := "384fb13f3635dd25f241e3a7573d6bc030f8c57a2dfd14c44a9d9ebcc6ea05e3", func := "loop.example/g01306/laws.FnExactPlayTrack", spec := "fnExactPlayTrack", unfollowed := true, recurses := true, apart := false }
def FnExactPlayTrackSaid : Prop := fnExactPlayTrackRow.holds Try.pinned (OpenSpec.ofChange fnExactPlayTrackSpec)

/-- ITS FALSE NEIGHBOUR: 'it returns false'. Refute it at one input. -/
def fnExactPlayTrackWrong : ChangeSpec := { name := "fnExactPlayTrack", fn := fun _ => fun
  | [d1, d2] => { results := [.lit (.bool false)], args := [d1, d2] }
  | _ => none }
def FnExactPlayTrackWrongFalsely : Prop := fnExactPlayTrackRow.holds Try.pinned (OpenSpec.ofChange fnExactPlayTrackWrong)

/- THE SECOND FORM. 'bulk': how many values and letters a reading holds, each counted each time it is reached (what is shared counts as often as it is met; a slice's spare places count too). A statement '..UptoSaid' is the law's where the arguments, and the package variables that the reading takes, are together of bulk at most 1048576: NARROWER than '..Said'. Prove '..Said' where nothing that the law and all that it calls make is longer than what came in: it says more and counts as full. Else prove '..UptoSaid'. A law counts once. -/
mutual
def uptoBulk {H : Type} : DataW H → Nat
  | .lit (.string bytes) => bytes.length + 1
  | .lit _ => 1
  | .nil => 1
  | .ptr d => uptoBulk d + 1
  | .slice elems spare => uptoBulkAll elems + uptoBulkAll spare + 1
  | .agg parts => uptoBulkAll parts + 1
  | .iface _ d => uptoBulk d + 1
  | .map entries => uptoBulkEntries entries + 1
  | .held _ => 1
def uptoBulkAll {H : Type} : List (DataW H) → Nat
  | [] => 0
  | d :: r => uptoBulk d + uptoBulkAll r
def uptoBulkEntries {H : Type} : List (Lit × DataW H) → Nat
  | [] => 0
  | x :: r => uptoBulkEntry x + uptoBulkEntries r
def uptoBulkEntry {H : Type} : Lit × DataW H → Nat
  | (.string bytes, d) => bytes.length + uptoBulk d + 1
  | (_, d) => uptoBulk d + 1
 end
def uptoSmall : (H : Type) → List (DataW H) → Bool := fun _ ds => decide (uptoBulkAll ds ≤ 1048576)
def OpenSpec.upto (s : _root_.Go.ChangeSpec) : _root_.Go.OpenSpec := { _root_.Go.OpenSpec.ofChange s with cond := some uptoSmall }

/-- 'laws.FnExactIsTrack', WHERE WHAT IT READS IS OF BULK AT MOST 1048576: true; the input reads as it did. -/
def fnExactIsTrackUptoRow : OpenClaim := { program := "ytcppahkdfajcaaa", sum := "384fb13f3635dd25f241e3a7573d6bc030f8c57a2dfd14c44a9d9ebcc6ea05e3", func := "loop.example/g01306/laws.FnExactIsTrack", spec := "fnExactIsTrack", unfollowed := true, recurses := true, apart := false, narrowed := true }
def FnExactIsTrackUptoSaid : Prop := fnExactIsTrackUptoRow.holds Try.pinned (OpenSpec.upto fnExactIsTrackSpec)

/-- 'laws.FnExactTrackSquare', WHERE WHAT IT READS IS OF BULK AT MOST 1048576: true; the input reads as it did. -/
def fnExactTrackSquareUptoRow : OpenClaim := { program := "ytcppahkdfajcaaa", sum := "384fb13f3635dd25f241e3a7573d6bc030f8c57a2dfd14c44a9d9ebcc6ea05e3", func := "loop.example/g01306/laws.FnExactTrackSquare", spec := "fnExactTrackSquare", unfollowed := true, recurses := true, apart := false, narrowed := true }
def FnExactTrackSquareUptoSaid : Prop := fnExactTrackSquareUptoRow.holds Try.pinned (OpenSpec.upto fnExactTrackSquareSpec)

/-- 'laws.FnExactIsTrackState', WHERE WHAT IT READS IS OF BULK AT MOST 1048576: true; the input reads as it did. -/
def fnExactIsTrackStateUptoRow : OpenClaim := { program := "ytcppahkdfajcaaa", sum := "384fb13f3635dd25f241e3a7573d6bc030f8c57a2dfd14c44a9d9ebcc6ea05e3", func := "loop.example/g01306/laws.FnExactIsTrackState", spec := "fnExactIsTrackState", unfollowed := true, recurses := true, apart := false, narrowed := true }
def FnExactIsTrackStateUptoSaid : Prop := fnExactIsTrackStateUptoRow.holds Try.pinned (OpenSpec.upto fnExactIsTrackStateSpec)

/-- 'laws.FnExactIsDonePlayer', WHERE WHAT IT READS IS OF BULK AT MOST 1048576: true; the input reads as it did. -/
def fnExactIsDonePlayerUptoRow : OpenClaim := { program := "ytcppahkdfajcaaa", sum := "384fb13f3635dd25f241e3a7573d6bc030f8c57a2dfd14c44a9d9ebcc6ea05e3", func := "loop.example/g01306/laws.FnExactIsDonePlayer", spec := "fnExactIsDonePlayer", unfollowed := true, recurses := true, apart := false, narrowed := true }
def FnExactIsDonePlayerUptoSaid : Prop := fnExactIsDonePlayerUptoRow.holds Try.pinned (OpenSpec.upto fnExactIsDonePlayerSpec)

/-- 'laws.FnExactTrackStart', WHERE WHAT IT READS IS OF BULK AT MOST 1048576: true; the input reads as it did. -/
def fnExactTrackStartUptoRow : OpenClaim := { program := "ytcppahkdfajcaaa", sum := "384fb13f3635dd25f241e3a7573d6bc030f8c57a2dfd14c44a9d9ebcc6ea05e3", func := "loop.example/g01306/laws.FnExactTrackStart", spec := "fnExactTrackStart", unfollowed := true, recurses := true, apart := false, narrowed := true }
def FnExactTrackStartUptoSaid : Prop := fnExactTrackStartUptoRow.holds Try.pinned (OpenSpec.upto fnExactTrackStartSpec)

/-- 'laws.FnExactFewestMovesHome', WHERE WHAT IT READS IS OF BULK AT MOST 1048576: true; the input reads as it did. -/
def fnExactFewestMovesHomeUptoRow : OpenClaim := { program := "ytcppahkdfajcaaa", sum := "384fb13f3635dd25f241e3a7573d6bc030f8c57a2dfd14c44a9d9ebcc6ea05e3", func := "loop.example/g01306/laws.FnExactFewestMovesHome", spec := "fnExactFewestMovesHome", unfollowed := true, recurses := true, apart := false, narrowed := true }
def FnExactFewestMovesHomeUptoSaid : Prop := fnExactFewestMovesHomeUptoRow.holds Try.pinned (OpenSpec.upto fnExactFewestMovesHomeSpec)

/-- 'laws.FnExactCanGo', WHERE WHAT IT READS IS OF BULK AT MOST 1048576: true; the input reads as it did. -/
def fnExactCanGoUptoRow : OpenClaim := { program := "ytcppahkdfajcaaa", sum := "384fb13f3635dd25f241e3a7573d6bc030f8c57a2dfd14c44a9d9ebcc6ea05e3", func := "loop.example/g01306/laws.FnExactCanGo", spec := "fnExactCanGo", unfollowed := true, recurses := true, apart := false, narrowed := true }
def FnExactCanGoUptoSaid : Prop := fnExactCanGoUptoRow.holds Try.pinned (OpenSpec.upto fnExactCanGoSpec)

/-- 'laws.FnExactTokensAt', WHERE WHAT IT READS IS OF BULK AT MOST 1048576: true; the input reads as it did. -/
def fnExactTokensAtUptoRow : OpenClaim := { program := "ytcppahkdfajcaaa", sum := "384fb13f3635dd25f241e3a7573d6bc030f8c57a2dfd14c44a9d9ebcc6ea05e3", func := "loop.example/g01306/laws.FnExactTokensAt", spec := "fnExactTokensAt", unfollowed := true, recurses := true, apart := false, narrowed := true }
def FnExactTokensAtUptoSaid : Prop := fnExactTokensAtUptoRow.holds Try.pinned (OpenSpec.upto fnExactTokensAtSpec)

/-- 'laws.FnExactStepsMade', WHERE WHAT IT READS IS OF BULK AT MOST 1048576: true; the input reads as it did. -/
def fnExactStepsMadeUptoRow : OpenClaim := { program := "ytcppahkdfajcaaa", sum := "384fb13f3635dd25f241e3a7573d6bc030f8c57a2dfd14c44a9d9ebcc6ea05e3", func := "loop.example/g01306/laws.FnExactStepsMade", spec := "fnExactStepsMade", unfollowed := true, recurses := true, apart := false, narrowed := true }
def FnExactStepsMadeUptoSaid : Prop := fnExactStepsMadeUptoRow.holds Try.pinned (OpenSpec.upto fnExactStepsMadeSpec)

/-- 'laws.FnExactTokensToGo', WHERE WHAT IT READS IS OF BULK AT MOST 1048576: true; the input reads as it did. -/
def fnExactTokensToGoUptoRow : OpenClaim := { program := "ytcppahkdfajcaaa", sum := "384fb13f3635dd25f241e3a7573d6bc030f8c57a2dfd14c44a9d9ebcc6ea05e3", func := "loop.example/g01306/laws.FnExactTokensToGo", spec := "fnExactTokensToGo", unfollowed := true, recurses := true, apart := false, narrowed := true }
def FnExactTokensToGoUptoSaid : Prop := fnExactTokensToGoUptoRow.holds Try.pinned (OpenSpec.upto fnExactTokensToGoSpec)

/-- 'laws.FnExactThreatsTo', WHERE WHAT IT READS IS OF BULK AT MOST 1048576: true; the input reads as it did. -/
def fnExactThreatsToUptoRow : OpenClaim := { program := "ytcppahkdfajcaaa", sum := "384fb13f3635dd25f241e3a7573d6bc030f8c57a2dfd14c44a9d9ebcc6ea05e3", func := "loop.example/g01306/laws.FnExactThreatsTo", spec := "fnExactThreatsTo", unfollowed := true, recurses := true, apart := false, narrowed := true }
def FnExactThreatsToUptoSaid : Prop := fnExactThreatsToUptoRow.holds Try.pinned (OpenSpec.upto fnExactThreatsToSpec)

/-- 'laws.FnExactHomesSent', WHERE WHAT IT READS IS OF BULK AT MOST 1048576: true; the input reads as it did. -/
def fnExactHomesSentUptoRow : OpenClaim := { program := "ytcppahkdfajcaaa", sum := "384fb13f3635dd25f241e3a7573d6bc030f8c57a2dfd14c44a9d9ebcc6ea05e3", func := "loop.example/g01306/laws.FnExactHomesSent", spec := "fnExactHomesSent", unfollowed := true, recurses := true, apart := false, narrowed := true }
def FnExactHomesSentUptoSaid : Prop := fnExactHomesSentUptoRow.holds Try.pinned (OpenSpec.upto fnExactHomesSentSpec)

/-- 'laws.FnExactMoveThatCannot', WHERE WHAT IT READS IS OF BULK AT MOST 1048576: true; the input reads as it did. -/
def fnExactMoveThatCannotUptoRow : OpenClaim := { program := "ytcppahkdfajcaaa", sum := "384fb13f3635dd25f241e3a7573d6bc030f8c57a2dfd14c44a9d9ebcc6ea05e3", func := "loop.example/g01306/laws.FnExactMoveThatCannot", spec := "fnExactMoveThatCannot", unfollowed := true, recurses := true, apart := false, narrowed := true }
def FnExactMoveThatCannotUptoSaid : Prop := fnExactMoveThatCannotUptoRow.holds Try.pinned (OpenSpec.upto fnExactMoveThatCannotSpec)

/-- 'laws.FnExactBestToken', WHERE WHAT IT READS IS OF BULK AT MOST 1048576: true; the input reads as it did. -/
def fnExactBestTokenUptoRow : OpenClaim := { program := "ytcppahkdfajcaaa", sum := "384fb13f3635dd25f241e3a7573d6bc030f8c57a2dfd14c44a9d9ebcc6ea05e3", func := "loop.example/g01306/laws.FnExactBestToken", spec := "fnExactBestToken", unfollowed := true, recurses := true, apart := false, narrowed := true }
def FnExactBestTokenUptoSaid : Prop := fnExactBestTokenUptoRow.holds Try.pinned (OpenSpec.upto fnExactBestTokenSpec)

/-- 'laws.FnExactGoToken', WHERE WHAT IT READS IS OF BULK AT MOST 1048576: true; the input reads as it did. -/
def fnExactGoTokenUptoRow : OpenClaim := { program := "ytcppahkdfajcaaa", sum := "384fb13f3635dd25f241e3a7573d6bc030f8c57a2dfd14c44a9d9ebcc6ea05e3", func := "loop.example/g01306/laws.FnExactGoToken", spec := "fnExactGoToken", unfollowed := true, recurses := true, apart := false, narrowed := true }
def FnExactGoTokenUptoSaid : Prop := fnExactGoTokenUptoRow.holds Try.pinned (OpenSpec.upto fnExactGoTokenSpec)

/-- 'laws.FnExactPlayTrack', WHERE WHAT IT READS IS OF BULK AT MOST 1048576: true; the input reads as it did. -/
def fnExactPlayTrackUptoRow : OpenClaim := { program := "ytcppahkdfajcaaa", sum := "384fb13f3635dd25f241e3a7573d6bc030f8c57a2dfd14c44a9d9ebcc6ea05e3", func := "loop.example/g01306/laws.FnExactPlayTrack", spec := "fnExactPlayTrack", unfollowed := true, recurses := true, apart := false, narrowed := true }
def FnExactPlayTrackUptoSaid : Prop := fnExactPlayTrackUptoRow.holds Try.pinned (OpenSpec.upto fnExactPlayTrackSpec)

end Rows
end Go.Proofs.Ytcppahkdfajcaaa
