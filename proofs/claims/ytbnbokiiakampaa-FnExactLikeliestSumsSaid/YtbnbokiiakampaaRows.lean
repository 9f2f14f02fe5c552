/-
  No cell of these rows narrows 'for every input' (looked for: loops, veiled, ifaces, maps, wideKeys, modest, calm, conditions, laid).
  DERIVED. THE GIVEN ROWS OF THIS SEAT. 6 by the template 'for every input the law returns true; each argument reads behind the call as it read before'; 0 by the template 'total and deterministic' (their statements: YtbnbokiiakampaaTotals.lean).
  GIVEN WITH THE SEED: the statements are not yours to turn. If you find one false, say at which input.
  Laid BY PROGRAM, IN A SANDBOX (cutbox-rows.mjs): the forced cells as the released guide's own fill.sh prints them over the translation af67abfd498f69e4… (all of the seat's roots in one cut). By AI agents, Wed Nov 11 2026. No macro, syntax, notation, axiom, sorry.
-/
import Derived.Test.YtbnbokiiakampaaChecked
import GoSem.Claim
import GoSem.ClaimJoined
import GoSem.ClaimMapViews
import Derived.JoinedTies
import Derived.KernelRfl
namespace Go.Proofs.Ytbnbokiiakampaa
/- THE CELL 'sum', in the pinned program and in every row, IS THE sha256 OF THE DUMP (.gsa) THAT YtbnbokiiakampaaProg.lean LOADS. Nothing in Lean hashes anything: it is a label: what it is worth is what the hold of that sum in a sandbox is worth. -/
noncomputable def Try.pinned : Pinned := { name := "ytbnbokiiakampaa", sum := "af67abfd498f69e450844efe33cef5878b9efb29d9aa781b8d08487c5e389d9f", checked := Try.checked }
namespace Rows
def none {H : Type} : Left H := { results := [], args := [] }

/-- 'laws.FnExactAverageAgain': WHATEVER THE INPUT: true; the input reads as it did. -/
def fnExactAverageAgainSpec : ChangeSpec := { name := "fnExactAverageAgain", fn := fun _ => fun
  | [d1, d2] => { results := [.lit (.bool true)], args := [d1, d2] }
  | _ => none }
def fnExactAverageAgainRow : OpenClaim := { program := "ytbnbokiiakampaa", sum := "af67abfd498f69e450844efe33cef5878b9efb29d9aa781b8d08487c5e389d9f", func := "loop.example/g01306/laws.FnExactAverageAgain", spec := "fnExactAverageAgain", apart := false }
def FnExactAverageAgainSaid : Prop := fnExactAverageAgainRow.holds Try.pinned (OpenSpec.ofChange fnExactAverageAgainSpec)

/-- ITS FALSE NEIGHBOUR: 'it returns false'. Refute it at one input. -/
def fnExactAverageAgainWrong : ChangeSpec := { name := "fnExactAverageAgain", fn := fun _ => fun
  | [d1, d2] => { results := [.lit (.bool false)], args := [d1, d2] }
  | _ => none }
def FnExactAverageAgainWrongFalsely : Prop := fnExactAverageAgainRow.holds Try.pinned (OpenSpec.ofChange fnExactAverageAgainWrong)

/-- 'laws.FnExactSumTable': WHATEVER THE INPUT: true; the input reads as it did. -/
def fnExactSumTableSpec : ChangeSpec := { name := "fnExactSumTable", fn := fun _ => fun
  | [d1, d2] => { results := [.lit (.bool true)], args := [d1, d2] }
  | _ => none }
def fnExactSumTableRow : OpenClaim := { program := "ytbnbokiiakampaa", sum := "af67abfd498f69e450844efe33cef5878b9efb29d9aa781b8d08487c5e389d9f", func := "loop.example/g01306/laws.FnExactSumTable", spec := "fnExactSumTable", apart := false }
def FnExactSumTableSaid : Prop := fnExactSumTableRow.holds Try.pinned (OpenSpec.ofChange fnExactSumTableSpec)

/-- ITS FALSE NEIGHBOUR: 'it returns false'. Refute it at one input. -/
def fnExactSumTableWrong : ChangeSpec := { name := "fnExactSumTable", fn := fun _ => fun
  | [d1, d2] => { results := [.lit (.bool false)], args := [d1, d2] }
  | _ => none }
def FnExactSumTableWrongFalsely : Prop := fnExactSumTableRow.holds Try.pinned (OpenSpec.ofChange fnExactSumTableWrong)

/-- 'laws.FnExactWaysKept': WHATEVER THE INPUT: true; the input reads as it did. -/
def fnExactWaysKeptSpec : ChangeSpec := { name := "fnExactWaysKept", fn := fun _ => fun
  | [d1, d2, d3, d4] => { results := [.lit (.bool true)], args := [d1, d2, d3, d4] }
  | _ => none }
def fnExactWaysKeptRow : OpenClaim := { program := "ytbnbokiiakampaa", sum := "af67abfd498f69e450844efe33cef5878b9efb29d9aa781b8d08487c5e389d9f", func := "loop.example/g01306/laws.FnExactWaysKept", spec := "fnExactWaysKept", recurses := true, apart := false }
def FnExactWaysKeptSaid : Prop := fnExactWaysKeptRow.holds Try.pinned (OpenSpec.ofChange fnExactWaysKeptSpec)

/-- ITS FALSE NEIGHBOUR: 'it returns false'. Refute it at one input. -/
def fnExactWaysKeptWrong : ChangeSpec := { name := "fnExactWaysKept", fn := fun _ => fun
  | [d1, d2, d3, d4] => { results := [.lit (.bool false)], args := [d1, d2, d3, d4] }
  | _ => none }
def FnExactWaysKeptWrongFalsely : Prop := fnExactWaysKeptRow.holds Try.pinned (OpenSpec.ofChange fnExactWaysKeptWrong)

/-- 'laws.FnExactPartAtLeast': WHATEVER THE INPUT: true; the input reads as it did. -/
def fnExactPartAtLeastSpec : ChangeSpec := { name := "fnExactPartAtLeast", fn := fun _ => fun
  | [d1, d2, d3] => { results := [.lit (.bool true)], args := [d1, d2, d3] }
  | _ => none }
def fnExactPartAtLeastRow : OpenClaim := { program := "ytbnbokiiakampaa", sum := "af67abfd498f69e450844efe33cef5878b9efb29d9aa781b8d08487c5e389d9f", func := "loop.example/g01306/laws.FnExactPartAtLeast", spec := "fnExactPartAtLeast", apart := false }
def FnExactPartAtLeastSaid : Prop := fnExactPartAtLeastRow.holds Try.pinned (OpenSpec.ofChange fnExactPartAtLeastSpec)

/-- ITS FALSE NEIGHBOUR: 'it returns false'. Refute it at one input. -/
def fnExactPartAtLeastWrong : ChangeSpec := { name := "fnExactPartAtLeast", fn := fun _ => fun
  | [d1, d2, d3] => { results := [.lit (.bool false)], args := [d1, d2, d3] }
  | _ => none }
def FnExactPartAtLeastWrongFalsely : Prop := fnExactPartAtLeastRow.holds Try.pinned (OpenSpec.ofChange fnExactPartAtLeastWrong)

/-- 'laws.FnExactLikeliestSums': WHATEVER THE INPUT: true; the input reads as it did. -/
def fnExactLikeliestSumsSpec : ChangeSpec := { name := "fnExactLikeliestSums", fn := fun _ => fun
  | [d1, d2] => { results := [.lit (.bool true)], args := [d1, d2] }
  | _ => none }
def fnExactLikeliestSumsRow : OpenClaim := { program := "ytbnbokiiakampaa", sum := "af67abfd498f69e450844efe33cef5878b9efb29d9aa781b8d08487c5e389d9f", func := "loop.example/g01306/laws.FnExactLikeliestSums", spec := "fnExactLikeliestSums", apart := false }
def FnExactLikeliestSumsSaid : Prop := fnExactLikeliestSumsRow.holds Try.pinned (OpenSpec.ofChange fnExactLikeliestSumsSpec)

/-- ITS FALSE NEIGHBOUR: 'it returns false'. Refute it at one input. -/
def fnExactLikeliestSumsWrong : ChangeSpec := { name := "fnExactLikeliestSums", fn := fun _ => fun
  | [d1, d2] => { results := [.lit (.bool false)], args := [d1, d2] }
  | _ => none }
def FnExactLikeliestSumsWrongFalsely : Prop := fnExactLikeliestSumsRow.holds Try.pinned (OpenSpec.ofChange fnExactLikeliestSumsWrong)

/-- 'laws.FnExactAverageKept': WHATEVER THE INPUT: true; the input reads as it did. -/
def fnExactAverageKeptSpec : ChangeSpec := { name := "fnExactAverageKept", fn := fun _ => fun
  | [d1, d2, d3] => { results := [.lit (.bool true)], args := [d1, d2, d3] }
  | _ => none }
def fnExactAverageKeptRow : OpenClaim := { program := "ytbnbokiiakampaa", sum := "af67abfd498f69e450844efe33cef5878b9efb29d9aa781b8d08487c5e389d9f", func := "loop.example/g01306/laws.FnExactAverageKept", spec := "fnExactAverageKept", recurses := true, apart := false }
def FnExactAverageKeptSaid : Prop := fnExactAverageKeptRow.holds Try.pinned (OpenSpec.ofChange fnExactAverageKeptSpec)

/-- ITS FALSE NEIGHBOUR: 'it returns false'. Refute it at one input. -/
def fnExactAverageKeptWrong : ChangeSpec := { name := "fnExactAverageKept", fn := fun _ => fun
  | [d1, d2, d3] => { results := [.lit (.bool false)], args := [d1, d2, d3] }
  | _ => none }
def FnExactAverageKeptWrongFalsely : Prop := fnExactAverageKeptRow.holds Try.pinned (OpenSpec.ofChange fnExactAverageKeptWrong)

/- THE SECOND FORM. 'bulk': how many values and letters a reading holds, each counted each time it is reached (what is shared counts as often as it is met; a slice's spare places count too). A statement '..UptoSaid' is the law's where the arguments, and the package variables that the reading takes, are together of bulk at most 1048576: NARROWER than '..Said'. Prove '..Said' where nothing that the law and all that it calls make is longer than what came in: it says more and counts as full. Else prove '..UptoSaid'. A law counts once. -/
mutual
def uptoBulk {H : Type} : DataW H → Nat
  | .lit (.string bytes) => bytes.length + 1
  | .lit _ => 1
  | .nil => 1
  | .ptr d => uptoBulk d + 1
  | .slice elems spare => uptoBulkAll elems + uptoBulkAll spare + 1
  | .agg parts => uptoBulkAll parts + 1
  | .iface _ d => uptoBulk d + 1
  | .map entries => uptoBulkEntries entries + 1
  | .held _ => 1
def uptoBulkAll {H : Type} : List (DataW H) → Nat
  | [] => 0
  | d :: r => uptoBulk d + uptoBulkAll r
def uptoBulkEntries {H : Type} : List (Lit × DataW H) → Nat
  | [] => 0
  | x :: r => uptoBulkEntry x + uptoBulkEntries r
def uptoBulkEntry {H : Type} : Lit × DataW H → Nat
  | (.string bytes, d) => bytes.length + uptoBulk d + 1
  | (_, d) => uptoBulk d + 1
 end
def uptoSmall : (H : Type) → List (DataW H) → Bool := fun _ ds => decide (uptoBulkAll ds ≤ 1048576)
def OpenSpec.upto (s : _root_.Go.ChangeSpec) : _root_.Go.OpenSpec := { _root_.Go.OpenSpec.ofChange s with cond := some uptoSmall }

/-- 'laws.FnExactAverageAgain', WHERE WHAT IT READS IS OF BULK AT MOST 1048576: true; the input reads as it did. -/
def fnExactAverageAgainUptoRow : OpenClaim := { program := "ytbnbokiiakampaa", sum := "af67abfd498f69e450844efe33cef5878b9efb29d9aa781b8d08487c5e389d9f", func := "loop.example/g01306/laws.FnExactAverageAgain", spec := "fnExactAverageAgain", apart := false, narrowed := true }
def FnExactAverageAgainUptoSaid : Prop := fnExactAverageAgainUptoRow.holds Try.pinned (OpenSpec.upto fnExactAverageAgainSpec)

/-- 'laws.FnExactSumTable', WHERE WHAT IT READS IS OF BULK AT MOST 1048576: true; the input reads as it did. -/
def fnExactSumTableUptoRow : OpenClaim := { program := "ytbnbokiiakampaa", sum := "af67abfd498f69e450844efe33cef5878b9efb29d9aa781b8d08487c5e389d9f", func := "loop.example/g01306/laws.FnExactSumTable", spec := "fnExactSumTable", apart := false, narrowed := true }
def FnExactSumTableUptoSaid : Prop := fnExactSumTableUptoRow.holds Try.pinned (OpenSpec.upto fnExactSumTableSpec)

/-- 'laws.FnExactWaysKept', WHERE WHAT IT READS IS OF BULK AT MOST 1048576: true; the input reads as it did. -/
def fnExactWaysKeptUptoRow : OpenClaim := { program := "ytbnbokiiakampaa", sum := "af67abfd498f69e450844efe33cef5878b9efb29d9aa781b8d08487c5e389d9f", func := "loop.example/g01306/laws.FnExactWaysKept", spec := "fnExactWaysKept", recurses := true, apart := false, narrowed := true }
def FnExactWaysKeptUptoSaid : Prop := fnExactWaysKeptUptoRow.holds Try.pinned (OpenSpec.upto fnExactWaysKeptSpec)

/-- 'laws.FnExactPartAtLeast', WHERE WHAT IT READS IS OF BULK AT MOST 1048576: true; the input reads as it did. -/
def fnExactPartAtLeastUptoRow : OpenClaim := { program := "ytbnbokiiakampaa", sum := "af67abfd498f69e450844efe33cef5878b9efb29d9aa781b8d08487c5e389d9f", func := "loop.example/g01306/laws.FnExactPartAtLeast", spec := "fnExactPartAtLeast", apart := false, narrowed := true }
def FnExactPartAtLeastUptoSaid : Prop := fnExactPartAtLeastUptoRow.holds Try.pinned (OpenSpec.upto fnExactPartAtLeastSpec)

/-- 'laws.FnExactLikeliestSums', WHERE WHAT IT READS IS OF BULK AT MOST 1048576: true; the input reads as it did. -/
def fnExactLikeliestSumsUptoRow : OpenClaim := { program := "ytbnbokiiakampaa", sum := "af67abfd498f69e450844efe33cef5878b9efb29d9aa781b8d08487c5e389d9f", func := "loop.example/g01306/laws.FnExactLikeliestSums", spec := "fnExactLikeliestSums", apart := false, narrowed := true }
def FnExactLikeliestSumsUptoSaid : Prop := fnExactLikeliestSumsUptoRow.holds Try.pinned (OpenSpec.upto fnExactLikeliestSumsSpec)

/-- 'laws.FnExactAverageKept', WHERE WHAT IT READS IS OF BULK AT MOST 1048576: true; the input reads as it did. -/
def fnExactAverageKeptUptoRow : OpenClaim := { program := "ytbnbokiiakampaa", sum := "af67abfd498f69e450844efe33cef5878b9efb29d9aa781b8d08487c5e389d9f", func := "loop.example/g01306/laws.FnExactAverageKept", spec := "fnExactAverageKept", recurses := true, apart := false, narrowed := true }
def FnExactAverageKeptUptoSaid : Prop := fnExactAverageKeptUptoRow.holds Try.pinned (OpenSpec.upto fnExactAverageKeptSpec)

end Rows
end Go.Proofs.Ytbnbokiiakampaa
