-- written for this claim by a program of this session (wip/tools/xprint.py), which runs the kit's print with other cuts
import Derived.Test.YtifgjihjcloloaaP
import Derived.Test.YtifgjihjcloloaaP35
import Derived.Test.YtifgjihjcloloaaP36
import Derived.Test.YtifgjihjcloloaaP82
import Derived.Test.YtifgjihjcloloaaP89
import Derived.Test.YtifgjihjcloloaaP91
namespace Go.Proofs.Ytifgjihjcloloaa.P
open Go.RowKit Go.Proofs.YtifgjihjcloloaaW.PrintWords Go.Proofs.YtifgjihjcloloaaW.PrintLast Go.Proofs.YtifgjihjcloloaaW.PrintMore
attribute [local go_sem] max2_int min2_int max_two min_two max_three min_three max_four min_four   -- for this text's walks alone
set_option linter.unusedVariables false
set_option linter.unusedSimpArgs false

/-! ### laws_FnExactAddClue: function 7 -/
mutual
def laws_FnExactAddClue.j0 : Nat → Bool → Bool → Bool → Int → Int → List (S26) → Int → Int → Int → Int → Int → Int → List (S28) → Int → Int → List (S28) → Int → Int → List (S28) → Option (Bool)
 | 0, _, _, _, _, _, _, _, _, _, _, _, _, _, _, _, _, _, _, _ => none
 | k + 1, x7, x10, x46, x515000, x515001, x515002, x516000, x516001, x516002, x516003, x533000, x533001, x533002, x539000, x539001, x539002, x550000, x550001, x550002 => if x46 = true then (some false) else ((laws_toPuzzle.f k x515000 x515001 x515002).bind fun bt551 => ((laws_eqPuzzle.f k x539000 x539001 x539002 bt551.1 bt551.2.1 bt551.2.2).bind fun t556 => (if t556 = true then ((laws_markPuzzle.f k x539000 x539001 x539002 1).bind fun bt557 => (if bt557.1 < 0 then (laws_FnExactAddClue.j1 k x7 true x515000 x515001 x515002 x516000 x516001 x516002 x516003 x533000 x533001 x533002 x550000 x550001 x550002) else ((laws_eqPuzzle.f k x550000 x550001 x550002 x533000 x533001 x533002).bind fun t559 => (if t559 = true then (laws_FnExactAddClue.j1 k x7 (x10 != x7) x515000 x515001 x515002 x516000 x516001 x516002 x516003 x533000 x533001 x533002 x550000 x550001 x550002) else (laws_FnExactAddClue.j1 k x7 true x515000 x515001 x515002 x516000 x516001 x516002 x516003 x533000 x533001 x533002 x550000 x550001 x550002))))) else (some false))))
def laws_FnExactAddClue.j1 : Nat → Bool → Bool → Int → Int → List (S26) → Int → Int → Int → Int → Int → Int → List (S28) → Int → Int → List (S28) → Option (Bool)
 | 0, _, _, _, _, _, _, _, _, _, _, _, _, _, _, _ => none
 | k + 1, x7, x67, x515000, x515001, x515002, x516000, x516001, x516002, x516003, x533000, x533001, x533002, x550000, x550001, x550002 => if x67 = true then (some false) else ((laws_markPuzzle.f k x550000 x550001 x550002 1).bind fun bt560 => ((laws_heldPuzzle.f k x550000 x550001 bt560.2 1).bind fun t562 => (if t562 < 0 then (some false) else (if t562 = bt560.1 then ((laws_toPuzzle.f k x515000 x515001 x515002).bind fun bt563 => ((laws_toClue.f x516000 x516001 x516002 x516003).bind fun bt568 => ((impl_AddClue.f bt563.1 bt563.2.1 bt563.2.2 bt568.1 bt568.2.1 bt568.2.2.1 bt568.2.2.2).bind fun bt572 => ((laws_eqPuzzle.f k bt572.1 bt572.2.1 bt572.2.2.1 x533000 x533001 x533002).bind fun t579 => (if t579 = true then (laws_FnExactAddClue.j2 k bt560.1 (bt572.2.2.2 != x7) x550000 x550001 bt560.2) else (laws_FnExactAddClue.j2 k bt560.1 true x550000 x550001 bt560.2)))))) else (some false)))))
def laws_FnExactAddClue.j2 : Nat → Int → Bool → Int → Int → List (S28) → Option (Bool)
 | 0, _, _, _, _, _ => none
 | k + 1, x12, x95, x550000, x550001, x550002 => if x95 = true then (some false) else ((laws_heldPuzzle.f k x550000 x550001 x550002 1).bind fun t580 => (if t580 < 0 then (some false) else (if t580 = x12 then (some true) else (some false))))
end
def laws_FnExactAddClue.f (k : Nat) (a0_0 : Int) (a0_1 : Int) (l0_2 : List (S26)) (a1_0 : Int) (a1_1 : Int) (a1_2 : Int) (a1_3 : Int) : Option (Bool) := (laws_szPuzzle.f a0_0 a0_1 l0_2 1048576).bind fun t516 => (if t516 < 0 then (some true) else ((laws_toPuzzle.f k a0_0 a0_1 l0_2).bind fun bt517 => ((laws_toClue.f a1_0 a1_1 a1_2 a1_3).bind fun bt522 => ((spec_AddClue.f k bt517.1 bt517.2.1 bt517.2.2 bt522.1 bt522.2.1 bt522.2.2.1 bt522.2.2.2).bind fun bt526 => ((laws_toPuzzle.f k a0_0 a0_1 l0_2).bind fun bt533 => ((laws_toClue.f a1_0 a1_1 a1_2 a1_3).bind fun bt539 => ((impl_AddClue.f bt533.1 bt533.2.1 bt533.2.2 bt539.1 bt539.2.1 bt539.2.2.1 bt539.2.2.2).bind fun bt543 => ((laws_eqPuzzle.f k bt543.1 bt543.2.1 bt543.2.2.1 bt526.1 bt526.2.1 bt526.2.2.1).bind fun t550 => (if t550 = true then (laws_FnExactAddClue.j0 k bt526.2.2.2 bt543.2.2.2 (bt543.2.2.2 != bt526.2.2.2) a0_0 a0_1 l0_2 a1_0 a1_1 a1_2 a1_3 bt526.1 bt526.2.1 bt526.2.2.1 bt533.1 bt533.2.1 bt533.2.2 bt543.1 bt543.2.1 bt543.2.2.1) else (laws_FnExactAddClue.j0 k bt526.2.2.2 bt543.2.2.2 true a0_0 a0_1 l0_2 a1_0 a1_1 a1_2 a1_3 bt526.1 bt526.2.1 bt526.2.2.1 bt533.1 bt533.2.1 bt533.2.2 bt543.1 bt543.2.1 bt543.2.2.1))))))))))
def laws_FnExactAddClue.T5 : Bool × List (List Nat × List Nat) := (true, [([], []), ([0], [0]), ([], []), ([2, 1], [2]), ([1, 3, 3], [1, 3]), ([4], [4]), ([5], [5]), ([5], [5]), ([], []), ([8, 6, 4, 0, 1, 2, 3, 4, 5, 6, 8], [6, 8]), ([7, 9, 0, 1, 2, 3, 4, 5, 6, 7, 8, 9], [7])])
def laws_FnExactAddClue.B5 : List Nat := [0, 1, 0, 7, 15, 31, 63, 63, 0, 383, 1023]
theorem laws_FnExactAddClue.tab5 : rtab .any (opsOf Try.f7 5) = laws_FnExactAddClue.T5 := by kernel_rfl
theorem laws_FnExactAddClue.bits5 : waitsOk laws_FnExactAddClue.T5.2 laws_FnExactAddClue.B5 = true := by kernel_rfl
def laws_FnExactAddClue.T7 : Bool × List (List Nat × List Nat) := (true, [([], []), ([], []), ([1], [1]), ([0, 2, 2], [0, 2]), ([3], [3]), ([4], [4]), ([4], [4]), ([], []), ([7, 5, 3, 0, 1, 2, 3, 4, 5, 7], [5, 7]), ([6, 8, 0, 1, 2, 3, 4, 5, 6, 7, 8], [6])])
def laws_FnExactAddClue.B7 : List Nat := [0, 0, 2, 7, 15, 31, 31, 0, 191, 511]
theorem laws_FnExactAddClue.tab7 : rtab .any (opsOf Try.f7 7) = laws_FnExactAddClue.T7 := by kernel_rfl
theorem laws_FnExactAddClue.bits7 : waitsOk laws_FnExactAddClue.T7.2 laws_FnExactAddClue.B7 = true := by kernel_rfl
def laws_FnExactAddClue.T24 : Bool × List (List Nat × List Nat) := (true, [([], []), ([0], [0]), ([], []), ([2, 1], [2]), ([1, 3, 3], [1, 3]), ([4], [4]), ([5], [5]), ([5], [5]), ([], []), ([8, 6, 4, 0, 1, 2, 3, 4, 5, 6, 8], [6, 8]), ([7, 9, 0, 1, 2, 3, 4, 5, 6, 7, 8, 9], [7])])
def laws_FnExactAddClue.B24 : List Nat := [0, 1, 0, 7, 15, 31, 63, 63, 0, 383, 1023]
theorem laws_FnExactAddClue.tab24 : rtab .any (opsOf Try.f7 24) = laws_FnExactAddClue.T24 := by kernel_rfl
theorem laws_FnExactAddClue.bits24 : waitsOk laws_FnExactAddClue.T24.2 laws_FnExactAddClue.B24 = true := by kernel_rfl

end Go.Proofs.Ytifgjihjcloloaa.P
