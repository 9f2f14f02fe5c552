/- IsPuzzle of the program returns what the reference's returns, for all arguments; no condition. -/
import Derived.Test.YtifgjihjcloloaaQPz
import Derived.Test.YtifgjihjcloloaaP6
namespace Go.Proofs.Ytifgjihjcloloaa.Pure
open Go.RowKit Go.Proofs.Ytifgjihjcloloaa.P Go.Proofs.Ytifgjihjcloloaa.Q Go.Proofs.YtifgjihjcloloaaW.PrintWords Go.Proofs.YtifgjihjcloloaaW.PrintLast
set_option linter.unusedVariables false

theorem FnExactIsPuzzle (a0_0 : Int) (a0_1 : Int) (l0_2 : List LC) (h0_2 : l0_2.length ≤ 9223372036854775807) :
    ∃ k, laws_FnExactIsPuzzle.f k a0_0 a0_1 l0_2 = some true := by
  refine Ans.at_ ?_
  unfold laws_FnExactIsPuzzle.f
  obtain ⟨t, ht, h⟩ := szPuzzle_val (s := a0_0) (f := a0_1) (a := 1048576) (by omega) (by omega) h0_2
  refine Ans.pbind ht ?_
  rcases h with h | ⟨h, rfl⟩
  · exact Ans.iteP h (Ans.now rfl)
  refine Ans.iteN (by omega) ?_
  have e1 : l0_2.length ≤ 1048576 := by omega
  have e2 : (toC l0_2).length ≤ 1048576 := by rw [toC_length]; exact e1
  refine Ans.bind (toPuzzle_ans (by omega)) ?_
  refine Ans.bind (a := goodP a0_0 a0_1 (toC l0_2)) (by unfold spec_IsPuzzle.f; exact Ans.bind (pzGood_ans (by show (toC l0_2).length ≤ _; omega)) (Ans.now rfl)) ?_
  refine Ans.bind (toPuzzle_ans (by omega)) ?_
  refine Ans.pbind (isPuzzle_val ..) ?_
  refine Ans.iteN (by simp) ?_
  refine Ans.bind (toPuzzle_ans (by omega)) ?_
  refine Ans.bind (eqPuzzle_ans (l := toC l0_2) (by omega)) ?_
  exact Ans.iteP rfl (Ans.now rfl)

end Go.Proofs.Ytifgjihjcloloaa.Pure
