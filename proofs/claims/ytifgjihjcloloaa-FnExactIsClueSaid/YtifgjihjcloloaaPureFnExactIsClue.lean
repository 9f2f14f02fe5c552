/- IsClue of the program returns what the reference's returns, for all arguments; no condition. -/
import Derived.Test.YtifgjihjcloloaaQClue
import Derived.Test.YtifgjihjcloloaaP4
namespace Go.Proofs.Ytifgjihjcloloaa.Pure
open Go.RowKit Go.Proofs.Ytifgjihjcloloaa.P Go.Proofs.Ytifgjihjcloloaa.Q Go.Proofs.YtifgjihjcloloaaW.PrintWords Go.Proofs.YtifgjihjcloloaaW.PrintLast
set_option linter.unusedVariables false

theorem FnExactIsClue (a0 : Int) (a1 : Int) (a2_0 : Int) (a2_1 : Int) (a2_2 : Int) (a2_3 : Int) (h0 : (Lit.int .i64 a0).wf = true) (h1 : (Lit.int .i64 a1).wf = true) :
    ∃ k, laws_FnExactIsClue.f k a0 a1 a2_0 a2_1 a2_2 a2_3 = some true := by
  refine Ans.at_ ?_
  unfold laws_FnExactIsClue.f
  refine Ans.pbind rfl ?_
  have hs : Ans (fun k => spec_IsClue.f k a0 a1 a2_0 a2_1 a2_2 a2_3) (sizeB a0 a1 && clueB a0 a1 a2_0 a2_1 a2_2 a2_3) := by
    unfold spec_IsClue.f
    refine Ans.pbind (size_eq a0 a1) ?_
    cases sizeB a0 a1 with
    | false => exact Ans.iteN (by simp) (Ans.now rfl)
    | true => exact Ans.iteP rfl (Ans.bind (pzClue_ans ..) (Ans.now rfl))
  refine Ans.bind hs (Ans.pbind rfl (Ans.pbind (isClue_val ..) ?_))
  exact Ans.iteN (by simp) (Ans.now rfl)

end Go.Proofs.Ytifgjihjcloloaa.Pure
