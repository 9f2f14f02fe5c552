/- HiddenBoards of the program returns what the reference's returns, for all arguments; no condition. -/
import Derived.Test.YtifgjihjcloloaaP19
import Derived.Test.YtifgjihjcloloaaQHid
import Derived.Test.YtifgjihjcloloaaQSize
namespace Go.Proofs.Ytifgjihjcloloaa.Pure
open Go.RowKit Go.Proofs.Ytifgjihjcloloaa.P Go.Proofs.Ytifgjihjcloloaa.Q Go.Proofs.YtifgjihjcloloaaW.PrintWords Go.Proofs.YtifgjihjcloloaaW.PrintLast
set_option linter.unusedVariables false

theorem FnExactHiddenBoards (a0 : Int) (a1 : Int) (h0 : (Lit.int .i64 a0).wf = true) (h1 : (Lit.int .i64 a1).wf = true) :
    ∃ k, laws_FnExactHiddenBoards.f k a0 a1 = some true := by
  refine ⟨400, ?_⟩
  unfold laws_FnExactHiddenBoards.f spec_HiddenBoards.f impl_HiddenBoards.f
  rw [size_eq, isHid_eq]
  by_cases h : (sizeB a0 a1) = true
  · have h' := h
    unfold sizeB at h'
    rw [Bool.and_eq_true, inR_iff, inR_iff] at h'
    rw [h]
    simp only [Option.bind_some, if_true, hidden_eq a0 a1 h'.1.1 h'.1.2, boards_eq a0 a1 h'.1.1 h'.1.2]
    rfl
  · rw [Bool.not_eq_true] at h
    rw [h]
    rfl

end Go.Proofs.Ytifgjihjcloloaa.Pure
