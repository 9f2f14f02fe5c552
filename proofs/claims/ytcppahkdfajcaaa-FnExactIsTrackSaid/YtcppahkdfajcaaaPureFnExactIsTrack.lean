/- IsTrack of the program returns what the reference's returns, for all arguments; no condition. -/
import Derived.Test.YtcppahkdfajcaaaQTrack
import Derived.Test.YtcppahkdfajcaaaP3
namespace Go.Proofs.Ytcppahkdfajcaaa.Pure
open Go.RowKit Go.Proofs.Ytcppahkdfajcaaa.P Go.Proofs.Ytcppahkdfajcaaa.Q Go.Proofs.YtcppahkdfajcaaaW.PrintWords Go.Proofs.YtcppahkdfajcaaaW.PrintLast
set_option linter.unusedVariables false

theorem FnExactIsTrack (a0_0 : Int) (a0_1 : Int) (a0_2 : Int) (l0_3 : List Int) (l0_4 : List Int) (h0_3 : l0_3.length ≤ 9223372036854775807) (h0_4 : l0_4.length ≤ 9223372036854775807) :
    ∃ k, laws_FnExactIsTrack.f k a0_0 a0_1 a0_2 l0_3 l0_4 = some true := by
  refine Ans.at_ ?_
  unfold laws_FnExactIsTrack.f
  obtain ⟨t, ht, h⟩ := szTrack_val (a := a0_0) (b := a0_1) (c := a0_2) (x := 1048576) (by omega) (by omega) h0_3 h0_4
  refine Ans.pbind ht ?_
  rcases h with h | ⟨h, rfl⟩
  · exact Ans.iteP h (Ans.now rfl)
  · have e3 : l0_3.length ≤ 1048576 := by omega
    have e4 : l0_4.length ≤ 1048576 := by omega
    refine Ans.iteN (by omega) ?_
    refine Ans.bind (toTrack_ans e3 e4) ?_
    refine Ans.bind ((trGood_ans e3 e4).bind (Ans.now rfl)) ?_
    refine Ans.bind (toTrack_ans e3 e4) ?_
    refine Ans.bind (IsTrack_ans e3 e4) ?_
    refine Ans.iteN (by simp) ?_
    refine Ans.bind (toTrack_ans e3 e4) ?_
    refine Ans.bind (eqTrack_ans e3 e4) ?_
    exact Ans.iteP rfl (Ans.now rfl)

end Go.Proofs.Ytcppahkdfajcaaa.Pure
