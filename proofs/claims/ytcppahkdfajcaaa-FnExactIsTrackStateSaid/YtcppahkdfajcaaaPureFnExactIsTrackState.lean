/- IsTrackState of the program returns what the reference's returns, for all arguments; no condition. -/
import Derived.Test.YtcppahkdfajcaaaQPlay
import Derived.Test.YtcppahkdfajcaaaP29
namespace Go.Proofs.Ytcppahkdfajcaaa.Pure
open Go.RowKit Go.Proofs.Ytcppahkdfajcaaa.P Go.Proofs.Ytcppahkdfajcaaa.Q Go.Proofs.YtcppahkdfajcaaaW.PrintWords Go.Proofs.YtcppahkdfajcaaaW.PrintLast
set_option linter.unusedVariables false

theorem IsTrackState_ans (a b c : Int) (l3 l4 : List Int) (s : List (List Int)) (z : Small l3 l4 s) :
    ∃ r, Ans (fun k => spec_IsTrackState.f k a b c l3 l4 s) r ∧ Ans (fun k => impl_IsTrackState.f k a b c l3 l4 s) r := by
  unfold spec_IsTrackState.f impl_IsTrackState.f
  cases hg : good a b c l3 l4 with
  | false => exact ⟨(false, false), Ans.bind (trGood_ans z.k3 z.k4) (Ans.iteN (by simp [hg]) (Ans.now rfl)), Ans.bind (IsTrack_ans z.k3 z.k4) (Ans.iteN (by simp [hg]) (Ans.now rfl))⟩
  | true => exact ⟨(stateB a c l3 l4 s, true), Ans.bind (trGood_ans z.k3 z.k4) (Ans.iteP hg (Ans.bind (trState_ans hg z.k4 z.ks z.kr) (Ans.now rfl))), Ans.bind (IsTrack_ans z.k3 z.k4) (Ans.iteP hg (Ans.pbind (isState_val hg) (Ans.now rfl)))⟩

theorem FnExactIsTrackState (a0_0 : Int) (a0_1 : Int) (a0_2 : Int) (l0_3 : List Int) (l0_4 : List Int) (l1 : List (List Int)) (h0_3 : l0_3.length ≤ 9223372036854775807) (h0_4 : l0_4.length ≤ 9223372036854775807) (h1 : l1.length ≤ 9223372036854775807) (hh1 : ∀ x ∈ l1, x.length ≤ 9223372036854775807) :
    ∃ k, laws_FnExactIsTrackState.f k a0_0 a0_1 a0_2 l0_3 l0_4 l1 = some true := by
  refine Ans.at_ ?_
  unfold laws_FnExactIsTrackState.f
  obtain ⟨t, ht, h⟩ := szTrack_val (a := a0_0) (b := a0_1) (c := a0_2) (x := 1048576) (by omega) (by omega) h0_3 h0_4
  refine Ans.pbind ht ?_
  rcases h with h | ⟨h, rfl⟩
  · exact Ans.iteP h (Ans.now rfl)
  refine Ans.iteN (by omega) ?_
  refine Ans.bind (szIntSS_ans h1) ?_
  refine Ans.ite (fun _ => Ans.now rfl) (fun hz => ?_)
  obtain ⟨e5, e6⟩ := szLL_fits (by omega) (by omega) h1 hh1 (Int.not_lt.1 hz)
  have e3 : l0_3.length ≤ 1048576 := by omega
  have e4 : l0_4.length ≤ 1048576 := by omega
  obtain ⟨r, hs, hi⟩ := IsTrackState_ans a0_0 a0_1 a0_2 l0_3 l0_4 l1 ⟨e3, e4, e5, e6⟩
  refine Ans.bind (toTrack_ans e3 e4) ?_
  refine Ans.bind (toIntSS_ans e5 e6) ?_
  refine Ans.bind hs ?_
  refine Ans.bind (toTrack_ans e3 e4) ?_
  refine Ans.bind (toIntSS_ans e5 e6) ?_
  refine Ans.bind hi ?_
  refine Ans.iteN (by simp) ?_
  refine Ans.step (fun k => laws_FnExactIsTrackState.j0.eq_2 ..) ?_
  refine Ans.iteN (by simp) ?_
  refine Ans.bind (toTrack_ans e3 e4) ?_
  refine Ans.bind (eqTrack_ans e3 e4) ?_
  refine Ans.iteP rfl ?_
  refine Ans.bind (toIntSS_ans e5 e6) ?_
  refine Ans.bind (eqIntSS_ans e5 e6) ?_
  exact Ans.iteP rfl (Ans.now rfl)

end Go.Proofs.Ytcppahkdfajcaaa.Pure
