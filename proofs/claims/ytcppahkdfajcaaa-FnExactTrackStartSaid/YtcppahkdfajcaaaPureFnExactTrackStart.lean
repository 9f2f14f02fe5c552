/- TrackStart of the program returns what the reference's returns, for all arguments; no condition. -/
import Derived.Test.YtcppahkdfajcaaaQLawTr
import Derived.Test.YtcppahkdfajcaaaELawTrackStart
namespace Go.Proofs.Ytcppahkdfajcaaa.Pure
open Go.RowKit Go.Proofs.Ytcppahkdfajcaaa.P Go.Proofs.Ytcppahkdfajcaaa.Q Go.Proofs.YtcppahkdfajcaaaW.PrintWords Go.Proofs.YtcppahkdfajcaaaW.PrintLast
set_option linter.unusedVariables false
set_option linter.unusedSimpArgs false

theorem TrackStart_ans (a b c : Int) (l3 l4 : List Int) (e3 : l3.length ≤ 1048576) (e4 : l4.length ≤ 1048576) :
    ∃ r : List (List Int) × Bool, (r.1.length ≤ 1048576 ∧ ∀ x ∈ r.1, x.length ≤ 1048576) ∧ Ans (fun k => spec_TrackStart.f k a b c l3 l4) r ∧ Ans (fun k => impl_TrackStart.f k a b c l3 l4) r := by
  unfold spec_TrackStart.f impl_TrackStart.f
  cases hg : good a b c l3 l4 with
  | false => exact ⟨([], false), ⟨by simp, by simp⟩, Ans.bind ((trGood_ans e3 e4).val hg) (Ans.iteN (by simp) (Ans.now rfl)), Ans.bind ((IsTrack_ans e3 e4).val hg) (Ans.iteN (by simp) (Ans.now rfl))⟩
  | true =>
    obtain ⟨h1, h2, h3, h4, h5⟩ := good_facts hg
    refine ⟨(homeS l3.length c, true), ⟨by simp [homeS]; omega, fun x hx => ?_⟩, Ans.bind ((trGood_ans e3 e4).val hg) (Ans.iteP rfl (Ans.bind (trStart_ans h4.2 h3) (Ans.now rfl))), Ans.bind ((IsTrack_ans e3 e4).val hg) (Ans.iteP rfl (Ans.bind (atHome_ans h4.2 h3) (Ans.now rfl)))⟩
    unfold homeS at hx
    rw [(List.mem_replicate.1 hx).2, List.length_replicate]; omega

theorem FnExactTrackStart (a0_0 : Int) (a0_1 : Int) (a0_2 : Int) (l0_3 : List Int) (l0_4 : List Int) (h0_3 : l0_3.length ≤ 9223372036854775807) (h0_4 : l0_4.length ≤ 9223372036854775807) :
    ∃ k, laws_FnExactTrackStart.f k a0_0 a0_1 a0_2 l0_3 l0_4 = some true := by
  refine Ans.at_ ?_
  unfold laws_FnExactTrackStart.f
  obtain ⟨t, ht, h⟩ := szTrack_val (a := a0_0) (b := a0_1) (c := a0_2) (x := 1048576) (by omega) (by omega) h0_3 h0_4
  refine Ans.pbind ht ?_
  rcases h with h | ⟨h, rfl⟩
  · exact Ans.iteP h (Ans.now rfl)
  refine Ans.iteN (by omega) ?_
  have e3 : l0_3.length ≤ 1048576 := by omega
  have e4 : l0_4.length ≤ 1048576 := by omega
  obtain ⟨⟨r0, r1⟩, hr, hs, hi⟩ := TrackStart_ans a0_0 a0_1 a0_2 l0_3 l0_4 e3 e4
  dsimp only at hr
  refine Ans.bind (toTrack_ans e3 e4) (Ans.bind (eqTrack_ans e3 e4) (Ans.iteP rfl ?_))
  refine Ans.bind hs (Ans.bind hi (Ans.iteP rfl (Ans.bind (eqIntSS_ans (s := r0) hr.1 hr.2) (Ans.iteP rfl ?_))))
  refine Ans.bind (markTrack_ans e3 e4) (Ans.iteN (by dsimp only; omega) ?_)
  have hg := mkSS_ge r0 1
  exact Ans.bind (markIntSS_ans (s := r0) (by omega) (by omega) hr.1 hr.2) (Ans.bind (heldIntSS_ans (s := r0) (by omega) (by omega) hr.1 hr.2) (Ans.iteP rfl (Ans.iteN (by omega) (Ans.now rfl))))

end Go.Proofs.Ytcppahkdfajcaaa.Pure
