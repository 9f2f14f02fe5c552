/- TrackSquare of the program returns what the reference's returns, for all arguments; no condition. -/
import Derived.Test.YtcppahkdfajcaaaQTrack
import Derived.Test.YtcppahkdfajcaaaP25
namespace Go.Proofs.Ytcppahkdfajcaaa.Pure
open Go.RowKit Go.Proofs.Ytcppahkdfajcaaa.P Go.Proofs.Ytcppahkdfajcaaa.Q Go.Proofs.YtcppahkdfajcaaaW.PrintWords Go.Proofs.YtcppahkdfajcaaaW.PrintLast
set_option linter.unusedVariables false

theorem isPlayer_eq (a b c : Int) (l3 l4 : List Int) (x : Int) : impl_Track_isPlayer.f a b c l3 l4 x = impl_within.f x 0 (wrap64 ((l3.length : Int) - 1)) := by
  unfold impl_Track_isPlayer.f; simp

theorem TrackSquare_ans (a b c : Int) (l3 l4 : List Int) (x y : Int) (e3 : l3.length ≤ 1048576) (e4 : l4.length ≤ 1048576) :
    ∃ r, Ans (fun k => spec_TrackSquare.f k a b c l3 l4 x y) r ∧ Ans (fun k => impl_TrackSquare.f k a b c l3 l4 x y) r := by
  unfold spec_TrackSquare.f impl_TrackSquare.f
  by_cases hg : good a b c l3 l4 = true
  · have hg' := hg
    simp only [good, Bool.and_eq_true] at hg'
    have ha := inR_iff.1 hg'.1
    suffices H : ∃ r, (fun (_ : Nat) => (spec_l1In.f x 0 (wrap64 ((l3.length : Int) - 1))).bind fun t194 => (if t194 = true then ((spec_l1In.f y 0 (wrap64 (a - 1))).bind fun t195 => (if t195 = true then ((spec_trSquare.f a b c l3 l4 x y).bind fun t196 => (some (t196, true))) else (some (0, false)))) else (some (0, false)))) 0 = some r by
      obtain ⟨r, hr⟩ := H
      refine ⟨r, ?_, ?_⟩
      · refine Ans.bind (trGood_ans e3 e4) ?_
        exact Ans.iteP hg (Ans.now hr)
      · refine Ans.bind (IsTrack_ans e3 e4) ?_
        refine Ans.iteP hg (Ans.now ?_)
        rw [isPlayer_eq]; exact hr
    rw [wrap_of (x := (l3.length : Int) - 1) (by omega) (by omega), wrap_of (x := a - 1) (by omega) (by omega)]
    rw [l1In_inR]
    simp only [Option.bind_some]
    by_cases hx : inR x 0 ((l3.length : Int) - 1) = true
    · have hx' := inR_iff.1 hx
      rw [if_pos hx, l1In_inR]
      simp only [Option.bind_some]
      by_cases hy : inR y 0 (a - 1) = true
      · rw [if_pos hy]
        unfold spec_trSquare.f
        rw [wrap_of (x := a - 1) (by omega) (by omega), l1In_inR, hy]
        simp only [Option.bind_some, if_true]
        rw [if_pos (by omega), if_pos (by omega), if_neg (by omega)]
        exact ⟨_, rfl⟩
      · rw [if_neg hy]; exact ⟨_, rfl⟩
    · rw [if_neg hx]; exact ⟨_, rfl⟩
  · refine ⟨(0, false), ?_, ?_⟩
    · refine Ans.bind (trGood_ans e3 e4) ?_
      exact Ans.iteN hg (Ans.now rfl)
    · refine Ans.bind (IsTrack_ans e3 e4) ?_
      exact Ans.iteN hg (Ans.now rfl)

theorem FnExactTrackSquare (a0_0 : Int) (a0_1 : Int) (a0_2 : Int) (l0_3 : List Int) (l0_4 : List Int) (a1 : Int) (a2 : Int) (h0_3 : l0_3.length ≤ 9223372036854775807) (h0_4 : l0_4.length ≤ 9223372036854775807) (h1 : (Lit.int .i64 a1).wf = true) (h2 : (Lit.int .i64 a2).wf = true) :
    ∃ k, laws_FnExactTrackSquare.f k a0_0 a0_1 a0_2 l0_3 l0_4 a1 a2 = some true := by
  refine Ans.at_ ?_
  unfold laws_FnExactTrackSquare.f
  obtain ⟨t, ht, h⟩ := szTrack_val (a := a0_0) (b := a0_1) (c := a0_2) (x := 1048576) (by omega) (by omega) h0_3 h0_4
  refine Ans.pbind ht ?_
  rcases h with h | ⟨h, rfl⟩
  · exact Ans.iteP h (Ans.now rfl)
  · have e3 : l0_3.length ≤ 1048576 := by omega
    have e4 : l0_4.length ≤ 1048576 := by omega
    obtain ⟨r, hs, hi⟩ := TrackSquare_ans a0_0 a0_1 a0_2 l0_3 l0_4 a1 a2 e3 e4
    refine Ans.iteN (by omega) ?_
    refine Ans.bind (toTrack_ans e3 e4) ?_
    refine Ans.bind hs ?_
    refine Ans.bind (toTrack_ans e3 e4) ?_
    refine Ans.bind hi ?_
    refine Ans.iteP rfl ?_
    refine Ans.step (fun k => laws_FnExactTrackSquare.j0.eq_2 ..) ?_
    refine Ans.iteN (by simp) ?_
    refine Ans.bind (toTrack_ans e3 e4) ?_
    refine Ans.bind (eqTrack_ans e3 e4) ?_
    exact Ans.iteP rfl (Ans.now rfl)

end Go.Proofs.Ytcppahkdfajcaaa.Pure
