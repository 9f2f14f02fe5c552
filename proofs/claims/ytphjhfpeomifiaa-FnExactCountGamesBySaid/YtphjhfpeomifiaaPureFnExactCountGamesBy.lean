/- CountGamesBy of the program returns what the reference's returns, for all arguments; no condition. -/
import Derived.Test.YtphjhfpeomifiaaQGames
import Derived.Test.YtphjhfpeomifiaaQToInt
import Derived.Test.YtphjhfpeomifiaaQBy
import Derived.Test.YtphjhfpeomifiaaP19
import Derived.Test.YtphjhfpeomifiaaP19
namespace Go.Proofs.Ytphjhfpeomifiaa.Pure
open Go.RowKit Go.Proofs.Ytphjhfpeomifiaa.P Go.Proofs.Ytphjhfpeomifiaa.Q Go.Proofs.YtphjhfpeomifiaaW.PrintWords Go.Proofs.YtphjhfpeomifiaaW.PrintLast
set_option linter.unusedVariables false

theorem CountGamesBy_ans (s f o : Int) (l : List J) (n d : Int) (hl : l.length ≤ 1048576) :
    ∃ r, Ans (fun k => spec_CountGamesBy.f k s f o l n d) r ∧ Ans (fun k => impl_CountGamesBy.f k s f o l n d) r := by
  unfold spec_CountGamesBy.f impl_CountGamesBy.f
  have hs := gaAsked_ans (s := s) (f := f) (o := o) (l := l) (n := n) (by omega)
  have hi := isGamed_ans (s := s) (f := f) (o := o) (l := l) (n := n) (by omega)
  cases ha : askedB s f o l n with
  | false =>
    rw [ha] at hs hi
    exact ⟨(0, false), Ans.bind hs (Ans.iteN (by simp) (Ans.now rfl)), Ans.bind hi (Ans.iteN (by simp) (Ans.now rfl))⟩
  | true =>
    rw [ha] at hs hi
    obtain ⟨B, m, rfl, hm⟩ := asked_of ha
    cases hd : inR d 0 16 with
    | false => exact ⟨(0, false), Ans.bind hs (Ans.iteP rfl (Ans.pbind (l1In_val ..) (by rw [hd]; exact Ans.iteN (by simp) (Ans.now rfl)))), Ans.bind hi (Ans.iteP rfl (Ans.pbind (within_val ..) (by rw [hd]; exact Ans.iteN (by simp) (Ans.now rfl))))⟩
    | true =>
      have h2 := inR_iff.1 hd
      refine ⟨(rd (byL s f o l m) d, true), Ans.bind hs (Ans.iteP rfl (Ans.pbind (l1In_val ..) ?_)), Ans.bind hi (Ans.iteP rfl (Ans.pbind (within_val ..) ?_))⟩
      · rw [hd]
        exact Ans.iteP rfl (Ans.bind (gaBy_ans B hm) (Ans.iteP h2.1 (Ans.iteP (by rw [byL_length]; omega) (Ans.now rfl))))
      · rw [hd]
        exact Ans.iteP rfl (Ans.bind (byJumps_ans B hm) (Ans.iteP h2.1 (Ans.iteP (by rw [byL_length]; omega) (Ans.now rfl))))

theorem FnExactCountGamesBy (a0_0 : Int) (a0_1 : Int) (a0_2 : Int) (l0_3 : List LJ) (a1 : Int) (a2 : Int) (h0_3 : l0_3.length ≤ 9223372036854775807) (h1 : (Lit.int .i64 a1).wf = true) (h2 : (Lit.int .i64 a2).wf = true) :
    ∃ k, laws_FnExactCountGamesBy.f k a0_0 a0_1 a0_2 l0_3 a1 a2 = some true := by
  refine Ans.at_ ?_
  unfold laws_FnExactCountGamesBy.f
  obtain ⟨t, ht, h⟩ := szBoard_val (s := a0_0) (f := a0_1) (o := a0_2) (a := 1048576) (by omega) (by omega) h0_3
  refine Ans.pbind ht ?_
  rcases h with h | ⟨h, rfl⟩
  · exact Ans.iteP h (Ans.now rfl)
  refine Ans.iteN (by omega) ?_
  have e1 : l0_3.length ≤ 1048576 := by omega
  have e3 : (toJ l0_3).length ≤ 1048576 := by rw [toJ_length]; exact e1
  have hT : Ans (fun k => laws_toBoard.f k a0_0 a0_1 a0_2 l0_3) (a0_0, a0_1, a0_2, toJ l0_3) := toBoard_ans (by omega)
  obtain ⟨r, hs, hi⟩ := CountGamesBy_ans a0_0 a0_1 a0_2 (toJ l0_3) a1 a2 e3
  refine Ans.bind hT (Ans.bind hs (Ans.bind hT (Ans.bind hi (Ans.iteP rfl ?_))))
  refine Ans.step (fun k => laws_FnExactCountGamesBy.j0.eq_2 ..) ?_
  refine Ans.iteN (by simp) (Ans.bind hT ?_)
  exact Ans.bind (eqBoard_ans (l := toJ l0_3) (by omega)) (Ans.iteP rfl (Ans.now rfl))

end Go.Proofs.Ytphjhfpeomifiaa.Pure
