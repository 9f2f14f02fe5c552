/- IsGame of the program returns what the reference's returns, for all arguments; no condition. -/
import Derived.Test.YtphjhfpeomifiaaQGame
import Derived.Test.YtphjhfpeomifiaaP26
namespace Go.Proofs.Ytphjhfpeomifiaa.Pure
open Go.RowKit Go.Proofs.Ytphjhfpeomifiaa.P Go.Proofs.Ytphjhfpeomifiaa.Q Go.Proofs.YtphjhfpeomifiaaW.PrintWords Go.Proofs.YtphjhfpeomifiaaW.PrintLast
set_option linter.unusedVariables false

theorem IsGame_ans (s f o : Int) (l : List J) (t : List Int) (hl : l.length ≤ 1048576) (ht : t.length ≤ 1048576) :
    ∃ r, Ans (fun k => spec_IsGame.f k s f o l t) r ∧ Ans (fun k => impl_IsGame.f k s f o l t) r := by
  unfold spec_IsGame.f impl_IsGame.f
  have hsg := sqThrows_ans (s := s) (f := f) (o := o) (l := l) (t := t) (by omega) (by omega)
  have hib := isBoard_ans (s := s) (f := f) (o := o) (l := l) (by omega)
  cases hg : goodS s f o l with
  | false =>
    rw [hg] at hsg hib
    exact ⟨(false, false), Ans.bind hsg (Ans.iteN (by simp) (Ans.now rfl)), Ans.bind hib (Ans.iteN (by simp) (Ans.now rfl))⟩
  | true =>
    rw [hg] at hsg hib
    cases hb : thrownB f t with
    | false =>
      rw [hb] at hsg
      exact ⟨(false, false), Ans.bind hsg (Ans.iteN (by simp) (Ans.now rfl)), Ans.bind hib (Ans.iteP rfl (Ans.pbind (areThrows_val ..) (Ans.iteN (by simp [hb]) (Ans.now rfl))))⟩
    | true =>
      rw [hb] at hsg
      have B := board_of hg
      obtain ⟨h1, h2⟩ := thrown_mem hb B.f2
      exact ⟨(gameB s o l t, true), Ans.bind hsg (Ans.iteP rfl (Ans.bind (gaIs_ans B h1 h2) (Ans.now rfl))), Ans.bind hib (Ans.iteP rfl (Ans.pbind (areThrows_val ..) (Ans.iteP hb (Ans.bind (isGame_ans B h1 h2) (Ans.now rfl)))))⟩

theorem FnExactIsGame (a0_0 : Int) (a0_1 : Int) (a0_2 : Int) (l0_3 : List LJ) (l1 : List Int) (h0_3 : l0_3.length ≤ 9223372036854775807) (h1 : l1.length ≤ 9223372036854775807) :
    ∃ k, laws_FnExactIsGame.f k a0_0 a0_1 a0_2 l0_3 l1 = some true := by
  refine Ans.at_ ?_
  unfold laws_FnExactIsGame.f
  refine Ans.ite (fun _ => Ans.now rfl) (fun hz => ?_)
  obtain ⟨t, ht, h⟩ := szBoard_val (s := a0_0) (f := a0_1) (o := a0_2) (a := 1048576) (by omega) (by omega) h0_3
  refine Ans.pbind ht ?_
  rcases h with h | ⟨h, rfl⟩
  · exact Ans.iteP h (Ans.now rfl)
  refine Ans.iteN (by omega) ?_
  have e1 : l0_3.length ≤ 1048576 := by omega
  have e2 : l1.length ≤ 1048576 := by omega
  have e3 : (toJ l0_3).length ≤ 1048576 := by rw [toJ_length]; exact e1
  obtain ⟨r, hs, hi⟩ := IsGame_ans a0_0 a0_1 a0_2 (toJ l0_3) l1 e3 e2
  refine Ans.bind (toBoard_ans (by omega)) ?_
  refine Ans.bind (toIntS_ans (by omega)) ?_
  refine Ans.bind hs ?_
  refine Ans.bind (toBoard_ans (by omega)) ?_
  refine Ans.bind (toIntS_ans (by omega)) ?_
  refine Ans.bind hi ?_
  refine Ans.iteN (by simp) ?_
  refine Ans.step (fun k => laws_FnExactIsGame.j0.eq_2 ..) ?_
  refine Ans.iteN (by simp) ?_
  refine Ans.bind (toBoard_ans (by omega)) ?_
  refine Ans.bind (eqBoard_ans (l := toJ l0_3) (by omega)) ?_
  refine Ans.iteP rfl ?_
  refine Ans.bind (toIntS_ans (by omega)) ?_
  refine Ans.bind (eqIntS_ans (by omega)) ?_
  exact Ans.iteP rfl (Ans.now rfl)

end Go.Proofs.Ytphjhfpeomifiaa.Pure
