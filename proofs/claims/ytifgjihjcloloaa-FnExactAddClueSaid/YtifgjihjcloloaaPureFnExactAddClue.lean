/- AddClue of the program returns what the reference's returns, for all arguments; no condition. -/
import Derived.Test.YtifgjihjcloloaaQMark
import Derived.Test.YtifgjihjcloloaaP7
import Derived.Test.YtifgjihjcloloaaP35
namespace Go.Proofs.Ytifgjihjcloloaa.Pure
open Go.RowKit Go.Proofs.Ytifgjihjcloloaa.P Go.Proofs.Ytifgjihjcloloaa.Q Go.Proofs.YtifgjihjcloloaaW.PrintWords Go.Proofs.YtifgjihjcloloaaW.PrintLast
set_option linter.unusedVariables false

theorem AddClue_ans (s f : Int) (l : List C) (p a b c : Int) (hl : l.length ≤ 1048576) :
    ∃ (s' f' : Int) (l' : List C) (o : Bool), l'.length ≤ 1048576 ∧ Ans (fun k => spec_AddClue.f k s f l p a b c) (s', f', l', o) ∧ impl_AddClue.f s f l p a b c = some (s', f', l', o) := by
  unfold spec_AddClue.f impl_AddClue.f
  have hs := pzGood_ans (s := s) (f := f) (l := l) (by omega)
  rw [isPuzzle_val]
  cases hg : goodP s f l with
  | false =>
    rw [hg] at hs
    exact ⟨0, 0, [], false, by simp, Ans.bind hs (Ans.iteN (by simp) (Ans.now rfl)), rfl⟩
  | true =>
    rw [hg] at hs
    have hz : sizeB s f = true ∧ l.length ≤ 6 := by
      unfold goodP at hg
      simp only [Bool.and_eq_true, decide_eq_true_eq] at hg
      exact ⟨hg.1, by omega⟩
    have hc := pzClue_ans s f p a b c
    have hi : impl_IsClue.f s f p a b c = some (clueB s f p a b c) := by rw [isClue_val, hz.1, Bool.true_and]
    cases hcl : clueB s f p a b c with
    | false =>
      rw [hcl] at hc hi
      refine ⟨0, 0, [], false, by simp, Ans.bind hs (Ans.iteP rfl (Ans.bind hc (Ans.iteN (by simp) (Ans.now rfl)))), ?_⟩
      rw [hi]; rfl
    | true =>
      rw [hcl] at hc hi
      by_cases h6 : (l.length : Int) = 6
      · refine ⟨0, 0, [], false, by simp, Ans.bind hs (Ans.iteP rfl (Ans.bind hc (Ans.iteP rfl (Ans.iteP h6 (Ans.now rfl))))), ?_⟩
        rw [hi]
        simp only [Option.bind_some, if_true]
        rw [if_pos h6]
      · refine ⟨s, f, l ++ [⟨p, a, b, c⟩], true, by simp; omega, Ans.bind hs (Ans.iteP rfl (Ans.bind hc (Ans.iteP rfl (Ans.iteN h6 ?_)))), ?_⟩
        · refine Ans.iteP (by simp; omega) (Ans.pbind rfl (Ans.pbind rfl (Ans.iteP (by simp; omega) ?_)))
          exact Ans.now (by simp [spec_pzWith.f])
        · rw [hi]
          simp only [Option.bind_some, if_true]
          rw [if_neg h6]
          have hcn : impl_Clue.f l = some l := by
            unfold impl_Clue.f
            rw [if_pos (by omega)]
          rw [hcn, Option.bind_some, if_pos (by simp; omega)]

theorem FnExactAddClue (a0_0 : Int) (a0_1 : Int) (l0_2 : List LC) (a1_0 : Int) (a1_1 : Int) (a1_2 : Int) (a1_3 : Int) (h0_2 : l0_2.length ≤ 9223372036854775807) :
    ∃ k, laws_FnExactAddClue.f k a0_0 a0_1 l0_2 a1_0 a1_1 a1_2 a1_3 = some true := by
  refine Ans.at_ ?_
  unfold laws_FnExactAddClue.f
  obtain ⟨t, ht, h⟩ := szPuzzle_val (s := a0_0) (f := a0_1) (a := 1048576) (by omega) (by omega) h0_2
  refine Ans.pbind ht ?_
  rcases h with h | ⟨h, rfl⟩
  · exact Ans.iteP h (Ans.now rfl)
  refine Ans.iteN (by omega) ?_
  have e1 : l0_2.length ≤ 1048576 := by omega
  have e2 : (toC l0_2).length ≤ 1048576 := by rw [toC_length]; exact e1
  have hT : Ans (fun k => laws_toPuzzle.f k a0_0 a0_1 l0_2) (a0_0, a0_1, toC l0_2) := toPuzzle_ans (by omega)
  obtain ⟨s', f', l', o, hl', hs, hi⟩ := AddClue_ans a0_0 a0_1 (toC l0_2) a1_0 a1_1 a1_2 a1_3 e2
  refine Ans.bind hT (Ans.pbind rfl (Ans.bind hs (Ans.bind hT (Ans.pbind rfl (Ans.pbind hi ?_)))))
  refine Ans.bind (eqPuzzle_ans (l := l') (by omega)) (Ans.iteP rfl ?_)
  refine Ans.step (fun k => laws_FnExactAddClue.j0.eq_2 ..) (Ans.iteN (by simp) ?_)
  refine Ans.bind hT (Ans.bind (eqPuzzle_ans (l := toC l0_2) (by omega)) (Ans.iteP rfl ?_))
  refine Ans.bind (markPuzzle_ans e2) (Ans.iteN (by dsimp only; omega) ?_)
  refine Ans.bind (eqPuzzle_ans (l := l') (by omega)) (Ans.iteP rfl ?_)
  refine Ans.step (fun k => laws_FnExactAddClue.j1.eq_2 ..) (Ans.iteN (by simp) ?_)
  refine Ans.bind (markPuzzle_ans hl') (Ans.bind (heldPuzzle_ans hl') (Ans.iteN (by omega) (Ans.iteP rfl ?_)))
  refine Ans.bind hT (Ans.pbind rfl (Ans.pbind hi ?_))
  refine Ans.bind (eqPuzzle_ans (l := l') (by omega)) (Ans.iteP rfl ?_)
  refine Ans.step (fun k => laws_FnExactAddClue.j2.eq_2 ..) (Ans.iteN (by simp) ?_)
  refine Ans.bind (heldPuzzle_ans hl') (Ans.iteN (by omega) (Ans.iteP rfl (Ans.now rfl)))

end Go.Proofs.Ytifgjihjcloloaa.Pure
