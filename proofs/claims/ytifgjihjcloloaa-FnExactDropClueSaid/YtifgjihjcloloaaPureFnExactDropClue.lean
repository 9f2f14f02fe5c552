/- DropClue of the program returns what the reference's returns, for all arguments; no condition. -/
import Derived.Test.YtifgjihjcloloaaQMark
import Derived.Test.YtifgjihjcloloaaP9
import Derived.Test.YtifgjihjcloloaaP43
namespace Go.Proofs.Ytifgjihjcloloaa.Pure
open Go.RowKit Go.Proofs.Ytifgjihjcloloaa.P Go.Proofs.Ytifgjihjcloloaa.Q Go.Proofs.YtifgjihjcloloaaW.PrintWords Go.Proofs.YtifgjihjcloloaaW.PrintLast
set_option linter.unusedVariables false

theorem pzWithout_val {l : List C} {i : Nat} (hl : l.length ≤ 1048576) (hi : i < l.length) : spec_pzWithout.f l (i : Int) = some (l.eraseIdx i) := by
  unfold spec_pzWithout.f
  rw [Option.bind_some, if_pos (by omega), if_pos (by omega), Option.bind_some, if_pos (by simp; omega), Option.bind_some, wrap_succ hi (by omega), if_pos (by omega), if_pos (by omega), Option.bind_some, if_pos (by simp; omega)]
  rw [show ((i : Int)).toNat = i by omega, show (((i + 1 : Nat) : Int)).toNat = i + 1 by omega, List.nil_append, List.eraseIdx_eq_take_drop_succ]
theorem DropClue_ans (s f : Int) (l : List C) (q : Int) (hl : l.length ≤ 1048576) :
    ∃ (s' f' : Int) (l' : List C) (o : Bool), l'.length ≤ 1048576 ∧ Ans (fun k => spec_DropClue.f k s f l q) (s', f', l', o) ∧ impl_DropClue.f s f l q = some (s', f', l', o) := by
  unfold spec_DropClue.f impl_DropClue.f
  have hs := pzGood_ans (s := s) (f := f) (l := l) (by omega)
  have ht : Ans (fun k => spec_DropClue.j0 k q true s f l) (0, 0, [], false) := Ans.step (fun k => spec_DropClue.j0.eq_2 ..) (Ans.iteP rfl (Ans.now rfl))
  rw [isPuzzle_val]
  cases hg : goodP s f l with
  | false =>
    rw [hg] at hs
    exact ⟨0, 0, [], false, by simp, Ans.bind hs (Ans.iteN (by simp) ht), rfl⟩
  | true =>
    rw [hg] at hs
    have hw : wrap64 ((l.length : Int) - 1) = l.length - 1 := wrap_of (by omega) (by omega)
    rw [Option.bind_some, if_pos rfl, within_v, hw, Option.bind_some]
    cases hr : inR q 0 ((l.length : Int) - 1) with
    | false => exact ⟨0, 0, [], false, by simp, Ans.bind hs (Ans.iteP rfl (Ans.pbind (l1In_v ..) (by rw [hr]; exact ht))), rfl⟩
    | true =>
      have hq := inR_iff.1 hr
      obtain ⟨i, rfl⟩ : ∃ i : Nat, q = (i : Int) := ⟨q.toNat, by omega⟩
      have hi : i < l.length := by omega
      refine ⟨s, f, l.eraseIdx i, true, by rw [List.length_eraseIdx_of_lt hi]; omega, Ans.bind hs (Ans.iteP rfl (Ans.pbind (l1In_v ..) ?_)), ?_⟩
      · rw [hr]
        refine Ans.step (fun k => spec_DropClue.j0.eq_2 ..) (Ans.iteN (by simp) ?_)
        exact Ans.pbind (pzWithout_val hl hi) (Ans.now (by simp [spec_pzWith.f]))
      · rw [if_pos rfl]
        unfold impl_dropped.f
        rw [if_pos ⟨by omega, by omega, by omega⟩, Option.bind_some, show ((i : Int)).toNat = i by omega]

theorem FnExactDropClue (a0_0 : Int) (a0_1 : Int) (l0_2 : List LC) (a1 : Int) (h0_2 : l0_2.length ≤ 9223372036854775807) (h1 : (Lit.int .i64 a1).wf = true) :
    ∃ k, laws_FnExactDropClue.f k a0_0 a0_1 l0_2 a1 = some true := by
  refine Ans.at_ ?_
  unfold laws_FnExactDropClue.f
  obtain ⟨t, ht, h⟩ := szPuzzle_val (s := a0_0) (f := a0_1) (a := 1048576) (by omega) (by omega) h0_2
  refine Ans.pbind ht ?_
  rcases h with h | ⟨h, rfl⟩
  · exact Ans.iteP h (Ans.now rfl)
  refine Ans.iteN (by omega) ?_
  have e1 : l0_2.length ≤ 1048576 := by omega
  have e2 : (toC l0_2).length ≤ 1048576 := by rw [toC_length]; exact e1
  have hT : Ans (fun k => laws_toPuzzle.f k a0_0 a0_1 l0_2) (a0_0, a0_1, toC l0_2) := toPuzzle_ans (by omega)
  obtain ⟨s', f', l', o, hl', hs, hi⟩ := DropClue_ans a0_0 a0_1 (toC l0_2) a1 e2
  refine Ans.bind hT (Ans.bind hs (Ans.bind hT (Ans.pbind hi ?_)))
  refine Ans.bind (eqPuzzle_ans (l := l') (by omega)) (Ans.iteP rfl ?_)
  refine Ans.step (fun k => laws_FnExactDropClue.j0.eq_2 ..) (Ans.iteN (by simp) ?_)
  refine Ans.bind hT (Ans.bind (eqPuzzle_ans (l := toC l0_2) (by omega)) (Ans.iteP rfl ?_))
  refine Ans.bind (markPuzzle_ans e2) (Ans.iteN (by dsimp only; omega) ?_)
  refine Ans.bind (eqPuzzle_ans (l := l') (by omega)) (Ans.iteP rfl ?_)
  refine Ans.step (fun k => laws_FnExactDropClue.j1.eq_2 ..) (Ans.iteN (by simp) ?_)
  refine Ans.bind (markPuzzle_ans hl') (Ans.bind (heldPuzzle_ans hl') (Ans.iteN (by omega) (Ans.iteP rfl ?_)))
  refine Ans.bind hT (Ans.pbind hi ?_)
  refine Ans.bind (eqPuzzle_ans (l := l') (by omega)) (Ans.iteP rfl ?_)
  refine Ans.step (fun k => laws_FnExactDropClue.j2.eq_2 ..) (Ans.iteN (by simp) ?_)
  refine Ans.bind (heldPuzzle_ans hl') (Ans.iteN (by omega) (Ans.iteP rfl (Ans.now rfl)))

end Go.Proofs.Ytifgjihjcloloaa.Pure
