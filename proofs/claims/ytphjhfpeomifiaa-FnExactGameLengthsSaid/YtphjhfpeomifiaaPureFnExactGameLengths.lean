/- GameLengths of the program returns what the reference's returns, for all arguments; no condition. -/
import Derived.Test.YtphjhfpeomifiaaQGames
import Derived.Test.YtphjhfpeomifiaaQMarkB
import Derived.Test.YtphjhfpeomifiaaQToInt
import Derived.Test.YtphjhfpeomifiaaP37
import Derived.Test.YtphjhfpeomifiaaP36
namespace Go.Proofs.Ytphjhfpeomifiaa.Pure
open Go.RowKit Go.Proofs.Ytphjhfpeomifiaa.P Go.Proofs.Ytphjhfpeomifiaa.Q Go.Proofs.YtphjhfpeomifiaaW.PrintWords Go.Proofs.YtphjhfpeomifiaaW.PrintLast
set_option linter.unusedVariables false

theorem GameTable_impl {s f o : Int} {l : List J} (B : Board s f o l) {m : Nat} (hm : m ≤ 16) : Ans (fun k => impl_GameTable.l0 k ([] : List Int) (wrap64 ((m : Int) + 1)) 0 s f o l) (tabL (m + 1) (fun n => cntV s f o l n 0), true) := by
  have h1 := B.s1
  rw [show wrap64 ((m : Int) + 1) = ((m + 1 : Nat) : Int) by rw [wrap_of (by omega) (by omega)]; omega]
  refine loop_Ans (m + 1) (fun k i (y : List Int) => impl_GameTable.l0 k y ((m + 1 : Nat) : Int) (i : Int) s f o l) (fun i y => y = tabL i fun n => cntV s f o l n 0) (fun _ _ => (tabL (m + 1) (fun n => cntV s f o l n 0), true)) ?_ ?_ 0 [] (by omega) rfl
  · rintro y rfl
    refine Ans.step (fun k => impl_GameTable.l0.eq_2 ..) ?_
    exact Ans.iteN (by omega) (Ans.now rfl)
  · rintro i y hi rfl ih
    refine Ans.step (fun k => impl_GameTable.l0.eq_2 ..) ?_
    refine Ans.iteP (by omega) (Ans.bind (countGames_ans B (by omega) ⟨by omega, by omega⟩) (Ans.iteP (by rw [tabL_length]; omega) ?_))
    rw [wrap_succ hi (by omega)]
    exact ih _ (tabL_snoc _ _)

/-- The lengths below i that games have. -/
def lensL (g : Nat → Int) (i : Nat) : List Int := ((List.range i).filter fun n => decide (0 < g n)).map fun n : Nat => (n : Int)
theorem lensL_len (g : Nat → Int) (i : Nat) : (lensL g i).length ≤ i := by
  unfold lensL
  rw [List.length_map]
  exact Nat.le_trans (List.length_filter_le _ _) (by simp)
theorem lensL_yes {g : Nat → Int} {i : Nat} (h : 0 < g i) : lensL g i ++ [(i : Int)] = lensL g (i + 1) := by simp [lensL, List.range_succ, List.filter_append, h]
theorem lensL_no {g : Nat → Int} {i : Nat} (h : ¬ 0 < g i) : lensL g i = lensL g (i + 1) := by simp [lensL, List.range_succ, List.filter_append, h]
theorem GameLengths_ans (s f o : Int) (l : List J) (hl : l.length ≤ 1048576) :
    ∃ r : List Int × Bool, r.1.length ≤ 1048576 ∧ Ans (fun k => spec_GameLengths.f k s f o l) r ∧ Ans (fun k => impl_GameLengths.f k s f o l) r := by
  unfold spec_GameLengths.f impl_GameLengths.f impl_GameTable.f
  have hs := sqGood_ans (s := s) (f := f) (o := o) (l := l) (by omega)
  have hi := isGamed_ans (s := s) (f := f) (o := o) (l := l) (n := 16) (by omega)
  cases hg : goodS s f o l with
  | false =>
    rw [hg] at hs
    rw [show askedB s f o l 16 = false by unfold askedB; rw [hg]; rfl] at hi
    exact ⟨([], false), by simp, Ans.bind hs (Ans.iteN (by simp) (Ans.now rfl)), Ans.bind (a := ([], false)) (Ans.bind hi (Ans.iteN (by simp) (Ans.now rfl))) (Ans.iteN (by simp) (Ans.now rfl))⟩
  | true =>
    rw [hg] at hs
    rw [show askedB s f o l 16 = true by unfold askedB; rw [hg]; rfl] at hi
    have B := board_of hg
    have h1 := B.s1
    refine ⟨(lensL (fun n => cntV s f o l n 0) 17, true), by have := lensL_len (fun n => cntV s f o l n 0) 17; dsimp only; omega, Ans.bind hs (Ans.iteP rfl ?_), Ans.bind (a := (tabL 17 (fun n => cntV s f o l n 0), true)) (Ans.bind hi (Ans.iteP rfl (GameTable_impl B (m := 16) (by omega)))) (Ans.iteP rfl ?_)⟩
    · refine loop_Ans 17 (fun k i (y : List Int) => spec_GameLengths.l0 k y (i : Int) s f o l) (fun i y => y = lensL (fun n => cntV s f o l n 0) i) (fun _ _ => (lensL (fun n => cntV s f o l n 0) 17, true)) ?_ ?_ 0 [] (by omega) rfl
      · rintro y rfl
        refine Ans.step (fun k => spec_GameLengths.l0.eq_2 ..) ?_
        exact Ans.iteN (by omega) (Ans.now rfl)
      · rintro i y hi' rfl ih
        have hlen := lensL_len (fun n => cntV s f o l n 0) i
        refine Ans.step (fun k => spec_GameLengths.l0.eq_2 ..) ?_
        refine Ans.iteP (by omega) (Ans.bind (gaCounts_ans B (by omega)) (Ans.iteP (by rw [cntL_length]; omega) ?_))
        rw [cntL_rd ⟨by omega, by omega⟩, wrap_succ hi' (by omega)]
        refine Ans.ite (fun h => Ans.iteP (by omega) (ih _ (lensL_yes (g := fun n => cntV s f o l n 0) h))) (fun h => ih _ (lensL_no (g := fun n => cntV s f o l n 0) h))
    · dsimp only
      rw [tabL_length]
      refine loop_Ans 17 (fun k i (y : List Int) => impl_GameLengths.l0 k y (tabL 17 (fun n => cntV s f o l n 0)) ((17 : Nat) : Int) (i : Int)) (fun i y => y = lensL (fun n => cntV s f o l n 0) i) (fun _ _ => (lensL (fun n => cntV s f o l n 0) 17, true)) ?_ ?_ 0 [] (by omega) rfl
      · rintro y rfl
        refine Ans.step (fun k => impl_GameLengths.l0.eq_2 ..) ?_
        exact Ans.iteN (by omega) (Ans.now rfl)
      · rintro i y hi' rfl ih
        have hlen := lensL_len (fun n => cntV s f o l n 0) i
        refine Ans.step (fun k => impl_GameLengths.l0.eq_2 ..) ?_
        refine Ans.iteP (by omega) (Ans.iteP (by omega) (Ans.iteP (by rw [tabL_length]; omega) ?_))
        rw [tabL_rd hi', wrap_succ hi' (by omega)]
        refine Ans.ite (fun h => Ans.iteP (by omega) (ih _ (lensL_yes (g := fun n => cntV s f o l n 0) h))) (fun h => ih _ (lensL_no (g := fun n => cntV s f o l n 0) h))

theorem FnExactGameLengths (a0_0 : Int) (a0_1 : Int) (a0_2 : Int) (l0_3 : List LJ) (h0_3 : l0_3.length ≤ 9223372036854775807) :
    ∃ k, laws_FnExactGameLengths.f k a0_0 a0_1 a0_2 l0_3 = some true := by
  refine Ans.at_ ?_
  unfold laws_FnExactGameLengths.f
  obtain ⟨t, ht, h⟩ := szBoard_val (s := a0_0) (f := a0_1) (o := a0_2) (a := 1048576) (by omega) (by omega) h0_3
  refine Ans.pbind ht ?_
  rcases h with h | ⟨h, rfl⟩
  · exact Ans.iteP h (Ans.now rfl)
  refine Ans.iteN (by omega) ?_
  have e1 : l0_3.length ≤ 1048576 := by omega
  have e3 : (toJ l0_3).length ≤ 1048576 := by rw [toJ_length]; exact e1
  have hT : Ans (fun k => laws_toBoard.f k a0_0 a0_1 a0_2 l0_3) (a0_0, a0_1, a0_2, toJ l0_3) := toBoard_ans (by omega)
  obtain ⟨⟨r, ok⟩, hr, hs, hi⟩ := GameLengths_ans a0_0 a0_1 a0_2 (toJ l0_3) e3
  dsimp only at hr
  refine Ans.bind hT (Ans.bind hs (Ans.bind hT (Ans.bind hi (Ans.bind (eqIntS_self (l := r) (by omega)) (Ans.iteP rfl ?_)))))
  refine Ans.step (fun k => laws_FnExactGameLengths.j0.eq_2 ..) (Ans.iteN (by simp) ?_)
  refine Ans.bind hT (Ans.bind (eqBoard_ans (l := toJ l0_3) (by omega)) (Ans.iteP rfl ?_))
  refine Ans.bind (markBoard_ans e3) (Ans.iteN (markBoard_pos _) ?_)
  refine Ans.bind (eqIntS_self (l := r) (by omega)) (Ans.iteP rfl ?_)
  refine Ans.step (fun k => laws_FnExactGameLengths.j1.eq_2 ..) (Ans.iteN (by simp) ?_)
  refine Ans.bind (markIntS_ans (l := r) (by omega)) (Ans.bind (heldIntS_ans (by omega)) (Ans.iteN (by omega) (Ans.iteP rfl ?_)))
  refine Ans.bind hT (Ans.bind hi (Ans.bind (eqIntS_self (l := r) (by omega)) (Ans.iteP rfl ?_)))
  refine Ans.step (fun k => laws_FnExactGameLengths.j2.eq_2 ..) (Ans.iteN (by simp) ?_)
  exact Ans.bind (heldIntS_ans (by omega)) (Ans.iteN (by omega) (Ans.iteP rfl (Ans.now rfl)))

end Go.Proofs.Ytphjhfpeomifiaa.Pure
