/- RankOfGame of the program returns what the reference's returns, for all arguments; no condition. -/
import Derived.Test.YtphjhfpeomifiaaQGames
import Derived.Test.YtphjhfpeomifiaaQGame
import Derived.Test.YtphjhfpeomifiaaQToInt
import Derived.Test.YtphjhfpeomifiaaP43
import Derived.Test.YtphjhfpeomifiaaP42
namespace Go.Proofs.Ytphjhfpeomifiaa.Pure
open Go.RowKit Go.Proofs.Ytphjhfpeomifiaa.P Go.Proofs.Ytphjhfpeomifiaa.Q Go.Proofs.YtphjhfpeomifiaaW.PrintWords Go.Proofs.YtphjhfpeomifiaaW.PrintLast
set_option linter.unusedVariables false

def rowF (s f o : Int) (l : List J) (d : Nat) (a : Int) : Nat → Int → Int
  | 0, r => r
  | u + 1, r => wrap64 (rowF s f o l d a u r + cntV s f o l d (thr s o l a ((u : Int) + 1)))
def rankF (s f o : Int) (l : List J) : List Int → Int → Int → Int
  | [], r, _ => r
  | n :: t, r, a => rankF s f o l t (rowF s f o l t.length a (n - 1).toNat r) (thr s o l a n)

theorem rank_spec {s f o : Int} {l : List J} (B : Board s f o l) {t : List Int} (ht : t.length ≤ 16) (hm : ∀ n ∈ t, 1 ≤ n ∧ n ≤ 8) : Ans (fun k => spec_RankOfGame.l0 k t 0 0 t (t.length : Int) 0 s f o l) (rankF s f o l t 0 0, true) := by
  have b1 := B.s1; have b2 := B.s2; have b3 := B.f1; have b4 := B.f2
  refine loop_Ans t.length (fun k i (y : Int × Int) => spec_RankOfGame.l0 k t y.1 y.2 t (t.length : Int) (i : Int) s f o l) (fun i y => 0 ≤ y.2 ∧ y.2 ≤ s) (fun i y => (rankF s f o l (t.drop i) y.1 y.2, true)) ?_ ?_ 0 (0, 0) (by omega) ⟨by dsimp only; omega, by dsimp only; omega⟩
  · rintro ⟨r, a⟩ _
    refine Ans.step (fun k => spec_RankOfGame.l0.eq_2 ..) ?_
    exact Ans.iteN (by omega) (Ans.now (by simp [rankF]))
  · rintro i ⟨r, a⟩ hi ha ih
    dsimp only at ha
    have hn := hm t[i] (List.getElem_mem hi)
    have hd : wrap64 (wrap64 ((t.length : Int) - 1) - (i : Int)) = ((t.length - 1 - i : Nat) : Int) := by
      rw [wrap_of (x := (t.length : Int) - 1) (by omega) (by omega), wrap_of (by omega) (by omega)]; omega
    refine Ans.step (fun k => spec_RankOfGame.l0.eq_2 ..) ?_
    refine Ans.iteP (by omega) (Ans.iteP (by omega) (Ans.iteP (by omega) ?_))
    rw [hd, rd_at hi, drop_at hi]
    refine Ans.bind (gaCounts_ans B (by omega)) ?_
    dsimp only
    generalize hnn : t[i] = n at hn ⊢
    obtain ⟨N, rfl⟩ : ∃ N : Nat, n = (N : Int) + 1 := ⟨(n - 1).toNat, by omega⟩
    have e1 : (t.drop (i + 1)).length = t.length - 1 - i := by rw [List.length_drop]; omega
    refine loop_Ans N (fun k u (y : Int) => spec_RankOfGame.l1 k t y a ((N : Int) + 1) (cntL s f o l (t.length - 1 - i)) ((u : Int) + 1) t (t.length : Int) (i : Int) s f o l) (fun u y => y = rowF s f o l (t.length - 1 - i) a u r) (fun _ _ => (rankF s f o l (((N : Int) + 1) :: t.drop (i + 1)) r a, true)) ?_ ?_ 0 r (by omega) rfl
    · rintro y rfl
      refine Ans.step (fun k => spec_RankOfGame.l1.eq_2 ..) ?_
      refine Ans.iteN (by omega) (Ans.bind (sqThrow_ans B (by omega) (by omega)) ?_)
      rw [wrap_succ hi (by omega)]
      have := ih (rowF s f o l (t.length - 1 - i) a N r, thr s o l a ((N : Int) + 1)) (thr_range B ha (by omega))
      refine this.val ?_
      show _ = (rankF s f o l (t.drop (i + 1)) (rowF s f o l (t.drop (i + 1)).length a ((N : Int) + 1 - 1).toNat r) (thr s o l a ((N : Int) + 1)), true)
      rw [e1, show ((N : Int) + 1 - 1).toNat = N by omega]
    · rintro u y hu rfl ih2
      have hr := thr_range B (a := a) (n := (u : Int) + 1) ha (by omega)
      refine Ans.step (fun k => spec_RankOfGame.l1.eq_2 ..) ?_
      refine Ans.iteP (by omega) (Ans.bind (sqThrow_ans B (by omega) (by omega)) (Ans.iteP hr.1 (Ans.iteP (by rw [cntL_length]; omega) ?_)))
      rw [cntL_rd hr, show wrap64 ((u : Int) + 1 + 1) = ((u + 1 : Nat) : Int) + 1 by rw [wrap_of (by omega) (by omega)]; omega]
      exact ih2 _ rfl
theorem rank_impl {s f o : Int} {l : List J} (B : Board s f o l) {t : List Int} (ht : t.length ≤ 16) (hm : ∀ n ∈ t, 1 ≤ n ∧ n ≤ 8) : Ans (fun k => impl_RankOfGame.l0 k t 0 0 t (t.length : Int) 0 s f o l) (rankF s f o l t 0 0, true) := by
  have b1 := B.s1; have b2 := B.s2; have b3 := B.f1; have b4 := B.f2
  have hll : l.length ≤ 9223372036854775807 := by have := B.len; omega
  refine loop_Ans t.length (fun k i (y : Int × Int) => impl_RankOfGame.l0 k t y.1 y.2 t (t.length : Int) (i : Int) s f o l) (fun i y => 0 ≤ y.2 ∧ y.2 ≤ s) (fun i y => (rankF s f o l (t.drop i) y.1 y.2, true)) ?_ ?_ 0 (0, 0) (by omega) ⟨by dsimp only; omega, by dsimp only; omega⟩
  · rintro ⟨r, a⟩ _
    refine Ans.step (fun k => impl_RankOfGame.l0.eq_2 ..) ?_
    exact Ans.iteN (by omega) (Ans.now (by simp [rankF]))
  · rintro i ⟨r, a⟩ hi ha ih
    dsimp only at ha
    have hn := hm t[i] (List.getElem_mem hi)
    have hd : wrap64 (wrap64 ((t.length : Int) - 1) - (i : Int)) = ((t.length - 1 - i : Nat) : Int) := by
      rw [wrap_of (x := (t.length : Int) - 1) (by omega) (by omega), wrap_of (by omega) (by omega)]; omega
    refine Ans.step (fun k => impl_RankOfGame.l0.eq_2 ..) ?_
    refine Ans.iteP (by omega) (Ans.iteP (by omega) (Ans.iteP (by omega) ?_))
    rw [rd_at hi, drop_at hi]
    dsimp only
    generalize hnn : t[i] = n at hn ⊢
    obtain ⟨N, rfl⟩ : ∃ N : Nat, n = (N : Int) + 1 := ⟨(n - 1).toNat, by omega⟩
    have e1 : (t.drop (i + 1)).length = t.length - 1 - i := by rw [List.length_drop]; omega
    refine loop_Ans N (fun k u (y : Int) => impl_RankOfGame.l1 k t y a (i : Int) ((N : Int) + 1) ((u : Int) + 1) t (t.length : Int) (i : Int) s f o l) (fun u y => y = rowF s f o l (t.length - 1 - i) a u r) (fun _ _ => (rankF s f o l (((N : Int) + 1) :: t.drop (i + 1)) r a, true)) ?_ ?_ 0 r (by omega) rfl
    · rintro y rfl
      refine Ans.step (fun k => impl_RankOfGame.l1.eq_2 ..) ?_
      refine Ans.iteN (by omega) (Ans.bind (throw_ans hll ⟨b1, b2⟩ (by omega) (by omega)) ?_)
      rw [wrap_succ hi (by omega)]
      have := ih (rowF s f o l (t.length - 1 - i) a N r, thr s o l a ((N : Int) + 1)) (thr_range B ha (by omega))
      refine this.val ?_
      show _ = (rankF s f o l (t.drop (i + 1)) (rowF s f o l (t.drop (i + 1)).length a ((N : Int) + 1 - 1).toNat r) (thr s o l a ((N : Int) + 1)), true)
      rw [e1, show ((N : Int) + 1 - 1).toNat = N by omega]
    · rintro u y hu rfl ih2
      have hr := thr_range B (a := a) (n := (u : Int) + 1) ha (by omega)
      refine Ans.step (fun k => impl_RankOfGame.l1.eq_2 ..) ?_
      refine Ans.iteP (by omega) (Ans.bind (throw_ans hll ⟨b1, b2⟩ (by omega) (by omega)) ?_)
      rw [hd]
      refine Ans.bind (countGames_ans B (by omega) hr) ?_
      rw [show wrap64 ((u : Int) + 1 + 1) = ((u + 1 : Nat) : Int) + 1 by rw [wrap_of (by omega) (by omega)]; omega]
      exact ih2 _ rfl

theorem RankOfGame_ans (s f o : Int) (l : List J) (t : List Int) (hl : l.length ≤ 1048576) (ht : t.length ≤ 1048576) :
    ∃ r, Ans (fun k => spec_RankOfGame.f k s f o l t) r ∧ Ans (fun k => impl_RankOfGame.f k s f o l t) r := by
  unfold spec_RankOfGame.f impl_RankOfGame.f
  have hsg := sqThrows_ans (s := s) (f := f) (o := o) (l := l) (t := t) (by omega) (by omega)
  have hib := isBoard_ans (s := s) (f := f) (o := o) (l := l) (by omega)
  have js : Ans (fun k => spec_RankOfGame.j0 k t true s f o l) (0, false) := Ans.step (fun k => spec_RankOfGame.j0.eq_2 ..) (Ans.iteP rfl (Ans.now rfl))
  have ji : Ans (fun k => impl_RankOfGame.j0 k t true s f o l) (0, false) := Ans.step (fun k => impl_RankOfGame.j0.eq_2 ..) (Ans.iteP rfl (Ans.now rfl))
  cases hg : goodS s f o l with
  | false =>
    rw [hg] at hsg hib
    exact ⟨(0, false), Ans.bind hsg (Ans.iteN (by simp) js), Ans.bind hib (Ans.iteN (by simp) ji)⟩
  | true =>
    rw [hg] at hsg hib
    cases hb : thrownB f t with
    | false =>
      rw [hb] at hsg
      exact ⟨(0, false), Ans.bind hsg (Ans.iteN (by simp) js), Ans.bind hib (Ans.iteP rfl (Ans.pbind (areThrows_val ..) (by rw [hb]; exact Ans.iteN (by simp) ji)))⟩
    | true =>
      rw [hb] at hsg
      have B := board_of hg
      obtain ⟨h1, h2⟩ := thrown_mem hb B.f2
      by_cases h16 : (t.length : Int) > 16
      · exact ⟨(0, false), Ans.bind hsg (Ans.iteP rfl (Ans.iteP h16 js)), Ans.bind hib (Ans.iteP rfl (Ans.pbind (areThrows_val ..) (by rw [hb]; exact Ans.iteP rfl (Ans.iteP h16 ji))))⟩
      have hga := gaIs_ans B (by omega) h2
      have hig := isGame_ans B (by omega) h2
      cases hG : gameB s o l t with
      | false =>
        rw [hG] at hga hig
        exact ⟨(0, false), Ans.bind hsg (Ans.iteP rfl (Ans.iteN h16 (Ans.bind hga js))), Ans.bind hib (Ans.iteP rfl (Ans.pbind (areThrows_val ..) (by rw [hb]; exact Ans.iteP rfl (Ans.iteN h16 (Ans.bind hig ji)))))⟩
      | true =>
        rw [hG] at hga hig
        refine ⟨(rankF s f o l t 0 0, true), Ans.bind hsg (Ans.iteP rfl (Ans.iteN h16 (Ans.bind hga ?_))), Ans.bind hib (Ans.iteP rfl (Ans.pbind (areThrows_val ..) ?_))⟩
        · exact Ans.step (fun k => spec_RankOfGame.j0.eq_2 ..) (Ans.iteN (by simp) (rank_spec B (by omega) h2))
        · rw [hb]
          exact Ans.iteP rfl (Ans.iteN h16 (Ans.bind hig (Ans.step (fun k => impl_RankOfGame.j0.eq_2 ..) (Ans.iteN (by simp) (rank_impl B (by omega) h2)))))

theorem FnExactRankOfGame (a0_0 : Int) (a0_1 : Int) (a0_2 : Int) (l0_3 : List LJ) (l1 : List Int) (h0_3 : l0_3.length ≤ 9223372036854775807) (h1 : l1.length ≤ 9223372036854775807) :
    ∃ k, laws_FnExactRankOfGame.f k a0_0 a0_1 a0_2 l0_3 l1 = some true := by
  refine Ans.at_ ?_
  unfold laws_FnExactRankOfGame.f
  refine Ans.ite (fun _ => Ans.now rfl) (fun hz => ?_)
  obtain ⟨t, ht, h⟩ := szBoard_val (s := a0_0) (f := a0_1) (o := a0_2) (a := 1048576) (by omega) (by omega) h0_3
  refine Ans.pbind ht ?_
  rcases h with h | ⟨h, rfl⟩
  · exact Ans.iteP h (Ans.now rfl)
  refine Ans.iteN (by omega) ?_
  have e1 : l0_3.length ≤ 1048576 := by omega
  have e2 : l1.length ≤ 1048576 := by omega
  have e3 : (toJ l0_3).length ≤ 1048576 := by rw [toJ_length]; exact e1
  obtain ⟨r, hs, hi⟩ := RankOfGame_ans a0_0 a0_1 a0_2 (toJ l0_3) l1 e3 e2
  have hT : Ans (fun k => laws_toBoard.f k a0_0 a0_1 a0_2 l0_3) (a0_0, a0_1, a0_2, toJ l0_3) := toBoard_ans (by omega)
  have hL : Ans (fun k => laws_toIntS.f k l1) l1 := toIntS_ans (by omega)
  refine Ans.bind hT (Ans.bind hL (Ans.bind hs (Ans.bind hT (Ans.bind hL (Ans.bind hi (Ans.iteP rfl ?_))))))
  refine Ans.step (fun k => laws_FnExactRankOfGame.j0.eq_2 ..) ?_
  refine Ans.iteN (by simp) (Ans.bind hT ?_)
  refine Ans.bind (eqBoard_ans (l := toJ l0_3) (by omega)) (Ans.iteP rfl (Ans.bind hL ?_))
  refine Ans.bind (eqIntS_ans (by omega)) ?_
  exact Ans.iteP rfl (Ans.now rfl)

end Go.Proofs.Ytphjhfpeomifiaa.Pure
