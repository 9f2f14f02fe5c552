/- JumpsOfGame of the program returns what the reference's returns, for all arguments; no condition. -/
import Derived.Test.YtphjhfpeomifiaaQGame
import Derived.Test.YtphjhfpeomifiaaP23
import Derived.Test.YtphjhfpeomifiaaP21
namespace Go.Proofs.Ytphjhfpeomifiaa.Pure
open Go.RowKit Go.Proofs.Ytphjhfpeomifiaa.P Go.Proofs.Ytphjhfpeomifiaa.Q Go.Proofs.YtphjhfpeomifiaaW.PrintWords Go.Proofs.YtphjhfpeomifiaaW.PrintLast
set_option linter.unusedVariables false

theorem JumpsOfGame_ans (s f o : Int) (l : List J) (t : List Int) (hl : l.length ≤ 1048576) (ht : t.length ≤ 1048576) :
    ∃ r, Ans (fun k => spec_JumpsOfGame.f k s f o l t) r ∧ Ans (fun k => impl_JumpsOfGame.f k s f o l t) r := by
  unfold spec_JumpsOfGame.f impl_JumpsOfGame.f
  have hsg := sqThrows_ans (s := s) (f := f) (o := o) (l := l) (t := t) (by omega) (by omega)
  have hib := isBoard_ans (s := s) (f := f) (o := o) (l := l) (by omega)
  have jt : Ans (fun k => impl_JumpsOfGame.j0 k t true s f o l) (0, false) := Ans.step (fun k => impl_JumpsOfGame.j0.eq_2 ..) (Ans.iteP rfl (Ans.now rfl))
  cases hg : goodS s f o l with
  | false =>
    rw [hg] at hsg hib
    exact ⟨(0, false), Ans.bind hsg (Ans.iteN (by simp) (Ans.now rfl)), Ans.bind hib (Ans.iteN (by simp) jt)⟩
  | true =>
    rw [hg] at hsg hib
    cases hb : thrownB f t with
    | false =>
      rw [hb] at hsg
      exact ⟨(0, false), Ans.bind hsg (Ans.iteN (by simp) (Ans.now rfl)), Ans.bind hib (Ans.iteP rfl (Ans.pbind (areThrows_val ..) (by rw [hb]; exact jt)))⟩
    | true =>
      rw [hb] at hsg
      have B := board_of hg
      obtain ⟨h1, h2⟩ := thrown_mem hb B.f2
      refine ⟨(jumpsFrom s o l 0 0 t, true), Ans.bind hsg (Ans.iteP rfl ?_), Ans.bind hib (Ans.iteP rfl (Ans.pbind (areThrows_val ..) ?_))⟩
      · refine loop_Ans t.length (fun k i (y : Int × Int) => spec_JumpsOfGame.l0 k y.1 y.2 t t.length (i : Int) s f o l) (fun i y => Sq s l y.2) (fun i y => (jumpsFrom s o l y.1 y.2 (t.drop i), true)) ?_ ?_ 0 (0, 0) (by omega) (Sq.zero B)
        · rintro ⟨c, x⟩ hx
          refine Ans.step (fun k => spec_JumpsOfGame.l0.eq_2 ..) ?_
          exact Ans.iteN (by omega) (Ans.now (by simp [jumpsFrom]))
        · rintro i ⟨c, x⟩ hi hx ih
          have hn := h2 t[i] (List.getElem_mem hi)
          have b1 := B.s1; have b2 := B.s2; have b3 := hx.1
          dsimp only at b3 hx
          refine Ans.step (fun k => spec_JumpsOfGame.l0.eq_2 ..) ?_
          refine Ans.iteP (by omega) (Ans.iteP (by omega) (Ans.iteP (by omega) ?_))
          rw [rd_at hi, drop_at hi, wrap_succ hi (by omega)]
          refine Ans.bind (gaJumps_ans B hx hn) (Ans.bind (sqThrow_ans B (by omega) (by omega)) ?_)
          exact ih (wrap64 (c + jby s o l x t[i]), thr s o l x t[i]) (hx.thr B (by omega))
      · rw [hb]
        refine Ans.step (fun k => impl_JumpsOfGame.j0.eq_2 ..) (Ans.iteN (by simp) ?_)
        refine loop_Ans t.length (fun k i (y : Int × Int) => impl_JumpsOfGame.l0 k y.1 y.2 t t.length (i : Int) s f o l) (fun i y => Sq s l y.2) (fun i y => (jumpsFrom s o l y.1 y.2 (t.drop i), true)) ?_ ?_ 0 (0, 0) (by omega) (Sq.zero B)
        · rintro ⟨c, x⟩ hx
          refine Ans.step (fun k => impl_JumpsOfGame.l0.eq_2 ..) ?_
          exact Ans.iteN (by omega) (Ans.now (by simp [jumpsFrom]))
        · rintro i ⟨c, x⟩ hi hx ih
          have hn := h2 t[i] (List.getElem_mem hi)
          have b1 := B.s1; have b2 := B.s2; have b3 := hx.1
          have hll : l.length ≤ 9223372036854775807 := by omega
          dsimp only at b3 hx
          refine Ans.step (fun k => impl_JumpsOfGame.l0.eq_2 ..) ?_
          refine Ans.iteP (by omega) (Ans.iteP (by omega) (Ans.iteP (by omega) ?_))
          rw [rd_at hi, drop_at hi, wrap_succ hi (by omega)]
          refine Ans.bind (jumpsBy_ans B hx hn) (Ans.bind (throw_ans hll ⟨b1, b2⟩ (by omega) (by omega)) ?_)
          exact ih (wrap64 (c + jby s o l x t[i]), thr s o l x t[i]) (hx.thr B (by omega))

theorem FnExactJumpsOfGame (a0_0 : Int) (a0_1 : Int) (a0_2 : Int) (l0_3 : List LJ) (l1 : List Int) (h0_3 : l0_3.length ≤ 9223372036854775807) (h1 : l1.length ≤ 9223372036854775807) :
    ∃ k, laws_FnExactJumpsOfGame.f k a0_0 a0_1 a0_2 l0_3 l1 = some true := by
  refine Ans.at_ ?_
  unfold laws_FnExactJumpsOfGame.f
  refine Ans.ite (fun _ => Ans.now rfl) (fun hz => ?_)
  obtain ⟨t, ht, h⟩ := szBoard_val (s := a0_0) (f := a0_1) (o := a0_2) (a := 1048576) (by omega) (by omega) h0_3
  refine Ans.pbind ht ?_
  rcases h with h | ⟨h, rfl⟩
  · exact Ans.iteP h (Ans.now rfl)
  refine Ans.iteN (by omega) ?_
  have e1 : l0_3.length ≤ 1048576 := by omega
  have e2 : l1.length ≤ 1048576 := by omega
  have e3 : (toJ l0_3).length ≤ 1048576 := by rw [toJ_length]; exact e1
  obtain ⟨r, hs, hi⟩ := JumpsOfGame_ans a0_0 a0_1 a0_2 (toJ l0_3) l1 e3 e2
  refine Ans.bind (toBoard_ans (by omega)) ?_
  refine Ans.bind (toIntS_ans (by omega)) ?_
  refine Ans.bind hs ?_
  refine Ans.bind (toBoard_ans (by omega)) ?_
  refine Ans.bind (toIntS_ans (by omega)) ?_
  refine Ans.bind hi ?_
  refine Ans.iteP rfl ?_
  refine Ans.step (fun k => laws_FnExactJumpsOfGame.j0.eq_2 ..) ?_
  refine Ans.iteN (by simp) ?_
  refine Ans.bind (toBoard_ans (by omega)) ?_
  refine Ans.bind (eqBoard_ans (l := toJ l0_3) (by omega)) ?_
  refine Ans.iteP rfl ?_
  refine Ans.bind (toIntS_ans (by omega)) ?_
  refine Ans.bind (eqIntS_ans (by omega)) ?_
  exact Ans.iteP rfl (Ans.now rfl)

end Go.Proofs.Ytphjhfpeomifiaa.Pure
