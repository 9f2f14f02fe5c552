/- GameOfRank of the program returns what the reference's returns, for all arguments; no condition. -/
import Derived.Test.YtphjhfpeomifiaaQGames
import Derived.Test.YtphjhfpeomifiaaQMarkB
import Derived.Test.YtphjhfpeomifiaaQToInt
import Derived.Test.YtphjhfpeomifiaaP11
import Derived.Test.YtphjhfpeomifiaaP38
namespace Go.Proofs.Ytphjhfpeomifiaa.Pure
open Go.RowKit Go.Proofs.Ytphjhfpeomifiaa.P Go.Proofs.Ytphjhfpeomifiaa.Q Go.Proofs.YtphjhfpeomifiaaW.PrintWords Go.Proofs.YtphjhfpeomifiaaW.PrintLast
set_option linter.unusedVariables false

/-- Over the faces behind t: the first whose count is above the rank, and what is left of the rank. -/
def pickF (s f o : Int) (l : List J) (n : Nat) (a : Int) : Nat → Nat → Int → Nat × Int
  | 0, t, r => (t, r)
  | d + 1, t, r => if r < cntV s f o l n (thr s o l a ((t : Int) + 1)) then (t, r) else pickF s f o l n a d (t + 1) (r - cntV s f o l n (thr s o l a ((t : Int) + 1)))
def gorF (s f o : Int) (l : List J) : Nat → Int → Int → List Int → List Int
  | 0, _, _, out => out
  | n + 1, a, r, out => gorF s f o l n (thr s o l a (((pickF s f o l n a f.toNat 0 r).1 : Int) + 1)) (pickF s f o l n a f.toNat 0 r).2 (out ++ [((pickF s f o l n a f.toNat 0 r).1 : Int) + 1])
theorem gorF_length (s f o : Int) (l : List J) : ∀ n a r out, (gorF s f o l n a r out).length = out.length + n
  | 0, _, _, out => rfl
  | n + 1, a, r, out => by unfold gorF; rw [gorF_length]; simp; omega

theorem GameOfRank_spec {s f o : Int} {l : List J} (B : Board s f o l) {m : Nat} (hm : m ≤ 16) {r : Int} (h0 : 0 ≤ r) (hr : r < cntV s f o l m 0) :
    Ans (fun k => spec_GameOfRank.l0 k r ([] : List Int) 0 (wrap64 ((m : Int) - 1)) s f o l) (gorF s f o l m 0 r [], true) := by
  have b1 := B.s1; have b2 := B.s2; have b3 := B.f1; have b4 := B.f2
  have key := loop_Ans m (fun k i (y : List Int × Int × Int) => spec_GameOfRank.l0 k y.2.2 y.1 y.2.1 ((m : Int) - 1 - (i : Int)) s f o l) (fun i y => y.1.length = i ∧ (0 ≤ y.2.1 ∧ y.2.1 ≤ s) ∧ 0 ≤ y.2.2 ∧ y.2.2 < cntV s f o l (m - i) y.2.1) (fun i y => (gorF s f o l (m - i) y.2.1 y.2.2 y.1, true)) ?_ ?_ 0 ([], 0, r) (by omega) ⟨rfl, ⟨by dsimp only; omega, by dsimp only; omega⟩, h0, by rw [Nat.sub_zero]; exact hr⟩
  · rw [wrap_of (by omega) (by omega)]
    have e : (m : Int) - 1 - ((0 : Nat) : Int) = (m : Int) - 1 := by omega
    rw [← e]
    exact key
  · rintro ⟨out, a, r⟩ ⟨hl, ha, hr0, hr1⟩
    refine Ans.step (fun k => spec_GameOfRank.l0.eq_2 ..) ?_
    refine Ans.iteN (by omega) (Ans.now ?_)
    rw [Nat.sub_self]; rfl
  · rintro i ⟨out, a, r⟩ hi ⟨hl, ha, hr0, hr1⟩ ih
    dsimp only at hl ha hr0 hr1
    obtain ⟨d, hd⟩ : ∃ d, m - i = d + 1 := ⟨m - i - 1, by omega⟩
    have hdi : (m : Int) - 1 - (i : Int) = (d : Int) := by omega
    have hwi : wrap64 ((d : Int) - 1) = (m : Int) - 1 - ((i + 1 : Nat) : Int) := by rw [wrap_of (by omega) (by omega)]; omega
    refine Ans.step (fun k => spec_GameOfRank.l0.eq_2 ..) ?_
    rw [hdi]
    refine Ans.iteP (by omega) (Ans.bind (gaCounts_ans B (n := d) (by omega)) ?_)
    dsimp only
    rw [hd] at hr1 ⊢
    have has : a ≠ s := by
      intro e
      unfold cntV at hr1
      rw [if_pos e] at hr1
      omega
    unfold cntV at hr1
    rw [if_neg has] at hr1
    -- over the faces
    have fc := loop_Ans f.toNat (fun k t (y : Int) => spec_GameOfRank.l1 k y out a (d : Int) (cntL s f o l d) ((t : Int) + 1) s f o l) (fun t y => 0 ≤ y ∧ y < sumN f.toNat (fun u => cntV s f o l d (thr s o l a ((u : Int) + 1))) - sumN t (fun u => cntV s f o l d (thr s o l a ((u : Int) + 1)))) (fun t y => (gorF s f o l d (thr s o l a (((pickF s f o l d a (f.toNat - t) t y).1 : Int) + 1)) (pickF s f o l d a (f.toNat - t) t y).2 (out ++ [((pickF s f o l d a (f.toNat - t) t y).1 : Int) + 1]), true)) ?_ ?_ 0 r (by omega) ⟨hr0, by simpa [sumN] using hr1⟩
    · exact fc
    · rintro y ⟨h1, h2⟩
      omega
    · rintro t y ht ⟨h1, h2⟩ ih2
      have hr := thr_range B (a := a) (n := (t : Int) + 1) ha (by omega)
      refine Ans.step (fun k => spec_GameOfRank.l1.eq_2 ..) ?_
      refine Ans.iteP (by omega) (Ans.bind (sqThrow_ans B (by omega) (by omega)) (Ans.iteP hr.1 (Ans.iteP (by rw [cntL_length]; omega) ?_)))
      rw [cntL_rd hr]
      have c0 := cntV_nonneg s f o l d (thr s o l a ((t : Int) + 1))
      have c1 := cntV_small (s := s) (o := o) (l := l) b4 (n := d) (by omega) (thr s o l a ((t : Int) + 1))
      rw [show f.toNat - t = (f.toNat - (t + 1)) + 1 by omega]
      refine Ans.ite (fun h => ?_) (fun h => ?_)
      · refine Ans.iteP (by omega) (Ans.bind (sqThrow_ans B (by omega) (by omega)) ?_)
        rw [hwi]
        have := ih (out ++ [(t : Int) + 1], thr s o l a ((t : Int) + 1), y) ⟨by simp [hl], hr, h1, by rw [show m - (i + 1) = d by omega]; exact h⟩
        rw [show m - (i + 1) = d by omega] at this
        unfold pickF
        rw [if_pos h]
        exact this
      · have hw : wrap64 (y - cntV s f o l d (thr s o l a ((t : Int) + 1))) = y - cntV s f o l d (thr s o l a ((t : Int) + 1)) := wrap_of (by omega) (by have h5_ := sumN_bound (n := f.toNat) (g := fun u => cntV s f o l d (thr s o l a ((u : Int) + 1))) (b := 2251799813685248) (fun u _ => cntV_small b4 (by omega) _); have h6_ : ((f.toNat : Nat) : Int) * 2251799813685248 ≤ 8 * 2251799813685248 := Int.mul_le_mul_of_nonneg_right (by omega) (by decide); have := sumN_nonneg (n := t) (g := fun u => cntV s f o l d (thr s o l a ((u : Int) + 1))) (fun u _ => cntV_nonneg ..); omega)
        have hwt : wrap64 ((t : Int) + 1 + 1) = ((t + 1 : Nat) : Int) + 1 := by rw [wrap_of (by omega) (by omega)]; omega
        rw [hw, hwt]
        have := ih2 (y - cntV s f o l d (thr s o l a ((t : Int) + 1))) ⟨by omega, by show _ < _ - (sumN t _ + cntV s f o l d (thr s o l a ((t : Int) + 1))); omega⟩
        unfold pickF
        rw [if_neg h]
        exact this
theorem GameOfRank_impl {s f o : Int} {l : List J} (B : Board s f o l) {m : Nat} (hm : m ≤ 16) {r : Int} (h0 : 0 ≤ r) (hr : r < cntV s f o l m 0) :
    Ans (fun k => impl_GameOfRank.l0 k r 0 ([] : List Int) (wrap64 ((m : Int) - 1)) s f o l) (gorF s f o l m 0 r [], true) := by
  have b1 := B.s1; have b2 := B.s2; have b3 := B.f1; have b4 := B.f2
  have hll : l.length ≤ 9223372036854775807 := by have := B.len; omega
  have key := loop_Ans m (fun k i (y : List Int × Int × Int) => impl_GameOfRank.l0 k y.2.2 y.2.1 y.1 ((m : Int) - 1 - (i : Int)) s f o l) (fun i y => y.1.length = i ∧ (0 ≤ y.2.1 ∧ y.2.1 ≤ s) ∧ 0 ≤ y.2.2 ∧ y.2.2 < cntV s f o l (m - i) y.2.1) (fun i y => (gorF s f o l (m - i) y.2.1 y.2.2 y.1, true)) ?_ ?_ 0 ([], 0, r) (by omega) ⟨rfl, ⟨by dsimp only; omega, by dsimp only; omega⟩, h0, by rw [Nat.sub_zero]; exact hr⟩
  · rw [wrap_of (by omega) (by omega)]
    have e : (m : Int) - 1 - ((0 : Nat) : Int) = (m : Int) - 1 := by omega
    rw [← e]
    exact key
  · rintro ⟨out, a, r⟩ ⟨hl, ha, hr0, hr1⟩
    refine Ans.step (fun k => impl_GameOfRank.l0.eq_2 ..) ?_
    refine Ans.iteN (by omega) (Ans.now ?_)
    rw [Nat.sub_self]; rfl
  · rintro i ⟨out, a, r⟩ hi ⟨hl, ha, hr0, hr1⟩ ih
    dsimp only at hl ha hr0 hr1
    obtain ⟨d, hd⟩ : ∃ d, m - i = d + 1 := ⟨m - i - 1, by omega⟩
    have hdi : (m : Int) - 1 - (i : Int) = (d : Int) := by omega
    have hwi : wrap64 ((d : Int) - 1) = (m : Int) - 1 - ((i + 1 : Nat) : Int) := by rw [wrap_of (by omega) (by omega)]; omega
    refine Ans.step (fun k => impl_GameOfRank.l0.eq_2 ..) ?_
    rw [hdi]
    refine Ans.iteP (by omega) ?_
    dsimp only
    rw [hd] at hr1 ⊢
    have has : a ≠ s := by
      intro e
      unfold cntV at hr1
      rw [if_pos e] at hr1
      omega
    unfold cntV at hr1
    rw [if_neg has] at hr1
    have fc := loop_Ans f.toNat (fun k t (y : Int) => impl_GameOfRank.l1 k y a out (d : Int) ((t : Int) + 1) s f o l) (fun t y => 0 ≤ y ∧ y < sumN f.toNat (fun u => cntV s f o l d (thr s o l a ((u : Int) + 1))) - sumN t (fun u => cntV s f o l d (thr s o l a ((u : Int) + 1)))) (fun t y => (gorF s f o l d (thr s o l a (((pickF s f o l d a (f.toNat - t) t y).1 : Int) + 1)) (pickF s f o l d a (f.toNat - t) t y).2 (out ++ [((pickF s f o l d a (f.toNat - t) t y).1 : Int) + 1]), true)) ?_ ?_ 0 r (by omega) ⟨hr0, by simpa [sumN] using hr1⟩
    · exact fc
    · rintro y ⟨h1, h2⟩
      omega
    · rintro t y ht ⟨h1, h2⟩ ih2
      have hr := thr_range B (a := a) (n := (t : Int) + 1) ha (by omega)
      refine Ans.step (fun k => impl_GameOfRank.l1.eq_2 ..) ?_
      refine Ans.bind (throw_ans hll ⟨b1, b2⟩ (by omega) (by omega)) (Ans.bind (countGames_ans B (by omega) hr) ?_)
      have c0 := cntV_nonneg s f o l d (thr s o l a ((t : Int) + 1))
      have c1 := cntV_small (s := s) (o := o) (l := l) b4 (n := d) (by omega) (thr s o l a ((t : Int) + 1))
      rw [show f.toNat - t = (f.toNat - (t + 1)) + 1 by omega]
      refine Ans.ite (fun h => ?_) (fun h => ?_)
      · refine Ans.iteP (by omega) (Ans.bind (throw_ans hll ⟨b1, b2⟩ (by omega) (by omega)) ?_)
        rw [hwi]
        have := ih (out ++ [(t : Int) + 1], thr s o l a ((t : Int) + 1), y) ⟨by simp [hl], hr, h1, by rw [show m - (i + 1) = d by omega]; exact h⟩
        rw [show m - (i + 1) = d by omega] at this
        unfold pickF
        rw [if_pos h]
        exact this
      · have hw : wrap64 (y - cntV s f o l d (thr s o l a ((t : Int) + 1))) = y - cntV s f o l d (thr s o l a ((t : Int) + 1)) := wrap_of (by omega) (by have h5_ := sumN_bound (n := f.toNat) (g := fun u => cntV s f o l d (thr s o l a ((u : Int) + 1))) (b := 2251799813685248) (fun u _ => cntV_small b4 (by omega) _); have h6_ : ((f.toNat : Nat) : Int) * 2251799813685248 ≤ 8 * 2251799813685248 := Int.mul_le_mul_of_nonneg_right (by omega) (by decide); have := sumN_nonneg (n := t) (g := fun u => cntV s f o l d (thr s o l a ((u : Int) + 1))) (fun u _ => cntV_nonneg ..); omega)
        have hwt : wrap64 ((t : Int) + 1 + 1) = ((t + 1 : Nat) : Int) + 1 := by rw [wrap_of (by omega) (by omega)]; omega
        rw [hw, hwt]
        have := ih2 (y - cntV s f o l d (thr s o l a ((t : Int) + 1))) ⟨by omega, by show _ < _ - (sumN t _ + cntV s f o l d (thr s o l a ((t : Int) + 1))); omega⟩
        unfold pickF
        rw [if_neg h]
        exact this
theorem GameOfRank_ans (s f o : Int) (l : List J) (n r : Int) (hl : l.length ≤ 1048576) :
    ∃ x : List Int × Bool, x.1.length ≤ 1048576 ∧ Ans (fun k => spec_GameOfRank.f k s f o l n r) x ∧ Ans (fun k => impl_GameOfRank.f k s f o l n r) x := by
  unfold spec_GameOfRank.f impl_GameOfRank.f
  have hs := gaAsked_ans (s := s) (f := f) (o := o) (l := l) (n := n) (by omega)
  have hi := isGamed_ans (s := s) (f := f) (o := o) (l := l) (n := n) (by omega)
  have js : Ans (fun k => spec_GameOfRank.j0 k n r true s f o l) ([], false) := Ans.step (fun k => spec_GameOfRank.j0.eq_2 ..) (Ans.iteP rfl (Ans.now rfl))
  have ji : Ans (fun k => impl_GameOfRank.j0 k n r true s f o l) ([], false) := Ans.step (fun k => impl_GameOfRank.j0.eq_2 ..) (Ans.iteP rfl (Ans.now rfl))
  cases ha : askedB s f o l n with
  | false =>
    rw [ha] at hs hi
    exact ⟨([], false), by simp, Ans.bind hs (Ans.iteN (by simp) js), Ans.bind hi (Ans.iteN (by simp) ji)⟩
  | true =>
    rw [ha] at hs hi
    obtain ⟨B, m, rfl, hm⟩ := asked_of ha
    have h1 := B.s1
    have c0 := cntV_nonneg s f o l m 0
    have c1 := cntV_small (s := s) (o := o) (l := l) B.f2 (n := m) (by omega) 0
    have hw : wrap64 (cntV s f o l m 0 - 1) = cntV s f o l m 0 - 1 := wrap_of (by omega) (by omega)
    cases hin : inR r 0 (cntV s f o l m 0 - 1) with
    | false =>
      refine ⟨([], false), by simp, Ans.bind hs (Ans.iteP rfl (Ans.bind (gaCounts_ans B hm) (Ans.iteP (by rw [cntL_length]; omega) (Ans.pbind (l1In_val ..) ?_)))), Ans.bind hi (Ans.iteP rfl (Ans.bind (countGames_ans B hm ⟨by omega, by omega⟩) (Ans.pbind (within_val ..) ?_)))⟩
      · rw [cntL_rd ⟨by omega, by omega⟩, hw, hin]; exact js
      · rw [hw, hin]; exact ji
    | true =>
      have h2 := inR_iff.1 hin
      refine ⟨(gorF s f o l m 0 r [], true), by rw [gorF_length]; simp; omega, Ans.bind hs (Ans.iteP rfl (Ans.bind (gaCounts_ans B hm) (Ans.iteP (by rw [cntL_length]; omega) (Ans.pbind (l1In_val ..) ?_)))), Ans.bind hi (Ans.iteP rfl (Ans.bind (countGames_ans B hm ⟨by omega, by omega⟩) (Ans.pbind (within_val ..) ?_)))⟩
      · rw [cntL_rd ⟨by omega, by omega⟩, hw, hin]
        exact Ans.step (fun k => spec_GameOfRank.j0.eq_2 ..) (Ans.iteN (by simp) (GameOfRank_spec B hm h2.1 (by omega)))
      · rw [hw, hin]
        exact Ans.step (fun k => impl_GameOfRank.j0.eq_2 ..) (Ans.iteN (by simp) (GameOfRank_impl B hm h2.1 (by omega)))

theorem FnExactGameOfRank (a0_0 : Int) (a0_1 : Int) (a0_2 : Int) (l0_3 : List LJ) (a1 : Int) (a2 : Int) (h0_3 : l0_3.length ≤ 9223372036854775807) (h1 : (Lit.int .i64 a1).wf = true) (h2 : (Lit.int .i64 a2).wf = true) :
    ∃ k, laws_FnExactGameOfRank.f k a0_0 a0_1 a0_2 l0_3 a1 a2 = some true := by
  refine Ans.at_ ?_
  unfold laws_FnExactGameOfRank.f
  obtain ⟨t, ht, h⟩ := szBoard_val (s := a0_0) (f := a0_1) (o := a0_2) (a := 1048576) (by omega) (by omega) h0_3
  refine Ans.pbind ht ?_
  rcases h with h | ⟨h, rfl⟩
  · exact Ans.iteP h (Ans.now rfl)
  refine Ans.iteN (by omega) ?_
  have e1 : l0_3.length ≤ 1048576 := by omega
  have e3 : (toJ l0_3).length ≤ 1048576 := by rw [toJ_length]; exact e1
  have hT : Ans (fun k => laws_toBoard.f k a0_0 a0_1 a0_2 l0_3) (a0_0, a0_1, a0_2, toJ l0_3) := toBoard_ans (by omega)
  obtain ⟨⟨r, ok⟩, hr, hs, hi⟩ := GameOfRank_ans a0_0 a0_1 a0_2 (toJ l0_3) a1 a2 e3
  dsimp only at hr
  refine Ans.bind hT (Ans.bind hs (Ans.bind hT (Ans.bind hi (Ans.bind (eqIntS_self (l := r) (by omega)) (Ans.iteP rfl ?_)))))
  refine Ans.step (fun k => laws_FnExactGameOfRank.j0.eq_2 ..) (Ans.iteN (by simp) ?_)
  refine Ans.bind hT (Ans.bind (eqBoard_ans (l := toJ l0_3) (by omega)) (Ans.iteP rfl ?_))
  refine Ans.bind (markBoard_ans e3) (Ans.iteN (markBoard_pos _) ?_)
  refine Ans.bind (eqIntS_self (l := r) (by omega)) (Ans.iteP rfl ?_)
  refine Ans.step (fun k => laws_FnExactGameOfRank.j1.eq_2 ..) (Ans.iteN (by simp) ?_)
  refine Ans.bind (markIntS_ans (l := r) (by omega)) (Ans.bind (heldIntS_ans (by omega)) (Ans.iteN (by omega) (Ans.iteP rfl ?_)))
  refine Ans.bind hT (Ans.bind hi (Ans.bind (eqIntS_self (l := r) (by omega)) (Ans.iteP rfl ?_)))
  refine Ans.step (fun k => laws_FnExactGameOfRank.j2.eq_2 ..) (Ans.iteN (by simp) ?_)
  exact Ans.bind (heldIntS_ans (by omega)) (Ans.iteN (by omega) (Ans.iteP rfl (Ans.now rfl)))

end Go.Proofs.Ytphjhfpeomifiaa.Pure
