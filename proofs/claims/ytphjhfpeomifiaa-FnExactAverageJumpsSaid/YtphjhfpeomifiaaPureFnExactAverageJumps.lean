/- AverageJumps of the program returns what the reference's returns, for all arguments; no condition. -/
import Derived.Test.YtphjhfpeomifiaaQGames
import Derived.Test.YtphjhfpeomifiaaQToInt
import Derived.Test.YtphjhfpeomifiaaQBy
import Derived.Test.YtphjhfpeomifiaaP40
import Derived.Test.YtphjhfpeomifiaaP40
namespace Go.Proofs.Ytphjhfpeomifiaa.Pure
open Go.RowKit Go.Proofs.Ytphjhfpeomifiaa.P Go.Proofs.Ytphjhfpeomifiaa.Q Go.Proofs.YtphjhfpeomifiaaW.PrintWords Go.Proofs.YtphjhfpeomifiaaW.PrintLast
set_option linter.unusedVariables false

/-! Fractions in lowest terms. -/
theorem low_same (a b : Int) : ∀ (k : Nat) (x y : Int), 0 ≤ x → 0 ≤ y → impl_lowest.l0 k a b x y = spec_chLow.l0 k a b x y
  | 0, _, _, _, _ => rfl
  | k + 1, x, y, hx, hy => by
    simp only [impl_lowest.l0, spec_chLow.l0]
    by_cases h : y = 0
    · rw [if_pos h, if_neg (show ¬ y > 0 by omega)]
    · rw [if_neg h, if_pos (show y > 0 by omega), if_neg h]
      exact low_same a b k y (Int.tmod x y) hy (Int.tmod_nonneg _ hx)
theorem chLow_l0 (a b : Int) : ∀ (n : Nat) (x y : Int), y.toNat = n → 0 ≤ x → 0 ≤ y → 0 < x ∨ 0 < y → ∃ r, Ans (fun k => spec_chLow.l0 k a b x y) r := by
  intro n
  induction n using Nat.strongRecOn with
  | _ n ih =>
    intro x y hn hx hy h
    by_cases h0 : y = 0
    · refine ⟨_, Ans.step (f := fun k => some (wrap64 (Int.tdiv a x), wrap64 (Int.tdiv b x))) (fun k => ?_) (Ans.now rfl)⟩
      simp only [spec_chLow.l0]
      rw [if_neg (by omega), if_neg (by omega)]
    · have h1 : Int.tmod x y < y := Int.tmod_lt_of_pos _ (by omega)
      have h2 := Int.tmod_nonneg y hx
      obtain ⟨r, hr⟩ := ih (Int.tmod x y).toNat (by omega) y (Int.tmod x y) rfl hy h2 (.inl (by omega))
      refine ⟨r, Ans.step (fun k => ?_) hr⟩
      simp only [spec_chLow.l0]
      rw [if_pos (by omega), if_neg h0]
theorem low_ans {a b : Int} (ha : 0 ≤ a) (hb : 0 < b) : ∃ r : Int × Int, Ans (fun k => spec_chLow.f k a b) r ∧ Ans (fun k => impl_told.f k a b) (r.1, r.2, true) := by
  obtain ⟨r, hr⟩ := chLow_l0 a b _ a b rfl ha (by omega) (.inr hb)
  refine ⟨r, hr, ?_⟩
  unfold impl_told.f
  refine Ans.bind (a := r) ?_ (Ans.now rfl)
  exact Ans.congr (fun k => low_same a b k a b ha (by omega)) hr

def wsumL (L : List Int) (i : Nat) : Int := sumN i fun j => (j : Int) * rd L (j : Int)
theorem wsum_step {L : List Int} (h0 : ∀ j : Nat, j < 17 → 0 ≤ rd L (j : Int)) (h1 : ∀ j : Nat, j < 17 → rd L (j : Int) ≤ 2251799813685248) {i : Nat} (hi : i < 17) : wrap64 (wsumL L i + wrap64 ((i : Int) * rd L (i : Int))) = wsumL L (i + 1) ∧ 0 ≤ wsumL L (i + 1) := by
  have a0 := h0 i hi
  have a1 := h1 i hi
  have p0 : 0 ≤ (i : Int) * rd L (i : Int) := Int.mul_nonneg (by omega) a0
  have p1 : (i : Int) * rd L (i : Int) ≤ 17 * 2251799813685248 := Int.mul_le_mul (by omega) a1 a0 (by omega)
  have s0 : 0 ≤ wsumL L i := sumN_nonneg fun j hj => Int.mul_nonneg (by omega) (h0 j (by omega))
  have s1 : wsumL L i ≤ i * (17 * 2251799813685248) := sumN_bound fun j hj => Int.mul_le_mul (by omega) (h1 j (by omega)) (h0 j (by omega)) (by omega)
  rw [wrap_of (x := (i : Int) * rd L (i : Int)) (by omega) (by omega)]
  refine ⟨?_, sumN_nonneg fun j hj => Int.mul_nonneg (by omega) (h0 j (by omega))⟩
  rw [wrap_of (by omega) (by omega)]
  rfl
theorem AverageJumps_ans (s f o : Int) (l : List J) (n : Int) (hl : l.length ≤ 1048576) :
    ∃ r, Ans (fun k => spec_AverageJumps.f k s f o l n) r ∧ Ans (fun k => impl_AverageJumps.f k s f o l n) r := by
  unfold spec_AverageJumps.f impl_AverageJumps.f
  have hs := gaAsked_ans (s := s) (f := f) (o := o) (l := l) (n := n) (by omega)
  have hi := isGamed_ans (s := s) (f := f) (o := o) (l := l) (n := n) (by omega)
  have js : Ans (fun k => spec_AverageJumps.j0 k n true s f o l) (0, 0, false) := Ans.step (fun k => spec_AverageJumps.j0.eq_2 ..) (Ans.iteP rfl (Ans.now rfl))
  cases ha : askedB s f o l n with
  | false =>
    rw [ha] at hs hi
    exact ⟨(0, 0, false), Ans.bind hs (Ans.iteN (by simp) js), Ans.bind hi (Ans.iteN (by simp) (Ans.now rfl))⟩
  | true =>
    rw [ha] at hs hi
    obtain ⟨B, m, rfl, hm⟩ := asked_of ha
    have h1 := B.s1
    have hlen : 0 < ((cntL s f o l m).length : Int) := by rw [cntL_length]; omega
    have hrd : rd (cntL s f o l m) 0 = cntV s f o l m 0 := cntL_rd ⟨by omega, by omega⟩
    have hL := byL_length s f o l m
    have r0 : ∀ j : Nat, j < 17 → 0 ≤ rd (byL s f o l m) (j : Int) := fun j hj => by rw [byL_rd hj]; exact cbV_nonneg ..
    have r1 : ∀ j : Nat, j < 17 → rd (byL s f o l m) (j : Int) ≤ 2251799813685248 := fun j hj => by rw [byL_rd hj]; exact cbV_small B.f2 (by omega) ..
    have ht := by_total (s := s) (f := f) (o := o) (l := l) hm
    have ht' : sumN 17 (fun j => rd (byL s f o l m) (j : Int)) = cntV s f o l m 0 := by rw [← ht]; exact sumN_congr fun j hj => byL_rd hj
    have hc0 := cntV_nonneg s f o l m 0
    have himpl : ∀ r, (Ans (fun k => if cntV s f o l m 0 = 0 then (some ((0 : Int), (0 : Int), false)) else ((impl_told.f k (wsumL (byL s f o l m) 17) (cntV s f o l m 0)).bind fun bt735 => (some (bt735.1, bt735.2.1, bt735.2.2)))) r) → Ans (fun k => impl_AverageJumps.l0 k 0 0 (byL s f o l m) ((byL s f o l m).length : Int) 0) r := fun r hr => by
      rw [hL]
      refine loop_Ans 17 (fun k i (y : Int × Int) => impl_AverageJumps.l0 k y.1 y.2 (byL s f o l m) ((17 : Nat) : Int) (i : Int)) (fun i y => y.1 = wsumL (byL s f o l m) i ∧ y.2 = sumN i (fun j => rd (byL s f o l m) (j : Int))) (fun _ _ => r) ?_ ?_ 0 (0, 0) (by omega) ⟨rfl, rfl⟩
      · rintro ⟨y, z⟩ ⟨e1, e2⟩
        dsimp only at e1 e2
        subst e1; subst e2
        refine Ans.step (fun k => impl_AverageJumps.l0.eq_2 ..) ?_
        refine Ans.iteN (by omega) ?_
        dsimp only
        rw [ht']
        exact hr
      · rintro i ⟨y, z⟩ hi' ⟨e1, e2⟩ ih
        dsimp only at e1 e2
        subst e1; subst e2
        have b0 := sumN_nonneg (n := i) (g := fun j => rd (byL s f o l m) (j : Int)) fun j hj => r0 j (by omega)
        have b1 := sumN_bound (n := i) (g := fun j => rd (byL s f o l m) (j : Int)) (b := 2251799813685248) fun j hj => r1 j (by omega)
        have b2 := r0 i hi'
        have b3 := r1 i hi'
        refine Ans.step (fun k => impl_AverageJumps.l0.eq_2 ..) ?_
        refine Ans.iteP (by omega) (Ans.iteP (by omega) (Ans.iteP (by rw [hL]; omega) ?_))
        dsimp only
        rw [wrap_succ hi' (by omega), (wsum_step r0 r1 hi').1, wrap_of (x := sumN i (fun j => rd (byL s f o l m) (j : Int)) + rd (byL s f o l m) (i : Int)) (by omega) (by omega)]
        exact ih (wsumL (byL s f o l m) (i + 1), sumN (i + 1) (fun j => rd (byL s f o l m) (j : Int))) ⟨rfl, rfl⟩
    by_cases hc : cntV s f o l m 0 = 0
    · refine ⟨(0, 0, false), Ans.bind hs (Ans.iteP rfl (Ans.bind (gaCounts_ans B hm) (Ans.iteP hlen ?_))), Ans.bind hi (Ans.iteP rfl (Ans.bind (byJumps_ans B hm) (himpl _ (Ans.iteP hc (Ans.now rfl)))))⟩
      rw [hrd, hc]
      exact js
    · have w0 : 0 ≤ wsumL (byL s f o l m) 17 := (wsum_step r0 r1 (i := 16) (by omega)).2
      obtain ⟨x, hx1, hx2⟩ := low_ans (a := wsumL (byL s f o l m) 17) (b := cntV s f o l m 0) w0 (by omega)
      refine ⟨(x.1, x.2, true), Ans.bind hs (Ans.iteP rfl (Ans.bind (gaCounts_ans B hm) (Ans.iteP hlen ?_))), Ans.bind hi (Ans.iteP rfl (Ans.bind (byJumps_ans B hm) (himpl _ (Ans.iteN hc (Ans.bind hx2 (Ans.now rfl))))))⟩
      rw [hrd, show (cntV s f o l m 0 == 0) = false by simpa using hc]
      refine Ans.step (fun k => spec_AverageJumps.j0.eq_2 ..) (Ans.iteN (by simp) (Ans.bind (gaBy_ans B hm) ?_))
      rw [hL]
      refine loop_Ans 17 (fun k i (y : Int) => spec_AverageJumps.l0 k (m : Int) y (byL s f o l m) ((17 : Nat) : Int) (i : Int) s f o l) (fun i y => y = wsumL (byL s f o l m) i) (fun _ _ => (x.1, x.2, true)) ?_ ?_ 0 0 (by omega) rfl
      · rintro y rfl
        refine Ans.step (fun k => spec_AverageJumps.l0.eq_2 ..) ?_
        refine Ans.iteN (by omega) (Ans.bind (gaCounts_ans B hm) (Ans.iteP hlen ?_))
        rw [hrd]
        exact Ans.bind hx1 (Ans.now rfl)
      · rintro i y hi' rfl ih
        refine Ans.step (fun k => spec_AverageJumps.l0.eq_2 ..) ?_
        refine Ans.iteP (by omega) (Ans.iteP (by omega) (Ans.iteP (by rw [hL]; omega) ?_))
        rw [wrap_succ hi' (by omega), (wsum_step r0 r1 hi').1]
        exact ih _ rfl

theorem FnExactAverageJumps (a0_0 : Int) (a0_1 : Int) (a0_2 : Int) (l0_3 : List LJ) (a1 : Int) (h0_3 : l0_3.length ≤ 9223372036854775807) (h1 : (Lit.int .i64 a1).wf = true) :
    ∃ k, laws_FnExactAverageJumps.f k a0_0 a0_1 a0_2 l0_3 a1 = some true := by
  refine Ans.at_ ?_
  unfold laws_FnExactAverageJumps.f
  obtain ⟨t, ht, h⟩ := szBoard_val (s := a0_0) (f := a0_1) (o := a0_2) (a := 1048576) (by omega) (by omega) h0_3
  refine Ans.pbind ht ?_
  rcases h with h | ⟨h, rfl⟩
  · exact Ans.iteP h (Ans.now rfl)
  refine Ans.iteN (by omega) ?_
  have e1 : l0_3.length ≤ 1048576 := by omega
  have e3 : (toJ l0_3).length ≤ 1048576 := by rw [toJ_length]; exact e1
  have hT : Ans (fun k => laws_toBoard.f k a0_0 a0_1 a0_2 l0_3) (a0_0, a0_1, a0_2, toJ l0_3) := toBoard_ans (by omega)
  obtain ⟨r, hs, hi⟩ := AverageJumps_ans a0_0 a0_1 a0_2 (toJ l0_3) a1 e3
  refine Ans.bind hT (Ans.bind hs (Ans.bind hT (Ans.bind hi (Ans.iteP rfl (Ans.iteP rfl ?_)))))
  refine Ans.step (fun k => laws_FnExactAverageJumps.j0.eq_2 ..) ?_
  refine Ans.iteN (by simp) (Ans.bind hT ?_)
  exact Ans.bind (eqBoard_ans (l := toJ l0_3) (by omega)) (Ans.iteP rfl (Ans.now rfl))

end Go.Proofs.Ytphjhfpeomifiaa.Pure
