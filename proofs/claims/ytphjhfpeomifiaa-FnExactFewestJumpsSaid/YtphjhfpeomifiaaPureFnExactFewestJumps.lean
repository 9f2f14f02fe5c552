/- FewestJumps of the program returns what the reference's returns, for all arguments; no condition. -/
import Derived.Test.YtphjhfpeomifiaaQGames
import Derived.Test.YtphjhfpeomifiaaQToInt
import Derived.Test.YtphjhfpeomifiaaQBy
import Derived.Test.YtphjhfpeomifiaaP32
import Derived.Test.YtphjhfpeomifiaaP32
namespace Go.Proofs.Ytphjhfpeomifiaa.Pure
open Go.RowKit Go.Proofs.Ytphjhfpeomifiaa.P Go.Proofs.Ytphjhfpeomifiaa.Q Go.Proofs.YtphjhfpeomifiaaW.PrintWords Go.Proofs.YtphjhfpeomifiaaW.PrintLast
set_option linter.unusedVariables false

/-- The first place from i on, among d places, that holds a number above nought. -/
def firstF (L : List Int) : Nat → Nat → Int × Bool
  | 0, _ => (0, false)
  | d + 1, i => if 0 < rd L (i : Int) then ((i : Int), true) else firstF L d (i + 1)
theorem first_zero {L : List Int} : ∀ d i : Nat, (∀ j : Nat, i ≤ j → j < i + d → rd L (j : Int) = 0) → firstF L d i = (0, false)
  | 0, _, _ => rfl
  | d + 1, i, h => by
    unfold firstF
    rw [if_neg (by rw [h i (by omega) (by omega)]; omega)]
    exact first_zero d (i + 1) fun j h1 h2 => h j (by omega) (by omega)
theorem first_spec {L : List Int} (hL : L.length = 17) : Ans (fun k => spec_FewestJumps.l0 k L (L.length : Int) 0) (firstF L 17 0) := by
  rw [hL]
  refine loop_Ans 17 (fun k i (_ : Unit) => spec_FewestJumps.l0 k L ((17 : Nat) : Int) (i : Int)) (fun _ _ => True) (fun i _ => firstF L (17 - i) i) ?_ ?_ 0 () (by omega) trivial
  · intro _ _
    refine Ans.step (fun k => spec_FewestJumps.l0.eq_2 ..) ?_
    exact Ans.iteN (by omega) (Ans.now rfl)
  · intro i _ hi _ ih
    refine Ans.step (fun k => spec_FewestJumps.l0.eq_2 ..) ?_
    refine Ans.iteP (by omega) (Ans.iteP (by omega) (Ans.iteP (by rw [hL]; omega) ?_))
    rw [wrap_succ hi (by omega), show 17 - i = (17 - (i + 1)) + 1 by omega]
    unfold firstF
    refine Ans.ite (fun h => ?_) (fun h => ?_)
    · rw [if_pos h]; exact Ans.now rfl
    · rw [if_neg h]; exact ih () trivial
theorem first_impl {L : List Int} (hL : L.length = 17) : Ans (fun k => impl_FewestJumps.l0 k L (L.length : Int) 0) (firstF L 17 0) := by
  rw [hL]
  refine loop_Ans 17 (fun k i (_ : Unit) => impl_FewestJumps.l0 k L ((17 : Nat) : Int) (i : Int)) (fun _ _ => True) (fun i _ => firstF L (17 - i) i) ?_ ?_ 0 () (by omega) trivial
  · intro _ _
    refine Ans.step (fun k => impl_FewestJumps.l0.eq_2 ..) ?_
    exact Ans.iteN (by omega) (Ans.now rfl)
  · intro i _ hi _ ih
    refine Ans.step (fun k => impl_FewestJumps.l0.eq_2 ..) ?_
    refine Ans.iteP (by omega) (Ans.iteP (by omega) (Ans.iteP (by rw [hL]; omega) ?_))
    rw [wrap_succ hi (by omega), show 17 - i = (17 - (i + 1)) + 1 by omega]
    unfold firstF
    refine Ans.ite (fun h => ?_) (fun h => ?_)
    · rw [if_pos h]; exact Ans.now rfl
    · rw [if_neg h]; exact ih () trivial
theorem sumN_none {n : Nat} {g : Nat → Int} (h0 : ∀ i, i < n → 0 ≤ g i) (h : sumN n g = 0) : ∀ i, i < n → g i = 0 := by
  induction n with
  | zero => intro i hi; omega
  | succ n ih =>
    have h1 : sumN n g + g n = 0 := h
    have h2 := sumN_nonneg (n := n) (g := g) fun i hi => h0 i (by omega)
    have h3 := h0 n (by omega)
    intro i hi
    by_cases e : i = n
    · rw [e]; omega
    · exact ih (fun i hi => h0 i (by omega)) (by omega) i (by omega)
theorem by_none {s f o : Int} {l : List J} {n : Nat} (hn : n ≤ 16) (h : cntV s f o l n 0 = 0) : ∀ j : Nat, j < 17 → rd (byL s f o l n) (j : Int) = 0 := fun j hj => by
  rw [byL_rd hj]
  have h1 := by_total (s := s) (f := f) (o := o) (l := l) hn
  rw [h] at h1
  exact sumN_none (fun i _ => cbV_nonneg ..) h1 j hj
theorem FewestJumps_ans (s f o : Int) (l : List J) (n : Int) (hl : l.length ≤ 1048576) :
    ∃ r, Ans (fun k => spec_FewestJumps.f k s f o l n) r ∧ Ans (fun k => impl_FewestJumps.f k s f o l n) r := by
  unfold spec_FewestJumps.f impl_FewestJumps.f
  have hs := gaAsked_ans (s := s) (f := f) (o := o) (l := l) (n := n) (by omega)
  have hi := isGamed_ans (s := s) (f := f) (o := o) (l := l) (n := n) (by omega)
  have js : Ans (fun k => spec_FewestJumps.j0 k n true s f o l) (0, false) := Ans.step (fun k => spec_FewestJumps.j0.eq_2 ..) (Ans.iteP rfl (Ans.now rfl))
  cases ha : askedB s f o l n with
  | false =>
    rw [ha] at hs hi
    exact ⟨(0, false), Ans.bind hs (Ans.iteN (by simp) js), Ans.bind hi (Ans.iteN (by simp) (Ans.now rfl))⟩
  | true =>
    rw [ha] at hs hi
    obtain ⟨B, m, rfl, hm⟩ := asked_of ha
    have h1 := B.s1
    have hlen : 0 < ((cntL s f o l m).length : Int) := by rw [cntL_length]; omega
    have hrd : rd (cntL s f o l m) 0 = cntV s f o l m 0 := cntL_rd ⟨by omega, by omega⟩
    refine ⟨firstF (byL s f o l m) 17 0, Ans.bind hs (Ans.iteP rfl (Ans.bind (gaCounts_ans B hm) (Ans.iteP hlen ?_))), Ans.bind hi (Ans.iteP rfl (Ans.bind (byJumps_ans B hm) (first_impl (byL_length ..))))⟩
    rw [hrd]
    by_cases hc : cntV s f o l m 0 = 0
    · rw [hc, first_zero 17 0 (fun j _ h2 => by_none hm hc j (by omega))]
      exact js
    · rw [show (cntV s f o l m 0 == 0) = false by simpa using hc]
      exact Ans.step (fun k => spec_FewestJumps.j0.eq_2 ..) (Ans.iteN (by simp) (Ans.bind (gaBy_ans B hm) (first_spec (byL_length ..))))

theorem FnExactFewestJumps (a0_0 : Int) (a0_1 : Int) (a0_2 : Int) (l0_3 : List LJ) (a1 : Int) (h0_3 : l0_3.length ≤ 9223372036854775807) (h1 : (Lit.int .i64 a1).wf = true) :
    ∃ k, laws_FnExactFewestJumps.f k a0_0 a0_1 a0_2 l0_3 a1 = some true := by
  refine Ans.at_ ?_
  unfold laws_FnExactFewestJumps.f
  obtain ⟨t, ht, h⟩ := szBoard_val (s := a0_0) (f := a0_1) (o := a0_2) (a := 1048576) (by omega) (by omega) h0_3
  refine Ans.pbind ht ?_
  rcases h with h | ⟨h, rfl⟩
  · exact Ans.iteP h (Ans.now rfl)
  refine Ans.iteN (by omega) ?_
  have e1 : l0_3.length ≤ 1048576 := by omega
  have e3 : (toJ l0_3).length ≤ 1048576 := by rw [toJ_length]; exact e1
  have hT : Ans (fun k => laws_toBoard.f k a0_0 a0_1 a0_2 l0_3) (a0_0, a0_1, a0_2, toJ l0_3) := toBoard_ans (by omega)
  obtain ⟨r, hs, hi⟩ := FewestJumps_ans a0_0 a0_1 a0_2 (toJ l0_3) a1 e3
  refine Ans.bind hT (Ans.bind hs (Ans.bind hT (Ans.bind hi (Ans.iteP rfl ?_))))
  refine Ans.step (fun k => laws_FnExactFewestJumps.j0.eq_2 ..) ?_
  refine Ans.iteN (by simp) (Ans.bind hT ?_)
  exact Ans.bind (eqBoard_ans (l := toJ l0_3) (by omega)) (Ans.iteP rfl (Ans.now rfl))

end Go.Proofs.Ytphjhfpeomifiaa.Pure
