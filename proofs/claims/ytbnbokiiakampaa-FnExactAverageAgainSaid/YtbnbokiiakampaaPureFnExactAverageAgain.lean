/- AverageAgain of the program returns what the reference's returns, for all arguments; no condition. -/
import Derived.Test.YtbnbokiiakampaaP24
namespace Go.Proofs.Ytbnbokiiakampaa.Pure
open Go.RowKit Go.Proofs.Ytbnbokiiakampaa.P Go.Proofs.YtbnbokiiakampaaW.PrintWords Go.Proofs.YtbnbokiiakampaaW.PrintLast

set_option linter.unusedVariables false
set_option maxRecDepth 100000 in
theorem again_all : ∀ x ∈ List.range 12, ∀ y ∈ List.range 7, laws_FnExactAverageAgain.f 400 ((x : Int) + 1) (y : Int) = some true := by
  decide +kernel

theorem again_out (a0 a1 : Int) (h : ¬ (1 ≤ a0 ∧ a0 ≤ 12 ∧ 0 ≤ a1 ∧ a1 ≤ 6)) : laws_FnExactAverageAgain.f 1 a0 a1 = some true := by
  have hs : spec_diMore.f a0 a1 = some false := by
    unfold spec_diMore.f spec_diAsked.f spec_l1In.f
    by_cases h1 : a0 ≥ 1 <;> by_cases h2 : a0 ≤ 12 <;> by_cases h3 : a1 ≥ 0 <;> by_cases h4 : a1 ≤ 6 <;> simp [h1, h2, h3, h4] <;> omega
  have hi : impl_isAgain.f a0 a1 = some false := by
    unfold impl_isAgain.f impl_areDice.f impl_within.f
    by_cases h1 : a0 ≥ 1 <;> by_cases h2 : a0 ≤ 12 <;> by_cases h3 : a1 ≥ 0 <;> by_cases h4 : a1 ≤ 6 <;> simp [h1, h2, h3, h4] <;> omega
  unfold laws_FnExactAverageAgain.f spec_AverageAgain.f impl_AverageAgain.f
  simp [hs, hi]

theorem FnExactAverageAgain (a0 : Int) (a1 : Int) (h0 : (Lit.int .i64 a0).wf = true) (h1 : (Lit.int .i64 a1).wf = true) :
    ∃ k, laws_FnExactAverageAgain.f k a0 a1 = some true := by
  by_cases h : 1 ≤ a0 ∧ a0 ≤ 12 ∧ 0 ≤ a1 ∧ a1 ≤ 6
  · refine ⟨400, ?_⟩
    have := again_all (a0 - 1).toNat (by simp; omega) a1.toNat (by simp; omega)
    rwa [show (((a0 - 1).toNat : Nat) : Int) + 1 = a0 by omega, show ((a1.toNat : Nat) : Int) = a1 by omega] at this
  · exact ⟨1, again_out a0 a1 h⟩

end Go.Proofs.Ytbnbokiiakampaa.Pure
