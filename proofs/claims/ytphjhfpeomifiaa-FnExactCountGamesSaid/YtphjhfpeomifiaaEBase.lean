/- A number between two others, as a truth value. No Go in it. -/
import Derived.Test.YtphjhfpeomifiaaWWords
namespace Go.Proofs.Ytphjhfpeomifiaa.Q
/-- Does x lie between two numbers. -/
def inR (x lo hi : Int) : Bool := decide (lo ≤ x) && decide (x ≤ hi)
theorem inR_iff {x lo hi : Int} : inR x lo hi = true ↔ lo ≤ x ∧ x ≤ hi := by simp [inR]
theorem inR_eq (x lo hi : Int) : (if x ≥ lo then some (decide (x ≤ hi)) else some false) = some (inR x lo hi) := by
  unfold inR
  by_cases h : x ≥ lo
  · rw [if_pos h]; simp [show lo ≤ x from h]
  · rw [if_neg h]; simp [show ¬ lo ≤ x from h]
end Go.Proofs.Ytphjhfpeomifiaa.Q
