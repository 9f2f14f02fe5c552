/- Equality up to multiples of 2^64, and sums over 0..n-1. Plain Lean; no Go in it. -/
import Derived.Test.YtphjhfpeomifiaaWWords
namespace Go.Proofs.Ytphjhfpeomifiaa.Q
open Go.RowKit Go.Proofs.YtphjhfpeomifiaaW.PrintWords
set_option linter.unusedVariables false
set_option linter.unusedSimpArgs false

/-- Equal but for multiples of 2^64. -/
def Cg (a b : Int) : Prop := ∃ q : Int, a = b + q * 18446744073709551616
theorem Cg.refl (a : Int) : Cg a a := ⟨0, by omega⟩
theorem Cg.of {a b : Int} (h : a = b) : Cg a b := h ▸ Cg.refl a
theorem Cg.symm {a b : Int} (h : Cg a b) : Cg b a := by obtain ⟨q, h⟩ := h; exact ⟨-q, by omega⟩
theorem Cg.trans {a b c : Int} (h : Cg a b) (k : Cg b c) : Cg a c := by obtain ⟨q, h⟩ := h; obtain ⟨p, k⟩ := k; exact ⟨q + p, by omega⟩
theorem Cg.add {a b c d : Int} (h : Cg a b) (k : Cg c d) : Cg (a + c) (b + d) := by obtain ⟨q, h⟩ := h; obtain ⟨p, k⟩ := k; exact ⟨q + p, by omega⟩
theorem Cg.mul_left (x : Int) {a b : Int} (h : Cg a b) : Cg (x * a) (x * b) := by obtain ⟨q, h⟩ := h; exact ⟨x * q, by rw [h, Int.mul_add, Int.mul_assoc]⟩
theorem Cg.mul_right (x : Int) {a b : Int} (h : Cg a b) : Cg (a * x) (b * x) := by rw [Int.mul_comm a, Int.mul_comm b]; exact h.mul_left x
theorem Cg.wrap (a : Int) : Cg (wrap64 a) a := ⟨-((a + 9223372036854775808) / 18446744073709551616), by unfold wrap64; omega⟩
def InI (x : Int) : Prop := -9223372036854775808 ≤ x ∧ x ≤ 9223372036854775807
theorem InI.wrap (a : Int) : InI (wrap64 a) := by unfold InI wrap64; omega
theorem Cg.eq {a b : Int} (h : Cg a b) (ha : InI a) (hb : InI b) : a = b := by obtain ⟨q, h⟩ := h; unfold InI at ha hb; omega

def sumN : Nat → (Nat → Int) → Int
  | 0, _ => 0
  | n + 1, g => sumN n g + g n
theorem sumN_congr {n : Nat} {g h : Nat → Int} (e : ∀ i, i < n → g i = h i) : sumN n g = sumN n h := by
  induction n with
  | zero => rfl
  | succ n ih => show sumN n g + g n = sumN n h + h n; rw [ih fun i hi => e i (by omega), e n (by omega)]
theorem sumN_zero {n : Nat} {g : Nat → Int} (e : ∀ i, i < n → g i = 0) : sumN n g = 0 := by
  induction n with
  | zero => rfl
  | succ n ih => show sumN n g + g n = 0; rw [ih fun i hi => e i (by omega), e n (by omega)]; rfl
theorem sumN_add (n : Nat) (g h : Nat → Int) : sumN n (fun i => g i + h i) = sumN n g + sumN n h := by
  induction n with
  | zero => rfl
  | succ n ih => show sumN n (fun i => g i + h i) + (g n + h n) = (sumN n g + g n) + (sumN n h + h n); rw [ih]; omega
theorem sumN_mul (n : Nat) (x : Int) (g : Nat → Int) : sumN n (fun i => x * g i) = x * sumN n g := by
  induction n with
  | zero => simp [sumN]
  | succ n ih => show sumN n (fun i => x * g i) + x * g n = x * (sumN n g + g n); rw [ih, Int.mul_add]
theorem sumN_first (n : Nat) (g : Nat → Int) : sumN (n + 1) g = g 0 + sumN n (fun i => g (i + 1)) := by
  induction n with
  | zero => simp [sumN]
  | succ n ih => show sumN (n + 1) g + g (n + 1) = g 0 + (sumN n (fun i => g (i + 1)) + g (n + 1)); rw [ih]; omega
theorem sumN_swap (n m : Nat) (g : Nat → Nat → Int) : sumN n (fun i => sumN m (fun j => g i j)) = sumN m (fun j => sumN n (fun i => g i j)) := by
  induction n with
  | zero => exact (sumN_zero fun _ _ => rfl).symm
  | succ n ih => show sumN n (fun i => sumN m (fun j => g i j)) + sumN m (g n) = sumN m (fun j => sumN n (fun i => g i j) + g n j); rw [ih, sumN_add]
theorem sumN_le {n : Nat} {g h : Nat → Int} (e : ∀ i, i < n → g i ≤ h i) : sumN n g ≤ sumN n h := by
  induction n with
  | zero => exact Int.le_refl _
  | succ n ih => show sumN n g + g n ≤ sumN n h + h n; have := ih fun i hi => e i (by omega); have := e n (by omega); omega
theorem sumN_nonneg {n : Nat} {g : Nat → Int} (e : ∀ i, i < n → 0 ≤ g i) : 0 ≤ sumN n g := by
  induction n with
  | zero => exact Int.le_refl _
  | succ n ih => show 0 ≤ sumN n g + g n; have := ih fun i hi => e i (by omega); have := e n (by omega); omega
theorem sumN_more {n m : Nat} {g : Nat → Int} (hnm : n ≤ m) (e : ∀ i, n ≤ i → g i = 0) : sumN m g = sumN n g := by
  obtain ⟨d, rfl⟩ : ∃ d, m = n + d := ⟨m - n, by omega⟩
  clear hnm
  induction d with
  | zero => rfl
  | succ d ih => show sumN (n + d) g + g (n + d) = _; rw [ih, e (n + d) (by omega), Int.add_zero]

end Go.Proofs.Ytphjhfpeomifiaa.Q
