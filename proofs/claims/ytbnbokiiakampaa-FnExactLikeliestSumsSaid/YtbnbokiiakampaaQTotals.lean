/- The loops that sum over a list of numbers of throws, in the program and in the reference. Plain Lean; no Go in it. -/
import Derived.Test.YtbnbokiiakampaaQSums
import Derived.Test.YtbnbokiiakampaaP22
import Derived.Test.YtbnbokiiakampaaP23
import Derived.Test.YtbnbokiiakampaaP18
import Derived.Test.YtbnbokiiakampaaP19
namespace Go.Proofs.Ytbnbokiiakampaa.Q
open Go.RowKit Go.Proofs.Ytbnbokiiakampaa.P Go.Proofs.YtbnbokiiakampaaW.PrintWords
set_option linter.unusedVariables false
set_option linter.unusedSimpArgs false

/-- A list that holds the numbers c: small ones. -/
def Holds (L : List Int) (c : Nat → Int) : Prop := L.length ≤ 200 ∧ (∀ t : Nat, rd L (t : Int) = c t) ∧ ∀ t, 0 ≤ c t ∧ c t ≤ 815730721
theorem Holds.out {L : List Int} {c : Nat → Int} (h : Holds L c) {t : Nat} (ht : L.length ≤ t) : c t = 0 := by rw [← h.2.1 t, rd_out ht]
theorem sumN_bound {n : Nat} {g : Nat → Int} {B : Int} (hB : 0 ≤ B) (h : ∀ i, i < n → 0 ≤ g i ∧ g i ≤ B) : 0 ≤ sumN n g ∧ sumN n g ≤ (n : Int) * B := by
  induction n with
  | zero => simp [sumN]
  | succ n ih =>
    show 0 ≤ sumN n g + g n ∧ sumN n g + g n ≤ _
    have h1 := ih fun i hi => h i (by omega)
    have h2 := h n (by omega)
    rw [show ((n + 1 : Nat) : Int) * B = (n : Int) * B + B by rw [Int.natCast_add, Int.add_mul]; simp]
    omega

/-- The sum of products of the numbers with their places. -/
def tot (c : Nat → Int) (n : Nat) : Int := sumN n fun i => (i : Int) * c i
theorem tot_bound {L : List Int} {c : Nat → Int} (h : Holds L c) {n : Nat} (hn : n ≤ 200) : 0 ≤ tot c n ∧ tot c n ≤ 32629228840000 := by
  have h1 := sumN_bound (n := n) (g := fun i => (i : Int) * c i) (B := 163146144200) (by omega) (fun i hi => by
    have hc := h.2.2 i
    refine ⟨Int.mul_nonneg (by omega) hc.1, Int.le_trans (Int.mul_le_mul_of_nonneg_left hc.2 (by omega)) (by omega)⟩)
  unfold tot
  omega
theorem part_bound {L : List Int} {c : Nat → Int} (h : Holds L c) (s : Int) {n : Nat} (hn : n ≤ 200) : 0 ≤ sumN n (fun i => if (i : Int) ≥ s then c i else 0) ∧ sumN n (fun i => if (i : Int) ≥ s then c i else 0) ≤ 163146144200 := by
  have h1 := sumN_bound (n := n) (g := fun i => if (i : Int) ≥ s then c i else 0) (B := 815730721) (by omega) (fun i hi => by
    have hc := h.2.2 i
    skip
    split <;> omega)
  omega
theorem avg_step {c : Nat → Int} {i : Nat} {L : List Int} (h : Holds L c) (hi : i < L.length) : wrap64 (tot c i + wrap64 ((i : Int) * rd L (i : Int))) = tot c (i + 1) := by
  rw [h.2.1]
  have h1 := tot_bound h (n := i) (by have := h.1; omega)
  have h2 := tot_bound h (n := i + 1) (by have := h.1; omega)
  have e : tot c (i + 1) = tot c i + (i : Int) * c i := rfl
  have hc := h.2.2 i
  have h3 : 0 ≤ (i : Int) * c i := Int.mul_nonneg (by omega) hc.1
  rw [e] at h2 ⊢
  generalize (i : Int) * c i = m at h2 h3 ⊢
  rw [wrap_of (x := m) (by omega) (by omega), wrap_of (by omega) (by omega)]
theorem part_step {c : Nat → Int} {i : Nat} {s : Int} {L : List Int} (h : Holds L c) (hi : i < L.length) (hs : (i : Int) ≥ s) : wrap64 (sumN i (fun i => if (i : Int) ≥ s then c i else 0) + rd L (i : Int)) = sumN (i + 1) (fun i => if (i : Int) ≥ s then c i else 0) := by
  rw [h.2.1]
  have h2 := part_bound h s (n := i + 1) (by have := h.1; omega)
  have e : sumN (i + 1) (fun i => if (i : Int) ≥ s then c i else 0) = sumN i (fun i => if (i : Int) ≥ s then c i else 0) + c i := by show _ + (if (i : Int) ≥ s then c i else 0) = _; rw [if_pos hs]
  rw [e] at h2 ⊢
  exact wrap_of (by omega) (by omega)

theorem sAvg_l0 {d F : Nat} {L : List Int} {c : Nat → Int} (hd : d ≤ 8) (hF : F ≤ 12) (h : Holds L c) {r : Int × Int} (hr : Ans (fun k => spec_chLow.f k (tot c L.length) ((F : Int) ^ d)) r) :
    Ans (fun k => spec_AverageKept.l0 k (d : Int) (F : Int) 0 L (L.length : Int) 0) (r.1, r.2, true) := by
  refine loop_Ans L.length (fun k i (_ : Unit) => spec_AverageKept.l0 k (d : Int) (F : Int) (tot c i) L (L.length : Int) (i : Int)) (fun _ _ => True) (fun _ _ => (r.1, r.2, true)) ?_ ?_ 0 () (by omega) trivial
  · rintro s _
    refine Ans.step (f := fun k => (spec_diPower.f k (F : Int) (d : Int)).bind fun t308 => (spec_chLow.f k (tot c L.length) t308).bind fun bt309 => some (bt309.1, bt309.2, true)) (fun k => ?_) (Ans.bind (diPower_ans hF hd) (Ans.bind hr (Ans.now rfl)))
    simp only [spec_AverageKept.l0]
    rw [if_neg (by omega)]
  · rintro i s hi _ ih
    refine Ans.step (fun k => ?_) (ih () trivial)
    simp only [spec_AverageKept.l0]
    rw [if_pos (by omega), if_pos (by omega), if_pos (by omega), avg_step h hi, wrap_succ hi (by have := h.1; omega)]
theorem iAvg_l0 {d F : Nat} {L : List Int} {c : Nat → Int} (hd : d ≤ 8) (hF : F ≤ 12) (h : Holds L c) {r : Int × Int} (hr : Ans (fun k => impl_told.f k (tot c L.length) ((F : Int) ^ d)) (r.1, r.2, true)) :
    Ans (fun k => impl_AverageKept.l0 k (d : Int) (F : Int) 0 L (L.length : Int) 0) (r.1, r.2, true) := by
  refine loop_Ans L.length (fun k i (_ : Unit) => impl_AverageKept.l0 k (d : Int) (F : Int) (tot c i) L (L.length : Int) (i : Int)) (fun _ _ => True) (fun _ _ => (r.1, r.2, true)) ?_ ?_ 0 () (by omega) trivial
  · rintro s _
    refine Ans.step (f := fun k => (impl_power.f k (F : Int) (d : Int)).bind fun t317 => (impl_told.f k (tot c L.length) t317).bind fun bt318 => some (bt318.1, bt318.2.1, bt318.2.2)) (fun k => ?_) (Ans.bind (power_ans hF hd) (Ans.bind hr (Ans.now rfl)))
    simp only [impl_AverageKept.l0]
    rw [if_neg (by omega)]
  · rintro i s hi _ ih
    refine Ans.step (fun k => ?_) (ih () trivial)
    simp only [impl_AverageKept.l0]
    rw [if_pos (by omega), if_pos (by omega), if_pos (by omega), avg_step h hi, wrap_succ hi (by have := h.1; omega)]
theorem sPart_l0 {d F : Nat} (s : Int) {L : List Int} {c : Nat → Int} (hd : d ≤ 8) (hF : F ≤ 12) (h : Holds L c) {r : Int × Int} (hr : Ans (fun k => spec_chLow.f k (sumN L.length fun i => if (i : Int) ≥ s then c i else 0) ((F : Int) ^ d)) r) :
    Ans (fun k => spec_PartAtLeast.l0 k (d : Int) (F : Int) s 0 L (L.length : Int) 0) (r.1, r.2, true) := by
  refine loop_Ans L.length (fun k i (_ : Unit) => spec_PartAtLeast.l0 k (d : Int) (F : Int) s (sumN i fun i => if (i : Int) ≥ s then c i else 0) L (L.length : Int) (i : Int)) (fun _ _ => True) (fun _ _ => (r.1, r.2, true)) ?_ ?_ 0 () (by omega) trivial
  · rintro _ _
    refine Ans.step (f := fun k => (spec_diPower.f k (F : Int) (d : Int)).bind fun t308 => (spec_chLow.f k (sumN L.length fun i => if (i : Int) ≥ s then c i else 0) t308).bind fun bt309 => some (bt309.1, bt309.2, true)) (fun k => ?_) (Ans.bind (diPower_ans hF hd) (Ans.bind hr (Ans.now rfl)))
    simp only [spec_PartAtLeast.l0]
    rw [if_neg (by omega)]
  · rintro i _ hi _ ih
    refine Ans.step (fun k => ?_) (ih () trivial)
    simp only [spec_PartAtLeast.l0]
    rw [if_pos (by omega), if_pos (by omega), if_pos (by omega), wrap_succ hi (by have := h.1; omega)]
    by_cases e : (i : Int) ≥ s
    · rw [if_pos e, part_step h hi e]
    · rw [if_neg e]
      congr 1
      show _ = sumN i _ + (if (i : Int) ≥ s then c i else 0)
      rw [if_neg e, Int.add_zero]
theorem iPart_l0 {d F : Nat} (s : Int) {L : List Int} {c : Nat → Int} (hd : d ≤ 8) (hF : F ≤ 12) (h : Holds L c) {r : Int × Int} (hr : Ans (fun k => impl_told.f k (sumN L.length fun i => if (i : Int) ≥ s then c i else 0) ((F : Int) ^ d)) (r.1, r.2, true)) :
    Ans (fun k => impl_PartAtLeast.l0 k (d : Int) (F : Int) s 0 L (L.length : Int) 0) (r.1, r.2, true) := by
  refine loop_Ans L.length (fun k i (_ : Unit) => impl_PartAtLeast.l0 k (d : Int) (F : Int) s (sumN i fun i => if (i : Int) ≥ s then c i else 0) L (L.length : Int) (i : Int)) (fun _ _ => True) (fun _ _ => (r.1, r.2, true)) ?_ ?_ 0 () (by omega) trivial
  · rintro _ _
    refine Ans.step (f := fun k => (impl_power.f k (F : Int) (d : Int)).bind fun t317 => (impl_told.f k (sumN L.length fun i => if (i : Int) ≥ s then c i else 0) t317).bind fun bt318 => some (bt318.1, bt318.2.1, bt318.2.2)) (fun k => ?_) (Ans.bind (power_ans hF hd) (Ans.bind hr (Ans.now rfl)))
    simp only [impl_PartAtLeast.l0]
    rw [if_neg (by omega)]
  · rintro i _ hi _ ih
    refine Ans.step (fun k => ?_) (ih () trivial)
    simp only [impl_PartAtLeast.l0]
    rw [if_pos (by omega), if_pos (by omega), if_pos (by omega), wrap_succ hi (by have := h.1; omega)]
    by_cases e : (i : Int) ≥ s
    · rw [if_pos e, part_step h hi e]
    · rw [if_neg e]
      congr 1
      show _ = sumN i _ + (if (i : Int) ≥ s then c i else 0)
      rw [if_neg e, Int.add_zero]
theorem tot_same {L L' : List Int} {c : Nat → Int} (h : Holds L c) (h' : Holds L' c) : tot c L.length = tot c L'.length := by
  have z : ∀ i, L.length ≤ i → (i : Int) * c i = 0 := fun i hi => by rw [h.out hi, Int.mul_zero]
  have z' : ∀ i, L'.length ≤ i → (i : Int) * c i = 0 := fun i hi => by rw [h'.out hi, Int.mul_zero]
  unfold tot
  rw [← sumN_more (m := max L.length L'.length) (by omega) z, ← sumN_more (m := max L.length L'.length) (by omega) z']
theorem ways_holds {d F K : Nat} (hd : d ≤ 8) (hF : F ≤ 12) (hK : K ≤ d) : Holds (waysL d F K) (fun t => kap F d K (t : Int)) := by
  have hb : d * F ≤ 8 * 12 := Nat.mul_le_mul hd hF
  exact ⟨by rw [waysL_length d F K hd]; omega, fun t => waysL_rd t hd hF hK, fun t => ⟨kap_nonneg _ _ _ _, kap_InI hF hd⟩⟩
theorem pow_pos {F d : Nat} (hF : 1 ≤ F) : (0 : Int) < (F : Int) ^ d := Int.pow_pos (by omega)
end Go.Proofs.Ytbnbokiiakampaa.Q
