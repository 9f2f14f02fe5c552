/- LikeliestSums of the program returns what the reference's returns, for all arguments; no condition. -/
import Derived.Test.YtbnbokiiakampaaQTotals
import Derived.Test.YtbnbokiiakampaaP21
namespace Go.Proofs.Ytbnbokiiakampaa.Pure
open Go.RowKit Go.Proofs.Ytbnbokiiakampaa.P Go.Proofs.Ytbnbokiiakampaa.Q Go.Proofs.YtbnbokiiakampaaW.PrintWords Go.Proofs.YtbnbokiiakampaaW.PrintLast
set_option linter.unusedVariables false
set_option linter.unusedSimpArgs false

theorem dsum_nonneg (d F : Nat) (t : Int) : 0 ≤ dsum d F t := by rw [← kap_all F t (Nat.le_refl d)]; exact kap_nonneg _ _ _ _
theorem dsum_ones (d F : Nat) (hF : 1 ≤ F) : 0 < dsum d F (d : Int) := by
  induction d with
  | zero => simp [dsum]
  | succ d ih =>
    obtain ⟨E, rfl⟩ : ∃ E, F = E + 1 := ⟨F - 1, by omega⟩
    show 0 < sumN (E + 1) fun j => dsum d (E + 1) (((d + 1 : Nat) : Int) - ((j + 1 : Nat) : Int))
    rw [sumN_first, show ((d + 1 : Nat) : Int) - ((0 + 1 : Nat) : Int) = (d : Int) by omega]
    have := sumN_nonneg (n := E) (g := fun i => dsum d (E + 1) (((d + 1 : Nat) : Int) - ((i + 1 + 1 : Nat) : Int))) (fun i _ => dsum_nonneg _ _ _)
    omega

/-- The places, below n, of a number in a list. -/
def places (W : List Int) (M : Int) (n : Nat) : List Int := ((List.range n).filter fun j : Nat => decide (rd W (j : Int) = M ∧ 0 < M)).map fun j : Nat => (j : Int)
theorem places_length (W : List Int) (M : Int) (n : Nat) : (places W M n).length ≤ n := by
  unfold places
  rw [List.length_map]
  exact Nat.le_trans (List.length_filter_le _ _) (by simp)
theorem places_hit {W : List Int} {M : Int} {n : Nat} (h : rd W (n : Int) = M) (h0 : 0 < M) : places W M (n + 1) = places W M n ++ [(n : Int)] := by
  unfold places
  rw [List.range_succ, List.filter_append, List.map_append]
  simp [h, h0]
theorem places_miss {W : List Int} {M : Int} {n : Nat} (h : ¬ (rd W (n : Int) = M ∧ 0 < M)) : places W M (n + 1) = places W M n := by
  unfold places
  rw [List.range_succ, List.filter_append, List.map_append]
  simp [h]
theorem places_none {W : List Int} {M : Int} {n : Nat} (h : ∀ j : Nat, j < n → rd W (j : Int) ≠ M) : places W M n = [] := by
  unfold places
  rw [List.map_eq_nil_iff, List.filter_eq_nil_iff]
  intro j hj
  simp at hj
  simp [h j hj]

theorem max_ans {W : List Int} (h0 : 0 < W.length) (hl : W.length ≤ 1000) : ∃ M, Ans (fun k => slices_Max_int_int.f k W) M ∧ (∀ j : Nat, j < W.length → rd W (j : Int) ≤ M) ∧ ∃ j : Nat, j < W.length ∧ rd W (j : Int) = M := by
  have step : ∀ (n i : Nat) (m : Int), i + n = W.length → (∀ j : Nat, j < i → rd W (j : Int) ≤ m) → (∃ j : Nat, j < W.length ∧ rd W (j : Int) = m) → ∃ M, Ans (fun k => slices_Max_int_int.l0 k W m (i : Int)) M ∧ (∀ j : Nat, j < W.length → rd W (j : Int) ≤ M) ∧ ∃ j : Nat, j < W.length ∧ rd W (j : Int) = M := by
    intro n
    induction n with
    | zero =>
      intro i m hi h1 h2
      refine ⟨m, Ans.step (f := fun k => some m) (fun k => ?_) (Ans.now rfl), fun j hj => h1 j (by omega), h2⟩
      simp only [slices_Max_int_int.l0]
      rw [if_neg (by omega)]
    | succ n ih =>
      intro i m hi h1 h2
      have hmx : mx m (rd W (i : Int)) = m ∧ rd W (i : Int) ≤ m ∨ mx m (rd W (i : Int)) = rd W (i : Int) ∧ m ≤ rd W (i : Int) := by unfold mx; omega
      obtain ⟨M, k1, k2, k3⟩ := ih (i + 1) (mx m (rd W (i : Int))) (by omega) (fun j hj => by
        by_cases e : j = i
        · subst e; omega
        · have := h1 j (by omega); omega) (by
        rcases hmx with ⟨e, _⟩ | ⟨e, _⟩
        · rw [e]; exact h2
        · rw [e]; exact ⟨i, by omega, rfl⟩)
      refine ⟨M, Ans.step (fun k => ?_) k1, k2, k3⟩
      simp only [slices_Max_int_int.l0]
      rw [if_pos (by omega), if_pos (by omega), wrap_succ (i := i) (n := W.length) (by omega) (by omega)]
  obtain ⟨M, k1, k2, k3⟩ := step (W.length - 1) 1 (rd W ((0 : Nat) : Int)) (by omega) (fun j hj => by rw [show j = 0 by omega]; exact Int.le_refl _) ⟨0, h0, rfl⟩
  refine ⟨M, ?_, k2, k3⟩
  unfold slices_Max_int_int.f
  refine Ans.iteN (by omega) (Ans.iteP (by omega) ?_)
  exact k1

theorem implLikely {W : List Int} {M : Int} (hM : 0 < M) (hl : W.length ≤ 1000) : Ans (fun k => impl_LikeliestSums.l0 k [] M W (W.length : Int) 0) (places W M W.length, true) := by
  refine loop_Ans W.length (fun k i (s : List Int) => impl_LikeliestSums.l0 k s M W (W.length : Int) (i : Int)) (fun i s => s = places W M i) (fun _ _ => (places W M W.length, true)) ?_ ?_ 0 [] (by omega) (by simp [places])
  · rintro s rfl
    refine Ans.step (f := fun k => some (places W M W.length, true)) (fun k => ?_) (Ans.now rfl)
    simp only [impl_LikeliestSums.l0]
    rw [if_neg (by omega)]
  · rintro i s hi rfl ih
    have hp := places_length W M i
    by_cases e : rd W (i : Int) = M
    · refine Ans.step (fun k => ?_) (ih _ (places_hit e hM).symm)
      simp only [impl_LikeliestSums.l0]
      rw [if_pos (by omega), if_pos (by omega), if_pos (by omega), if_pos e, if_pos (by omega), wrap_succ hi (by omega)]
    · refine Ans.step (fun k => ?_) (ih _ (places_miss (by omega)).symm)
      simp only [impl_LikeliestSums.l0]
      rw [if_pos (by omega), if_pos (by omega), if_pos (by omega), if_neg e, wrap_succ hi (by omega)]
theorem specLikely {W : List Int} {M : Int} (hM : 0 < M) (hl : W.length ≤ 1000) (h1 : ∀ j : Nat, j < W.length → rd W (j : Int) ≤ M) (h2 : ∃ j : Nat, j < W.length ∧ rd W (j : Int) = M) : Ans (fun k => spec_LikeliestSums.l0 k 0 [] W (W.length : Int) 0) (places W M W.length, true) := by
  refine loop_Ans W.length (fun k i (s : Int × List Int) => spec_LikeliestSums.l0 k s.1 s.2 W (W.length : Int) (i : Int)) (fun i s => s.2 = places W s.1 i ∧ 0 ≤ s.1 ∧ (∀ j : Nat, j < i → rd W (j : Int) ≤ s.1) ∧ (s.1 = 0 ∨ ∃ j : Nat, j < W.length ∧ rd W (j : Int) = s.1)) (fun _ _ => (places W M W.length, true)) ?_ ?_ 0 (0, []) (by omega) ⟨by simp [places], Int.le_refl _, fun j hj => absurd hj (Nat.not_lt_zero _), .inl rfl⟩
  · rintro ⟨m, s⟩ ⟨a1, a2, a3, a4⟩
    dsimp only at a1 a2 a3 a4 ⊢
    subst a1
    have e : m = M := by
      obtain ⟨j, j1, j2⟩ := h2
      have b1 := a3 j j1
      rcases a4 with h | ⟨i, i1, i2⟩
      · omega
      · have := h1 i i1; omega
    subst e
    refine Ans.step (f := fun k => some (places W m W.length, true)) (fun k => ?_) (Ans.now rfl)
    simp only [spec_LikeliestSums.l0]
    rw [if_neg (by omega)]
  · rintro i ⟨m, s⟩ hi ⟨a1, a2, a3, a4⟩ ih
    dsimp only at a1 a2 a3 a4 ⊢
    subst a1
    have hp := places_length W m i
    by_cases c1 : rd W (i : Int) > m
    · refine Ans.step (fun k => ?_) (ih (rd W (i : Int), [(i : Int)]) ⟨?_, by dsimp only; omega, fun j hj => ?_, .inr ⟨i, hi, rfl⟩⟩)
      · simp only [spec_LikeliestSums.l0]
        rw [if_pos (by omega), if_pos (by omega), if_pos (by omega), if_pos c1, if_pos trivial, if_pos (by omega), if_pos (by simp), wrap_succ hi (by omega)]
        rfl
      · dsimp only
        rw [places_hit rfl (by omega), places_none (fun j hj => by have := a3 j hj; omega)]
        rfl
      · dsimp only
        by_cases e : j = i
        · subst e; omega
        · have := a3 j (by omega); omega
    · by_cases c2 : rd W (i : Int) = m
      · by_cases c3 : rd W (i : Int) > 0
        · refine Ans.step (fun k => ?_) (ih (m, places W m i ++ [(i : Int)]) ⟨(places_hit c2 (by omega)).symm, a2, fun j hj => ?_, a4⟩)
          · simp only [spec_LikeliestSums.l0]
            rw [if_pos (by omega), if_pos (by omega), if_pos (by omega), if_neg c1, if_pos c2, if_pos c3, if_pos (by omega), wrap_succ hi (by omega)]
          · dsimp only
            by_cases e : j = i
            · subst e; omega
            · have := a3 j (by omega); omega
        · refine Ans.step (fun k => ?_) (ih (m, places W m i) ⟨(places_miss (by omega)).symm, a2, fun j hj => ?_, a4⟩)
          · simp only [spec_LikeliestSums.l0]
            rw [if_pos (by omega), if_pos (by omega), if_pos (by omega), if_neg c1, if_pos c2, if_neg c3, wrap_succ hi (by omega)]
          · dsimp only
            by_cases e : j = i
            · subst e; omega
            · have := a3 j (by omega); omega
      · refine Ans.step (fun k => ?_) (ih (m, places W m i) ⟨(places_miss (by omega)).symm, a2, fun j hj => ?_, a4⟩)
        · simp only [spec_LikeliestSums.l0]
          rw [if_pos (by omega), if_pos (by omega), if_pos (by omega), if_neg c1, if_neg c2, wrap_succ hi (by omega)]
        · dsimp only
          by_cases e : j = i
          · subst e; omega
          · have := a3 j (by omega); omega

theorem likely_law {a0 a1 : Int} {L : List Int} {b : Bool} (hs : Ans (fun k => spec_LikeliestSums.f k a0 a1) (L, b)) (hi : Ans (fun k => impl_LikeliestSums.f k a0 a1) (L, b)) (hl : L.length ≤ 1000) : Ans (fun k => laws_FnExactLikeliestSums.f k a0 a1) true := by
  unfold laws_FnExactLikeliestSums.f
  refine Ans.bind hs (Ans.bind hi (Ans.bind (eqIntS_self (l := L) (by omega)) (Ans.iteP rfl ?_)))
  have hj1 : Ans (fun k => laws_FnExactLikeliestSums.j1 k (mkI 1 L.length) (1 + (L.length : Int)) (b != b)) true := by
    refine Ans.step (f := fun k => (laws_heldIntS.f k (mkI 1 L.length) 1).bind fun t199 => if t199 < 0 then some false else if t199 = 1 + (L.length : Int) then some true else some false) (fun k => ?_) ?_
    · simp only [laws_FnExactLikeliestSums.j1, bne_self_eq_false]; rfl
    · refine Ans.bind (heldIntS_ans (by omega)) (Ans.now ?_)
      rw [if_neg (by omega), if_pos rfl]
  refine Ans.step (f := fun k => (laws_markIntS.f k L 1).bind fun bt191 => (laws_heldIntS.f k bt191.2 1).bind fun t193 => if t193 < 0 then some false else if t193 = bt191.1 then (impl_LikeliestSums.f k a0 a1).bind fun bt194 => (laws_eqIntS.f k bt194.1 L).bind fun t198 => if t198 = true then laws_FnExactLikeliestSums.j1 k bt191.2 bt191.1 (bt194.2 != b) else laws_FnExactLikeliestSums.j1 k bt191.2 bt191.1 true else some false) (fun k => ?_) ?_
  · simp only [laws_FnExactLikeliestSums.j0, bne_self_eq_false]; rfl
  · refine Ans.bind (markIntS_ans (by omega)) (Ans.bind (heldIntS_ans (by omega)) (Ans.iteN (by omega) (Ans.iteP rfl (Ans.bind hi (Ans.bind (eqIntS_self (l := L) (by omega)) (Ans.iteP rfl hj1))))))

theorem FnExactLikeliestSums (a0 : Int) (a1 : Int) (h0 : (Lit.int .i64 a0).wf = true) (h1 : (Lit.int .i64 a1).wf = true) :
    ∃ k, laws_FnExactLikeliestSums.f k a0 a1 = some true := by
  refine Ans.at_ ?_
  cases h : diceB a0 a1 with
  | false =>
    refine likely_law (L := []) (b := false) ?_ ?_ (by simp)
    · unfold spec_LikeliestSums.f; exact Ans.pbind (by rw [diAsked_val, h]) (Ans.iteN (by simp) (Ans.now rfl))
    · unfold impl_LikeliestSums.f; exact Ans.pbind (by rw [areDice_val, h]) (Ans.iteN (by simp) (Ans.now rfl))
  | true =>
    obtain ⟨⟨h2, h3⟩, h4, h5⟩ := diceB_iff.1 h
    obtain ⟨d, rfl⟩ : ∃ d : Nat, a0 = (d : Int) := ⟨a0.toNat, by omega⟩
    obtain ⟨F, rfl⟩ : ∃ F : Nat, a1 = (F : Int) := ⟨a1.toNat, by omega⟩
    have hlen := waysL_length d F d (by omega)
    have hb : d * F ≤ 8 * 12 := Nat.mul_le_mul (by omega) (by omega)
    have hb2 : d * 1 ≤ d * F := Nat.mul_le_mul_left _ (by omega)
    have hw : impl_ways.f (d : Int) (F : Int) (d : Int) = some (waysL d F d) := by unfold impl_ways.f; rw [if_pos (by omega)]; rfl
    obtain ⟨M, m1, m2, m3⟩ := max_ans (W := waysL d F d) (by omega) (by omega)
    have hM : 0 < M := by
      have := m2 d (by omega)
      rw [waysL_rd d (by omega) (by omega) (Nat.le_refl _), kap_all F _ (Nat.le_refl _)] at this
      have := dsum_ones d F (by omega)
      omega
    have hp := places_length (waysL d F d) M (waysL d F d).length
    refine likely_law (L := places (waysL d F d) M (waysL d F d).length) (b := true) ?_ ?_ (by omega)
    · unfold spec_LikeliestSums.f
      exact Ans.pbind (by rw [diAsked_val, h]) (Ans.iteP rfl (Ans.bind (diSums_ans (by omega) (by omega)) (specLikely hM (by omega) m2 m3)))
    · unfold impl_LikeliestSums.f
      exact Ans.pbind (by rw [areDice_val, h]) (Ans.iteP rfl (Ans.pbind hw (Ans.bind m1 (implLikely hM (by omega)))))

end Go.Proofs.Ytbnbokiiakampaa.Pure
