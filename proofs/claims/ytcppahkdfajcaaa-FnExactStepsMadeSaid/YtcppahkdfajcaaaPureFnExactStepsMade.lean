/- StepsMade of the program returns what the reference's returns, for all arguments; no condition. -/
import Derived.Test.YtcppahkdfajcaaaQLawTr
import Derived.Test.YtcppahkdfajcaaaELawStepsMade
namespace Go.Proofs.Ytcppahkdfajcaaa.Pure
open Go.RowKit Go.Proofs.Ytcppahkdfajcaaa.P Go.Proofs.Ytcppahkdfajcaaa.Q Go.Proofs.YtcppahkdfajcaaaW.PrintWords Go.Proofs.YtcppahkdfajcaaaW.PrintLast
set_option linter.unusedVariables false
set_option linter.unusedSimpArgs false

def stepF (y x : Int) : Int := wrap64 (y + mx 0 x)
theorem spec_row {s : List (List Int)} {n i : Int} {acc row : List Int} {r : List Int × Bool} (ha : acc.length < 17592186044416) (hl : row.length ≤ 1048576) :
    ∀ (m j : Nat) (y : Int), j + m = row.length → Ans (fun k => spec_StepsMade.l0 k (acc ++ [(row.drop j).foldl stepF y]) s n (wrap64 (i + 1))) r → Ans (fun k => spec_StepsMade.l1 k acc y s n i row (row.length : Int) (j : Int)) r
  | 0, j, y, hj, h => by
    rw [List.drop_of_length_le (by omega)] at h
    refine Ans.step (fun k => ?_) h
    simp only [spec_StepsMade.l1]
    rw [if_neg (by omega), if_pos ha]
    rfl
  | m + 1, j, y, hj, h => by
    rw [drop_at (show j < row.length by omega), List.foldl_cons] at h
    have ih := spec_row ha hl m (j + 1) (stepF y row[j]) (by omega) h
    have e : spec_l1Most.f 0 row[j] = some (mx 0 row[j]) := by
      unfold spec_l1Most.f mx
      by_cases h0 : (0 : Int) > row[j]
      · rw [if_pos h0]; congr 1; omega
      · rw [if_neg h0]; congr 1; omega
    refine Ans.step (f := fun k => (spec_l1Most.f 0 row[j]).bind fun t685 => spec_StepsMade.l1 k acc (wrap64 (y + t685)) s n i row (row.length : Int) ((j + 1 : Nat) : Int)) (fun k => ?_) (Ans.pbind e ih)
    simp only [spec_StepsMade.l1]
    rw [if_pos (by omega), if_pos (by omega), if_pos (by omega), rd_at (by omega), wrap_succ (i := j) (n := row.length) (by omega) (by omega)]
theorem impl_row {s : List (List Int)} {n i : Int} {acc row : List Int} {r : List Int × Bool} (ha : acc.length < 17592186044416) (hl : row.length ≤ 1048576) :
    ∀ (m j : Nat) (y : Int), j + m = row.length → Ans (fun k => impl_StepsMade.l0 k (acc ++ [(row.drop j).foldl stepF y]) s n (wrap64 (i + 1))) r → Ans (fun k => impl_StepsMade.l1 k acc y s n i row (row.length : Int) (j : Int)) r
  | 0, j, y, hj, h => by
    rw [List.drop_of_length_le (by omega)] at h
    refine Ans.step (fun k => ?_) h
    simp only [impl_StepsMade.l1]
    rw [if_neg (by omega), if_pos ha]
    rfl
  | m + 1, j, y, hj, h => by
    rw [drop_at (show j < row.length by omega), List.foldl_cons] at h
    have ih := impl_row ha hl m (j + 1) (stepF y row[j]) (by omega) h
    refine Ans.step (fun k => ?_) ih
    simp only [impl_StepsMade.l1]
    rw [if_pos (by omega), if_pos (by omega), if_pos (by omega), rd_at (by omega), wrap_succ (i := j) (n := row.length) (by omega) (by omega)]
    rfl
def stepsOf (s : List (List Int)) : List Int := s.map fun r => r.foldl stepF 0
theorem take_snoc {s : List (List Int)} {i : Nat} (h : i < s.length) : stepsOf (s.take i) ++ [(s[i]).foldl stepF 0] = stepsOf (s.take (i + 1)) := by
  unfold stepsOf
  rw [List.take_succ_eq_append_getElem h, List.map_append]
  rfl
theorem rdL_at {s : List (List Int)} {i : Nat} (h : i < s.length) : rd_L1 s (i : Int) = s[i] := by simp [rd_L1, rdOf, h]
theorem spec_all {s : List (List Int)} (hs : s.length ≤ 1048576) (hr : ∀ r ∈ s, r.length ≤ 1048576) : Ans (fun k => spec_StepsMade.l0 k [] s (s.length : Int) 0) (stepsOf s, true) := by
  refine loop_Ans s.length (fun k i (acc : List Int) => spec_StepsMade.l0 k acc s (s.length : Int) (i : Int)) (fun i acc => acc = stepsOf (s.take i)) (fun _ _ => (stepsOf s, true)) ?_ ?_ 0 [] (by omega) (by simp [stepsOf])
  · rintro acc rfl
    refine Ans.step (f := fun k => some (stepsOf s, true)) (fun k => ?_) (Ans.now rfl)
    simp only [spec_StepsMade.l0]
    rw [if_neg (by omega), List.take_of_length_le (Nat.le_refl _)]
  · rintro i acc hi rfl ih
    have hl := hr s[i] (List.getElem_mem hi)
    have h1 := ih _ rfl
    rw [← take_snoc hi] at h1
    have h2 := spec_row (s := s) (n := (s.length : Int)) (i := (i : Int)) (acc := stepsOf (s.take i)) (row := s[i]) (r := (stepsOf s, true)) (by simp [stepsOf]; omega) hl (s[i]).length 0 0 (by omega) (by rw [List.drop_zero, wrap_succ hi (by omega)]; exact h1)
    refine Ans.step (fun k => ?_) h2
    simp only [spec_StepsMade.l0]
    rw [if_pos (by omega), if_pos (by omega), if_pos (by omega), rdL_at hi]
    rfl
theorem impl_all {s : List (List Int)} (hs : s.length ≤ 1048576) (hr : ∀ r ∈ s, r.length ≤ 1048576) : Ans (fun k => impl_StepsMade.l0 k [] s (s.length : Int) 0) (stepsOf s, true) := by
  refine loop_Ans s.length (fun k i (acc : List Int) => impl_StepsMade.l0 k acc s (s.length : Int) (i : Int)) (fun i acc => acc = stepsOf (s.take i)) (fun _ _ => (stepsOf s, true)) ?_ ?_ 0 [] (by omega) (by simp [stepsOf])
  · rintro acc rfl
    refine Ans.step (f := fun k => some (stepsOf s, true)) (fun k => ?_) (Ans.now rfl)
    simp only [impl_StepsMade.l0]
    rw [if_neg (by omega), List.take_of_length_le (Nat.le_refl _)]
  · rintro i acc hi rfl ih
    have hl := hr s[i] (List.getElem_mem hi)
    have h1 := ih _ rfl
    rw [← take_snoc hi] at h1
    have h2 := impl_row (s := s) (n := (s.length : Int)) (i := (i : Int)) (acc := stepsOf (s.take i)) (row := s[i]) (r := (stepsOf s, true)) (by simp [stepsOf]; omega) hl (s[i]).length 0 0 (by omega) (by rw [List.drop_zero, wrap_succ hi (by omega)]; exact h1)
    refine Ans.step (fun k => ?_) h2
    simp only [impl_StepsMade.l0]
    rw [if_pos (by omega), if_pos (by omega), if_pos (by omega), rdL_at hi]
    rfl
theorem StepsMade_ans (a b c : Int) (l3 l4 : List Int) (s : List (List Int)) (z : Small l3 l4 s) :
    ∃ r : List Int × Bool, r.1.length ≤ 1048576 ∧ Ans (fun k => spec_StepsMade.f k a b c l3 l4 s) r ∧ Ans (fun k => impl_StepsMade.f k a b c l3 l4 s) r := by
  unfold spec_StepsMade.f impl_StepsMade.f
  have J0t : Ans (fun k => spec_StepsMade.j0 k s true) ([], false) := by
    refine Ans.step (f := fun k => some ([], false)) (fun k => ?_) (Ans.now rfl)
    simp only [spec_StepsMade.j0]; rfl
  have J0f : Ans (fun k => spec_StepsMade.j0 k s false) (stepsOf s, true) := by
    refine Ans.step (fun k => ?_) (spec_all z.ks z.kr)
    simp only [spec_StepsMade.j0]; rfl
  cases hg : good a b c l3 l4 with
  | false =>
    refine ⟨([], false), by simp, Ans.bind ((trGood_ans z.k3 z.k4).val hg) (Ans.iteN (by simp) J0t), Ans.bind ((isTracked_ans z).val (s := false) (by simp [hg])) (Ans.iteN (by simp) (Ans.now rfl))⟩
  | true =>
    cases hst : stateB a c l3 l4 s with
    | false =>
      refine ⟨([], false), by simp, Ans.bind ((trGood_ans z.k3 z.k4).val hg) (Ans.iteP rfl (Ans.bind ((trState_ans hg z.k4 z.ks z.kr).val hst) J0t)), Ans.bind ((isTracked_ans z).val (s := false) (by simp [hg, hst])) (Ans.iteN (by simp) (Ans.now rfl))⟩
    | true =>
      refine ⟨(stepsOf s, true), by simpa [stepsOf] using z.ks, Ans.bind ((trGood_ans z.k3 z.k4).val hg) (Ans.iteP rfl (Ans.bind ((trState_ans hg z.k4 z.ks z.kr).val hst) J0f)), Ans.bind ((isTracked_ans z).val (s := true) (by simp [hg, hst])) (Ans.iteP rfl (impl_all z.ks z.kr))⟩

theorem FnExactStepsMade (a0_0 : Int) (a0_1 : Int) (a0_2 : Int) (l0_3 : List Int) (l0_4 : List Int) (l1 : List (List Int)) (h0_3 : l0_3.length ≤ 9223372036854775807) (h0_4 : l0_4.length ≤ 9223372036854775807) (h1 : l1.length ≤ 9223372036854775807) (hh1 : ∀ x ∈ l1, x.length ≤ 9223372036854775807) :
    ∃ k, laws_FnExactStepsMade.f k a0_0 a0_1 a0_2 l0_3 l0_4 l1 = some true := by
  refine Ans.at_ ?_
  unfold laws_FnExactStepsMade.f
  obtain ⟨t, ht, h⟩ := szTrack_val (a := a0_0) (b := a0_1) (c := a0_2) (x := 1048576) (by omega) (by omega) h0_3 h0_4
  refine Ans.pbind ht ?_
  rcases h with h | ⟨h, rfl⟩
  · exact Ans.iteP h (Ans.now rfl)
  refine Ans.iteN (by omega) ?_
  refine Ans.bind (szIntSS_ans h1) ?_
  refine Ans.ite (fun _ => Ans.now rfl) (fun hz => ?_)
  obtain ⟨e5, e6⟩ := szLL_fits (by omega) (by omega) h1 hh1 (Int.not_lt.1 hz)
  have e3 : l0_3.length ≤ 1048576 := by omega
  have e4 : l0_4.length ≤ 1048576 := by omega
  obtain ⟨⟨r0, r1⟩, hr, hs, hi⟩ := StepsMade_ans a0_0 a0_1 a0_2 l0_3 l0_4 l1 ⟨e3, e4, e5, e6⟩
  refine Ans.bind (toTrack_ans e3 e4) (Ans.bind (toIntSS_ans e5 e6) (Ans.bind (eqTrack_ans e3 e4) (Ans.iteP rfl (Ans.bind (eqIntSS_ans e5 e6) (Ans.iteP rfl ?_)))))
  refine Ans.bind hs (Ans.bind hi (Ans.iteP rfl (Ans.bind (eqIntS_self (l := r0) (by dsimp only at hr; omega)) (Ans.iteP rfl ?_))))
  have hk := mkSS_ge l1 (1 + (l0_3.length : Int) + (l0_4.length : Int))
  refine Ans.bind (markTrack_ans e3 e4) (Ans.bind (markIntSS_ans (by dsimp only; omega) (by dsimp only; omega) e5 e6) (Ans.iteN (by dsimp only at hk ⊢; omega) ?_))
  dsimp only at hr
  exact Ans.bind (markIntS_ans (l := r0) (by omega)) (Ans.bind (heldIntS_ans (by omega)) (Ans.iteP rfl (Ans.iteN (by dsimp only; omega) (Ans.now rfl))))

end Go.Proofs.Ytcppahkdfajcaaa.Pure
