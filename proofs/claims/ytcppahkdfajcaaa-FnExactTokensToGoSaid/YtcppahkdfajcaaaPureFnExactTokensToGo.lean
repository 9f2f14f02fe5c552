/- TokensToGo of the program returns what the reference's returns, for all arguments; no condition. -/
import Derived.Test.YtcppahkdfajcaaaQLawTr
import Derived.Test.YtcppahkdfajcaaaELawTokensToGo
namespace Go.Proofs.Ytcppahkdfajcaaa.Pure
open Go.RowKit Go.Proofs.Ytcppahkdfajcaaa.P Go.Proofs.Ytcppahkdfajcaaa.Q Go.Proofs.YtcppahkdfajcaaaW.PrintWords Go.Proofs.YtcppahkdfajcaaaW.PrintLast
set_option linter.unusedVariables false
set_option linter.unusedSimpArgs false

/-- The places of the tokens that can go. -/
def goL (a b f : Int) : Nat → List Int → List Int
  | _, [] => []
  | i, x :: r => if canB a b x f = true then (i : Int) :: goL a b f (i + 1) r else goL a b f (i + 1) r
theorem goL_length (a b f : Int) : ∀ (r : List Int) (i : Nat), (goL a b f i r).length ≤ r.length
  | [], _ => by simp [goL]
  | x :: r, i => by
    unfold goL
    have := goL_length a b f r (i + 1)
    split <;> simp only [List.length_cons] <;> omega
theorem spec_goL {a b c : Int} {l3 l4 : List Int} {s : List (List Int)} (F : Facts a b c l3 l4 s) {f : Int} {row : List Int} (hr : row.length ≤ 4) (hx : ∀ x ∈ row, -1 ≤ x ∧ x ≤ a) (hf : 1 ≤ f ∧ f ≤ b) :
    Ans (fun k => spec_TokensToGo.l0 k f [] row (row.length : Int) 0 a b c l3 l4) (goL a b f 0 row, true) := by
  refine (loop_Ans row.length (fun k i (y : List Int) => spec_TokensToGo.l0 k f y row (row.length : Int) (i : Int) a b c l3 l4) (fun i y => y.length ≤ i) (fun i y => (y ++ goL a b f i (row.drop i), true)) ?_ ?_ 0 [] (by omega) (by simp)).val (by simp)
  · intro y hy
    refine Ans.step (fun k => spec_TokensToGo.l0.eq_2 ..) (Ans.iteN (by omega) (Ans.now ?_))
    rw [List.drop_length, goL, List.append_nil]
  · intro i y hi hy ih
    have hy' : y.length ≤ i := hy
    refine Ans.step (fun k => spec_TokensToGo.l0.eq_2 ..) (Ans.iteP (by omega) (Ans.iteP (by omega) (Ans.iteP (by omega) ?_)))
    rw [rd_at hi, drop_at hi, goL, wrap_succ hi (by omega)]
    refine Ans.pbind (can_val F (hx _ (List.getElem_mem hi)) hf) (Ans.ite (fun h => ?_) (fun h => ?_))
    · rw [if_pos h]
      exact Ans.iteP (by omega) ((ih (y ++ [(i : Int)]) (by show (y ++ _).length ≤ _; simp; omega)).val (by simp))
    · rw [if_neg h]
      exact ih y (by show y.length ≤ _; omega)
theorem impl_goL {a b c : Int} {l3 l4 : List Int} {s : List (List Int)} (F : Facts a b c l3 l4 s) {f : Int} {row : List Int} (hr : row.length ≤ 4) (hx : ∀ x ∈ row, -1 ≤ x ∧ x ≤ a) (hf : 1 ≤ f ∧ f ≤ b) :
    Ans (fun k => impl_TokensToGo.l0 k f [] row (row.length : Int) 0 a b c l3 l4) (goL a b f 0 row, true) := by
  refine (loop_Ans row.length (fun k i (y : List Int) => impl_TokensToGo.l0 k f y row (row.length : Int) (i : Int) a b c l3 l4) (fun i y => y.length ≤ i) (fun i y => (y ++ goL a b f i (row.drop i), true)) ?_ ?_ 0 [] (by omega) (by simp)).val (by simp)
  · intro y hy
    refine Ans.step (fun k => impl_TokensToGo.l0.eq_2 ..) (Ans.iteN (by omega) (Ans.now ?_))
    rw [List.drop_length, goL, List.append_nil]
  · intro i y hi hy ih
    have hy' : y.length ≤ i := hy
    refine Ans.step (fun k => impl_TokensToGo.l0.eq_2 ..) (Ans.iteP (by omega) (Ans.iteP (by omega) (Ans.iteP (by omega) ?_)))
    rw [rd_at hi, drop_at hi, goL, wrap_succ hi (by omega)]
    refine Ans.pbind (goes_val F (hx _ (List.getElem_mem hi)) hf) (Ans.ite (fun h => ?_) (fun h => ?_))
    · dsimp only at h
      rw [if_pos h]
      exact Ans.iteP (by omega) ((ih (y ++ [(i : Int)]) (by show (y ++ _).length ≤ _; simp; omega)).val (by simp))
    · dsimp only at h
      rw [if_neg h]
      exact ih y (by show y.length ≤ _; omega)
theorem TokensToGo_ans (a b c : Int) (l3 l4 : List Int) (s : List (List Int)) (p f : Int) (z : Small l3 l4 s) :
    ∃ r : List Int × Bool, r.1.length ≤ 1048576 ∧ Ans (fun k => spec_TokensToGo.f k a b c l3 l4 s p f) r ∧ Ans (fun k => impl_TokensToGo.f k a b c l3 l4 s p f) r := by
  unfold spec_TokensToGo.f impl_TokensToGo.f
  have J0t : Ans (fun k => impl_TokensToGo.j0 k s p f true a b c l3 l4) ([], false) := by
    refine Ans.step (fun k => impl_TokensToGo.j0.eq_2 ..) ?_
    exact Ans.iteP rfl (Ans.now rfl)
  by_cases hgs : (good a b c l3 l4 && stateB a c l3 l4 s) = true
  case neg =>
    have e1 : (good a b c l3 l4 && (stateB a c l3 l4 s && moveB b c l3 p 0 f)) = false := by rw [← Bool.and_assoc]; simp only [Bool.not_eq_true] at hgs; rw [hgs]; rfl
    have e2 : (good a b c l3 l4 && stateB a c l3 l4 s) = false := by simpa using hgs
    exact ⟨([], false), by simp, Ans.bind ((trAsked_ans z p 0 f).val e1) (Ans.iteN (by simp) (Ans.now rfl)), Ans.bind ((isTracked_ans z).val e2) (Ans.iteN (by simp) J0t)⟩
  have hg := (Bool.and_eq_true _ _ ▸ hgs).1
  have hst := (Bool.and_eq_true _ _ ▸ hgs).2
  have F := facts_of hg hst
  cases hm : moveB b c l3 p 0 f with
  | false =>
    refine ⟨([], false), by simp, Ans.bind ((trAsked_ans z p 0 f).val (s := false) (by simp [hg, hst, hm])) (Ans.iteN (by simp) (Ans.now rfl)), Ans.bind ((isTracked_ans z).val (s := true) (by simp [hg, hst])) (Ans.iteP rfl (Ans.pbind (isMove_val z.k3 F.fc p 0 f) ?_))⟩
    rw [hm]; exact J0t
  | true =>
    have hm' := hm
    simp only [moveB, Bool.and_eq_true] at hm'
    obtain ⟨h0, h1, h2, h3⟩ := row_at F hm'.1
    have hf := inR_iff.1 hm'.2.2
    have hc := F.fc
    have hl := goL_length a b f (rd_L1 s p) 0
    refine ⟨(goL a b f 0 (rd_L1 s p), true), by dsimp only; omega, Ans.bind ((trAsked_ans z p 0 f).val (s := true) (by simp [hg, hst, hm])) (Ans.iteP rfl (Ans.iteP h0 (Ans.iteP h1 (spec_goL F (by omega) h3 hf)))), Ans.bind ((isTracked_ans z).val (s := true) (by simp [hg, hst])) (Ans.iteP rfl (Ans.pbind (isMove_val z.k3 F.fc p 0 f) ?_))⟩
    rw [hm]
    refine Ans.step (fun k => impl_TokensToGo.j0.eq_2 ..) ?_
    exact Ans.iteN (by simp) (Ans.iteP h0 (Ans.iteP h1 (impl_goL F (by omega) h3 hf)))

theorem FnExactTokensToGo (a0_0 : Int) (a0_1 : Int) (a0_2 : Int) (l0_3 : List Int) (l0_4 : List Int) (l1 : List (List Int)) (a2 : Int) (a3 : Int) (h0_3 : l0_3.length ≤ 9223372036854775807) (h0_4 : l0_4.length ≤ 9223372036854775807) (h1 : l1.length ≤ 9223372036854775807) (hh1 : ∀ x ∈ l1, x.length ≤ 9223372036854775807) (h2 : (Lit.int .i64 a2).wf = true) (h3 : (Lit.int .i64 a3).wf = true) :
    ∃ k, laws_FnExactTokensToGo.f k a0_0 a0_1 a0_2 l0_3 l0_4 l1 a2 a3 = some true := by
  refine Ans.at_ ?_
  unfold laws_FnExactTokensToGo.f
  obtain ⟨t, ht, h⟩ := szTrack_val (a := a0_0) (b := a0_1) (c := a0_2) (x := 1048576) (by omega) (by omega) h0_3 h0_4
  refine Ans.pbind ht ?_
  rcases h with h | ⟨h, rfl⟩
  · exact Ans.iteP h (Ans.now rfl)
  refine Ans.iteN (by omega) ?_
  refine Ans.bind (szIntSS_ans h1) ?_
  refine Ans.ite (fun _ => Ans.now rfl) (fun hz => ?_)
  obtain ⟨e5, e6⟩ := szLL_fits (by omega) (by omega) h1 hh1 (Int.not_lt.1 hz)
  have e3 : l0_3.length ≤ 1048576 := by omega
  have e4 : l0_4.length ≤ 1048576 := by omega
  obtain ⟨⟨r0, r1⟩, hr, hs, hi⟩ := TokensToGo_ans a0_0 a0_1 a0_2 l0_3 l0_4 l1 a2 a3 ⟨e3, e4, e5, e6⟩
  dsimp only at hr
  refine Ans.bind (toTrack_ans e3 e4) (Ans.bind (toIntSS_ans e5 e6) (Ans.bind (eqTrack_ans e3 e4) (Ans.iteP rfl (Ans.bind (eqIntSS_ans e5 e6) (Ans.iteP rfl ?_)))))
  refine Ans.bind hs (Ans.bind hi (Ans.iteP rfl (Ans.bind (eqIntS_self (l := r0) (by omega)) (Ans.iteP rfl ?_))))
  have hk := mkSS_ge l1 (1 + (l0_3.length : Int) + (l0_4.length : Int))
  refine Ans.bind (markTrack_ans e3 e4) (Ans.bind (markIntSS_ans (by dsimp only; omega) (by dsimp only; omega) e5 e6) (Ans.iteN (by dsimp only at hk ⊢; omega) ?_))
  exact Ans.bind (markIntS_ans (l := r0) (by omega)) (Ans.bind (heldIntS_ans (by omega)) (Ans.iteP rfl (Ans.iteN (by dsimp only; omega) (Ans.now rfl))))

end Go.Proofs.Ytcppahkdfajcaaa.Pure
