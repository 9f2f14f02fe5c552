/- GoToken of the program returns what the reference's returns, for all arguments; no condition. -/
import Derived.Test.YtcppahkdfajcaaaQLawTr
import Derived.Test.YtcppahkdfajcaaaELawGoToken
namespace Go.Proofs.Ytcppahkdfajcaaa.Pure
open Go.RowKit Go.Proofs.Ytcppahkdfajcaaa.P Go.Proofs.Ytcppahkdfajcaaa.Q Go.Proofs.YtcppahkdfajcaaaW.PrintWords Go.Proofs.YtcppahkdfajcaaaW.PrintLast
set_option linter.unusedVariables false
set_option linter.unusedSimpArgs false

theorem GoToken_ans (a b c : Int) (l3 l4 : List Int) (s : List (List Int)) (p t f : Int) (z : Small l3 l4 s) :
    ∃ r : List (List Int) × Int × Bool, (r.1.length ≤ 1048576 ∧ ∀ x ∈ r.1, x.length ≤ 1048576) ∧ Ans (fun k => spec_GoToken.f k a b c l3 l4 s p t f) r ∧ Ans (fun k => impl_GoToken.f k a b c l3 l4 s p t f) r := by
  unfold spec_GoToken.f impl_GoToken.f
  by_cases hgs : (good a b c l3 l4 && stateB a c l3 l4 s) = true
  case neg =>
    have e1 : (good a b c l3 l4 && (stateB a c l3 l4 s && moveB b c l3 p t f)) = false := by rw [← Bool.and_assoc]; simp only [Bool.not_eq_true] at hgs; rw [hgs]; rfl
    have e2 : (good a b c l3 l4 && stateB a c l3 l4 s) = false := by simpa using hgs
    exact ⟨([], 0, false), by simp, Ans.bind ((trAsked_ans z p t f).val e1) (Ans.iteN (by simp) (Ans.now rfl)), Ans.bind ((isTracked_ans z).val e2) (Ans.iteN (by simp) (Ans.now rfl))⟩
  have hg := (Bool.and_eq_true _ _ ▸ hgs).1
  have hst := (Bool.and_eq_true _ _ ▸ hgs).2
  have F := facts_of hg hst
  cases hm : moveB b c l3 p t f with
  | false =>
    refine ⟨([], 0, false), by simp, Ans.bind ((trAsked_ans z p t f).val (s := false) (by simp [hg, hst, hm])) (Ans.iteN (by simp) (Ans.now rfl)), Ans.bind ((isTracked_ans z).val (s := true) (by simp [hg, hst])) (Ans.iteP rfl (Ans.pbind (isMove_val z.k3 F.fc p t f) ?_))⟩
    rw [hm]; exact Ans.iteN (by simp) (Ans.now rfl)
  | true =>
    have hm' := hm
    simp only [moveB, Bool.and_eq_true] at hm'
    obtain ⟨h0, h1, h2, h3⟩ := row_at F hm'.1
    have hf := inR_iff.1 hm'.2.2
    have ht := inR_iff.1 hm'.2.1
    have hc := F.fc
    have hx := h3 _ (tok_at (r := rd_L1 s p) (t := t) ht.1 (by omega))
    have hown := ownState_ans z.ks z.kr
    cases hcan : canB a b (rd (rd_L1 s p) t) f with
    | false =>
      refine ⟨([], 0, false), by simp, Ans.bind ((trAsked_ans z p t f).val (s := true) (by simp [hg, hst, hm])) (Ans.iteP rfl (Ans.iteP h0 (Ans.iteP h1 (Ans.iteP ht.1 (Ans.iteP (by omega) (Ans.pbind (can_val F hx hf) ?_)))))), Ans.bind ((isTracked_ans z).val (s := true) (by simp [hg, hst])) (Ans.iteP rfl (Ans.pbind (isMove_val z.k3 F.fc p t f) ?_))⟩
      · rw [hcan]; exact Ans.iteN (by simp) (Ans.now rfl)
      · rw [hm]; exact Ans.iteP rfl (Ans.bind hown (Ans.bind (goNo_ans F hm hcan) (Ans.iteN (by simp) (Ans.now rfl))))
    | true =>
      obtain ⟨n, s2, ⟨d1, d2⟩, g1, g2⟩ := go_ans F z.k4 hm hcan
      refine ⟨(s2, n, true), ⟨by dsimp only; omega, fun x hx_ => by have := d2 x hx_; omega⟩, Ans.bind ((trAsked_ans z p t f).val (s := true) (by simp [hg, hst, hm])) (Ans.iteP rfl (Ans.iteP h0 (Ans.iteP h1 (Ans.iteP ht.1 (Ans.iteP (by omega) (Ans.pbind (can_val F hx hf) ?_)))))), Ans.bind ((isTracked_ans z).val (s := true) (by simp [hg, hst])) (Ans.iteP rfl (Ans.pbind (isMove_val z.k3 F.fc p t f) ?_))⟩
      · rw [hcan]; exact Ans.iteP rfl (Ans.bind g1 (Ans.now rfl))
      · rw [hm]; exact Ans.iteP rfl (Ans.bind hown (Ans.bind g2 (Ans.iteP rfl (Ans.now rfl))))

theorem FnExactGoToken (a0_0 : Int) (a0_1 : Int) (a0_2 : Int) (l0_3 : List Int) (l0_4 : List Int) (l1 : List (List Int)) (a2 : Int) (a3 : Int) (a4 : Int) (h0_3 : l0_3.length ≤ 9223372036854775807) (h0_4 : l0_4.length ≤ 9223372036854775807) (h1 : l1.length ≤ 9223372036854775807) (hh1 : ∀ x ∈ l1, x.length ≤ 9223372036854775807) (h2 : (Lit.int .i64 a2).wf = true) (h3 : (Lit.int .i64 a3).wf = true) (h4 : (Lit.int .i64 a4).wf = true) :
    ∃ k, laws_FnExactGoToken.f k a0_0 a0_1 a0_2 l0_3 l0_4 l1 a2 a3 a4 = some true := by
  refine Ans.at_ ?_
  unfold laws_FnExactGoToken.f
  obtain ⟨t, ht, h⟩ := szTrack_val (a := a0_0) (b := a0_1) (c := a0_2) (x := 1048576) (by omega) (by omega) h0_3 h0_4
  refine Ans.pbind ht ?_
  rcases h with h | ⟨h, rfl⟩
  · exact Ans.iteP h (Ans.now rfl)
  refine Ans.iteN (by omega) ?_
  refine Ans.bind (szIntSS_ans h1) ?_
  refine Ans.ite (fun _ => Ans.now rfl) (fun hz => ?_)
  obtain ⟨e5, e6⟩ := szLL_fits (by omega) (by omega) h1 hh1 (Int.not_lt.1 hz)
  have e3 : l0_3.length ≤ 1048576 := by omega
  have e4 : l0_4.length ≤ 1048576 := by omega
  obtain ⟨⟨r0, r1, r2⟩, hr, hs, hi⟩ := GoToken_ans a0_0 a0_1 a0_2 l0_3 l0_4 l1 a2 a3 a4 ⟨e3, e4, e5, e6⟩
  dsimp only at hr
  refine Ans.bind (toTrack_ans e3 e4) (Ans.bind (toIntSS_ans e5 e6) (Ans.bind (eqTrack_ans e3 e4) (Ans.iteP rfl (Ans.bind (eqIntSS_ans e5 e6) (Ans.iteP rfl ?_)))))
  refine Ans.bind hs (Ans.bind hi (Ans.iteP rfl (Ans.bind (eqIntSS_ans (s := r0) hr.1 hr.2) (Ans.iteP rfl ?_))))
  have hk := mkSS_ge l1 (1 + (l0_3.length : Int) + (l0_4.length : Int))
  refine Ans.bind (markTrack_ans e3 e4) (Ans.bind (markIntSS_ans (by dsimp only; omega) (by dsimp only; omega) e5 e6) (Ans.iteN (by dsimp only at hk ⊢; omega) ?_))
  have hg := mkSS_ge r0 1
  exact Ans.bind (markIntSS_ans (s := r0) (by omega) (by omega) hr.1 hr.2) (Ans.bind (heldIntSS_ans (s := r0) (by omega) (by omega) hr.1 hr.2) (Ans.iteP rfl (Ans.iteN (by omega) (Ans.now rfl))))

end Go.Proofs.Ytcppahkdfajcaaa.Pure
