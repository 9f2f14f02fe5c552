/- TokensAt of the program returns what the reference's returns, for all arguments; no condition. -/
import Derived.Test.YtcppahkdfajcaaaQLawTr
import Derived.Test.YtcppahkdfajcaaaELawTokensAt
namespace Go.Proofs.Ytcppahkdfajcaaa.Pure
open Go.RowKit Go.Proofs.Ytcppahkdfajcaaa.P Go.Proofs.Ytcppahkdfajcaaa.Q Go.Proofs.YtcppahkdfajcaaaW.PrintWords Go.Proofs.YtcppahkdfajcaaaW.PrintLast
set_option linter.unusedVariables false
set_option linter.unusedSimpArgs false

theorem TokensAt_ans (a b c : Int) (l3 l4 : List Int) (s : List (List Int)) (q : Int) (z : Small l3 l4 s) :
    ∃ r : List (List Int) × Bool, (r.1.length ≤ 1048576 ∧ ∀ x ∈ r.1, x.length ≤ 1048576) ∧ Ans (fun k => spec_TokensAt.f k a b c l3 l4 s q) r ∧ Ans (fun k => impl_TokensAt.f k a b c l3 l4 s q) r := by
  unfold spec_TokensAt.f impl_TokensAt.f
  cases hg : good a b c l3 l4 with
  | false => exact ⟨([], false), ⟨by simp, by simp⟩, Ans.bind ((trGood_ans z.k3 z.k4).val hg) (Ans.iteN (by simp) (Ans.now rfl)), Ans.bind ((isTracked_ans z).val (s := false) (by simp [hg])) (Ans.iteN (by simp) (Ans.now rfl))⟩
  | true =>
    cases hst : stateB a c l3 l4 s with
    | false => exact ⟨([], false), ⟨by simp, by simp⟩, Ans.bind ((trGood_ans z.k3 z.k4).val hg) (Ans.iteP rfl (Ans.bind ((trState_ans hg z.k4 z.ks z.kr).val hst) (Ans.iteN (by simp) (Ans.now rfl)))), Ans.bind ((isTracked_ans z).val (s := false) (by simp [hg, hst])) (Ans.iteN (by simp) (Ans.now rfl))⟩
    | true =>
      have F := facts_of hg hst
      have hS : Ans (fun k => spec_trState.f k a b c l3 l4 s) true := (trState_ans hg z.k4 z.ks z.kr).val hst
      have hI : Ans (fun k => impl_isTracked.f k a b c l3 l4 s) true := (isTracked_ans z).val (by simp [hg, hst])
      have e1 : spec_l1In.f q 0 (wrap64 (a - 1)) = some (inR q 0 (wrap64 (a - 1))) := inR_eq _ _ _
      have e2 : impl_within.f q 0 (wrap64 (a - 1)) = some (inR q 0 (wrap64 (a - 1))) := inR_eq _ _ _
      have h4 : ∀ r ∈ s, r.length ≤ 4 := fun r hr => by have := (F.frow r hr).1; have := F.fc; omega
      have hn := F.fn
      have hl := F.flen
      have ha := F.fa
      cases hq : inR q 0 (wrap64 (a - 1)) with
      | false => exact ⟨([], false), ⟨by simp, by simp⟩, Ans.bind ((trGood_ans z.k3 z.k4).val hg) (Ans.iteP rfl (Ans.bind hS (Ans.iteP rfl (Ans.pbind (e1.trans (by rw [hq])) (Ans.iteN (by simp) (Ans.now rfl)))))), Ans.bind hI (Ans.iteP rfl (Ans.pbind (e2.trans (by rw [hq])) (Ans.iteN (by simp) (Ans.now rfl))))⟩
      | true =>
        have hlen := atL_length (a := a) (l3 := l3) (q := q) s 0 h4
        refine ⟨(atL a l3 q 0 s, true), ⟨by dsimp only; omega, fun x hx => by rw [atL_row hx]; omega⟩, Ans.bind ((trGood_ans z.k3 z.k4).val hg) (Ans.iteP rfl (Ans.bind hS (Ans.iteP rfl (Ans.pbind (e1.trans (by rw [hq])) (Ans.iteP rfl (Ans.bind (trAt_ans (by omega) (by omega) (by omega) h4) (Ans.now rfl))))))), Ans.bind hI (Ans.iteP rfl (Ans.pbind (e2.trans (by rw [hq])) (Ans.iteP rfl (Ans.bind (tokensAt_ans (by omega) (by omega) (by omega) h4) (Ans.now rfl)))))⟩

theorem FnExactTokensAt (a0_0 : Int) (a0_1 : Int) (a0_2 : Int) (l0_3 : List Int) (l0_4 : List Int) (l1 : List (List Int)) (a2 : Int) (h0_3 : l0_3.length ≤ 9223372036854775807) (h0_4 : l0_4.length ≤ 9223372036854775807) (h1 : l1.length ≤ 9223372036854775807) (hh1 : ∀ x ∈ l1, x.length ≤ 9223372036854775807) (h2 : (Lit.int .i64 a2).wf = true) :
    ∃ k, laws_FnExactTokensAt.f k a0_0 a0_1 a0_2 l0_3 l0_4 l1 a2 = some true := by
  refine Ans.at_ ?_
  unfold laws_FnExactTokensAt.f
  obtain ⟨t, ht, h⟩ := szTrack_val (a := a0_0) (b := a0_1) (c := a0_2) (x := 1048576) (by omega) (by omega) h0_3 h0_4
  refine Ans.pbind ht ?_
  rcases h with h | ⟨h, rfl⟩
  · exact Ans.iteP h (Ans.now rfl)
  refine Ans.iteN (by omega) ?_
  refine Ans.bind (szIntSS_ans h1) ?_
  refine Ans.ite (fun _ => Ans.now rfl) (fun hz => ?_)
  obtain ⟨e5, e6⟩ := szLL_fits (by omega) (by omega) h1 hh1 (Int.not_lt.1 hz)
  have e3 : l0_3.length ≤ 1048576 := by omega
  have e4 : l0_4.length ≤ 1048576 := by omega
  obtain ⟨⟨r0, r1⟩, hr, hs, hi⟩ := TokensAt_ans a0_0 a0_1 a0_2 l0_3 l0_4 l1 a2 ⟨e3, e4, e5, e6⟩
  dsimp only at hr
  refine Ans.bind (toTrack_ans e3 e4) (Ans.bind (toIntSS_ans e5 e6) (Ans.bind (eqTrack_ans e3 e4) (Ans.iteP rfl (Ans.bind (eqIntSS_ans e5 e6) (Ans.iteP rfl ?_)))))
  refine Ans.bind hs (Ans.bind hi (Ans.iteP rfl (Ans.bind (eqIntSS_ans (s := r0) hr.1 hr.2) (Ans.iteP rfl ?_))))
  have hk := mkSS_ge l1 (1 + (l0_3.length : Int) + (l0_4.length : Int))
  refine Ans.bind (markTrack_ans e3 e4) (Ans.bind (markIntSS_ans (by dsimp only; omega) (by dsimp only; omega) e5 e6) (Ans.iteN (by dsimp only at hk ⊢; omega) ?_))
  have hg := mkSS_ge r0 1
  exact Ans.bind (markIntSS_ans (s := r0) (by omega) (by omega) hr.1 hr.2) (Ans.bind (heldIntSS_ans (s := r0) (by omega) (by omega) hr.1 hr.2) (Ans.iteP rfl (Ans.iteN (by omega) (Ans.now rfl))))

end Go.Proofs.Ytcppahkdfajcaaa.Pure
