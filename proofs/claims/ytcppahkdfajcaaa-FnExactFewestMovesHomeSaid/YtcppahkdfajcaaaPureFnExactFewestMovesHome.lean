/- FewestMovesHome of the program returns what the reference's returns, for all arguments; no condition. -/
import Derived.Test.YtcppahkdfajcaaaQPlay
import Derived.Test.YtcppahkdfajcaaaP8
namespace Go.Proofs.Ytcppahkdfajcaaa.Pure
open Go.RowKit Go.Proofs.Ytcppahkdfajcaaa.P Go.Proofs.Ytcppahkdfajcaaa.Q Go.Proofs.YtcppahkdfajcaaaW.PrintWords Go.Proofs.YtcppahkdfajcaaaW.PrintLast
set_option linter.unusedVariables false

theorem few_loops (a b c : Int) (l3 l4 : List Int) (r : List Int) (hr : r.length ≤ 1048576) (hb : b ≠ 0) (hx : ∀ x ∈ r, -1 ≤ x) : ∃ v, Ans (fun k => spec_FewestMovesHome.l0 k 0 r r.length 0 a b c l3 l4) v ∧ Ans (fun k => impl_FewestMovesHome.l0 k 0 r r.length 0 a b c l3 l4) v := by
  let val : List Int → Int → Int × Bool := fun l y => (l.foldl (fun y x => if x < 0 then wrap64 ((wrap64 (y + 1)) + (wrap64 (Int.tdiv (wrap64 ((wrap64 ((wrap64 (a - 0)) + b)) - 1)) b))) else wrap64 (y + (wrap64 (Int.tdiv (wrap64 ((wrap64 ((wrap64 (a - x)) + b)) - 1)) b)))) y, true)
  refine ⟨val r 0, (loop_Ans r.length (fun k i y => spec_FewestMovesHome.l0 k y r r.length (i : Int) a b c l3 l4) (fun _ _ => True) (fun i y => val (r.drop i) y) ?_ ?_ 0 0 (by omega) trivial), (loop_Ans r.length (fun k i y => impl_FewestMovesHome.l0 k y r r.length (i : Int) a b c l3 l4) (fun _ _ => True) (fun i y => val (r.drop i) y) ?_ ?_ 0 0 (by omega) trivial)⟩
  · intro y _
    refine Ans.step (fun k => spec_FewestMovesHome.l0.eq_2 ..) ?_
    exact Ans.iteN (by omega) (Ans.now (by simp [val]))
  · intro i y hi _ ih
    refine Ans.step (fun k => spec_FewestMovesHome.l0.eq_2 ..) ?_
    refine Ans.iteP (by omega) (Ans.iteP (by omega) (Ans.iteP (by omega) ?_))
    rw [rd_at hi, drop_at hi, wrap_succ hi (by omega)]
    refine Ans.ite (fun h => Ans.iteN hb ((ih _ trivial).val ?_)) (fun h => Ans.iteN hb ((ih _ trivial).val ?_))
    · simp only [val, List.foldl_cons]; rw [if_pos h]
    · simp only [val, List.foldl_cons]; rw [if_neg h]
  · intro y _
    refine Ans.step (fun k => impl_FewestMovesHome.l0.eq_2 ..) ?_
    exact Ans.iteN (by omega) (Ans.now (by simp [val]))
  · intro i y hi _ ih
    have hxi := hx r[i] (List.getElem_mem hi)
    refine Ans.step (fun k => impl_FewestMovesHome.l0.eq_2 ..) ?_
    refine Ans.iteP (by omega) (Ans.iteP (by omega) (Ans.iteP (by omega) ?_))
    rw [rd_at hi, drop_at hi, wrap_succ hi (by omega)]
    refine Ans.ite (fun h => Ans.iteN hb ((ih _ trivial).val ?_)) (fun h => Ans.iteN hb ((ih _ trivial).val ?_))
    · simp only [val, List.foldl_cons]; rw [if_pos (by omega)]
    · simp only [val, List.foldl_cons]; rw [if_neg (by omega)]

theorem FewestMovesHome_ans (a b c : Int) (l3 l4 : List Int) (s : List (List Int)) (p : Int) (z : Small l3 l4 s) :
    ∃ r, Ans (fun k => spec_FewestMovesHome.f k a b c l3 l4 s p) r ∧ Ans (fun k => impl_FewestMovesHome.f k a b c l3 l4 s p) r := by
  unfold spec_FewestMovesHome.f impl_FewestMovesHome.f
  have J0t : Ans (fun k => impl_FewestMovesHome.j0 k s p true a b c l3 l4) (0, false) := by
    refine Ans.step (fun k => impl_FewestMovesHome.j0.eq_2 ..) ?_
    exact Ans.iteP rfl (Ans.now rfl)
  by_cases hgs : (good a b c l3 l4 && stateB a c l3 l4 s) = true
  case neg =>
    have e1 : (good a b c l3 l4 && (stateB a c l3 l4 s && inR p 0 ((l3.length : Int) - 1))) = false := by rw [← Bool.and_assoc]; simp only [Bool.not_eq_true] at hgs; rw [hgs]; rfl
    have e2 : (good a b c l3 l4 && stateB a c l3 l4 s) = false := by simpa using hgs
    exact ⟨(0, false), Ans.bind ((trPlayer_ans z p).val e1) (Ans.iteN (by simp) (Ans.now rfl)), Ans.bind ((isTracked_ans z).val e2) (Ans.iteN (by simp) J0t)⟩
  have hg := (Bool.and_eq_true _ _ ▸ hgs).1
  have hst := (Bool.and_eq_true _ _ ▸ hgs).2
  have F := facts_of hg hst
  cases hp : inR p 0 ((l3.length : Int) - 1) with
  | false =>
    refine ⟨(0, false), Ans.bind ((trPlayer_ans z p).val (s := false) (by simp [hg, hst, hp])) (Ans.iteN (by simp) (Ans.now rfl)), Ans.bind ((isTracked_ans z).val (s := true) (by simp [hg, hst])) (Ans.iteP rfl (Ans.pbind (isPlayer_val z.k3 p) ?_))⟩
    rw [hp]; exact J0t
  | true =>
    obtain ⟨h0, h1, h2, h3⟩ := row_at F hp
    have hc := F.fc
    have hb := F.fb
    obtain ⟨v, v1, v2⟩ := few_loops a b c l3 l4 (rd_L1 s p) (by omega) (by omega) (fun x hx => (h3 x hx).1)
    refine ⟨v, Ans.bind ((trPlayer_ans z p).val (s := true) (by simp [hg, hst, hp])) (Ans.iteP rfl (Ans.iteP h0 (Ans.iteP h1 v1))), Ans.bind ((isTracked_ans z).val (s := true) (by simp [hg, hst])) (Ans.iteP rfl (Ans.pbind (isPlayer_val z.k3 p) ?_))⟩
    rw [hp]
    refine Ans.step (fun k => impl_FewestMovesHome.j0.eq_2 ..) ?_
    exact Ans.iteN (by simp) (Ans.iteP h0 (Ans.iteP h1 v2))

theorem FnExactFewestMovesHome (a0_0 : Int) (a0_1 : Int) (a0_2 : Int) (l0_3 : List Int) (l0_4 : List Int) (l1 : List (List Int)) (a2 : Int) (h0_3 : l0_3.length ≤ 9223372036854775807) (h0_4 : l0_4.length ≤ 9223372036854775807) (h1 : l1.length ≤ 9223372036854775807) (hh1 : ∀ x ∈ l1, x.length ≤ 9223372036854775807) (h2 : (Lit.int .i64 a2).wf = true) :
    ∃ k, laws_FnExactFewestMovesHome.f k a0_0 a0_1 a0_2 l0_3 l0_4 l1 a2 = some true := by
  refine Ans.at_ ?_
  unfold laws_FnExactFewestMovesHome.f
  obtain ⟨t, ht, h⟩ := szTrack_val (a := a0_0) (b := a0_1) (c := a0_2) (x := 1048576) (by omega) (by omega) h0_3 h0_4
  refine Ans.pbind ht ?_
  rcases h with h | ⟨h, rfl⟩
  · exact Ans.iteP h (Ans.now rfl)
  refine Ans.iteN (by omega) ?_
  refine Ans.bind (szIntSS_ans h1) ?_
  refine Ans.ite (fun _ => Ans.now rfl) (fun hz => ?_)
  obtain ⟨e5, e6⟩ := szLL_fits (by omega) (by omega) h1 hh1 (Int.not_lt.1 hz)
  have e3 : l0_3.length ≤ 1048576 := by omega
  have e4 : l0_4.length ≤ 1048576 := by omega
  obtain ⟨r, hs, hi⟩ := FewestMovesHome_ans a0_0 a0_1 a0_2 l0_3 l0_4 l1 a2 ⟨e3, e4, e5, e6⟩
  refine Ans.bind (toTrack_ans e3 e4) ?_
  refine Ans.bind (toIntSS_ans e5 e6) ?_
  refine Ans.bind hs ?_
  refine Ans.bind (toTrack_ans e3 e4) ?_
  refine Ans.bind (toIntSS_ans e5 e6) ?_
  refine Ans.bind hi ?_
  refine Ans.iteP rfl ?_
  refine Ans.step (fun k => laws_FnExactFewestMovesHome.j0.eq_2 ..) ?_
  refine Ans.iteN (by simp) ?_
  refine Ans.bind (toTrack_ans e3 e4) ?_
  refine Ans.bind (eqTrack_ans e3 e4) ?_
  refine Ans.iteP rfl ?_
  refine Ans.bind (toIntSS_ans e5 e6) ?_
  refine Ans.bind (eqIntSS_ans e5 e6) ?_
  exact Ans.iteP rfl (Ans.now rfl)

end Go.Proofs.Ytcppahkdfajcaaa.Pure
