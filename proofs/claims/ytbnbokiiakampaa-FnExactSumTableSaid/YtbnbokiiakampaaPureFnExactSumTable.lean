/- SumTable of the program returns what the reference's returns, for all arguments; no condition. -/
import Derived.Test.YtbnbokiiakampaaQSums
import Derived.Test.YtbnbokiiakampaaP12
namespace Go.Proofs.Ytbnbokiiakampaa.Pure
open Go.RowKit Go.Proofs.Ytbnbokiiakampaa.P Go.Proofs.Ytbnbokiiakampaa.Q Go.Proofs.YtbnbokiiakampaaW.PrintWords Go.Proofs.YtbnbokiiakampaaW.PrintLast
set_option linter.unusedVariables false
set_option linter.unusedSimpArgs false

theorem sumTable_law {a0 a1 : Int} {L : List Int} {b : Bool} (hs : Ans (fun k => spec_SumTable.f k a0 a1) (L, b)) (hi : impl_SumTable.f a0 a1 = some (L, b)) (hl : L.length ≤ 1000) : Ans (fun k => laws_FnExactSumTable.f k a0 a1) true := by
  unfold laws_FnExactSumTable.f
  refine Ans.bind hs (Ans.pbind hi (Ans.bind (eqIntS_self (l := L) (by omega)) (Ans.iteP rfl ?_)))
  have hj1 : Ans (fun k => laws_FnExactSumTable.j1 k (mkI 1 L.length) (1 + (L.length : Int)) (b != b)) true := by
    refine Ans.step (f := fun k => (laws_heldIntS.f k (mkI 1 L.length) 1).bind fun t199 => if t199 < 0 then some false else if t199 = 1 + (L.length : Int) then some true else some false) (fun k => ?_) ?_
    · simp only [laws_FnExactSumTable.j1, bne_self_eq_false]; rfl
    · refine Ans.bind (heldIntS_ans (by omega)) (Ans.now ?_)
      rw [if_neg (by omega), if_pos rfl]
  refine Ans.step (f := fun k => (laws_markIntS.f k L 1).bind fun bt191 => (laws_heldIntS.f k bt191.2 1).bind fun t193 => if t193 < 0 then some false else if t193 = bt191.1 then (impl_SumTable.f a0 a1).bind fun bt194 => (laws_eqIntS.f k bt194.1 L).bind fun t198 => if t198 = true then laws_FnExactSumTable.j1 k bt191.2 bt191.1 (bt194.2 != b) else laws_FnExactSumTable.j1 k bt191.2 bt191.1 true else some false) (fun k => ?_) ?_
  · simp only [laws_FnExactSumTable.j0, bne_self_eq_false]; rfl
  · refine Ans.bind (markIntS_ans (by omega)) (Ans.bind (heldIntS_ans (by omega)) (Ans.iteN (by omega) (Ans.iteP rfl (Ans.pbind hi (Ans.bind (eqIntS_self (l := L) (by omega)) (Ans.iteP rfl hj1))))))

theorem FnExactSumTable (a0 : Int) (a1 : Int) (h0 : (Lit.int .i64 a0).wf = true) (h1 : (Lit.int .i64 a1).wf = true) :
    ∃ k, laws_FnExactSumTable.f k a0 a1 = some true := by
  refine Ans.at_ ?_
  cases h : diceB a0 a1 with
  | false =>
    refine sumTable_law (L := []) (b := false) ?_ ?_ (by simp)
    · unfold spec_SumTable.f; exact Ans.pbind (by rw [diAsked_val, h]) (Ans.iteN (by simp) (Ans.now rfl))
    · unfold impl_SumTable.f; rw [areDice_val, h]; rfl
  | true =>
    obtain ⟨⟨h2, h3⟩, h4, h5⟩ := diceB_iff.1 h
    obtain ⟨d, rfl⟩ : ∃ d : Nat, a0 = (d : Int) := ⟨a0.toNat, by omega⟩
    obtain ⟨F, rfl⟩ : ∃ F : Nat, a1 = (F : Int) := ⟨a1.toNat, by omega⟩
    have hlen := waysL_length d F d (by omega)
    have hb : d * F ≤ 8 * 12 := Nat.mul_le_mul (by omega) (by omega)
    have hb2 : d * 1 ≤ d * F := Nat.mul_le_mul_left _ (by omega)
    have hl : ((waysL d F d).drop d).length ≤ 1000 := by rw [List.length_drop]; omega
    refine sumTable_law (L := (waysL d F d).drop d) (b := true) ?_ ?_ hl
    · unfold spec_SumTable.f
      refine Ans.pbind (by rw [diAsked_val, h]) (Ans.iteP rfl (Ans.bind (diSums_ans (by omega) (by omega)) (Ans.iteP (by omega) (Ans.iteP (by rw [hlen]; omega) (Ans.now ?_)))))
      rw [Int.toNat_natCast]
    · unfold impl_SumTable.f
      rw [areDice_val, h, Option.bind_some, if_pos rfl]
      have hw : impl_ways.f (d : Int) (F : Int) (d : Int) = some (waysL d F d) := by unfold impl_ways.f; rw [if_pos (by omega)]; rfl
      rw [hw, Option.bind_some, if_pos (by omega), if_pos (by rw [hlen]; omega), Int.toNat_natCast]
      unfold slices_Clone_int_int.f
      rw [if_pos (by omega), Option.bind_some]

end Go.Proofs.Ytbnbokiiakampaa.Pure
