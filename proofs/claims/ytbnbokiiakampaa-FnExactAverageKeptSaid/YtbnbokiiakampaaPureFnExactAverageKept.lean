/- AverageKept of the program returns what the reference's returns, for all arguments; no condition. -/
import Derived.Test.YtbnbokiiakampaaQTotals
import Derived.Test.YtbnbokiiakampaaP23
namespace Go.Proofs.Ytbnbokiiakampaa.Pure
open Go.RowKit Go.Proofs.Ytbnbokiiakampaa.P Go.Proofs.Ytbnbokiiakampaa.Q Go.Proofs.YtbnbokiiakampaaW.PrintWords Go.Proofs.YtbnbokiiakampaaW.PrintLast
set_option linter.unusedVariables false
set_option linter.unusedSimpArgs false

theorem avgKept_law {a0 a1 a2 : Int} {x y : Int} {b : Bool} (hs : Ans (fun k => spec_AverageKept.f k a0 a1 a2) (x, y, b)) (hi : Ans (fun k => impl_AverageKept.f k a0 a1 a2) (x, y, b)) : Ans (fun k => laws_FnExactAverageKept.f k a0 a1 a2) true := by
  unfold laws_FnExactAverageKept.f
  exact Ans.bind hs (Ans.bind hi (Ans.iteP rfl (Ans.iteP rfl (Ans.iteN (by simp) (Ans.now rfl)))))

theorem FnExactAverageKept (a0 : Int) (a1 : Int) (a2 : Int) (h0 : (Lit.int .i64 a0).wf = true) (h1 : (Lit.int .i64 a1).wf = true) (h2 : (Lit.int .i64 a2).wf = true) :
    ∃ k, laws_FnExactAverageKept.f k a0 a1 a2 = some true := by
  refine Ans.at_ ?_
  have ij : Ans (fun k => impl_AverageKept.j0 k a0 a1 a2 true) (0, 0, false) := Ans.step (f := fun _ => some (0, 0, false)) (fun k => by simp only [impl_AverageKept.j0]; rfl) (Ans.now rfl)
  by_cases hk : diceB a0 a1 = true ∧ inR a2 1 a0 = true
  case neg =>
    refine avgKept_law (x := 0) (y := 0) (b := false) ?_ ?_
    · unfold spec_AverageKept.f
      refine Ans.pbind (diKeep_val ..) (Ans.iteN (by simpa using hk) (Ans.now rfl))
    · unfold impl_AverageKept.f
      refine Ans.pbind (areDice_val ..) (Ans.ite (fun h => Ans.pbind (within_val ..) ?_) (fun _ => ij))
      have e : inR a2 1 a0 = false := by
        cases e : inR a2 1 a0 with
        | false => rfl
        | true => exact absurd ⟨h, e⟩ hk
      rw [e]; exact ij
  obtain ⟨h, h'⟩ := hk
  obtain ⟨⟨g2, g3⟩, g4, g5⟩ := diceB_iff.1 h
  obtain ⟨g6, g7⟩ := inR_iff.1 h'
  obtain ⟨d, rfl⟩ : ∃ d : Nat, a0 = (d : Int) := ⟨a0.toNat, by omega⟩
  obtain ⟨F, rfl⟩ : ∃ F : Nat, a1 = (F : Int) := ⟨a1.toNat, by omega⟩
  obtain ⟨K, rfl⟩ : ∃ K : Nat, a2 = (K : Int) := ⟨a2.toNat, by omega⟩
  obtain ⟨L, ⟨l1, l2, l3⟩, l4⟩ := diKept_ans F (by omega) d K (by omega) (by omega)
  have hw : impl_ways.f (d : Int) (F : Int) (K : Int) = some (waysL d F K) := by unfold impl_ways.f; rw [if_pos (by omega)]; rfl
  have hW := ways_holds (d := d) (F := F) (K := K) (by omega) (by omega) (by omega)
  have hb : d * F ≤ 8 * 12 := Nat.mul_le_mul (by omega) (by omega)
  have hL : Holds L (fun t => kap F d K (t : Int)) := ⟨by omega, l3, hW.2.2⟩
  obtain ⟨r, r1, r2⟩ := low_ans (tot_bound hL (n := L.length) (by omega)).1 (pow_pos (F := F) (d := d) (by omega))
  refine avgKept_law (x := r.1) (y := r.2) (b := true) ?_ ?_
  · unfold spec_AverageKept.f
    exact Ans.pbind (diKeep_val ..) (Ans.iteP (by rw [h, h']; rfl) (Ans.bind l4 (sAvg_l0 (by omega) (by omega) hL r1)))
  · unfold impl_AverageKept.f
    refine Ans.pbind (areDice_val ..) (Ans.iteP h (Ans.pbind (within_val ..) ?_))
    rw [h']
    refine Ans.step (f := fun k => (impl_ways.f (d : Int) (F : Int) (K : Int)).bind fun t313 => impl_AverageKept.l0 k (d : Int) (F : Int) 0 t313 (t313.length : Int) 0) (fun k => ?_) (Ans.pbind hw (iAvg_l0 (by omega) (by omega) hW ?_))
    · simp only [impl_AverageKept.j0]; rfl
    · rw [tot_same hW hL]; exact r2

end Go.Proofs.Ytbnbokiiakampaa.Pure
