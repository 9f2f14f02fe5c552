/- WaysKept of the program returns what the reference's returns, for all arguments; no condition. -/
import Derived.Test.YtbnbokiiakampaaQSums
import Derived.Test.YtbnbokiiakampaaP17
namespace Go.Proofs.Ytbnbokiiakampaa.Pure
open Go.RowKit Go.Proofs.Ytbnbokiiakampaa.P Go.Proofs.Ytbnbokiiakampaa.Q Go.Proofs.YtbnbokiiakampaaW.PrintWords Go.Proofs.YtbnbokiiakampaaW.PrintLast
set_option linter.unusedVariables false
set_option linter.unusedSimpArgs false

theorem waysKept_law {a0 a1 a2 a3 : Int} {x : Int} {b : Bool} (hs : Ans (fun k => spec_WaysKept.f k a0 a1 a2 a3) (x, b)) (hi : Ans (fun k => impl_WaysKept.f k a0 a1 a2 a3) (x, b)) : Ans (fun k => laws_FnExactWaysKept.f k a0 a1 a2 a3) true := by
  unfold laws_FnExactWaysKept.f
  exact Ans.bind hs (Ans.bind hi (Ans.iteP rfl (Ans.iteN (by simp) (Ans.now rfl))))

theorem FnExactWaysKept (a0 : Int) (a1 : Int) (a2 : Int) (a3 : Int) (h0 : (Lit.int .i64 a0).wf = true) (h1 : (Lit.int .i64 a1).wf = true) (h2 : (Lit.int .i64 a2).wf = true) (h3 : (Lit.int .i64 a3).wf = true) :
    ∃ k, laws_FnExactWaysKept.f k a0 a1 a2 a3 = some true := by
  refine Ans.at_ ?_
  have sj : Ans (fun k => spec_WaysKept.j0 k a0 a1 a2 a3 true) (0, false) := Ans.step (f := fun _ => some (0, false)) (fun k => by simp only [spec_WaysKept.j0]; rfl) (Ans.now rfl)
  have ij : Ans (fun k => impl_WaysKept.j0 k a0 a1 a2 a3 true) (0, false) := Ans.step (f := fun _ => some (0, false)) (fun k => by simp only [impl_WaysKept.j0]; rfl) (Ans.now rfl)
  by_cases hk : diceB a0 a1 = true ∧ inR a2 1 a0 = true
  case neg =>
    refine waysKept_law (x := 0) (b := false) ?_ ?_
    · unfold spec_WaysKept.f
      refine Ans.pbind (diKeep_val ..) (Ans.iteN (by simpa using hk) sj)
    · unfold impl_WaysKept.f
      refine Ans.pbind (areDice_val ..) (Ans.ite (fun h => Ans.pbind (within_val ..) (Ans.iteN (fun h' => hk ⟨h, h'⟩) ij)) (fun _ => ij))
  obtain ⟨h, h'⟩ := hk
  cases hr : inR a3 0 200 with
  | false =>
    refine waysKept_law (x := 0) (b := false) ?_ ?_
    · unfold spec_WaysKept.f
      refine Ans.pbind (diKeep_val ..) (Ans.iteP (by rw [h, h']; rfl) (Ans.pbind (l1In_val ..) ?_))
      rw [hr]; exact sj
    · unfold impl_WaysKept.f
      refine Ans.pbind (areDice_val ..) (Ans.iteP h (Ans.pbind (within_val ..) (Ans.iteP h' (Ans.pbind (within_val ..) ?_))))
      rw [hr]; exact ij
  | true =>
    obtain ⟨⟨g2, g3⟩, g4, g5⟩ := diceB_iff.1 h
    obtain ⟨g6, g7⟩ := inR_iff.1 h'
    obtain ⟨g8, g9⟩ := inR_iff.1 hr
    obtain ⟨d, rfl⟩ : ∃ d : Nat, a0 = (d : Int) := ⟨a0.toNat, by omega⟩
    obtain ⟨F, rfl⟩ : ∃ F : Nat, a1 = (F : Int) := ⟨a1.toNat, by omega⟩
    obtain ⟨K, rfl⟩ : ∃ K : Nat, a2 = (K : Int) := ⟨a2.toNat, by omega⟩
    obtain ⟨t, rfl⟩ : ∃ t : Nat, a3 = (t : Int) := ⟨a3.toNat, by omega⟩
    obtain ⟨L, ⟨l1, l2, l3⟩, l4⟩ := diKept_ans F (by omega) d K (by omega) (by omega)
    have hlen := waysL_length d F K (by omega)
    have hw : impl_ways.f (d : Int) (F : Int) (K : Int) = some (waysL d F K) := by unfold impl_ways.f; rw [if_pos (by omega)]; rfl
    refine waysKept_law (x := kap F d K (t : Int)) (b := true) ?_ ?_
    · unfold spec_WaysKept.f
      refine Ans.pbind (diKeep_val ..) (Ans.iteP (by rw [h, h']; rfl) (Ans.pbind (l1In_val ..) ?_))
      rw [hr]
      refine Ans.step (f := fun k => (spec_diKept.f k (d : Int) (F : Int) (K : Int)).bind fun t219 => if (t : Int) ≥ (t219.length : Int) then some (0, true) else if 0 ≤ (t : Int) then if (t : Int) < (t219.length : Int) then some (rd t219 (t : Int), true) else none else none) (fun k => ?_) (Ans.bind l4 (Ans.now ?_))
      · simp only [spec_WaysKept.j0]; rfl
      · rw [← l3]
        by_cases e : (t : Int) ≥ (L.length : Int)
        · rw [if_pos e, rd_out (by omega)]
        · rw [if_neg e, if_pos (by omega), if_pos (by omega)]
    · unfold impl_WaysKept.f
      refine Ans.pbind (areDice_val ..) (Ans.iteP h (Ans.pbind (within_val ..) (Ans.iteP h' (Ans.pbind (within_val ..) ?_))))
      rw [hr]
      refine Ans.step (f := fun k => (impl_ways.f (d : Int) (F : Int) (K : Int)).bind fun t227 => (impl_at.f t227 (t : Int)).bind fun t230 => some (t230, true)) (fun k => ?_) (Ans.now ?_)
      · simp only [impl_WaysKept.j0]; rfl
      · rw [hw, Option.bind_some, ← waysL_rd t (by omega) (by omega) (by omega)]
        unfold impl_at.f
        by_cases e : (t : Int) ≥ ((waysL d F K).length : Int)
        · rw [if_pos e, rd_out (by omega)]; rfl
        · rw [if_neg e, if_pos (by omega), if_pos (by omega)]; rfl

end Go.Proofs.Ytbnbokiiakampaa.Pure
