/- PartAtLeast of the program returns what the reference's returns, for all arguments; no condition. -/
import Derived.Test.YtbnbokiiakampaaQTotals
import Derived.Test.YtbnbokiiakampaaP19
namespace Go.Proofs.Ytbnbokiiakampaa.Pure
open Go.RowKit Go.Proofs.Ytbnbokiiakampaa.P Go.Proofs.Ytbnbokiiakampaa.Q Go.Proofs.YtbnbokiiakampaaW.PrintWords Go.Proofs.YtbnbokiiakampaaW.PrintLast
set_option linter.unusedVariables false
set_option linter.unusedSimpArgs false

theorem part_law {a0 a1 a2 : Int} {x y : Int} {b : Bool} (hs : Ans (fun k => spec_PartAtLeast.f k a0 a1 a2) (x, y, b)) (hi : Ans (fun k => impl_PartAtLeast.f k a0 a1 a2) (x, y, b)) : Ans (fun k => laws_FnExactPartAtLeast.f k a0 a1 a2) true := by
  unfold laws_FnExactPartAtLeast.f
  exact Ans.bind hs (Ans.bind hi (Ans.iteP rfl (Ans.iteP rfl (Ans.iteN (by simp) (Ans.now rfl)))))

theorem FnExactPartAtLeast (a0 : Int) (a1 : Int) (a2 : Int) (h0 : (Lit.int .i64 a0).wf = true) (h1 : (Lit.int .i64 a1).wf = true) (h2 : (Lit.int .i64 a2).wf = true) :
    ∃ k, laws_FnExactPartAtLeast.f k a0 a1 a2 = some true := by
  refine Ans.at_ ?_
  have ij : Ans (fun k => impl_PartAtLeast.j0 k a0 a1 a2 true) (0, 0, false) := Ans.step (f := fun _ => some (0, 0, false)) (fun k => by simp only [impl_PartAtLeast.j0]; rfl) (Ans.now rfl)
  have sj : Ans (fun k => spec_PartAtLeast.j0 k a0 a1 a2 true) (0, 0, false) := Ans.step (f := fun _ => some (0, 0, false)) (fun k => by simp only [spec_PartAtLeast.j0]; rfl) (Ans.now rfl)
  cases h : diceB a0 a1 with
  | false =>
    refine part_law (x := 0) (y := 0) (b := false) ?_ ?_
    · unfold spec_PartAtLeast.f
      exact Ans.pbind (diAsked_val ..) (Ans.iteN (by rw [h]; simp) sj)
    · unfold impl_PartAtLeast.f
      exact Ans.pbind (areDice_val ..) (Ans.iteN (by rw [h]; simp) ij)
  | true =>
    cases h' : inR a2 0 200 with
    | false =>
      refine part_law (x := 0) (y := 0) (b := false) ?_ ?_
      · unfold spec_PartAtLeast.f
        refine Ans.pbind (diAsked_val ..) (Ans.iteP h (Ans.pbind (l1In_val ..) ?_))
        rw [h']; exact sj
      · unfold impl_PartAtLeast.f
        refine Ans.pbind (areDice_val ..) (Ans.iteP h (Ans.pbind (within_val ..) ?_))
        rw [h']; exact ij
    | true =>
      obtain ⟨⟨g2, g3⟩, g4, g5⟩ := diceB_iff.1 h
      obtain ⟨d, rfl⟩ : ∃ d : Nat, a0 = (d : Int) := ⟨a0.toNat, by omega⟩
      obtain ⟨F, rfl⟩ : ∃ F : Nat, a1 = (F : Int) := ⟨a1.toNat, by omega⟩
      have hw : impl_ways.f (d : Int) (F : Int) (d : Int) = some (waysL d F d) := by unfold impl_ways.f; rw [if_pos (by omega)]; rfl
      have hW := ways_holds (d := d) (F := F) (K := d) (by omega) (by omega) (by omega)
      obtain ⟨r, r1, r2⟩ := low_ans (part_bound hW a2 hW.1).1 (pow_pos (F := F) (d := d) (by omega))
      refine part_law (x := r.1) (y := r.2) (b := true) ?_ ?_
      · unfold spec_PartAtLeast.f
        refine Ans.pbind (diAsked_val ..) (Ans.iteP h (Ans.pbind (l1In_val ..) ?_))
        rw [h']
        refine Ans.step (f := fun k => (spec_diSums.f k (d : Int) (F : Int)).bind fun t237 => spec_PartAtLeast.l0 k (d : Int) (F : Int) a2 0 t237 (t237.length : Int) 0) (fun k => ?_) (Ans.bind (diSums_ans (by omega) (by omega)) (sPart_l0 a2 (by omega) (by omega) hW r1))
        simp only [spec_PartAtLeast.j0]; rfl
      · unfold impl_PartAtLeast.f
        refine Ans.pbind (areDice_val ..) (Ans.iteP h (Ans.pbind (within_val ..) ?_))
        rw [h']
        refine Ans.step (f := fun k => (impl_ways.f (d : Int) (F : Int) (d : Int)).bind fun t313 => impl_PartAtLeast.l0 k (d : Int) (F : Int) a2 0 t313 (t313.length : Int) 0) (fun k => ?_) (Ans.pbind hw (iPart_l0 a2 (by omega) (by omega) hW r2))
        simp only [impl_PartAtLeast.j0]; rfl

end Go.Proofs.Ytbnbokiiakampaa.Pure
