/- slices.Contains at []int answers whether the list holds the number. Plain Lean; no Go in it. -/
import Derived.Test.YtcppahkdfajcaaaQBase
import Derived.Test.YtcppahkdfajcaaaP63
namespace Go.Proofs.Ytcppahkdfajcaaa.Q
open Go.RowKit Go.Proofs.Ytcppahkdfajcaaa.P Go.Proofs.YtcppahkdfajcaaaW.PrintWords
set_option linter.unusedVariables false

theorem contains_ans {l : List Int} {x : Int} (hl : l.length ≤ 9223372036854775807) : Ans (fun k => slices_Contains_int_int.f k l x) (l.contains x) := by
  refine ⟨l.length + 1, fun k hk => ?_⟩
  show slices_Contains_int_int.f k l x = _
  unfold slices_Contains_int_int.f slices_Index_int_int.f
  have key : ∃ t, slices_Index_int_int.l0 k l x l.length 0 = some t ∧ decide (t ≥ 0) = l.contains x := by
    have := loop_ans l.length (fun k i (_ : Unit) => (slices_Index_int_int.l0 k l x l.length (i : Int)).map fun t => decide (t ≥ 0)) (fun _ _ => True) (fun i _ => (l.drop i).contains x) ?_ ?_ l.length 0 () (by omega) trivial k (by omega)
    · obtain ⟨t, h1, h2⟩ := Option.map_eq_some_iff.1 this
      exact ⟨t, h1, by simpa using h2⟩
    · intro s _ k
      simp only [slices_Index_int_int.l0]
      rw [if_neg (by omega)]; simp
    · intro i s hi' _ k ih
      simp only [slices_Index_int_int.l0]
      rw [if_pos (by omega), if_pos (by omega), if_pos (by omega), rd_at hi', wrap_succ hi' hl]
      rw [drop_at hi', List.contains_cons]
      by_cases h : x = l[i]
      · rw [if_pos h]
        have : (x == l[i]) = true := by simpa using h
        rw [this]; simp
      · rw [if_neg h]
        have : (x == l[i]) = false := by simpa using h
        rw [this, Bool.false_or]; exact ih () trivial
  obtain ⟨t, h1, h2⟩ := key
  rw [h1]; simp only [Option.bind_some]; rw [h2]

end Go.Proofs.Ytcppahkdfajcaaa.Q
