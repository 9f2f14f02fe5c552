/- Clues in the reference and the program. Plain Lean; no Go in it. -/
import Derived.Test.YtifgjihjcloloaaQSize
import Derived.Test.YtifgjihjcloloaaP91
import Derived.Test.YtifgjihjcloloaaEIsClue
namespace Go.Proofs.Ytifgjihjcloloaa.Q
open Go.RowKit Go.Proofs.Ytifgjihjcloloaa.P Go.Proofs.YtifgjihjcloloaaW.PrintWords
set_option linter.unusedVariables false

def clueB (s f k a b c : Int) : Bool :=
  if k = 0 then decide (a = 0) && (decide (b = 0) && inR c 0 2)
  else if k = 1 then inR a 0 s && (inR b 1 f && inR c 0 s)
  else if k = 2 ∨ k = 3 then decide (a = 0) && (decide (b = 0) && inR c 0 10)
  else if k = 4 then inR a 0 s && (decide (b = 0) && inR c 0 1)
  else if k = 5 then inR a 0 20 && (inR b 1 f && inR c 0 s)
  else false

theorem isClue_val (s f k a b c : Int) : impl_IsClue.f s f k a b c = some (sizeB s f && clueB s f k a b c) := by
  unfold impl_IsClue.f clueB
  rw [isHid_eq, Option.bind_some]
  simp only [within_v, Option.bind_some]
  cases sizeB s f with
  | false => rfl
  | true =>
    rw [if_pos rfl, Bool.true_and]
    split
    · by_cases ha : a = 0 <;> by_cases hb : b = 0 <;> simp [ha, hb]
    split
    · cases inR a 0 s <;> cases inR b 1 f <;> simp
    split
    · by_cases ha : a = 0 <;> by_cases hb : b = 0 <;> simp [ha, hb]
    split
    · by_cases hb : b = 0 <;> cases inR a 0 s <;> simp [hb]
    split
    · cases inR a 0 20 <;> cases inR b 1 f <;> simp
    · rfl

theorem pzClue_ans (s f k a b c : Int) : Ans (fun n => spec_pzClue.f n s f k a b c) (clueB s f k a b c) := by
  refine ⟨1, fun n hn => ?_⟩
  obtain ⟨n, rfl⟩ : ∃ m, n = m + 1 := ⟨n - 1, by omega⟩
  show spec_pzClue.f (n + 1) s f k a b c = _
  unfold spec_pzClue.f clueB
  simp only [spec_pzClue.j0, l1In_v, Option.bind_some]
  by_cases k0 : k = 0
  · simp only [if_pos k0]
    by_cases ha : a = 0 <;> by_cases hb : b = 0 <;> simp [ha, hb]
  simp only [if_neg k0]
  by_cases k1 : k = 1
  · simp only [if_pos k1]
    cases inR a 0 s <;> cases inR b 1 f <;> simp
  simp only [if_neg k1]
  by_cases k2 : k = 2
  · subst k2
    by_cases ha : a = 0 <;> by_cases hb : b = 0 <;> simp [ha, hb]
  by_cases k3 : k = 3
  · subst k3
    by_cases ha : a = 0 <;> by_cases hb : b = 0 <;> simp [ha, hb]
  rw [if_neg k2, if_neg (show ¬ (k == 3) = true by simpa using k3), if_neg (show ¬ (k = 2 ∨ k = 3) by omega)]
  by_cases k4 : k = 4
  · simp only [if_pos k4]
    by_cases hb : b = 0 <;> cases inR a 0 s <;> simp [hb]
  simp only [if_neg k4]
  by_cases k5 : k = 5
  · simp only [if_pos k5]
    cases inR a 0 20 <;> cases inR b 1 f <;> simp
  · simp only [if_neg k5]

end Go.Proofs.Ytifgjihjcloloaa.Q
