/- Lists of clues and puzzles in the laws and the reference: copies, equality, marks, and when there is a puzzle. Plain Lean; no Go in it. -/
import Derived.Test.YtifgjihjcloloaaQClue
import Derived.Test.YtifgjihjcloloaaP91
import Derived.Test.YtifgjihjcloloaaP91
import Derived.Test.YtifgjihjcloloaaP91
import Derived.Test.YtifgjihjcloloaaP91
import Derived.Test.YtifgjihjcloloaaEIsPuzzle
namespace Go.Proofs.Ytifgjihjcloloaa.Q
open Go.RowKit Go.Proofs.Ytifgjihjcloloaa.P Go.Proofs.YtifgjihjcloloaaW.PrintWords
set_option linter.unusedVariables false
set_option linter.unusedSimpArgs false

abbrev C := S28
abbrev LC := S26
theorem rdC_at {l : List C} {i : Nat} (h : i < l.length) : rd_T28 l (i : Int) = l[i] := by simp [rd_T28, rdOf, h]
theorem rdLC_at {l : List LC} {i : Nat} (h : i < l.length) : rd_T26 l (i : Int) = l[i] := by simp [rd_T26, rdOf, h]

def toC (l : List LC) : List C := l.map fun x => ⟨x.f0, x.f1, x.f2, x.f3⟩
theorem toC_length (l : List LC) : (toC l).length = l.length := by simp [toC]
theorem toClueS_ans {l : List LC} (hl : l.length ≤ 8796093022208) : Ans (fun k => laws_toClueS.f k l) (toC l) := by
  refine ⟨l.length + 1, fun k hk => ?_⟩
  show laws_toClueS.f k l = some (toC l)
  unfold laws_toClueS.f
  rw [if_pos (by omega), if_pos (by simpa using hl)]
  refine loop_ans l.length (fun k i s => laws_toClueS.l0 k l s (i : Int)) (fun i s => s = toC (l.take i) ++ List.replicate (l.length - i) z28) (fun _ _ => toC l) ?_ ?_ l.length 0 (List.replicate ((l.length : Int)).toNat z28) (by omega) (by simp [toC]) k (by omega)
  · rintro s rfl k
    simp only [laws_toClueS.l0]
    rw [if_neg (by omega)]
    simp
  · rintro i s hi rfl k ih
    simp only [laws_toClueS.l0, laws_toClue.f, Option.bind_some]
    have hlen : (toC (l.take i) ++ List.replicate (l.length - i) z28).length = l.length := by simp [toC]; omega
    rw [if_pos (by omega), if_pos (by omega), if_pos (by rw [hlen]; omega), wrap_succ hi (by omega), rdLC_at hi]
    refine ih _ ?_
    rw [show ((i : Int)).toNat = i by omega, List.set_append_right _ _ (by simp [toC]; omega)]
    have h1 : (toC (l.take i)).length = i := by simp [toC]; omega
    rw [h1, show i - i = 0 by omega, show l.length - i = (l.length - (i + 1)) + 1 by omega, List.replicate_succ, List.set_cons_zero, List.take_succ_eq_append_getElem hi]
    simp only [toC, List.map_append, List.map_cons, List.map_nil, List.append_assoc, List.cons_append, List.nil_append]
theorem toPuzzle_ans {s f : Int} {l : List LC} (hl : l.length ≤ 8796093022208) : Ans (fun k => laws_toPuzzle.f k s f l) (s, f, toC l) := by
  unfold laws_toPuzzle.f
  exact Ans.bind (toClueS_ans hl) (Ans.now rfl)
theorem szPuzzle_val {s f : Int} {l : List LC} {a : Int} (h0 : 0 ≤ a) (h1 : a ≤ 1048576) (hl : l.length ≤ 9223372036854775807) :
    ∃ t, laws_szPuzzle.f s f l a = some t ∧ (t < 0 ∨ (0 ≤ t ∧ t = a - l.length)) := by
  unfold laws_szPuzzle.f laws_szClueS.f
  have : wrap64 (a - (l.length : Int)) = a - l.length := wrap_of (by omega) (by omega)
  rw [this]
  by_cases h : a - (l.length : Int) < 0
  · rw [if_pos h]
    exact ⟨-1, rfl, .inl (by omega)⟩
  · rw [if_neg h, Option.bind_some, if_neg h]
    exact ⟨_, rfl, .inr ⟨by omega, rfl⟩⟩
theorem eqClueS_ans {l : List C} (hl : l.length ≤ 9223372036854775807) : Ans (fun k => laws_eqClueS.f k l l) true := by
  refine ⟨l.length + 1, fun k hk => ?_⟩
  show laws_eqClueS.f k l l = some true
  unfold laws_eqClueS.f
  rw [if_pos rfl]
  refine loop_ans l.length (fun k i (_ : Unit) => laws_eqClueS.l0 k l l (i : Int)) (fun _ _ => True) (fun _ _ => true) ?_ ?_ l.length 0 () (by omega) trivial k (by omega)
  · intro s _ k
    simp only [laws_eqClueS.l0]
    rw [if_neg (by omega)]
  · intro i s hi _ k ih
    simp only [laws_eqClueS.l0, laws_eqClue.f, if_true, Option.bind_some]
    rw [if_pos (by omega), if_pos (by omega), if_pos (by omega), wrap_succ hi hl]
    exact ih () trivial
theorem eqPuzzle_ans {s f : Int} {l : List C} (hl : l.length ≤ 9223372036854775807) : Ans (fun k => laws_eqPuzzle.f k s f l s f l) true := by
  unfold laws_eqPuzzle.f
  simp only [if_true]
  exact Ans.bind (eqClueS_ans hl) (Ans.iteP rfl (Ans.now rfl))

/-- Is there a puzzle of these. -/
def goodP (s f : Int) (l : List C) : Bool := sizeB s f && (decide ((l.length : Int) ≤ 6) && l.all fun c => clueB s f c.f0 c.f1 c.f2 c.f3)
theorem pzGood_ans {s f : Int} {l : List C} (hl : l.length ≤ 9223372036854775807) : Ans (fun k => spec_pzGood.f k s f l) (goodP s f l) := by
  unfold spec_pzGood.f goodP
  refine Ans.pbind (size_eq s f) ?_
  have ht : Ans (fun k => spec_pzGood.j0 k true s f l) false := Ans.step (fun k => spec_pzGood.j0.eq_2 ..) (Ans.iteP rfl (Ans.now rfl))
  cases hs : sizeB s f with
  | false => exact Ans.iteN (by simp) ht
  | true =>
    refine Ans.iteP rfl ?_
    by_cases h6 : (l.length : Int) > 6
    · rw [decide_eq_true h6, decide_eq_false (show ¬ (l.length : Int) ≤ 6 by omega)]
      exact ht
    · rw [decide_eq_false h6, decide_eq_true (show (l.length : Int) ≤ 6 by omega), Bool.true_and, Bool.true_and]
      refine Ans.step (fun k => spec_pzGood.j0.eq_2 ..) (Ans.iteN (by simp) ?_)
      refine loop_Ans l.length (fun k i (_ : Unit) => spec_pzGood.l0 k l l.length (i : Int) s f l) (fun _ _ => True) (fun i _ => (l.drop i).all fun c => clueB s f c.f0 c.f1 c.f2 c.f3) ?_ ?_ 0 () (by omega) trivial
      · intro _ _
        refine Ans.step (fun k => spec_pzGood.l0.eq_2 ..) ?_
        exact Ans.iteN (by omega) (Ans.now (by simp))
      · intro i _ hi _ ih
        refine Ans.step (fun k => spec_pzGood.l0.eq_2 ..) ?_
        refine Ans.iteP (by omega) (Ans.iteP (by omega) (Ans.iteP (by omega) ?_))
        rw [rdC_at hi, drop_at hi, wrap_succ hi hl, List.all_cons]
        refine Ans.bind (pzClue_ans ..) ?_
        cases clueB s f l[i].f0 l[i].f1 l[i].f2 l[i].f3 with
        | true => exact Ans.iteP rfl (by rw [Bool.true_and]; exact ih () trivial)
        | false => exact Ans.iteN (by simp) (Ans.now rfl)
theorem isPuzzle_val (s f : Int) (l : List C) : impl_IsPuzzle.f s f l = some (goodP s f l) := by
  unfold impl_IsPuzzle.f goodP
  congr 1
  cases hs : sizeB s f with
  | false => rfl
  | true =>
    rw [Bool.true_and, Bool.true_and]
    congr 1
    rw [Bool.eq_iff_iff]
    simp [noClue, hs]

end Go.Proofs.Ytifgjihjcloloaa.Q
