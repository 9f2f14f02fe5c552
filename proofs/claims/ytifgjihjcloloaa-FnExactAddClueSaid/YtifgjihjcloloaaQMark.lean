/- What the laws' marks on clues answer. Plain Lean; no Go in it. -/
import Derived.Test.YtifgjihjcloloaaQPz
import Derived.Test.YtifgjihjcloloaaP82
import Derived.Test.YtifgjihjcloloaaP89
namespace Go.Proofs.Ytifgjihjcloloaa.Q
open Go.RowKit Go.Proofs.Ytifgjihjcloloaa.P Go.Proofs.YtifgjihjcloloaaW.PrintWords
set_option linter.unusedVariables false
set_option linter.unusedSimpArgs false

/-- The i-th marked clue. -/
def mkC (a : Int) (i : Nat) : C := ⟨a + 4 * i, a + 4 * i + 1, a + 4 * i + 2, a + 4 * i + 3⟩
def mkCs (a : Int) (n : Nat) : List C := (List.range n).map (mkC a)
theorem mkCs_length (a : Int) (n : Nat) : (mkCs a n).length = n := by simp [mkCs]
theorem markClueS_ans {l : List C} (hl : l.length ≤ 1048576) : Ans (fun k => laws_markClueS.f k l 1) (1 + 4 * (l.length : Int), mkCs 1 l.length) := by
  unfold laws_markClueS.f
  refine loop_Ans l.length (fun k i (y : List C × Int) => laws_markClueS.l0 k y.1 y.2 (i : Int)) (fun i y => y.1 = mkCs 1 i ++ l.drop i ∧ y.2 = 1 + 4 * (i : Int)) (fun i y => (1 + 4 * (l.length : Int), mkCs 1 l.length)) ?_ ?_ 0 (l, 1) (by omega) ⟨by simp [mkCs], by simp⟩
  · rintro ⟨x, n⟩ ⟨hx, hn⟩
    dsimp only at hx hn
    subst hx hn
    have e : (mkCs 1 l.length ++ l.drop l.length).length = l.length := by simp [mkCs_length]
    refine Ans.step (fun k => laws_markClueS.l0.eq_2 ..) ?_
    exact Ans.iteN (by dsimp only; rw [e]; omega) (Ans.now (by simp))
  · rintro i ⟨x, n⟩ hi ⟨hx, hn⟩ ih
    dsimp only at hx hn
    subst hx hn
    have e : (mkCs 1 i ++ l.drop i).length = l.length := by simp [mkCs_length]; omega
    have e0 : mkCs 1 i ++ l.drop i = mkCs 1 i ++ l[i] :: l.drop (i + 1) := by rw [drop_at hi]
    have hset : ∀ c d : C, (mkCs 1 i ++ c :: l.drop (i + 1)).set i d = mkCs 1 i ++ d :: l.drop (i + 1) := by
      intro c d
      rw [List.set_append_right _ _ (by rw [mkCs_length]; omega), mkCs_length, Nat.sub_self, List.set_cons_zero]
    have hrd : ∀ c : C, rd_T28 (mkCs 1 i ++ c :: l.drop (i + 1)) (i : Int) = c := by
      intro c
      rw [rdC_at (by simp [mkCs_length]), List.getElem_append_right (by rw [mkCs_length]; omega)]
      simp [mkCs_length]
    refine Ans.step (fun k => laws_markClueS.l0.eq_2 ..) ?_
    refine Ans.iteP (by dsimp only; rw [e]; omega) (Ans.iteP (by omega) ?_)
    dsimp only
    rw [e0, show ((i : Int)).toNat = i by omega]
    simp only [Option.bind_some, hset, hrd, wrap_succ hi (show l.length ≤ 9223372036854775807 by omega)]
    rw [wrap_of (x := 1 + 4 * (i : Int) + 1) (by omega) (by omega), wrap_of (x := 1 + 4 * (i : Int) + 1 + 1) (by omega) (by omega), wrap_of (x := 1 + 4 * (i : Int) + 1 + 1 + 1) (by omega) (by omega), wrap_of (x := 1 + 4 * (i : Int) + 1 + 1 + 1 + 1) (by omega) (by omega)]
    refine ih (_, _) ⟨?_, by show (1 + 4 * (i : Int) + 1 + 1 + 1 + 1) = 1 + 4 * ((i + 1 : Nat) : Int); omega⟩
    show mkCs 1 i ++ _ :: l.drop (i + 1) = mkCs 1 (i + 1) ++ l.drop (i + 1)
    simp only [mkCs, List.range_succ, List.map_append, List.map_cons, List.map_nil, List.append_assoc, List.cons_append, List.nil_append]
    congr 2
theorem heldClueS_ans {n : Nat} (hn : n ≤ 1048576) : Ans (fun k => laws_heldClueS.f k (mkCs 1 n) 1) (1 + 4 * (n : Int)) := by
  unfold laws_heldClueS.f
  refine loop_Ans n (fun k i (y : Int) => laws_heldClueS.l0 k (mkCs 1 n) y (i : Int)) (fun i y => y = 1 + 4 * (i : Int)) (fun i y => 1 + 4 * (n : Int)) ?_ ?_ 0 1 (by omega) (by simp)
  · rintro y rfl
    refine Ans.step (fun k => laws_heldClueS.l0.eq_2 ..) ?_
    exact Ans.iteN (by rw [mkCs_length]; omega) (Ans.now rfl)
  · rintro i y hi rfl ih
    refine Ans.step (fun k => laws_heldClueS.l0.eq_2 ..) ?_
    refine Ans.iteP (by rw [mkCs_length]; omega) (Ans.iteP (by omega) ?_)
    have e : rd_T28 (mkCs 1 n) (i : Int) = mkC 1 i := by rw [rdC_at (by rw [mkCs_length]; exact hi)]; simp [mkCs]
    rw [e, wrap_of (x := 1 + 4 * (i : Int) + 1) (by omega) (by omega), wrap_of (x := 1 + 4 * (i : Int) + 1 + 1) (by omega) (by omega), wrap_of (x := 1 + 4 * (i : Int) + 1 + 1 + 1) (by omega) (by omega), wrap_of (x := 1 + 4 * (i : Int) + 1 + 1 + 1 + 1) (by omega) (by omega), wrap_succ hi (by omega)]
    refine Ans.iteP (by rfl) (Ans.iteP (by rfl) (Ans.iteP (by show _ = _; simp only [mkC]; omega) (Ans.iteP (by show _ = _; simp only [mkC]; omega) ?_)))
    exact ih _ (by omega)
theorem markPuzzle_ans {s f : Int} {l : List C} (hl : l.length ≤ 1048576) : Ans (fun k => laws_markPuzzle.f k s f l 1) (1 + 4 * (l.length : Int), mkCs 1 l.length) := by
  unfold laws_markPuzzle.f
  exact Ans.bind (markClueS_ans hl) (Ans.now rfl)
theorem heldPuzzle_ans {s f : Int} {n : Nat} (hn : n ≤ 1048576) : Ans (fun k => laws_heldPuzzle.f k s f (mkCs 1 n) 1) (1 + 4 * (n : Int)) := by
  unfold laws_heldPuzzle.f
  exact Ans.bind (heldClueS_ans hn) (Ans.iteN (by omega) (Ans.now rfl))

end Go.Proofs.Ytifgjihjcloloaa.Q
