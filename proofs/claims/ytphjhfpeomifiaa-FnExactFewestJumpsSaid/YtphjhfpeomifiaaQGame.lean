/- Games and the jumps on the way in the reference and the program. Plain Lean; no Go in it. -/
import Derived.Test.YtphjhfpeomifiaaQThrows
import Derived.Test.YtphjhfpeomifiaaQToInt
import Derived.Test.YtphjhfpeomifiaaP80
import Derived.Test.YtphjhfpeomifiaaP80
import Derived.Test.YtphjhfpeomifiaaP56
import Derived.Test.YtphjhfpeomifiaaP56
namespace Go.Proofs.Ytphjhfpeomifiaa.Q
open Go.RowKit Go.Proofs.Ytphjhfpeomifiaa.P Go.Proofs.YtphjhfpeomifiaaW.PrintWords
set_option linter.unusedVariables false
set_option linter.unusedSimpArgs false

def gameB (s o : Int) (l : List J) (t : List Int) : Bool :=
  decide (0 < t.length) && (decide (rd (0 :: pathFrom s o l 0 t) (t.length : Int) = s) && (rd (0 :: pathFrom s o l 0 t) ((t.length - 1 : Nat) : Int) != s))
theorem gaIs_ans {s f o : Int} {l : List J} (hb : Board s f o l) {t : List Int} (ht : t.length ≤ 200) (hm : ∀ n ∈ t, 1 ≤ n ∧ n ≤ 8) :
    Ans (fun k => spec_gaIs.f k s f o l t) (gameB s o l t) := by
  unfold spec_gaIs.f gameB
  refine Ans.bind (sqPlay_ans hb (Sq.zero hb) ht hm) ?_
  have e1 : wrap64 (((0 :: pathFrom s o l 0 t).length : Int) - 1) = t.length := by rw [wrap_of] <;> simp [pathFrom_length] <;> omega
  have e0 : ((0 :: pathFrom s o l 0 t).length : Int) = t.length + 1 := by simp [pathFrom_length]
  rw [e1, e0]
  by_cases h : 0 < t.length
  · have e2 : wrap64 ((t.length : Int) - 1) = ((t.length - 1 : Nat) : Int) := prev_wrap h (by omega)
    rw [e2, decide_eq_true h, Bool.true_and]
    refine Ans.iteP (by omega) (Ans.iteP (by omega) (Ans.iteP (by omega) (Ans.ite (fun h1 => ?_) (fun h1 => ?_))))
    · rw [decide_eq_true h1, Bool.true_and]
      exact Ans.iteP (by omega) (Ans.iteP (by omega) (Ans.now rfl))
    · rw [decide_eq_false h1, Bool.false_and]
      exact Ans.now rfl
  · rw [decide_eq_false h, Bool.false_and]
    exact Ans.iteN (by omega) (Ans.now rfl)
theorem isGame_ans {s f o : Int} {l : List J} (hb : Board s f o l) {t : List Int} (ht : t.length ≤ 200) (hm : ∀ n ∈ t, 1 ≤ n ∧ n ≤ 8) :
    Ans (fun k => impl_isGame.f k s f o l t) (gameB s o l t) := by
  unfold impl_isGame.f gameB
  refine Ans.bind (path_ans hb (Sq.zero hb) ht hm) ?_
  have e1 : wrap64 (((0 :: pathFrom s o l 0 t).length : Int) - 1) = t.length := by rw [wrap_of] <;> simp [pathFrom_length] <;> omega
  have e0 : ((0 :: pathFrom s o l 0 t).length : Int) = t.length + 1 := by simp [pathFrom_length]
  rw [e1, e0]
  refine Ans.iteP (by omega) (Ans.iteP (by omega) ?_)
  by_cases h : 0 < t.length
  · have e2 : wrap64 ((t.length : Int) - 1) = ((t.length - 1 : Nat) : Int) := prev_wrap h (by omega)
    rw [e2, decide_eq_true h, Bool.true_and]
    refine Ans.ite (fun h1 => ?_) (fun h1 => ?_)
    · rw [decide_eq_true h1, Bool.true_and]
      exact Ans.iteP (by omega) (Ans.iteP (by omega) (Ans.iteP (by omega) (Ans.now rfl)))
    · rw [decide_eq_false h1, Bool.false_and]
      exact Ans.now rfl
  · rw [decide_eq_false h, Bool.false_and]
    refine Ans.ite (fun h1 => Ans.iteN (by omega) (Ans.now rfl)) (fun h1 => Ans.now rfl)

/-- Does a throw go by a jump: 0 or 1. -/
def jby (s o : Int) (l : List J) (a n : Int) : Int := if jumps l (landOn s o a n).1 = true then 1 else 0
theorem jumpsBy_ans {s f o : Int} {l : List J} (hb : Board s f o l) {a n : Int} (ha : Sq s l a) (hn : 1 ≤ n ∧ n ≤ 8) : Ans (fun k => impl_Board_jumpsBy.f k s f o l a n) (jby s o l a n) := by
  have hl : l.length ≤ 9223372036854775807 := by have := hb.len; omega
  have h1 := hb.s1; have h2 := hb.s2; have h3 := ha.1
  unfold impl_Board_jumpsBy.f jby
  refine Ans.pbind (landing_val ⟨h1, h2⟩ (by omega) (by omega)) (Ans.bind (begins_ans hl) ?_)
  exact Ans.ite (fun h => Ans.now (by rw [if_pos h])) (fun h => Ans.now (by rw [if_neg h]))
theorem plain_board {s f o : Int} {l : List J} (hb : Board s f o l) : Board s f o [] :=
  ⟨hb.s1, hb.s2, hb.f1, hb.f2, hb.o0, hb.o2, by simp, by simp, by simp, by simp⟩
theorem gaJumps_ans {s f o : Int} {l : List J} (hb : Board s f o l) {a n : Int} (ha : Sq s l a) (hn : 1 ≤ n ∧ n ≤ 8) : Ans (fun k => spec_gaJumps.f k s f o l a n) (jby s o l a n) := by
  have hl : l.length ≤ 9223372036854775807 := by have := hb.len; omega
  have h1 := hb.s1; have h2 := hb.s2; have h3 := ha.1
  unfold spec_gaJumps.f jby
  refine Ans.bind (sqThrow_ans (plain_board hb) (by omega) (by omega)) ?_
  have key : thr s o [] a n = (landOn s o a n).1 := by
    unfold thr
    split
    · rfl
    · rename_i h
      unfold landOn at h ⊢
      split at h
      · rename_i c; rw [if_pos c]
      · rename_i c; rw [if_neg c]
        split at h
        · exact absurd rfl h
        · rename_i c; rw [if_neg c]
          split at h
          · exact absurd rfl h
          · rename_i c; rw [if_neg c]
            split at h
            · rename_i c; rw [if_pos c]
              split at h
              · exact absurd rfl h
              · rename_i c; rw [if_neg c]
            · rename_i c; rw [if_neg c]
  rw [key]
  generalize (landOn s o a n).1 = x
  refine Ans.ite (fun h => ?_) (fun h => ?_)
  · rw [h, ha.2]; exact Ans.now rfl
  · refine Ans.bind (sqJump_ans hl) ?_
    cases e : jumps l x with
    | false => rw [jumpFrom_none e]; exact Ans.iteP rfl (Ans.now rfl)
    | true =>
      refine Ans.iteN (fun h' => ?_) (Ans.now rfl)
      have := jumpFrom_free hb x
      rw [h', e] at this
      cases this

/-- How often a token goes by a jump, on from a count and a square. -/
def jumpsFrom (s o : Int) (l : List J) : Int → Int → List Int → Int
  | c, _, [] => c
  | c, a, n :: t => jumpsFrom s o l (wrap64 (c + jby s o l a n)) (thr s o l a n) t

end Go.Proofs.Ytphjhfpeomifiaa.Q
