/- Lists of throws in the reference and the program: which are throws, the squares on the way, the jumps that are taken. Plain Lean; no Go in it. -/
import Derived.Test.YtphjhfpeomifiaaQBoard
import Derived.Test.YtphjhfpeomifiaaP83
import Derived.Test.YtphjhfpeomifiaaEThrows
import Derived.Test.YtphjhfpeomifiaaP80
import Derived.Test.YtphjhfpeomifiaaP80
namespace Go.Proofs.Ytphjhfpeomifiaa.Q
open Go.RowKit Go.Proofs.Ytphjhfpeomifiaa.P Go.Proofs.YtphjhfpeomifiaaW.PrintWords
set_option linter.unusedVariables false
set_option linter.unusedSimpArgs false

theorem l1All_ans {l : List Int} {lo hi : Int} (hl : l.length ≤ 9223372036854775807) : Ans (fun k => spec_l1All.f k l lo hi) (l.all fun n => inR n lo hi) := by
  refine ⟨l.length + 1, fun k hk => ?_⟩
  show spec_l1All.f k l lo hi = _
  unfold spec_l1All.f
  refine loop_ans l.length (fun k i (_ : Unit) => spec_l1All.l0 k lo hi l l.length (i : Int)) (fun _ _ => True) (fun i _ => (l.drop i).all fun n => inR n lo hi) ?_ ?_ l.length 0 () (by omega) trivial k (by omega)
  · intro s _ k
    simp only [spec_l1All.l0]
    rw [if_neg (by omega)]; simp
  · intro i s hi' _ k ih
    simp only [spec_l1All.l0]
    rw [if_pos (by omega), if_pos (by omega), if_pos (by omega), l1In_val, rd_at hi', wrap_succ hi' hl]
    rw [drop_at hi']
    simp only [Option.bind_some, List.all_cons]
    cases inR l[i] lo hi with
    | true => simp only [if_true, Bool.true_and]; exact ih () trivial
    | false => simp

/-- Are these numbers throws. -/
def thrownB (f : Int) (t : List Int) : Bool := decide ((t.length : Int) ≤ 200) && t.all fun n => inR n 1 f
theorem areThrows_val (s f o : Int) (l : List J) (t : List Int) : impl_Board_areThrows.f s f o l t = some (thrownB f t) := by
  unfold impl_Board_areThrows.f thrownB
  congr 2
  rw [Bool.eq_iff_iff]
  simp
theorem sqSquare_ans {s f o : Int} {l : List J} {a : Int} (hl : l.length ≤ 9223372036854775807) : Ans (fun k => spec_sqSquare.f k s f o l a) (inR a 0 s && decide (jumpFrom l a = a)) := by
  unfold spec_sqSquare.f
  refine Ans.pbind (l1In_val ..) ?_
  cases inR a 0 s with
  | false => exact Ans.iteN (by simp) (Ans.now rfl)
  | true => exact Ans.iteP rfl (Ans.bind (sqJump_ans hl) (Ans.now rfl))
theorem sqThrows_ans {s f o : Int} {l : List J} {t : List Int} (hl : l.length ≤ 9223372036854775807) (ht : t.length ≤ 9223372036854775807) :
    Ans (fun k => spec_sqThrows.f k s f o l 0 t) (goodS s f o l && thrownB f t) := by
  unfold spec_sqThrows.f spec_sqAsked.f
  have hs := sqGood_ans (s := s) (f := f) (o := o) hl
  cases hg : goodS s f o l with
  | false =>
    rw [hg] at hs
    exact Ans.bind (a := false) (Ans.bind hs (Ans.iteN (by simp) (Ans.now rfl))) (Ans.iteN (by simp) (Ans.now rfl))
  | true =>
    have hb := board_of hg
    rw [hg] at hs
    refine Ans.bind (a := true) (Ans.bind hs (Ans.iteP rfl (Ans.bind (sqSquare_ans hl) (Ans.now ?_)))) (Ans.iteP rfl ?_)
    · rw [jumpFrom_none hb.zero, inR_iff.2 ⟨by omega, by have := hb.s1; omega⟩]; rfl
    · unfold thrownB
      rw [Bool.true_and]
      by_cases h : (t.length : Int) ≤ 200
      · rw [decide_eq_true h, Bool.true_and]
        exact Ans.iteP h (Ans.bind (l1All_ans ht) (Ans.now rfl))
      · rw [decide_eq_false h, Bool.false_and]
        exact Ans.iteN h (Ans.now rfl)
theorem thrown_mem {f : Int} {t : List Int} (h : thrownB f t = true) (hf : f ≤ 8) : t.length ≤ 200 ∧ ∀ n ∈ t, 1 ≤ n ∧ n ≤ 8 := by
  unfold thrownB at h
  simp only [Bool.and_eq_true, decide_eq_true_eq, List.all_eq_true, inR_iff] at h
  exact ⟨by omega, fun n hn => by have := h.2 n hn; omega⟩

/-! a token's square -/
def Sq (s : Int) (l : List J) (a : Int) : Prop := (0 ≤ a ∧ a ≤ s) ∧ jumps l a = false
theorem Sq.zero {s f o : Int} {l : List J} (hb : Board s f o l) : Sq s l 0 := ⟨⟨by omega, by have := hb.s1; omega⟩, hb.zero⟩
theorem jumpFrom_free {s f o : Int} {l : List J} (hb : Board s f o l) (a : Int) : jumps l (jumpFrom l a) = false := by
  cases e : jumps l a with
  | false => rw [jumpFrom_none e]; exact e
  | true =>
    obtain ⟨j, hj, _, e2⟩ := jumpFrom_some e
    rw [e2]; exact hb.ne j hj
theorem Sq.thr {s f o : Int} {l : List J} (hb : Board s f o l) {a n : Int} (h : Sq s l a) (hn : 0 ≤ n) : Sq s l (thr s o l a n) := by
  refine ⟨thr_range hb h.1 hn, ?_⟩
  unfold Q.thr
  split
  · exact jumpFrom_free hb _
  · exact h.2

/-! the squares on the way -/
def pathFrom (s o : Int) (l : List J) : Int → List Int → List Int
  | _, [] => []
  | a, n :: t => thr s o l a n :: pathFrom s o l (thr s o l a n) t
theorem pathFrom_length {s o : Int} {l : List J} {a : Int} {t : List Int} : (pathFrom s o l a t).length = t.length := by
  induction t generalizing a with
  | nil => rfl
  | cons n t ih => simp [pathFrom, ih]
theorem path_ans {s f o : Int} {l : List J} (hb : Board s f o l) {a : Int} {t : List Int} (ha : Sq s l a) (ht : t.length ≤ 200) (hm : ∀ n ∈ t, 1 ≤ n ∧ n ≤ 8) :
    Ans (fun k => impl_Board_path.f k s f o l a t) (a :: pathFrom s o l a t) := by
  have hl : l.length ≤ 9223372036854775807 := by have := hb.len; omega
  unfold impl_Board_path.f
  refine loop_Ans t.length (fun k i (y : Int × List Int) => impl_Board_path.l0 k y.1 y.2 t t.length (i : Int) s f o l) (fun i y => Sq s l y.1 ∧ y.2.length = i + 1) (fun i y => y.2 ++ pathFrom s o l y.1 (t.drop i)) ?_ ?_ 0 (a, [a]) (by omega) ⟨ha, rfl⟩
  · rintro ⟨x, p⟩ ⟨hx, hp⟩
    refine Ans.step (fun k => impl_Board_path.l0.eq_2 ..) ?_
    exact Ans.iteN (by omega) (Ans.now (by simp [pathFrom]))
  · rintro i ⟨x, p⟩ hi ⟨hx, hp⟩ ih
    have hn := hm t[i] (List.getElem_mem hi)
    have h1 := hb.s1; have h2 := hb.s2; have h3 := hx.1
    dsimp only at hp h3
    refine Ans.step (fun k => impl_Board_path.l0.eq_2 ..) ?_
    refine Ans.iteP (by omega) (Ans.iteP (by omega) (Ans.iteP (by omega) ?_))
    rw [rd_at hi, drop_at hi, wrap_succ hi (by omega)]
    refine Ans.bind (throw_ans hl ⟨h1, h2⟩ (by omega) (by omega)) ?_
    refine Ans.iteP (by dsimp only; omega) ?_
    have := ih (thr s o l x t[i], p ++ [thr s o l x t[i]]) ⟨hx.thr hb (by omega), by simp [hp]⟩
    simpa [pathFrom] using this
theorem sqPlay_ans {s f o : Int} {l : List J} (hb : Board s f o l) {a : Int} {t : List Int} (ha : Sq s l a) (ht : t.length ≤ 200) (hm : ∀ n ∈ t, 1 ≤ n ∧ n ≤ 8) :
    Ans (fun k => spec_sqPlay.f k s f o l a t) (a :: pathFrom s o l a t) := by
  have hl : l.length ≤ 9223372036854775807 := by have := hb.len; omega
  unfold spec_sqPlay.f
  refine loop_Ans t.length (fun k i (y : Int × List Int) => spec_sqPlay.l0 k y.1 y.2 t t.length (i : Int) s f o l) (fun i y => Sq s l y.1 ∧ y.2.length = i + 1) (fun i y => y.2 ++ pathFrom s o l y.1 (t.drop i)) ?_ ?_ 0 (a, [a]) (by omega) ⟨ha, rfl⟩
  · rintro ⟨x, p⟩ ⟨hx, hp⟩
    refine Ans.step (fun k => spec_sqPlay.l0.eq_2 ..) ?_
    exact Ans.iteN (by omega) (Ans.now (by simp [pathFrom]))
  · rintro i ⟨x, p⟩ hi ⟨hx, hp⟩ ih
    have hn := hm t[i] (List.getElem_mem hi)
    have h1 := hb.s1; have h2 := hb.s2; have h3 := hx.1
    dsimp only at hp h3
    refine Ans.step (fun k => spec_sqPlay.l0.eq_2 ..) ?_
    refine Ans.iteP (by omega) (Ans.iteP (by omega) (Ans.iteP (by omega) ?_))
    rw [rd_at hi, drop_at hi, wrap_succ hi (by omega)]
    refine Ans.bind (sqThrow_ans hb (by omega) (by omega)) ?_
    refine Ans.iteP (by dsimp only; omega) ?_
    have := ih (thr s o l x t[i], p ++ [thr s o l x t[i]]) ⟨hx.thr hb (by omega), by simp [hp]⟩
    simpa [pathFrom] using this

end Go.Proofs.Ytphjhfpeomifiaa.Q
