/- What the laws' helpers on a []int result answer: equality with itself, marking, and what is held. Plain Lean; no Go in it. -/
import Derived.Test.YtphjhfpeomifiaaQBase
import Derived.Test.YtphjhfpeomifiaaP24
import Derived.Test.YtphjhfpeomifiaaP64
import Derived.Test.YtphjhfpeomifiaaP64
import Derived.Test.YtphjhfpeomifiaaQThrows
import Derived.Test.YtphjhfpeomifiaaP64
namespace Go.Proofs.Ytphjhfpeomifiaa.Q
open Go.RowKit Go.Proofs.Ytphjhfpeomifiaa.P Go.Proofs.YtphjhfpeomifiaaW.PrintWords
set_option linter.unusedVariables false
set_option linter.unusedSimpArgs false

theorem Ans.mono {α : Type} {g : Nat → Option α} {r : α} (K : Nat) (h : ∀ k, LeO (g k) (g (k + 1))) (hK : g K = some r) : Ans g r := by
  refine ⟨K, fun k hk => ?_⟩
  obtain ⟨d, rfl⟩ : ∃ d, k = K + d := ⟨k - K, by omega⟩
  clear hk
  induction d with
  | zero => exact hK
  | succ d ih => exact h _ _ ih

theorem eqIntS_self {l : List Int} (hl : l.length ≤ 9223372036854775807) : Ans (fun k => laws_eqIntS.f k l l) true := by
  refine ⟨l.length + 1, fun k hk => ?_⟩
  show laws_eqIntS.f k l l = some true
  unfold laws_eqIntS.f
  rw [if_pos rfl]
  refine loop_ans l.length (fun k i (_ : Unit) => laws_eqIntS.l0 k l l (i : Int)) (fun _ _ => True) (fun _ _ => true) ?_ ?_ l.length 0 () (by omega) trivial k (by omega)
  · intro s _ k
    simp only [laws_eqIntS.l0]
    rw [if_neg (by omega)]
  · intro i s hi _ k ih
    simp only [laws_eqIntS.l0]
    rw [if_pos (by omega), if_pos (by omega), if_pos (by omega), if_pos trivial, wrap_succ hi hl]
    exact ih () trivial

/-- The marks a, a + 1, .. -/
def mkI (a : Int) (n : Nat) : List Int := (List.range n).map fun i : Nat => a + (i : Int)
theorem mkI_length (a : Int) (n : Nat) : (mkI a n).length = n := by simp [mkI]
theorem mkI_rd {a : Int} {n i : Nat} (h : i < n) : rd (mkI a n) (i : Int) = a + i := by simp [rd, mkI, h]
theorem markIntS_from {l : List Int} {a : Int} (h0 : 0 ≤ a) (h1 : a ≤ 1000000000000000000) (hl : l.length ≤ 1000000000000000000) : Ans (fun k => laws_markIntS.f k l a) (a + (l.length : Int), mkI a l.length) := by
  unfold laws_markIntS.f
  refine loop_Ans l.length (fun k i (s : List Int) => laws_markIntS.l0 k s (a + (i : Int)) (i : Int)) (fun i s => s = mkI a i ++ l.drop i) (fun _ _ => (a + (l.length : Int), mkI a l.length)) ?_ ?_ 0 l (by omega) (by simp [mkI]) |> fun h => by simpa using h
  · rintro s rfl
    refine Ans.step (f := fun k => some (a + (l.length : Int), mkI a l.length)) (fun k => ?_) (Ans.now rfl)
    have e : (mkI a l.length ++ l.drop l.length) = mkI a l.length := by simp
    rw [e]
    simp only [laws_markIntS.l0]
    rw [if_neg (by rw [mkI_length]; omega)]
  · rintro i s hi rfl ih
    have hlen : (mkI a i ++ l.drop i).length = l.length := by simp [mkI_length]; omega
    refine Ans.step (f := fun k => laws_markIntS.l0 k (mkI a (i + 1) ++ l.drop (i + 1)) (a + ((i + 1 : Nat) : Int)) ((i + 1 : Nat) : Int)) (fun k => ?_) (ih _ rfl)
    simp only [laws_markIntS.l0]
    rw [if_pos (by rw [hlen]; omega), if_pos (by omega), wrap_succ hi (by omega), wrap_of (x := a + (i : Int) + 1) (by omega) (by omega), show a + (i : Int) + 1 = a + ((i + 1 : Nat) : Int) by omega]
    congr 1
    rw [Int.toNat_natCast, List.set_append_right _ _ (by rw [mkI_length]; exact Nat.le_refl _), mkI_length, Nat.sub_self, drop_at hi, List.set_cons_zero]
    simp [mkI, List.range_succ]
theorem heldIntS_from {a : Int} {n : Nat} (h0 : 0 ≤ a) (h1 : a ≤ 1000000000000000000) (hn : n ≤ 1000000000000000000) : Ans (fun k => laws_heldIntS.f k (mkI a n) a) (a + (n : Int)) := by
  unfold laws_heldIntS.f
  refine loop_Ans n (fun k i (_ : Unit) => laws_heldIntS.l0 k (mkI a n) (a + (i : Int)) (i : Int)) (fun _ _ => True) (fun _ _ => a + (n : Int)) ?_ ?_ 0 () (by omega) trivial |> fun h => by simpa using h
  · rintro s _
    refine Ans.step (f := fun k => some (a + (n : Int))) (fun k => ?_) (Ans.now rfl)
    simp only [laws_heldIntS.l0]
    rw [if_neg (by rw [mkI_length]; omega)]
  · rintro i s hi _ ih
    refine Ans.step (f := fun k => laws_heldIntS.l0 k (mkI a n) (a + ((i + 1 : Nat) : Int)) ((i + 1 : Nat) : Int)) (fun k => ?_) (ih () trivial)
    simp only [laws_heldIntS.l0]
    rw [if_pos (by rw [mkI_length]; omega), if_pos (by omega), mkI_rd hi, if_pos rfl, wrap_succ hi (by omega), wrap_of (x := a + (i : Int) + 1) (by omega) (by omega), show a + (i : Int) + 1 = a + ((i + 1 : Nat) : Int) by omega]
theorem markIntS_ans {l : List Int} (hl : l.length ≤ 1000000000000000000) : Ans (fun k => laws_markIntS.f k l 1) (1 + (l.length : Int), mkI 1 l.length) := markIntS_from (by omega) (by omega) hl
theorem heldIntS_ans {n : Nat} (hn : n ≤ 1000000000000000000) : Ans (fun k => laws_heldIntS.f k (mkI 1 n) 1) (1 + (n : Int)) := heldIntS_from (by omega) (by omega) hn
end Go.Proofs.Ytphjhfpeomifiaa.Q
namespace Go.Proofs.Ytphjhfpeomifiaa.Q
open Go.RowKit Go.Proofs.Ytphjhfpeomifiaa.P Go.Proofs.YtphjhfpeomifiaaW.PrintWords
set_option linter.unusedVariables false
set_option linter.unusedSimpArgs false

def mkJ : Nat → Nat → List J → Int → Int × List J
  | 0, _, y, a => (a, y)
  | n + 1, i, y, a => mkJ n (i + 1) ((y.set i (⟨a, (rd_T70 y (i : Int)).f1⟩ : J)).set i (⟨(rd_T70 (y.set i (⟨a, (rd_T70 y (i : Int)).f1⟩ : J)) (i : Int)).f0, a + 1⟩ : J)) (a + 2)
theorem mkJ_fst : ∀ (n i : Nat) (y : List J) (a : Int), (mkJ n i y a).1 = a + 2 * (n : Int)
  | 0, i, y, a => by simp [mkJ]
  | n + 1, i, y, a => by
    unfold mkJ
    rw [mkJ_fst n]
    omega
theorem markBoard_ans {s f o : Int} {l : List J} (hl : l.length ≤ 1048576) : Ans (fun k => laws_markBoard.f k s f o l 1) (mkJ l.length 0 l 1) := by
  unfold laws_markBoard.f laws_markJumpS.f
  refine Ans.bind (a := mkJ l.length 0 l 1) ?_ (Ans.now rfl)
  refine loop_Ans l.length (fun k i (y : List J × Int) => laws_markJumpS.l0 k y.1 y.2 (i : Int)) (fun i y => y.1.length = l.length ∧ y.2 = 1 + 2 * (i : Int)) (fun i y => mkJ (l.length - i) i y.1 y.2) ?_ ?_ 0 (l, 1) (by omega) ⟨rfl, by simp⟩
  · rintro ⟨y, a⟩ ⟨h1, h2⟩
    dsimp only at h1 h2
    refine Ans.step (fun k => laws_markJumpS.l0.eq_2 ..) ?_
    refine Ans.iteN (by dsimp only; omega) (Ans.now ?_)
    rw [Nat.sub_self]; rfl
  · rintro i ⟨y, a⟩ hi ⟨h1, h2⟩ ih
    dsimp only at h1 h2
    refine Ans.step (fun k => laws_markJumpS.l0.eq_2 ..) ?_
    refine Ans.iteP (by dsimp only; omega) (Ans.iteP (by omega) (Ans.pbind rfl ?_))
    have e1 : wrap64 (a + 1) = a + 1 := wrap_of (by omega) (by omega)
    have e2 : wrap64 (a + 1 + 1) = a + 2 := by rw [wrap_of (by omega) (by omega)]; omega
    rw [e1, e2, wrap_succ hi (by omega), Int.toNat_natCast]
    have h3 := ih ((y.set i (⟨a, (rd_T70 y (i : Int)).f1⟩ : J)).set i (⟨(rd_T70 (y.set i (⟨a, (rd_T70 y (i : Int)).f1⟩ : J)) (i : Int)).f0, a + 1⟩ : J), a + 2) ⟨by simp [h1], by dsimp only; omega⟩
    refine h3.val ?_
    show mkJ (l.length - (i + 1)) (i + 1) _ _ = mkJ (l.length - i) i y a
    rw [show l.length - i = (l.length - (i + 1)) + 1 by omega]
    rfl
theorem markBoard_pos (l : List J) : ¬ (mkJ l.length 0 l 1).1 < 0 := by rw [mkJ_fst]; omega

end Go.Proofs.Ytphjhfpeomifiaa.Q
