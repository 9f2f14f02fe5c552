/- What the laws' helpers on []int answer: the size, the copy, equality, marking and what is held. Plain Lean; no Go in it. -/
import Derived.Test.YtcppahkdfajcaaaQBase
import Derived.Test.YtcppahkdfajcaaaP63
import Derived.Test.YtcppahkdfajcaaaP63
import Derived.Test.YtcppahkdfajcaaaP63
namespace Go.Proofs.Ytcppahkdfajcaaa.Q
open Go.RowKit Go.Proofs.Ytcppahkdfajcaaa.P Go.Proofs.YtcppahkdfajcaaaW.PrintWords
set_option linter.unusedVariables false
set_option linter.unusedSimpArgs false

theorem szIntS_val {l : List Int} {a : Int} (h0 : 0 ≤ a) (h1 : a ≤ 1048576) (hl : l.length ≤ 9223372036854775807) :
    ∃ t, laws_szIntS.f l a = some t ∧ (t < 0 ∨ (0 ≤ t ∧ t = a - l.length)) := by
  unfold laws_szIntS.f
  have : wrap64 (a - (l.length : Int)) = a - l.length := wrap_of (by omega) (by omega)
  rw [this]
  split
  · exact ⟨-1, rfl, .inl (by omega)⟩
  · exact ⟨_, rfl, .inr ⟨by omega, rfl⟩⟩

theorem toIntS_ans {l : List Int} (hl : l.length ≤ 35184372088832) : Ans (fun k => laws_toIntS.f k l) l := by
  refine ⟨l.length + 1, fun k hk => ?_⟩
  show laws_toIntS.f k l = some l
  unfold laws_toIntS.f
  rw [if_pos (by omega), if_pos (by simpa using hl)]
  refine loop_ans l.length (fun k i s => laws_toIntS.l0 k l s (i : Int)) (fun i s => s = l.take i ++ List.replicate (l.length - i) 0) (fun _ _ => l) ?_ ?_ l.length 0 (List.replicate ((l.length : Int)).toNat 0) (by omega) (by simp) k (by omega)
  · rintro s rfl k
    simp only [laws_toIntS.l0]
    rw [if_neg (by omega)]
    simp
  · rintro i s hi rfl k ih
    simp only [laws_toIntS.l0]
    have hlen : (l.take i ++ List.replicate (l.length - i) 0).length = l.length := by simp; omega
    rw [if_pos (by omega), if_pos (by omega), if_pos (by rw [hlen]; omega), wrap_succ hi (by omega), rd_at hi]
    refine ih _ ?_
    rw [show ((i : Int)).toNat = i by omega, List.set_append_right _ _ (by simp; omega)]
    have h1 : (l.take i).length = i := by simp; omega
    rw [h1, show i - i = 0 by omega, show l.length - i = (l.length - (i + 1)) + 1 by omega, List.replicate_succ, List.set_cons_zero, List.take_succ_eq_append_getElem hi, List.append_assoc]
    rfl

theorem eqIntS_ans {l : List Int} (hl : l.length ≤ 9223372036854775807) : Ans (fun k => laws_eqIntS.f k l l) true := by
  refine ⟨l.length + 1, fun k hk => ?_⟩
  show laws_eqIntS.f k l l = some true
  unfold laws_eqIntS.f
  rw [if_pos rfl]
  refine loop_ans l.length (fun k i (_ : Unit) => laws_eqIntS.l0 k l l (i : Int)) (fun _ _ => True) (fun _ _ => true) ?_ ?_ l.length 0 () (by omega) trivial k (by omega)
  · intro s _ k
    simp only [laws_eqIntS.l0]
    rw [if_neg (by omega)]
  · intro i s hi _ k ih
    simp only [laws_eqIntS.l0]
    rw [if_pos (by omega), if_pos (by omega), if_pos (by omega), if_pos trivial, wrap_succ hi hl]
    exact ih () trivial

end Go.Proofs.Ytcppahkdfajcaaa.Q
