/- Board.areThrows: whether all numbers of a list are throws of a board: what the Go text returns. No condition. -/
import Derived.Test.YtphjhfpeomifiaaEFunc
import Derived.Test.YtphjhfpeomifiaaQBase
import Derived.Test.YtphjhfpeomifiaaP57
namespace Go.Proofs.Ytphjhfpeomifiaa.P
open Go.RowKit Go.Proofs.YtphjhfpeomifiaaW.PrintWords Go.Proofs.YtphjhfpeomifiaaW.PrintLast Go.Proofs.YtphjhfpeomifiaaW.PrintMore
set_option linter.unusedVariables false
set_option linter.unusedSimpArgs false

open Go.Proofs.Ytphjhfpeomifiaa.Q
theorem within_inR (x lo hi : Int) : impl_within.f x lo hi = some (inR x lo hi) := by
  exact inR_eq x lo hi

set_option maxHeartbeats 1000000 in
theorem areThrows_pred (a b c : Int) (v : Value) (B : Nat) (w : World) (hc : w.heap[B]? = some (.cells #[.int .i64 a, .int .i64 b, .int .i64 c, v] 30 (0, 0))) :
    PredOk 78 #[.pointer (some ⟨B, 0, none⟩)] (fun n => !(inR n 1 b)) w := by
  intro W x hb
  have hc' : W.heap[B]? = some (.cells #[.int .i64 a, .int .i64 b, .int .i64 c, v] 30 (0, 0)) := blk_below hc hb
  clear hc hb
  have hc1 : W.cell? ⟨B, 1, none⟩ = some (.int .i64 b) := (blk_cell hc' 1).trans rfl
  clear hc'
  have hu27 := Try.underlying30
  have HW := Aside0.mk (within_inR x 1 b)
  show Calls Try.prog 78 #[.int .i64 x, .pointer (some ⟨B, 0, none⟩)] W fun e w' => e = .returned (.bool (!(inR x 1 b))) ∧ ∃ q, w' = W.drewN q
  generalize inR x 1 b = b at HW ⊢
  go_enter Try.func78, Try.ntmps78
  go_wp2_with (go_at_call 53; refine (impl_within.calls x 1 _ b _ HW.out).mono ?_; rintro e w' ⟨rfl, ⟨nd, rfl⟩⟩)
  go_ret
  exact ⟨rfl, nd, rfl⟩

def impl_Board_areThrows.f (a0_0 : Int) (a0_1 : Int) (a0_2 : Int) (l0_3 : List S70) (l1 : List Int) : Option (Bool) := some (decide ((l1.length : Int) ≤ 200) && !(l1.any fun n => !(inR n 1 a0_1)))
set_option maxHeartbeats 1000000 in
theorem impl_Board_areThrows.calls (a0_0 : Int) (a0_1 : Int) (a0_2 : Int) (A0_3 : Option Addr) (c0_3 : Nat) (l0_3 : List S70) (A1 : Option Addr) (c1 : Nat) (l1 : List Int) (r : Bool) (w : World) (hr0_3 : Kd.C k70 w A0_3 l0_3.length l0_3) (hc0_3 : l0_3.length ≤ c0_3) (hr1 : Kd.C (Kd.int .i64) w A1 l1.length l1) (hc1 : l1.length ≤ c1) (h : impl_Board_areThrows.f a0_0 a0_1 a0_2 l0_3 l1 = some r) :
    Calls Try.prog 59 #[.agg #[.int .i64 a0_0, .int .i64 a0_1, .int .i64 a0_2, .slice A0_3 l0_3.length c0_3], .slice A1 l1.length c1] w fun e w' => e = .returned (.bool r) ∧ Below w.heap.size w w' := by
  obtain rfl := Option.some.inj h
  clear h
  have HR1 := Aside0.mk hr1
  clear hr1 hr0_3
  have hu27 := Try.underlying30
  by_cases hl : (l1.length : Int) ≤ 200
  case neg =>
    have h1 : decide ((l1.length : Int) ≤ 200) = false := decide_eq_false hl
    rw [h1, Bool.false_and]
    clear hl
    go_enter Try.func59, Try.ntmps59
    go_wp2
    go_ret
    exact ⟨rfl, (Below.refl _ _).alloc (Nat.le_refl _) _⟩
  have h1 : decide ((l1.length : Int) ≤ 200) = true := decide_eq_true hl
  rw [h1, Bool.true_and]
  clear hl
  have hP := fun (W : World) (hc : W.heap[w.heap.size]? = some (.cells #[.int .i64 a0_0, .int .i64 a0_1, .int .i64 a0_2, .slice A0_3 l0_3.length c0_3] 30 (0, 0))) (hr : Kd.C (Kd.int .i64) W A1 l1.length l1) =>
    containsFunc_int _ 78 #[.pointer (some ⟨w.heap.size, 0, none⟩)] (enters_of Try.func78 (by kernel_rfl) rfl) A1 c1 l1 W (areThrows_pred a0_0 a0_1 a0_2 _ w.heap.size W hc) hr
  generalize (l1.any fun n => !(inR n 1 a0_1)) = b at hP ⊢
  have HP := Aside0.mk hP
  clear hP
  go_enter Try.func59, Try.ntmps59
  go_wp2_with (go_at_call 77; refine (HP.out _ (by show (w.heap.push _)[w.heap.size]? = _; simp) (Kd.C_below HR1.out ((Below.refl _ _).alloc (Nat.le_refl _) _))).mono ?_; rintro e w' ⟨rfl, q, rfl⟩)
  go_ret
  exact ⟨rfl, pw_below_drewN ((Below.refl _ _).alloc (Nat.le_refl _) _) _⟩

end Go.Proofs.Ytphjhfpeomifiaa.P
