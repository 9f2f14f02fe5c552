/- Track.areIn: whether all numbers of a list are squares of a track: what the Go text returns. No condition. -/
import Derived.Test.YtcppahkdfajcaaaEFunc
import Derived.Test.YtcppahkdfajcaaaQBase
import Derived.Test.YtcppahkdfajcaaaP63
namespace Go.Proofs.Ytcppahkdfajcaaa.P
open Go.RowKit Go.Proofs.YtcppahkdfajcaaaW.PrintWords Go.Proofs.YtcppahkdfajcaaaW.PrintLast Go.Proofs.YtcppahkdfajcaaaW.PrintMore
set_option linter.unusedVariables false
set_option linter.unusedSimpArgs false

open Go.Proofs.Ytcppahkdfajcaaa.Q
theorem within_inR (x lo hi : Int) : impl_within.f x lo hi = some (inR x lo hi) := by
  exact inR_eq x lo hi

set_option maxHeartbeats 1000000 in
theorem areIn_pred (a : Int) (B : Nat) (w : World) (hB : B < w.heap.size) (hc : w.cell? ⟨B, 0, none⟩ = some (.int .i64 a)) :
    PredOk 101 #[.pointer (some ⟨B, 0, none⟩)] (fun n => !(inR n 0 (wrap64 (a - 1)))) w := by
  intro W x hb
  have hc' : W.cell? ⟨B, 0, none⟩ = some (.int .i64 a) := (hb.cell (p := ⟨B, 0, none⟩) hB).trans hc
  clear hc hb
  have hu27 := Try.underlying27
  have HW := Aside0.mk (within_inR x 0 (wrap64 (a - 1)))
  show Calls Try.prog 101 #[.int .i64 x, .pointer (some ⟨B, 0, none⟩)] W fun e w' => e = .returned (.bool (!(inR x 0 (wrap64 (a - 1))))) ∧ ∃ q, w' = W.drewN q
  generalize inR x 0 (wrap64 (a - 1)) = b at HW ⊢
  go_enter Try.func101, Try.ntmps101
  go_wp2_with (go_at_call 66; refine (impl_within.calls x 0 (wrap64 (a - 1)) b _ HW.out).mono ?_; rintro e w' ⟨rfl, ⟨nd, rfl⟩⟩)
  go_ret
  exact ⟨rfl, nd, rfl⟩

def impl_Track_areIn.f (a0_0 : Int) (a0_1 : Int) (a0_2 : Int) (l0_3 : List Int) (l0_4 : List Int) (l1 : List Int) : Option (Bool) := some (!(l1.any fun n => !(inR n 0 (wrap64 (a0_0 - 1)))))
set_option maxHeartbeats 1000000 in
theorem impl_Track_areIn.calls (a0_0 : Int) (a0_1 : Int) (a0_2 : Int) (A0_3 : Option Addr) (c0_3 : Nat) (l0_3 : List Int) (A0_4 : Option Addr) (c0_4 : Nat) (l0_4 : List Int) (A1 : Option Addr) (c1 : Nat) (l1 : List Int) (r : Bool) (w : World) (hr0_3 : Kd.C (Kd.int .i64) w A0_3 l0_3.length l0_3) (hc0_3 : l0_3.length ≤ c0_3) (hr0_4 : Kd.C (Kd.int .i64) w A0_4 l0_4.length l0_4) (hc0_4 : l0_4.length ≤ c0_4) (hr1 : Kd.C (Kd.int .i64) w A1 l1.length l1) (hc1 : l1.length ≤ c1) (h : impl_Track_areIn.f a0_0 a0_1 a0_2 l0_3 l0_4 l1 = some r) :
    Calls Try.prog 67 #[.agg #[.int .i64 a0_0, .int .i64 a0_1, .int .i64 a0_2, .slice A0_3 l0_3.length c0_3, .slice A0_4 l0_4.length c0_4], .slice A1 l1.length c1] w fun e w' => e = .returned (.bool r) ∧ Below w.heap.size w w' := by
  obtain rfl := Option.some.inj h
  clear h
  have HR1 := Aside0.mk hr1
  clear hr1 hr0_3 hr0_4
  have hu27 := Try.underlying27
  have hP := fun (W : World) (hB : w.heap.size < W.heap.size) (hc : W.cell? ⟨w.heap.size, 0, none⟩ = some (.int .i64 a0_0)) (hr : Kd.C (Kd.int .i64) W A1 l1.length l1) =>
    containsFunc_int _ 101 #[.pointer (some ⟨w.heap.size, 0, none⟩)] (enters_of Try.func101 (by kernel_rfl) rfl) A1 c1 l1 W (areIn_pred a0_0 w.heap.size W hB hc) hr
  generalize (l1.any fun n => !(inR n 0 (wrap64 (a0_0 - 1)))) = b at hP ⊢
  have HP := Aside0.mk hP
  clear hP
  go_enter Try.func67, Try.ntmps67
  go_wp2_with (go_at_call 77; refine (HP.out _ (by simp) (by simp) (Kd.C_below HR1.out ((Below.refl _ _).alloc (Nat.le_refl _) _))).mono ?_; rintro e w' ⟨rfl, q, rfl⟩)
  go_ret
  exact ⟨rfl, pw_below_drewN ((Below.refl _ _).alloc (Nat.le_refl _) _) _⟩

end Go.Proofs.Ytcppahkdfajcaaa.P
