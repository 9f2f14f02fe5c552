/- IsPuzzle of the program: what the Go text returns. No condition. -/
import Derived.Test.YtifgjihjcloloaaEFuncClue
import Derived.Test.YtifgjihjcloloaaQClue
import Derived.Test.YtifgjihjcloloaaP91
import Derived.Test.YtifgjihjcloloaaEIsClue
namespace Go.Proofs.Ytifgjihjcloloaa.P
open Go.RowKit Go.Proofs.YtifgjihjcloloaaW.PrintWords Go.Proofs.YtifgjihjcloloaaW.PrintLast Go.Proofs.YtifgjihjcloloaaW.PrintMore
set_option linter.unusedVariables false
set_option linter.unusedSimpArgs false
open Go.Proofs.Ytifgjihjcloloaa.Q

def noClue (s f : Int) (c : S28) : Bool := !(sizeB s f && clueB s f c.f0 c.f1 c.f2 c.f3)

set_option maxHeartbeats 1000000 in
theorem isPuzzle_pred (s f : Int) (v : Value) (B : Nat) (w : World) (hc : w.heap[B]? = some (.cells #[.int .i64 s, .int .i64 f, v] 42 (0, 0))) :
    PredOkC 86 #[.pointer (some ⟨B, 0, none⟩)] (noClue s f) w := by
  intro W x hb
  have hc' : W.heap[B]? = some (.cells #[.int .i64 s, .int .i64 f, v] 42 (0, 0)) := blk_below hc hb
  clear hc hb
  have hc0 : W.cell? ⟨B, 0, none⟩ = some (.int .i64 s) := (blk_cell hc' 0).trans rfl
  have hc1 : W.cell? ⟨B, 1, none⟩ = some (.int .i64 f) := (blk_cell hc' 1).trans rfl
  clear hc'
  have hu27 := Try.underlying42
  have hu28 := Try.underlying28
  have HW := Aside0.mk (isClue_val s f x.f0 x.f1 x.f2 x.f3)
  unfold noClue
  show Calls Try.prog 86 #[.agg #[.int .i64 x.f0, .int .i64 x.f1, .int .i64 x.f2, .int .i64 x.f3], .pointer (some ⟨B, 0, none⟩)] W fun e w' => e = .returned (.bool (!(sizeB s f && clueB s f x.f0 x.f1 x.f2 x.f3))) ∧ Below W.heap.size W w'
  generalize (sizeB s f && clueB s f x.f0 x.f1 x.f2 x.f3) = b at HW ⊢
  have hl0 := World.block_lt_of_cell? W _ hc0
  have HA0 := Aside0.mk (fun o => (((Below.refl _ _).alloc (Nat.le_refl W.heap.size) o).cell hl0).trans hc0)
  have HA1 := Aside0.mk (fun o => (((Below.refl _ _).alloc (Nat.le_refl W.heap.size) o).cell (World.block_lt_of_cell? W _ hc1)).trans hc1)
  have ha0 : ∀ o, (W.alloc o).cell? ⟨B, 0, none⟩ = some (.int .i64 s) := HA0.out
  have ha1 : ∀ o, (W.alloc o).cell? ⟨B, 1, none⟩ = some (.int .i64 f) := HA1.out
  clear hl0
  go_enter Try.func86, Try.ntmps86
  go_wp2_with (go_at_call 23; refine (impl_IsClue.calls s f x.f0 x.f1 x.f2 x.f3 b _ HW.out).mono ?_; rintro e w' ⟨rfl, hb1⟩; have HB1 := Aside0.mk (below_step ((Below.refl _ _).alloc (Nat.le_refl _) _) hb1); clear hb1)
  go_ret
  exact ⟨rfl, HB1.out⟩

def impl_IsPuzzle.f (a0_0 : Int) (a0_1 : Int) (l0_2 : List S28) : Option (Bool) := some (sizeB a0_0 a0_1 && (decide ((l0_2.length : Int) ≤ 6) && !(l0_2.any (noClue a0_0 a0_1))))
set_option maxHeartbeats 1000000 in
theorem impl_IsPuzzle.calls (a0_0 : Int) (a0_1 : Int) (A0_2 : Option Addr) (c0_2 : Nat) (l0_2 : List S28) (r : Bool) (w : World) (hr0_2 : Kd.C k28 w A0_2 l0_2.length l0_2) (hc0_2 : l0_2.length ≤ c0_2) (h : impl_IsPuzzle.f a0_0 a0_1 l0_2 = some r) :
    Calls Try.prog 34 #[.agg #[.int .i64 a0_0, .int .i64 a0_1, .slice A0_2 l0_2.length c0_2]] w fun e w' => e = .returned (.bool r) ∧ Below w.heap.size w w' := by
  obtain rfl := Option.some.inj h
  clear h
  have HR1 := Aside0.mk hr0_2
  clear hr0_2
  have hu27 := Try.underlying42
  have HS := Aside0.mk (isHid_eq a0_0 a0_1)
  have hP := fun (W : World) (hc : W.heap[w.heap.size]? = some (.cells #[.int .i64 a0_0, .int .i64 a0_1, .slice A0_2 l0_2.length c0_2] 42 (0, 0))) (hr : Kd.C k28 W A0_2 l0_2.length l0_2) =>
    containsFunc_clue _ 86 #[.pointer (some ⟨w.heap.size, 0, none⟩)] (enters_of Try.func86 (by kernel_rfl) rfl) A0_2 c0_2 l0_2 W (isPuzzle_pred a0_0 a0_1 _ w.heap.size W hc) hr
  cases hs : sizeB a0_0 a0_1 with
  | false =>
    rw [hs] at HS
    rw [Bool.false_and]
    clear hP
    go_enter Try.func34, Try.ntmps34
    go_wp2_with (go_at_call 70; refine (impl_areHidden.calls _ _ _ _ HS.out).mono ?_; rintro e w' ⟨rfl, ⟨nd, rfl⟩⟩)
    go_ret
    exact ⟨rfl, by repeat (first | (with_reducible exact Below.refl _ _) | apply below_alloc | apply pw_below_drewN)⟩
  | true =>
    rw [hs] at HS
    rw [Bool.true_and]
    clear hs
    by_cases hl : (l0_2.length : Int) ≤ 6
    case neg =>
      have h1 : decide ((l0_2.length : Int) ≤ 6) = false := decide_eq_false hl
      rw [h1, Bool.false_and]
      clear hl hP
      go_enter Try.func34, Try.ntmps34
      go_wp2_with (go_at_call 70; refine (impl_areHidden.calls _ _ _ _ HS.out).mono ?_; rintro e w' ⟨rfl, ⟨nd, rfl⟩⟩)
      go_ret
      exact ⟨rfl, by repeat (first | (with_reducible exact Below.refl _ _) | apply below_alloc | apply pw_below_drewN)⟩
    have h1 : decide ((l0_2.length : Int) ≤ 6) = true := decide_eq_true hl
    rw [h1, Bool.true_and]
    clear hl
    generalize (l0_2.any (noClue a0_0 a0_1)) = b at hP ⊢
    have HP := Aside0.mk hP
    clear hP
    go_enter Try.func34, Try.ntmps34
    go_wp2_with (first | (go_at_call 70; refine (impl_areHidden.calls _ _ _ _ HS.out).mono ?_; rintro e w' ⟨rfl, ⟨nd, rfl⟩⟩) | (go_at_call 85; refine (HP.out _ (by show (w.heap.push _)[w.heap.size]? = _; simp) (Kd.C_below HR1.out (by repeat (first | (with_reducible exact Below.refl _ _) | apply below_alloc | apply pw_below_drewN)))).mono ?_; rintro e w' ⟨rfl, hb1⟩; have HB1 := Aside0.mk (below_step (show Below w.heap.size w _ from by repeat (first | apply below_alloc | apply pw_below_drewN | (with_reducible exact Below.refl _ _))) hb1); clear hb1))
    go_ret
    exact ⟨rfl, HB1.out⟩

end Go.Proofs.Ytifgjihjcloloaa.P
