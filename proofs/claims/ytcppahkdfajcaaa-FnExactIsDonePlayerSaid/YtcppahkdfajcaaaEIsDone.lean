/- IsDonePlayer of the program: what the Go text returns. -/
import Derived.Test.YtcppahkdfajcaaaEFunc
import Derived.Test.YtcppahkdfajcaaaP76
import Derived.Test.YtcppahkdfajcaaaP71
namespace Go.Proofs.Ytcppahkdfajcaaa.P
open Go.RowKit Go.Proofs.YtcppahkdfajcaaaW.PrintWords Go.Proofs.YtcppahkdfajcaaaW.PrintLast Go.Proofs.YtcppahkdfajcaaaW.PrintMore
set_option linter.unusedVariables false
set_option linter.unusedSimpArgs false

set_option maxHeartbeats 1000000 in
theorem isDone_pred (a : Int) (B : Nat) (w : World) (hB : B < w.heap.size) (hc : w.cell? ⟨B, 0, none⟩ = some (.int .i64 a)) :
    PredOk 78 #[.pointer (some ⟨B, 0, none⟩)] (fun n => decide (n < a)) w := by
  intro W x hb
  have hc' : W.cell? ⟨B, 0, none⟩ = some (.int .i64 a) := (hb.cell (p := ⟨B, 0, none⟩) hB).trans hc
  clear hc hb
  have hu27 := Try.underlying27
  show Calls Try.prog 78 #[.int .i64 x, .pointer (some ⟨B, 0, none⟩)] W fun e w' => e = .returned (.bool (decide (x < a))) ∧ ∃ q, w' = W.drewN q
  by_cases hx : x < a
  · have h1 : decide (x < a) = true := by simpa using hx
    rw [h1]
    clear hx
    go_enter Try.func78, Try.ntmps78
    go_wp2
    go_ret
    exact ⟨by first | rfl | simp [h1], 0, rfl⟩
  · have h1 : decide (x < a) = false := by simpa using hx
    rw [h1]
    clear hx
    go_enter Try.func78, Try.ntmps78
    go_wp2
    go_ret
    exact ⟨by first | rfl | simp [h1], 0, rfl⟩

def impl_IsDonePlayer.f (k : Nat) (a0_0 : Int) (a0_1 : Int) (a0_2 : Int) (l0_3 : List Int) (l0_4 : List Int) (l1 : List (List Int)) (a2 : Int) : Option (Bool × Bool) := (impl_isTracked.f k a0_0 a0_1 a0_2 l0_3 l0_4 l1).bind fun t => (if t = true then ((impl_Track_isPlayer.f a0_0 a0_1 a0_2 l0_3 l0_4 a2).bind fun u => (if u = true then (if 0 ≤ a2 then (if a2 < (l1.length : Int) then (some (!((rd_L1 l1 a2).any fun n => decide (n < a0_0)), true)) else none) else none) else (some (false, false)))) else (some (false, false)))
theorem impl_IsDonePlayer.mono : ∀ a0 a1 a2 a3 a4 a5 a6 k, LeO (impl_IsDonePlayer.f k a0 a1 a2 a3 a4 a5 a6) (impl_IsDonePlayer.f (k + 1) a0 a1 a2 a3 a4 a5 a6) := by
  intro a0 a1 a2 a3 a4 a5 a6 k
  unfold impl_IsDonePlayer.f
  repeat' first
      | (with_reducible exact impl_isTracked.mono _ _ _ _ _ _ _)
      | (with_reducible exact LeO.refl _)
      | (with_reducible exact LeO.none _)
      | (with_reducible refine LeO.ite ?_ ?_)
      | (with_reducible refine LeO.bind ?_ (fun _ => ?_))

def ThrBox (B : Nat) (a b c : Int) (A3 : Option Addr) (n3 c3 : Nat) (A4 : Option Addr) (n4 c4 : Nat) (W : World) : Prop :=
  W.heap[B]? = some (.cells #[.int .i64 a, .int .i64 b, .int .i64 c, .slice A3 n3 c3, .slice A4 n4 c4] 27 (0, 0))
theorem ThrBox.at {B : Nat} {a b c : Int} {A3 : Option Addr} {n3 c3 : Nat} {A4 : Option Addr} {n4 c4 : Nat} {W : World} (h : ThrBox B a b c A3 n3 c3 A4 n4 c4 W) :
    W.cell? ⟨B, 0, none⟩ = some (.int .i64 a) ∧ W.cell? ⟨B, 1, none⟩ = some (.int .i64 b) ∧ W.cell? ⟨B, 2, none⟩ = some (.int .i64 c) ∧ W.cell? ⟨B, 3, none⟩ = some (.slice A3 n3 c3) ∧ W.cell? ⟨B, 4, none⟩ = some (.slice A4 n4 c4) :=
  ⟨(blk_cell h 0).trans rfl, (blk_cell h 1).trans rfl, (blk_cell h 2).trans rfl, (blk_cell h 3).trans rfl, (blk_cell h 4).trans rfl⟩

set_option maxHeartbeats 4000000 in
set_option maxRecDepth 100000 in
theorem impl_IsDonePlayer.calls (k : Nat) (a0_0 : Int) (a0_1 : Int) (a0_2 : Int) (A0_3 : Option Addr) (c0_3 : Nat) (l0_3 : List Int) (A0_4 : Option Addr) (c0_4 : Nat) (l0_4 : List Int) (A1 : Option Addr) (c1 : Nat) (l1 : List (List Int)) (a2 : Int) (r1 : Bool) (r2 : Bool) (w : World) (hr0_3 : Kd.C (Kd.int .i64) w A0_3 l0_3.length l0_3) (hc0_3 : l0_3.length ≤ c0_3) (hr0_4 : Kd.C (Kd.int .i64) w A0_4 l0_4.length l0_4) (hc0_4 : l0_4.length ≤ c0_4) (hr1 : Kd.C (Kd.slice 3 (Kd.int .i64)) w A1 l1.length l1) (hc1 : l1.length ≤ c1) (h : impl_IsDonePlayer.f k a0_0 a0_1 a0_2 l0_3 l0_4 l1 a2 = some (r1, r2)) :
    Calls Try.prog 32 #[.agg #[.int .i64 a0_0, .int .i64 a0_1, .int .i64 a0_2, .slice A0_3 l0_3.length c0_3, .slice A0_4 l0_4.length c0_4], .slice A1 l1.length c1, .int .i64 a2] w fun e w' => e = .returned (.tuple #[.bool r1, .bool r2]) ∧ Below w.heap.size w w' := by
  have HR3 := Aside0.mk hr0_3
  have HR4 := Aside0.mk hr0_4
  have HR1 := Aside0.mk hr1
  have HC3 := Aside0.mk hc0_3
  have HC4 := Aside0.mk hc0_4
  have HC1 := Aside0.mk hc1
  clear hr0_3 hr0_4 hr1 hc0_3 hc0_4 hc1
  have hu27 := Try.underlying27
  have HB0 : Aside0 (∀ o, Below w.heap.size w (w.alloc o)) := ⟨fun o => (Below.refl _ _).alloc (Nat.le_refl _) o⟩
  unfold impl_IsDonePlayer.f at h
  obtain ⟨t, ht, h⟩ := Option.bind_eq_some_iff.1 h
  have HT := Aside0.mk ht
  clear ht
  cases t with
  | false =>
    rw [if_neg (by simp)] at h
    obtain ⟨rfl, rfl⟩ := Prod.mk.inj (Option.some.inj h)
    clear h
    go_enter Try.func32, Try.ntmps32
    go_wp2_with (go_at_call 76; (with_reducible refine (impl_isTracked.calls k a0_0 a0_1 a0_2 _ _ l0_3 _ _ l0_4 _ _ l1 false _ (Kd.C_below HR3.out (HB0.out _)) HC3.out (Kd.C_below HR4.out (HB0.out _)) HC4.out (Kd.C_below HR1.out (HB0.out _)) HC1.out HT.out).mono ?_); rintro e w1 ⟨rfl, hb1⟩; have HB1 := Aside0.mk (below_step (HB0.out _) hb1); clear hb1)
    go_ret2
    exact ⟨rfl, HB1.out⟩
  | true =>
    rw [if_pos rfl] at h
    obtain ⟨u, hu, h⟩ := Option.bind_eq_some_iff.1 h
    have HU := Aside0.mk hu
    clear hu
    cases u with
    | false =>
      rw [if_neg (by simp)] at h
      obtain ⟨rfl, rfl⟩ := Prod.mk.inj (Option.some.inj h)
      clear h
      go_enter Try.func32, Try.ntmps32
      go_wp2_with (first | (go_at_call 76; (with_reducible refine (impl_isTracked.calls k a0_0 a0_1 a0_2 _ _ l0_3 _ _ l0_4 _ _ l1 true _ (Kd.C_below HR3.out (HB0.out _)) HC3.out (Kd.C_below HR4.out (HB0.out _)) HC4.out (Kd.C_below HR1.out (HB0.out _)) HC1.out HT.out).mono ?_); rintro e w1 ⟨rfl, hb1⟩; have HB1 := Aside0.mk (below_step (HB0.out _) hb1); have HBOX1 := Aside0.mk (show ThrBox w.heap.size a0_0 a0_1 a0_2 A0_3 l0_3.length c0_3 A0_4 l0_4.length c0_4 w1 from blk_below (blk_new w _) hb1); clear hb1; obtain ⟨d0, d1, d2, d3, d4⟩ := HBOX1.out.at) | (go_at_call 71; (with_reducible refine (impl_Track_isPlayer.calls a0_0 a0_1 a0_2 _ _ l0_3 _ _ l0_4 a2 false _ (Kd.C_below HR3.out HB1.out) HC3.out (Kd.C_below HR4.out HB1.out) HC4.out HU.out).mono ?_); rintro e w2 ⟨rfl, hb2⟩; have HB2 := Aside0.mk (below_step HB1.out hb2); clear hb2))
      go_ret2
      exact ⟨rfl, HB2.out⟩
    | true =>
      rw [if_pos rfl] at h
      by_cases h0 : 0 ≤ a2
      case neg => rw [if_neg h0] at h; cases h
      rw [if_pos h0] at h
      by_cases h1 : a2 < (l1.length : Int)
      case neg => rw [if_neg h1] at h; cases h
      rw [if_pos h1] at h
      obtain ⟨rfl, rfl⟩ := Prod.mk.inj (Option.some.inj h)
      clear h
      obtain ⟨ad1, A7, c7, ea, hx7, hl7, hi7⟩ := at_L1 HR1.out a2 h0 h1
      cases ea
      have HX7 := Aside0.mk hx7
      generalize rd_L1 l1 a2 = row at HX7 hx7 hl7 hi7 ⊢
      clear hx7
      have HI7 := Aside0.mk hi7
      clear hi7
      have hP := fun (W : World) (hB : w.heap.size < W.heap.size) (hc : W.cell? ⟨w.heap.size, 0, none⟩ = some (.int .i64 a0_0)) (hr : Kd.C (Kd.int .i64) W A7 row.length row) =>
        containsFunc_int _ 78 #[.pointer (some ⟨w.heap.size, 0, none⟩)] (enters_of Try.func78 (by kernel_rfl) rfl) A7 c7 row W (isDone_pred a0_0 w.heap.size W hB hc) hr
      generalize (row.any fun n => decide (n < a0_0)) = b at hP ⊢
      have HP := Aside0.mk hP
      clear hP
      go_enter Try.func32, Try.ntmps32
      go_wp2_with (first | (go_at_call 76; (with_reducible refine (impl_isTracked.calls k a0_0 a0_1 a0_2 _ _ l0_3 _ _ l0_4 _ _ l1 true _ (Kd.C_below HR3.out (HB0.out _)) HC3.out (Kd.C_below HR4.out (HB0.out _)) HC4.out (Kd.C_below HR1.out (HB0.out _)) HC1.out HT.out).mono ?_); rintro e w1 ⟨rfl, hb1⟩; have HB1 := Aside0.mk (below_step (HB0.out _) hb1); have HBOX1 := Aside0.mk (show ThrBox w.heap.size a0_0 a0_1 a0_2 A0_3 l0_3.length c0_3 A0_4 l0_4.length c0_4 w1 from blk_below (blk_new w _) hb1); clear hb1; obtain ⟨d0, d1, d2, d3, d4⟩ := HBOX1.out.at) | (go_at_call 71; (with_reducible refine (impl_Track_isPlayer.calls a0_0 a0_1 a0_2 _ _ l0_3 _ _ l0_4 a2 true _ (Kd.C_below HR3.out HB1.out) HC3.out (Kd.C_below HR4.out HB1.out) HC4.out HU.out).mono ?_); rintro e w2 ⟨rfl, hb2⟩; have HB2 := Aside0.mk (below_step HB1.out hb2); have HBOX2 := Aside0.mk (show ThrBox w.heap.size a0_0 a0_1 a0_2 A0_3 l0_3.length c0_3 A0_4 l0_4.length c0_4 w2 from blk_below HBOX1.out hb2); clear hb2; have hx7 := (HB2.out.cell (World.block_lt_of_cell? w _ HX7.out)).trans HX7.out) | (go_at_call 77; refine (HP.out _ (blk_lt HBOX2.out) HBOX2.out.at.1 (Kd.C_below HI7.out HB2.out)).mono ?_; rintro e w3 ⟨rfl, q, rfl⟩))
      go_ret2
      exact ⟨rfl, pw_below_drewN HB2.out _⟩

end Go.Proofs.Ytcppahkdfajcaaa.P
