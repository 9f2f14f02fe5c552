-- written for this claim by a program of this session (wip/tools/xprint.py), which runs the kit's print with other cuts
import Derived.Test.YtphjhfpeomifiaaP
import Derived.Test.YtphjhfpeomifiaaEByW
import Derived.Test.YtphjhfpeomifiaaESGaByW
import Derived.Test.YtphjhfpeomifiaaP44
import Derived.Test.YtphjhfpeomifiaaP45
import Derived.Test.YtphjhfpeomifiaaP46
import Derived.Test.YtphjhfpeomifiaaP48
import Derived.Test.YtphjhfpeomifiaaP57
import Derived.Test.YtphjhfpeomifiaaP66
import Derived.Test.YtphjhfpeomifiaaP79
namespace Go.Proofs.Ytphjhfpeomifiaa.P
open Go.RowKit Go.Proofs.YtphjhfpeomifiaaW.PrintWords Go.Proofs.YtphjhfpeomifiaaW.PrintLast Go.Proofs.YtphjhfpeomifiaaW.PrintMore
attribute [local go_sem] max2_int min2_int max_two min_two max_three min_three max_four min_four   -- for this text's walks alone
set_option linter.unusedVariables false
set_option linter.unusedSimpArgs false

/-! ### spec_AverageJumps: function 40 -/
mutual
def spec_AverageJumps.j0 : Nat → Int → Bool → Int → Int → Int → List (S70) → Option (Int × Int × Bool)
 | 0, _, _, _, _, _, _ => none
 | k + 1, x1, x23, x712000, x712001, x712002, x712003 => if x23 = true then (some (0, 0, false)) else ((spec_gaBy.f k x712000 x712001 x712002 x712003 x1).bind fun t717 => (spec_AverageJumps.l0 k x1 0 t717 (t717.length : Int) 0 x712000 x712001 x712002 x712003))
def spec_AverageJumps.l0 : Nat → Int → Int → List Int → Int → Int → Int → Int → Int → List (S70) → Option (Int × Int × Bool)
 | 0, _, _, _, _, _, _, _, _, _ => none
 | k + 1, x1, x7, x26, x27, x28, x712000, x712001, x712002, x712003 => if x28 < x27 then (if 0 ≤ x28 then (if x28 < (x26.length : Int) then (spec_AverageJumps.l0 k x1 (wrap64 (x7 + (wrap64 (x28 * (rd x26 x28))))) x26 x27 (wrap64 (x28 + 1)) x712000 x712001 x712002 x712003) else (none)) else (none)) else ((spec_gaCounts.f k x712000 x712001 x712002 x712003 x1).bind fun t721 => (if 0 < (t721.length : Int) then ((spec_chLow.f k x7 (rd t721 0)).bind fun bt725 => (some (bt725.1, bt725.2, true))) else (none)))
end
def spec_AverageJumps.f (k : Nat) (a0_0 : Int) (a0_1 : Int) (a0_2 : Int) (l0_3 : List (S70)) (a1 : Int) : Option (Int × Int × Bool) := (spec_gaAsked.f k a0_0 a0_1 a0_2 l0_3 a1).bind fun t712 => (if t712 = true then ((spec_gaCounts.f k a0_0 a0_1 a0_2 l0_3 a1).bind fun t713 => (if 0 < (t713.length : Int) then (spec_AverageJumps.j0 k a1 ((rd t713 0) == 0) a0_0 a0_1 a0_2 l0_3) else (none))) else (spec_AverageJumps.j0 k a1 true a0_0 a0_1 a0_2 l0_3))
theorem spec_AverageJumps.mono_l : ∀ k, (∀ y0 y1 y2 y3 y4 y5, LeO (spec_AverageJumps.j0 k y0 y1 y2 y3 y4 y5) (spec_AverageJumps.j0 (k + 1) y0 y1 y2 y3 y4 y5)) ∧ (∀ y0 y1 y2 y3 y4 y5 y6 y7 y8, LeO (spec_AverageJumps.l0 k y0 y1 y2 y3 y4 y5 y6 y7 y8) (spec_AverageJumps.l0 (k + 1) y0 y1 y2 y3 y4 y5 y6 y7 y8))
 | 0 => ⟨fun _ _ _ _ _ _ r h => by simp [spec_AverageJumps.j0] at h, fun _ _ _ _ _ _ _ _ _ r h => by simp [spec_AverageJumps.l0] at h⟩
 | k + 1 => by
  obtain ⟨ih0, ih1⟩ := spec_AverageJumps.mono_l k
  refine ⟨?_, ?_⟩
  ·intro y0 y1 y2 y3 y4 y5
   unfold spec_AverageJumps.j0
   repeat' first
   | (with_reducible exact ih0 _ _ _ _ _ _)
   | (with_reducible exact ih1 _ _ _ _ _ _ _ _ _)
   | (with_reducible exact spec_chLow.mono _ _ _)
   | (with_reducible exact spec_gaAsked.mono _ _ _ _ _ _)
   | (with_reducible exact spec_gaBy.mono _ _ _ _ _ _)
   | (with_reducible exact spec_gaCounts.mono _ _ _ _ _ _)
   | (with_reducible exact LeO.refl _)
   | (with_reducible exact LeO.none _)
   | (with_reducible refine LeO.ite ?_ ?_)
   | (with_reducible refine LeO.bind ?_ (fun _ => ?_))
   | exact ih0 _ _ _ _ _ _
   | exact ih1 _ _ _ _ _ _ _ _ _
   | exact spec_chLow.mono _ _ _
   | exact spec_gaAsked.mono _ _ _ _ _ _
   | exact spec_gaBy.mono _ _ _ _ _ _
   | exact spec_gaCounts.mono _ _ _ _ _ _
   | exact LeO.none _
   | refine LeO.ite ?_ ?_
   | refine LeO.bind ?_ (fun _ => ?_)
  ·intro y0 y1 y2 y3 y4 y5 y6 y7 y8
   unfold spec_AverageJumps.l0
   repeat' first
   | (with_reducible exact ih0 _ _ _ _ _ _)
   | (with_reducible exact ih1 _ _ _ _ _ _ _ _ _)
   | (with_reducible exact spec_chLow.mono _ _ _)
   | (with_reducible exact spec_gaAsked.mono _ _ _ _ _ _)
   | (with_reducible exact spec_gaBy.mono _ _ _ _ _ _)
   | (with_reducible exact spec_gaCounts.mono _ _ _ _ _ _)
   | (with_reducible exact LeO.refl _)
   | (with_reducible exact LeO.none _)
   | (with_reducible refine LeO.ite ?_ ?_)
   | (with_reducible refine LeO.bind ?_ (fun _ => ?_))
   | exact ih0 _ _ _ _ _ _
   | exact ih1 _ _ _ _ _ _ _ _ _
   | exact spec_chLow.mono _ _ _
   | exact spec_gaAsked.mono _ _ _ _ _ _
   | exact spec_gaBy.mono _ _ _ _ _ _
   | exact spec_gaCounts.mono _ _ _ _ _ _
   | exact LeO.none _
   | refine LeO.ite ?_ ?_
   | refine LeO.bind ?_ (fun _ => ?_)
theorem spec_AverageJumps.mono : ∀ a0 a1 a2 a3 a4 k, LeO (spec_AverageJumps.f k a0 a1 a2 a3 a4) (spec_AverageJumps.f (k + 1) a0 a1 a2 a3 a4) := by
 intro a0 a1 a2 a3 a4 k
 obtain ⟨ih0, ih1⟩ := spec_AverageJumps.mono_l k
 unfold spec_AverageJumps.f
 repeat' first
   | (with_reducible exact ih0 _ _ _ _ _ _)
   | (with_reducible exact ih1 _ _ _ _ _ _ _ _ _)
   | (with_reducible exact spec_chLow.mono _ _ _)
   | (with_reducible exact spec_gaAsked.mono _ _ _ _ _ _)
   | (with_reducible exact spec_gaBy.mono _ _ _ _ _ _)
   | (with_reducible exact spec_gaCounts.mono _ _ _ _ _ _)
   | (with_reducible exact LeO.refl _)
   | (with_reducible exact LeO.none _)
   | (with_reducible refine LeO.ite ?_ ?_)
   | (with_reducible refine LeO.bind ?_ (fun _ => ?_))
   | exact ih0 _ _ _ _ _ _
   | exact ih1 _ _ _ _ _ _ _ _ _
   | exact spec_chLow.mono _ _ _
   | exact spec_gaAsked.mono _ _ _ _ _ _
   | exact spec_gaBy.mono _ _ _ _ _ _
   | exact spec_gaCounts.mono _ _ _ _ _ _
   | exact LeO.none _
   | refine LeO.ite ?_ ?_
   | refine LeO.bind ?_ (fun _ => ?_)
set_option maxHeartbeats 8000000 in
set_option maxRecDepth 100000 in
theorem spec_AverageJumps.calls (k : Nat) (a0_0 : Int) (a0_1 : Int) (a0_2 : Int) (A0_3 : Option Addr) (c0_3 : Nat) (l0_3 : List (S70)) (a1 : Int) (r1 : Int) (r2 : Int) (r3 : Bool) (w : World) (hr0_3 : Kd.C k70 w A0_3 l0_3.length l0_3) (hc0_3 : l0_3.length ≤ c0_3) (h : spec_AverageJumps.f k a0_0 a0_1 a0_2 l0_3 a1 = some (r1, r2, r3)) :
  Calls Try.prog 40 #[.agg #[.int .i64 a0_0, .int .i64 a0_1, .int .i64 a0_2, .slice A0_3 l0_3.length c0_3], .int .i64 a1] w fun e w' => e = .returned (.tuple #[.int .i64 r1, .int .i64 r2, .bool r3]) ∧ Below w.heap.size w w' := by
 have hu30 := Try.underlying30
 have HR0_3 := Aside0.mk hr0_3
 have HC0_3 := Aside0.mk hc0_3
 clear hr0_3 hc0_3
 have HB := Aside0.mk (Below.refl w.heap.size w)
 have H : ((spec_gaAsked.f k a0_0 a0_1 a0_2 l0_3 a1).bind fun t712 => (if t712 = true then ((spec_gaCounts.f k a0_0 a0_1 a0_2 l0_3 a1).bind fun t713 => (if 0 < (t713.length : Int) then (spec_AverageJumps.j0 k a1 ((rd t713 0) == 0) a0_0 a0_1 a0_2 l0_3) else (none))) else (spec_AverageJumps.j0 k a1 true a0_0 a0_1 a0_2 l0_3))) = some (r1, r2, r3) := h
 clear h
 have HC3 := Aside0.mk H
 clear H
 go_enter Try.func40, Try.ntmps40
 go_upto_region 1 with (first | ((with_reducible refine gate_dst (N := 2) rfl ?_); refine box_event ?hg (N := 2) ?hd (cs := #[.int .i64 a0_0, .int .i64 a0_1, .int .i64 a0_2, .slice A0_3 l0_3.length c0_3]) (t := 30) ?hr ?_; (case hd => rfl); (case hg => rfl); (case hr => first | (go_simp; done) | (go_simp; rfl)); intro gb711 hg w4 hbox hb; have n0_ := Aside0.mk (below_step hb_ hb); have n1_ := Aside0.mk (hbox); have n2_ := Aside0.mk ((by rw [hg]; exact (below_size hb_) : w.heap.size ≤ gb711)); have n3_ := Aside0.mk ((by rw [hg]; exact (below_size hb_) : w.heap.size ≤ gb711)); clear HB; have HB := n0_; have BK711 := n1_; have GW711 := n2_; have GE711 := n3_; clear n0_ n1_ n2_ n3_; clear hb hbox hg))
 (try simp only [Act.put, List.setIfInBounds_toArray, List.set_cons_zero, List.set_cons_succ])
 go_cut [23] (fun v23 wc => ∃ (kq : Nat) (x23_2 : Bool), v23 = .bool x23_2 ∧ Aside0 (spec_AverageJumps.j0 kq a1 x23_2 a0_0 a0_1 a0_2 l0_3 = some (r1, r2, r3)) ∧ Aside0 (kq ≤ k) ∧ Aside0 (wc.heap[gb711]? = some (.cells #[.int .i64 a0_0, .int .i64 a0_1, .int .i64 a0_2, (.slice A0_3 l0_3.length c0_3)] 30 (0, 0))) ∧ Aside0 (Below w.heap.size w wc))
 case first =>
  have H := HC3.out
  clear HC3
  replace H := Option.bind_eq_some_iff.mp H
  obtain ⟨t712, A50, H⟩ := H
  replace H : (if t712 = true then ((spec_gaCounts.f k a0_0 a0_1 a0_2 l0_3 a1).bind fun t713 => (if 0 < (t713.length : Int) then (spec_AverageJumps.j0 k a1 ((rd t713 0) == 0) a0_0 a0_1 a0_2 l0_3) else (none))) else (spec_AverageJumps.j0 k a1 true a0_0 a0_1 a0_2 l0_3)) = some (r1, r2, r3) := H
  have A5 := Aside0.mk A50
  clear A50
  by_cases c6 : t712 = true
  ·subst c6
   have H1 : ((spec_gaCounts.f k a0_0 a0_1 a0_2 l0_3 a1).bind fun t713 => (if 0 < (t713.length : Int) then (spec_AverageJumps.j0 k a1 ((rd t713 0) == 0) a0_0 a0_1 a0_2 l0_3) else (none))) = some (r1, r2, r3) := by rw [if_pos rfl] at H; exact H
   clear H
   have H := H1
   clear H1
   replace H := Option.bind_eq_some_iff.mp H
   obtain ⟨t713, A70, H⟩ := H
   replace H : (if 0 < (t713.length : Int) then (spec_AverageJumps.j0 k a1 ((rd t713 0) == 0) a0_0 a0_1 a0_2 l0_3) else (none)) = some (r1, r2, r3) := H
   have A7 := Aside0.mk A70
   clear A70
   by_cases c8 : 0 < (t713.length : Int)
   ·rw [if_pos c8] at H
    have c8b0 : decide (0 < (t713.length : Int)) = true := decide_eq_true c8
    have c8b1 : decide (0 < t713.length) = true := decide_eq_true (by omega)
    clear c8
    (first | rw [c8b0] | (simp only [i64_w, i32_w]; rw [c8b0]) | skip)
    have H' := Aside0.mk H
    clear H
    have hcz9_0 : w4.cell? ⟨gb711, 0, none⟩ = some (.int .i64 a0_0) := (blk_cell BK711.out 0).trans rfl
    have hcz9_1 : w4.cell? ⟨gb711, 1, none⟩ = some (.int .i64 a0_1) := (blk_cell BK711.out 1).trans rfl
    have hcz9_2 : w4.cell? ⟨gb711, 2, none⟩ = some (.int .i64 a0_2) := (blk_cell BK711.out 2).trans rfl
    have hcz9_3 : w4.cell? ⟨gb711, 3, none⟩ = some (.slice A0_3 l0_3.length c0_3) := (blk_cell BK711.out 3).trans rfl
    have hfz9_0 := blk_frozen BK711.out 0
    have hfz9_1 := blk_frozen BK711.out 1
    have hfz9_2 := blk_frozen BK711.out 2
    have hfz9_3 := blk_frozen BK711.out 3
    go_wp2_with (first | ((with_reducible refine gate_callee (f := 45) rfl ?_); refine goesL_ (some 14) rfl rfl Try.func45 (by kernel_rfl) rfl #[.agg #[.int .i64 a0_0, .int .i64 a0_1, .int .i64 a0_2, .slice A0_3 l0_3.length c0_3], .int .i64 a1] rfl (by (try simp only [List.map_toArray, List.map_cons, List.map_nil]); first | done | rfl | (simp only [List.length_drop, List.length_take]; rfl)) ?_; (with_reducible refine (spec_gaAsked.calls k a0_0 a0_1 a0_2 _ _ l0_3 a1 true _ ?side1 ?side2 A5.out).mono ?_); (case side1 => exact Kd.C_below HR0_3.out hb_); (case side2 => exact HC0_3.out); rintro e w10 ⟨rfl, hb⟩; refine ⟨_, rfl, ?_⟩; have n0_ := Aside0.mk (blk_below (g := gb711) (o := .cells #[.int .i64 a0_0, .int .i64 a0_1, .int .i64 a0_2, .slice A0_3 l0_3.length c0_3] 30 (0, 0)) (by (with_reducible repeat (first | refine blk_drewN ?_ _ | refine blk_drew ?_ | refine blk_alloc ?_ _)); exact BK711.out) hb); have n1_ := Aside0.mk (below_step hb_ hb); clear BK711; clear HB; have BK711 := n0_; have HB := n1_; clear n0_ n1_; (try clear hb); (try clear hb2); (try clear hk); (try clear hi); have hcz11_0 : w10.cell? ⟨gb711, 0, none⟩ = some (.int .i64 a0_0) := (blk_cell BK711.out 0).trans rfl; have hcz11_1 : w10.cell? ⟨gb711, 1, none⟩ = some (.int .i64 a0_1) := (blk_cell BK711.out 1).trans rfl; have hcz11_2 : w10.cell? ⟨gb711, 2, none⟩ = some (.int .i64 a0_2) := (blk_cell BK711.out 2).trans rfl; have hcz11_3 : w10.cell? ⟨gb711, 3, none⟩ = some (.slice A0_3 l0_3.length c0_3) := (blk_cell BK711.out 3).trans rfl; have hfz11_0 := blk_frozen BK711.out 0; have hfz11_1 := blk_frozen BK711.out 1; have hfz11_2 := blk_frozen BK711.out 2; have hfz11_3 := blk_frozen BK711.out 3) | (go_at_call 46; (with_reducible refine (spec_gaCounts.calls k a0_0 a0_1 a0_2 _ _ l0_3 a1 t713 _ ?side1 ?side2 A7.out).mono ?_); (case side1 => exact Kd.C_below HR0_3.out hb_); (case side2 => exact HC0_3.out); rintro e w12 ⟨v714, rfl, ho0, hb⟩; have n0_ := Aside0.mk (Kd.R_lower ho0 (below_size hb_)); have n1_ := Aside0.mk (blk_below (g := gb711) (o := .cells #[.int .i64 a0_0, .int .i64 a0_1, .int .i64 a0_2, .slice A0_3 l0_3.length c0_3] 30 (0, 0)) (by (with_reducible repeat (first | refine blk_drewN ?_ _ | refine blk_drew ?_ | refine blk_alloc ?_ _)); exact BK711.out) hb); have n2_ := Aside0.mk (below_step hb_ hb); clear BK711; clear HB; have HO715 := n0_; have BK711 := n1_; have HB := n2_; clear n0_ n1_ n2_; (try clear hb); (try clear hb2); (try clear hk); (try clear hi); (try clear ho0); obtain ⟨Ao13, co13, eo13⟩ := Kd.R_slice HO715.out; subst eo13; have p716 : 0 ≤ (0 : Int) := (by omega); have q716 : 0 < (t713.length : Int) := of_decide_eq_true (by first | (with_reducible assumption) | assumption); obtain ⟨ad716, e716, hx716_0⟩ := Kd.at_int (Kd.R_reads' HO715.out).2.2 0 p716 q716; cases e716; have qi716 : (0 < t713.length) = True := eq_true (by omega); (try rw [show ((0 : Int)).toNat = 0 from rfl] at hx716_0); (try rw [Addr.add_zero'] at hx716_0); replace p716 := eq_true p716; replace q716 := eq_true q716))
    go_meet
    case rel => exact ⟨_, (((rd t713 0) == 0)), (by first | rfl | (simp; done) | (simp [*]; done)), H', ⟨by first | omega | exact Nat.le_refl _⟩, ⟨by (with_reducible repeat (first | refine blk_drewN ?_ _ | refine blk_drew ?_ | refine blk_alloc ?_ _)); exact BK711.out⟩, ⟨hb_⟩⟩
   ·rw [if_neg c8] at H
    exact absurd H (by simp)
  ·replace c6 := Bool.eq_false_iff.mpr c6
   subst c6
   have H1 : (spec_AverageJumps.j0 k a1 true a0_0 a0_1 a0_2 l0_3) = some (r1, r2, r3) := by rw [if_neg (show ¬ (false = true) by decide)] at H; exact H
   clear H
   have H := H1
   clear H1
   have H' := Aside0.mk H
   clear H
   have hcz14_0 : w4.cell? ⟨gb711, 0, none⟩ = some (.int .i64 a0_0) := (blk_cell BK711.out 0).trans rfl
   have hcz14_1 : w4.cell? ⟨gb711, 1, none⟩ = some (.int .i64 a0_1) := (blk_cell BK711.out 1).trans rfl
   have hcz14_2 : w4.cell? ⟨gb711, 2, none⟩ = some (.int .i64 a0_2) := (blk_cell BK711.out 2).trans rfl
   have hcz14_3 : w4.cell? ⟨gb711, 3, none⟩ = some (.slice A0_3 l0_3.length c0_3) := (blk_cell BK711.out 3).trans rfl
   have hfz14_0 := blk_frozen BK711.out 0
   have hfz14_1 := blk_frozen BK711.out 1
   have hfz14_2 := blk_frozen BK711.out 2
   have hfz14_3 := blk_frozen BK711.out 3
   go_wp2_with (first | ((with_reducible refine gate_callee (f := 45) rfl ?_); refine goesL_ (some 14) rfl rfl Try.func45 (by kernel_rfl) rfl #[.agg #[.int .i64 a0_0, .int .i64 a0_1, .int .i64 a0_2, .slice A0_3 l0_3.length c0_3], .int .i64 a1] rfl (by (try simp only [List.map_toArray, List.map_cons, List.map_nil]); first | done | rfl | (simp only [List.length_drop, List.length_take]; rfl)) ?_; (with_reducible refine (spec_gaAsked.calls k a0_0 a0_1 a0_2 _ _ l0_3 a1 false _ ?side1 ?side2 A5.out).mono ?_); (case side1 => exact Kd.C_below HR0_3.out hb_); (case side2 => exact HC0_3.out); rintro e w15 ⟨rfl, hb⟩; refine ⟨_, rfl, ?_⟩; have n0_ := Aside0.mk (blk_below (g := gb711) (o := .cells #[.int .i64 a0_0, .int .i64 a0_1, .int .i64 a0_2, .slice A0_3 l0_3.length c0_3] 30 (0, 0)) (by (with_reducible repeat (first | refine blk_drewN ?_ _ | refine blk_drew ?_ | refine blk_alloc ?_ _)); exact BK711.out) hb); have n1_ := Aside0.mk (below_step hb_ hb); clear BK711; clear HB; have BK711 := n0_; have HB := n1_; clear n0_ n1_; (try clear hb); (try clear hb2); (try clear hk); (try clear hi)))
   go_meet
   case rel => exact ⟨_, (true), (by first | rfl | (simp; done) | (simp [*]; done)), H', ⟨by first | omega | exact Nat.le_refl _⟩, ⟨by (with_reducible repeat (first | refine blk_drewN ?_ _ | refine blk_drew ?_ | refine blk_alloc ?_ _)); exact BK711.out⟩, ⟨hb_⟩⟩
 case rest =>
  clear HC3
  try clear p2
  try clear c4
  try clear c6
  try clear p7
  try clear q7
  try clear hx7
  try clear qi7
  try clear c8
  try clear c8b0
  try clear c8b1
  try clear hcz11_0
  try clear hcz11_1
  try clear hcz11_2
  try clear hcz11_3
  try clear hcz14_0
  try clear hcz14_1
  try clear hcz14_2
  try clear hcz14_3
  try clear hcz9_0
  try clear hcz9_1
  try clear hcz9_2
  try clear hcz9_3
  try clear hfz11_0
  try clear hfz11_1
  try clear hfz11_2
  try clear hfz11_3
  try clear hfz14_0
  try clear hfz14_1
  try clear hfz14_2
  try clear hfz14_3
  try clear hfz9_0
  try clear hfz9_1
  try clear hfz9_2
  try clear hfz9_3
  try clear hx716_0
  try clear p716
  try clear q716
  obtain ⟨kq, x23_2, rfl, HA, HJ2, BK711, HB⟩ := hcut
  cases kq with
  | zero => exact absurd HA.out (by simp [spec_AverageJumps.j0])
  | succ kj2 =>
   have H := HA.out
   clear HA
   simp only [spec_AverageJumps.j0] at H
   by_cases c16 : x23_2 = true
   ·subst c16
    have H1 : (some (0, 0, false)) = some (r1, r2, r3) := by rw [if_pos rfl] at H; exact H
    clear H
    have H := H1
    clear H1
    simp only [Option.some.injEq, Prod.mk.injEq] at H
    obtain ⟨rfl, rfl, rfl⟩ := H
    go_wp2
    go_ret3
    exact ⟨by first | rfl | (simp [errW_none, errW_some] <;> rfl) | (simp [*, errW_none, errW_some] <;> rfl), hb_⟩
   ·replace c16 := Bool.eq_false_iff.mpr c16
    subst c16
    have H1 : ((spec_gaBy.f kj2 a0_0 a0_1 a0_2 l0_3 a1).bind fun t717 => (spec_AverageJumps.l0 kj2 a1 0 t717 (t717.length : Int) 0 a0_0 a0_1 a0_2 l0_3)) = some (r1, r2, r3) := by rw [if_neg (show ¬ (false = true) by decide)] at H; exact H
    clear H
    have H := H1
    clear H1
    replace H := Option.bind_eq_some_iff.mp H
    obtain ⟨t717, A170, H⟩ := H
    replace H : (spec_AverageJumps.l0 kj2 a1 0 t717 (t717.length : Int) 0 a0_0 a0_1 a0_2 l0_3) = some (r1, r2, r3) := H
    have A17 := Aside0.mk A170
    clear A170
    have H' := Aside0.mk H
    clear H
    have hcz18_0 : wc.cell? ⟨gb711, 0, none⟩ = some (.int .i64 a0_0) := (blk_cell BK711.out 0).trans rfl
    have hcz18_1 : wc.cell? ⟨gb711, 1, none⟩ = some (.int .i64 a0_1) := (blk_cell BK711.out 1).trans rfl
    have hcz18_2 : wc.cell? ⟨gb711, 2, none⟩ = some (.int .i64 a0_2) := (blk_cell BK711.out 2).trans rfl
    have hcz18_3 : wc.cell? ⟨gb711, 3, none⟩ = some (.slice A0_3 l0_3.length c0_3) := (blk_cell BK711.out 3).trans rfl
    have hfz18_0 := blk_frozen BK711.out 0
    have hfz18_1 := blk_frozen BK711.out 1
    have hfz18_2 := blk_frozen BK711.out 2
    have hfz18_3 := blk_frozen BK711.out 3
    go_wp2_with (first | ((with_reducible refine gate_callee (f := 52) rfl ?_); refine goesL_ (some 26) rfl rfl Try.func52 (by kernel_rfl) rfl #[.agg #[.int .i64 a0_0, .int .i64 a0_1, .int .i64 a0_2, .slice A0_3 l0_3.length c0_3], .int .i64 a1] rfl (by (try simp only [List.map_toArray, List.map_cons, List.map_nil]); first | done | rfl | (simp only [List.length_drop, List.length_take]; rfl)) ?_; (with_reducible refine (spec_gaBy.calls kj2 a0_0 a0_1 a0_2 _ _ l0_3 a1 t717 _ ?side1 ?side2 A17.out).mono ?_); (case side1 => exact Kd.C_below HR0_3.out hb_); (case side2 => exact HC0_3.out); rintro e w19 ⟨v718, rfl, ho0, hb⟩; refine ⟨_, rfl, ?_⟩; have n0_ := Aside0.mk (Kd.R_lower ho0 (below_size hb_)); have n1_ := Aside0.mk (blk_below (g := gb711) (o := .cells #[.int .i64 a0_0, .int .i64 a0_1, .int .i64 a0_2, .slice A0_3 l0_3.length c0_3] 30 (0, 0)) (by (with_reducible repeat (first | refine blk_drewN ?_ _ | refine blk_drew ?_ | refine blk_alloc ?_ _)); exact BK711.out) hb); have n2_ := Aside0.mk (below_step hb_ hb); clear BK711; clear HB; have HO719 := n0_; have BK711 := n1_; have HB := n2_; clear n0_ n1_ n2_; (try clear hb); (try clear hb2); (try clear hk); (try clear hi); (try clear ho0); obtain ⟨Ao20, co20, eo20⟩ := Kd.R_slice HO719.out; subst eo20))
    go_loopg [7, 28] kj2 (fun kq v7 v28 w' => ∃ (x7_2 : Int) (x28_2 : Int), v7 = .int .i64 x7_2 ∧ v28 = .int .i64 x28_2 ∧ Aside0 (spec_AverageJumps.l0 kq a1 x7_2 t717 (t717.length : Int) x28_2 a0_0 a0_1 a0_2 l0_3 = some (r1, r2, r3)) ∧ Aside0 (kq ≤ kj2) ∧ Aside0 (Kd.R (Kd.int .i64) 3 w' w.heap.size (fun _ => True) (.slice Ao20 t717.length co20) t717) ∧ Aside0 (w'.heap[gb711]? = some (.cells #[.int .i64 a0_0, .int .i64 a0_1, .int .i64 a0_2, (.slice A0_3 l0_3.length c0_3)] 30 (0, 0))) ∧ Aside0 (Below w.heap.size w w'))
    case atStart => exact ⟨(0), (0), (by first | rfl | (simp; done) | (simp [*]; done)), (by first | rfl | (simp; done) | (simp [*]; done)), H', ⟨Nat.le_refl _⟩, ⟨by (with_reducible repeat (first | apply Kd.R_alloc | apply Kd.R_drewN | apply Kd.R_drew)); exact HO719.out⟩, ⟨by (with_reducible repeat (first | refine blk_drewN ?_ _ | refine blk_drew ?_ | refine blk_alloc ?_ _)); exact BK711.out⟩, ⟨hb_⟩⟩
    case round =>
     clear H'
     try clear c1
     try clear p2
     try clear c4
     try clear c5
     try clear c6
     try clear p7
     try clear q7
     try clear hx7
     try clear qi7
     try clear c8
     try clear c8b0
     try clear c8b1
     try clear c16
     try clear hcz11_0
     try clear hcz11_1
     try clear hcz11_2
     try clear hcz11_3
     try clear hcz14_0
     try clear hcz14_1
     try clear hcz14_2
     try clear hcz14_3
     try clear hcz18_0
     try clear hcz18_1
     try clear hcz18_2
     try clear hcz18_3
     try clear hcz9_0
     try clear hcz9_1
     try clear hcz9_2
     try clear hcz9_3
     try clear hfz11_0
     try clear hfz11_1
     try clear hfz11_2
     try clear hfz11_3
     try clear hfz14_0
     try clear hfz14_1
     try clear hfz14_2
     try clear hfz14_3
     try clear hfz18_0
     try clear hfz18_1
     try clear hfz18_2
     try clear hfz18_3
     try clear hfz9_0
     try clear hfz9_1
     try clear hfz9_2
     try clear hfz9_3
     try clear hx716_0
     try clear p2
     try clear p7
     try clear p716
     try clear q7
     try clear q716
     obtain ⟨x7_2, x28_2, rfl, rfl, HA, HK2, HO_26, BK711, HB⟩ := hrel
     cases gk with
     | zero => exact absurd HA.out (by simp [spec_AverageJumps.l0])
     | succ k2 =>
      have H := HA.out
      clear HA
      simp only [spec_AverageJumps.l0] at H
      by_cases c21 : x28_2 < (t717.length : Int)
      ·rw [if_pos c21] at H
       have c21b0 : decide (x28_2 < (t717.length : Int)) = true := decide_eq_true c21
       clear c21
       by_cases c22 : 0 ≤ x28_2
       ·rw [if_pos c22] at H
        have c22b0 : decide (0 ≤ x28_2) = true := decide_eq_true c22
        clear c22
        by_cases c23 : x28_2 < (t717.length : Int)
        ·rw [if_pos c23] at H
         have c23b0 : decide (x28_2 < (t717.length : Int)) = true := decide_eq_true c23
         clear c23
         have H' := Aside0.mk H
         clear H
         have p720 : 0 ≤ (x28_2 : Int) := of_decide_eq_true (by first | (with_reducible assumption) | assumption)
         have q720 : x28_2 < (t717.length : Int) := of_decide_eq_true (by first | (with_reducible assumption) | assumption)
         obtain ⟨ad720, e720, hx720_0⟩ := Kd.at_int (Kd.R_reads' HO_26.out).2.2 x28_2 p720 q720
         cases e720
         replace p720 := eq_true p720
         replace q720 := eq_true q720
         go_wp2
         go_roundg k2
         case measure => have := HJ2.out; have := HK2.out; omega
         case rel => exact ⟨(wrap64 (x7_2 + (wrap64 (x28_2 * (rd t717 x28_2))))), (wrap64 (x28_2 + 1)), (by first | rfl | (simp; done) | (simp [*]; done)), (by first | rfl | (simp; done) | (simp [*]; done)), H', ⟨by have := HJ2.out; have := HK2.out; omega⟩, ⟨by (with_reducible repeat (first | apply Kd.R_alloc | apply Kd.R_drewN | apply Kd.R_drew)); exact HO_26.out⟩, ⟨by (with_reducible repeat (first | refine blk_drewN ?_ _ | refine blk_drew ?_ | refine blk_alloc ?_ _)); exact BK711.out⟩, ⟨hb_⟩⟩
        ·rw [if_neg c23] at H
         exact absurd H (by simp)
       ·rw [if_neg c22] at H
        exact absurd H (by simp)
      ·rw [if_neg c21] at H
       have c21b0 : decide (x28_2 < (t717.length : Int)) = false := decide_eq_false c21
       clear c21
       replace H := Option.bind_eq_some_iff.mp H
       obtain ⟨t721, A240, H⟩ := H
       replace H : (if 0 < (t721.length : Int) then ((spec_chLow.f k2 x7_2 (rd t721 0)).bind fun bt725 => (some (bt725.1, bt725.2, true))) else (none)) = some (r1, r2, r3) := H
       have A24 := Aside0.mk A240
       clear A240
       by_cases c25 : 0 < (t721.length : Int)
       ·rw [if_pos c25] at H
        have c25b0 : decide (0 < (t721.length : Int)) = true := decide_eq_true c25
        have c25b1 : decide (0 < t721.length) = true := decide_eq_true (by omega)
        clear c25
        replace H := Option.bind_eq_some_iff.mp H
        obtain ⟨⟨t725, t726⟩, A260, H⟩ := H
        replace H : (some (t725, t726, true)) = some (r1, r2, r3) := H
        have A26 := Aside0.mk A260
        clear A260
        simp only [Option.some.injEq, Prod.mk.injEq] at H
        obtain ⟨rfl, rfl, rfl⟩ := H
        have hcz27_0 : wr.cell? ⟨gb711, 0, none⟩ = some (.int .i64 a0_0) := (blk_cell BK711.out 0).trans rfl
        have hcz27_1 : wr.cell? ⟨gb711, 1, none⟩ = some (.int .i64 a0_1) := (blk_cell BK711.out 1).trans rfl
        have hcz27_2 : wr.cell? ⟨gb711, 2, none⟩ = some (.int .i64 a0_2) := (blk_cell BK711.out 2).trans rfl
        have hcz27_3 : wr.cell? ⟨gb711, 3, none⟩ = some (.slice A0_3 l0_3.length c0_3) := (blk_cell BK711.out 3).trans rfl
        have hfz27_0 := blk_frozen BK711.out 0
        have hfz27_1 := blk_frozen BK711.out 1
        have hfz27_2 := blk_frozen BK711.out 2
        have hfz27_3 := blk_frozen BK711.out 3
        go_wp2_with (first | ((with_reducible refine gate_callee (f := 46) rfl ?_); refine goesL_ (some 43) rfl rfl Try.func46 (by kernel_rfl) rfl #[.agg #[.int .i64 a0_0, .int .i64 a0_1, .int .i64 a0_2, .slice A0_3 l0_3.length c0_3], .int .i64 a1] rfl (by (try simp only [List.map_toArray, List.map_cons, List.map_nil]); first | done | rfl | (simp only [List.length_drop, List.length_take]; rfl)) ?_; (with_reducible refine (spec_gaCounts.calls k2 a0_0 a0_1 a0_2 _ _ l0_3 a1 t721 _ ?side1 ?side2 A24.out).mono ?_); (case side1 => exact Kd.C_below HR0_3.out hb_); (case side2 => exact HC0_3.out); rintro e w28 ⟨v722, rfl, ho0, hb⟩; refine ⟨_, rfl, ?_⟩; have n0_ := Aside0.mk (Kd.R_elder' (by (with_reducible repeat (first | apply Kd.R_alloc | apply Kd.R_drewN | apply Kd.R_drew)); exact HO_26.out) (Kd.R_base ho0) hb); have n1_ := Aside0.mk (Kd.R_lower (Kd.R_new' ho0 (Kd.R_lt (by (with_reducible repeat (first | apply Kd.R_alloc | apply Kd.R_drewN | apply Kd.R_drew)); exact HO_26.out))) (below_size hb_)); have n2_ := Aside0.mk (blk_below (g := gb711) (o := .cells #[.int .i64 a0_0, .int .i64 a0_1, .int .i64 a0_2, .slice A0_3 l0_3.length c0_3] 30 (0, 0)) (by (with_reducible repeat (first | refine blk_drewN ?_ _ | refine blk_drew ?_ | refine blk_alloc ?_ _)); exact BK711.out) hb); have n3_ := Aside0.mk (below_step hb_ hb); clear HO_26; clear BK711; clear HB; have HO_26 := n0_; have HO723 := n1_; have BK711 := n2_; have HB := n3_; clear n0_ n1_ n2_ n3_; (try clear hb); (try clear hb2); (try clear hk); (try clear hi); (try clear ho0); obtain ⟨Ao29, co29, eo29⟩ := Kd.R_slice HO723.out; subst eo29; have p724 : 0 ≤ (0 : Int) := (by omega); have q724 : 0 < (t721.length : Int) := of_decide_eq_true (by first | (with_reducible assumption) | assumption); obtain ⟨ad724, e724, hx724_0⟩ := Kd.at_int (Kd.R_reads' HO723.out).2.2 0 p724 q724; cases e724; have qi724 : (0 < t721.length) = True := eq_true (by omega); (try rw [show ((0 : Int)).toNat = 0 from rfl] at hx724_0); (try rw [Addr.add_zero'] at hx724_0); replace p724 := eq_true p724; replace q724 := eq_true q724) | ((with_reducible refine gate_callee (f := 66) rfl ?_); refine goesL_ (some 46) rfl rfl Try.func66 (by kernel_rfl) rfl #[.int .i64 x7_2, .int .i64 (rd t721 0)] rfl (by (try simp only [List.map_toArray, List.map_cons, List.map_nil]); first | done | rfl | (simp only [List.length_drop, List.length_take]; rfl)) ?_; (with_reducible refine (spec_chLow.calls k2 x7_2 (rd t721 0) t725 t726 _ A26.out).mono ?_); rintro e w' ⟨rfl, ⟨nd, rfl⟩⟩; refine ⟨_, rfl, ?_⟩))
        go_ret3
        exact ⟨by first | rfl | (simp [errW_none, errW_some] <;> rfl) | (simp [*, errW_none, errW_some] <;> rfl), hb_⟩
       ·rw [if_neg c25] at H
        exact absurd H (by simp)

/-! ### impl_AverageJumps: function 41 -/
def impl_AverageJumps.l0 : Nat → Int → Int → List Int → Int → Int → Option (Int × Int × Bool)
 | 0, _, _, _, _, _ => none
 | k + 1, x7, x8, x17, x18, x19 => if x19 < x18 then (if 0 ≤ x19 then (if x19 < (x17.length : Int) then (impl_AverageJumps.l0 k (wrap64 (x7 + (wrap64 (x19 * (rd x17 x19))))) (wrap64 (x8 + (rd x17 x19))) x17 x18 (wrap64 (x19 + 1))) else (none)) else (none)) else (if x8 = 0 then (some (0, 0, false)) else ((impl_told.f k x7 x8).bind fun bt735 => (some (bt735.1, bt735.2.1, bt735.2.2))))
def impl_AverageJumps.f (k : Nat) (a0_0 : Int) (a0_1 : Int) (a0_2 : Int) (l0_3 : List (S70)) (a1 : Int) : Option (Int × Int × Bool) := (impl_isGamed.f k a0_0 a0_1 a0_2 l0_3 a1).bind fun t730 => (if t730 = true then ((impl_Board_byJumps.f k a0_0 a0_1 a0_2 l0_3 a1).bind fun t731 => (impl_AverageJumps.l0 k 0 0 t731 (t731.length : Int) 0)) else (some (0, 0, false)))
theorem impl_AverageJumps.mono_l : ∀ k, (∀ y0 y1 y2 y3 y4, LeO (impl_AverageJumps.l0 k y0 y1 y2 y3 y4) (impl_AverageJumps.l0 (k + 1) y0 y1 y2 y3 y4))
 | 0 => fun _ _ _ _ _ r h => by simp [impl_AverageJumps.l0] at h
 | k + 1 => by
  have ih0 := impl_AverageJumps.mono_l k
  ·intro y0 y1 y2 y3 y4
   unfold impl_AverageJumps.l0
   repeat' first
   | (with_reducible exact ih0 _ _ _ _ _)
   | (with_reducible exact impl_Board_byJumps.mono _ _ _ _ _ _)
   | (with_reducible exact impl_isGamed.mono _ _ _ _ _ _)
   | (with_reducible exact impl_told.mono _ _ _)
   | (with_reducible exact LeO.refl _)
   | (with_reducible exact LeO.none _)
   | (with_reducible refine LeO.ite ?_ ?_)
   | (with_reducible refine LeO.bind ?_ (fun _ => ?_))
   | exact ih0 _ _ _ _ _
   | exact impl_Board_byJumps.mono _ _ _ _ _ _
   | exact impl_isGamed.mono _ _ _ _ _ _
   | exact impl_told.mono _ _ _
   | exact LeO.none _
   | refine LeO.ite ?_ ?_
   | refine LeO.bind ?_ (fun _ => ?_)
theorem impl_AverageJumps.mono : ∀ a0 a1 a2 a3 a4 k, LeO (impl_AverageJumps.f k a0 a1 a2 a3 a4) (impl_AverageJumps.f (k + 1) a0 a1 a2 a3 a4) := by
 intro a0 a1 a2 a3 a4 k
 have ih0 := impl_AverageJumps.mono_l k
 unfold impl_AverageJumps.f
 repeat' first
   | (with_reducible exact ih0 _ _ _ _ _)
   | (with_reducible exact impl_Board_byJumps.mono _ _ _ _ _ _)
   | (with_reducible exact impl_isGamed.mono _ _ _ _ _ _)
   | (with_reducible exact impl_told.mono _ _ _)
   | (with_reducible exact LeO.refl _)
   | (with_reducible exact LeO.none _)
   | (with_reducible refine LeO.ite ?_ ?_)
   | (with_reducible refine LeO.bind ?_ (fun _ => ?_))
   | exact ih0 _ _ _ _ _
   | exact impl_Board_byJumps.mono _ _ _ _ _ _
   | exact impl_isGamed.mono _ _ _ _ _ _
   | exact impl_told.mono _ _ _
   | exact LeO.none _
   | refine LeO.ite ?_ ?_
   | refine LeO.bind ?_ (fun _ => ?_)
set_option maxHeartbeats 8000000 in
set_option maxRecDepth 100000 in
theorem impl_AverageJumps.calls (k : Nat) (a0_0 : Int) (a0_1 : Int) (a0_2 : Int) (A0_3 : Option Addr) (c0_3 : Nat) (l0_3 : List (S70)) (a1 : Int) (r1 : Int) (r2 : Int) (r3 : Bool) (w : World) (hr0_3 : Kd.C k70 w A0_3 l0_3.length l0_3) (hc0_3 : l0_3.length ≤ c0_3) (h : impl_AverageJumps.f k a0_0 a0_1 a0_2 l0_3 a1 = some (r1, r2, r3)) :
  Calls Try.prog 41 #[.agg #[.int .i64 a0_0, .int .i64 a0_1, .int .i64 a0_2, .slice A0_3 l0_3.length c0_3], .int .i64 a1] w fun e w' => e = .returned (.tuple #[.int .i64 r1, .int .i64 r2, .bool r3]) ∧ Below w.heap.size w w' := by
 have hu30 := Try.underlying30
 have HR0_3 := Aside0.mk hr0_3
 have HC0_3 := Aside0.mk hc0_3
 clear hr0_3 hc0_3
 have HB := Aside0.mk (Below.refl w.heap.size w)
 have H : ((impl_isGamed.f k a0_0 a0_1 a0_2 l0_3 a1).bind fun t730 => (if t730 = true then ((impl_Board_byJumps.f k a0_0 a0_1 a0_2 l0_3 a1).bind fun t731 => (impl_AverageJumps.l0 k 0 0 t731 (t731.length : Int) 0)) else (some (0, 0, false)))) = some (r1, r2, r3) := h
 clear h
 replace H := Option.bind_eq_some_iff.mp H
 obtain ⟨t730, A30, H⟩ := H
 replace H : (if t730 = true then ((impl_Board_byJumps.f k a0_0 a0_1 a0_2 l0_3 a1).bind fun t731 => (impl_AverageJumps.l0 k 0 0 t731 (t731.length : Int) 0)) else (some (0, 0, false))) = some (r1, r2, r3) := H
 have A3 := Aside0.mk A30
 clear A30
 by_cases c4 : t730 = true
 ·subst c4
  have H1 : ((impl_Board_byJumps.f k a0_0 a0_1 a0_2 l0_3 a1).bind fun t731 => (impl_AverageJumps.l0 k 0 0 t731 (t731.length : Int) 0)) = some (r1, r2, r3) := by rw [if_pos rfl] at H; exact H
  clear H
  have H := H1
  clear H1
  replace H := Option.bind_eq_some_iff.mp H
  obtain ⟨t731, A50, H⟩ := H
  replace H : (impl_AverageJumps.l0 k 0 0 t731 (t731.length : Int) 0) = some (r1, r2, r3) := H
  have A5 := Aside0.mk A50
  clear A50
  have H' := Aside0.mk H
  clear H
  go_enter Try.func41, Try.ntmps41
  go_wp2_with (first | ((with_reducible refine gate_dst (N := 2) rfl ?_); refine box_event ?hg (N := 2) ?hd (cs := #[.int .i64 a0_0, .int .i64 a0_1, .int .i64 a0_2, .slice A0_3 l0_3.length c0_3]) (t := 30) ?hr ?_; (case hd => rfl); (case hg => rfl); (case hr => first | (go_simp; done) | (go_simp; rfl)); intro gb729 hg w6 hbox hb; have n0_ := Aside0.mk (below_step hb_ hb); have n1_ := Aside0.mk (hbox); have n2_ := Aside0.mk ((by rw [hg]; exact (below_size hb_) : w.heap.size ≤ gb729)); have n3_ := Aside0.mk ((by rw [hg]; exact (below_size hb_) : w.heap.size ≤ gb729)); clear HB; have HB := n0_; have BK729 := n1_; have GW729 := n2_; have GE729 := n3_; clear n0_ n1_ n2_ n3_; clear hb hbox hg; have hcz7_0 : w6.cell? ⟨gb729, 0, none⟩ = some (.int .i64 a0_0) := (blk_cell BK729.out 0).trans rfl; have hcz7_1 : w6.cell? ⟨gb729, 1, none⟩ = some (.int .i64 a0_1) := (blk_cell BK729.out 1).trans rfl; have hcz7_2 : w6.cell? ⟨gb729, 2, none⟩ = some (.int .i64 a0_2) := (blk_cell BK729.out 2).trans rfl; have hcz7_3 : w6.cell? ⟨gb729, 3, none⟩ = some (.slice A0_3 l0_3.length c0_3) := (blk_cell BK729.out 3).trans rfl; have hfz7_0 := blk_frozen BK729.out 0; have hfz7_1 := blk_frozen BK729.out 1; have hfz7_2 := blk_frozen BK729.out 2; have hfz7_3 := blk_frozen BK729.out 3) | ((with_reducible refine gate_callee (f := 48) rfl ?_); refine goesL_ (some 13) rfl rfl Try.func48 (by kernel_rfl) rfl #[.agg #[.int .i64 a0_0, .int .i64 a0_1, .int .i64 a0_2, .slice A0_3 l0_3.length c0_3], .int .i64 a1] rfl (by (try simp only [List.map_toArray, List.map_cons, List.map_nil]); first | done | rfl | (simp only [List.length_drop, List.length_take]; rfl)) ?_; (with_reducible refine (impl_isGamed.calls k a0_0 a0_1 a0_2 _ _ l0_3 a1 true _ ?side1 ?side2 A3.out).mono ?_); (case side1 => exact Kd.C_below HR0_3.out hb_); (case side2 => exact HC0_3.out); rintro e w8 ⟨rfl, hb⟩; refine ⟨_, rfl, ?_⟩; have n0_ := Aside0.mk (blk_below (g := gb729) (o := .cells #[.int .i64 a0_0, .int .i64 a0_1, .int .i64 a0_2, .slice A0_3 l0_3.length c0_3] 30 (0, 0)) (by (with_reducible repeat (first | refine blk_drewN ?_ _ | refine blk_drew ?_ | refine blk_alloc ?_ _)); exact BK729.out) hb); have n1_ := Aside0.mk (below_step hb_ hb); clear BK729; clear HB; have BK729 := n0_; have HB := n1_; clear n0_ n1_; (try clear hb); (try clear hb2); (try clear hk); (try clear hi); have hcz9_0 : w8.cell? ⟨gb729, 0, none⟩ = some (.int .i64 a0_0) := (blk_cell BK729.out 0).trans rfl; have hcz9_1 : w8.cell? ⟨gb729, 1, none⟩ = some (.int .i64 a0_1) := (blk_cell BK729.out 1).trans rfl; have hcz9_2 : w8.cell? ⟨gb729, 2, none⟩ = some (.int .i64 a0_2) := (blk_cell BK729.out 2).trans rfl; have hcz9_3 : w8.cell? ⟨gb729, 3, none⟩ = some (.slice A0_3 l0_3.length c0_3) := (blk_cell BK729.out 3).trans rfl; have hfz9_0 := blk_frozen BK729.out 0; have hfz9_1 := blk_frozen BK729.out 1; have hfz9_2 := blk_frozen BK729.out 2; have hfz9_3 := blk_frozen BK729.out 3) | ((with_reducible refine gate_callee (f := 54) rfl ?_); refine goesL_ (some 17) rfl rfl Try.func54 (by kernel_rfl) rfl #[.agg #[.int .i64 a0_0, .int .i64 a0_1, .int .i64 a0_2, .slice A0_3 l0_3.length c0_3], .int .i64 a1] rfl (by (try simp only [List.map_toArray, List.map_cons, List.map_nil]); first | done | rfl | (simp only [List.length_drop, List.length_take]; rfl)) ?_; (with_reducible refine (impl_Board_byJumps.calls k a0_0 a0_1 a0_2 _ _ l0_3 a1 t731 _ ?side1 ?side2 A5.out).mono ?_); (case side1 => exact Kd.C_below HR0_3.out hb_); (case side2 => exact HC0_3.out); rintro e w10 ⟨v732, rfl, ho0, hb⟩; refine ⟨_, rfl, ?_⟩; have n0_ := Aside0.mk (Kd.R_lower ho0 (below_size hb_)); have n1_ := Aside0.mk (blk_below (g := gb729) (o := .cells #[.int .i64 a0_0, .int .i64 a0_1, .int .i64 a0_2, .slice A0_3 l0_3.length c0_3] 30 (0, 0)) (by (with_reducible repeat (first | refine blk_drewN ?_ _ | refine blk_drew ?_ | refine blk_alloc ?_ _)); exact BK729.out) hb); have n2_ := Aside0.mk (below_step hb_ hb); clear BK729; clear HB; have HO733 := n0_; have BK729 := n1_; have HB := n2_; clear n0_ n1_ n2_; (try clear hb); (try clear hb2); (try clear hk); (try clear hi); (try clear ho0); obtain ⟨Ao11, co11, eo11⟩ := Kd.R_slice HO733.out; subst eo11))
  go_loopg [7, 8, 19] k (fun kq v7 v8 v19 w' => ∃ (x7_1 : Int) (x8_1 : Int) (x19_1 : Int), v7 = .int .i64 x7_1 ∧ v8 = .int .i64 x8_1 ∧ v19 = .int .i64 x19_1 ∧ Aside0 (impl_AverageJumps.l0 kq x7_1 x8_1 t731 (t731.length : Int) x19_1 = some (r1, r2, r3)) ∧ Aside0 (kq ≤ k) ∧ Aside0 (Kd.R (Kd.int .i64) 3 w' w.heap.size (fun _ => True) (.slice Ao11 t731.length co11) t731) ∧ Aside0 (w'.heap[gb729]? = some (.cells #[.int .i64 a0_0, .int .i64 a0_1, .int .i64 a0_2, (.slice A0_3 l0_3.length c0_3)] 30 (0, 0))) ∧ Aside0 (Below w.heap.size w w'))
  case atStart => exact ⟨(0), (0), (0), (by first | rfl | (simp; done) | (simp [*]; done)), (by first | rfl | (simp; done) | (simp [*]; done)), (by first | rfl | (simp; done) | (simp [*]; done)), H', ⟨Nat.le_refl _⟩, ⟨by (with_reducible repeat (first | apply Kd.R_alloc | apply Kd.R_drewN | apply Kd.R_drew)); exact HO733.out⟩, ⟨by (with_reducible repeat (first | refine blk_drewN ?_ _ | refine blk_drew ?_ | refine blk_alloc ?_ _)); exact BK729.out⟩, ⟨hb_⟩⟩
  case round =>
   clear H'
   try clear p2
   try clear c4
   try clear c5
   try clear hcz7_0
   try clear hcz7_1
   try clear hcz7_2
   try clear hcz7_3
   try clear hcz9_0
   try clear hcz9_1
   try clear hcz9_2
   try clear hcz9_3
   try clear hfz7_0
   try clear hfz7_1
   try clear hfz7_2
   try clear hfz7_3
   try clear hfz9_0
   try clear hfz9_1
   try clear hfz9_2
   try clear hfz9_3
   obtain ⟨x7_1, x8_1, x19_1, rfl, rfl, rfl, HA, HK1, HO_17, BK729, HB⟩ := hrel
   cases gk with
   | zero => exact absurd HA.out (by simp [impl_AverageJumps.l0])
   | succ k1 =>
    have H := HA.out
    clear HA
    simp only [impl_AverageJumps.l0] at H
    by_cases c12 : x19_1 < (t731.length : Int)
    ·rw [if_pos c12] at H
     have c12b0 : decide (x19_1 < (t731.length : Int)) = true := decide_eq_true c12
     clear c12
     by_cases c13 : 0 ≤ x19_1
     ·rw [if_pos c13] at H
      have c13b0 : decide (0 ≤ x19_1) = true := decide_eq_true c13
      clear c13
      by_cases c14 : x19_1 < (t731.length : Int)
      ·rw [if_pos c14] at H
       have c14b0 : decide (x19_1 < (t731.length : Int)) = true := decide_eq_true c14
       clear c14
       have H' := Aside0.mk H
       clear H
       have p734 : 0 ≤ (x19_1 : Int) := of_decide_eq_true (by first | (with_reducible assumption) | assumption)
       have q734 : x19_1 < (t731.length : Int) := of_decide_eq_true (by first | (with_reducible assumption) | assumption)
       obtain ⟨ad734, e734, hx734_0⟩ := Kd.at_int (Kd.R_reads' HO_17.out).2.2 x19_1 p734 q734
       cases e734
       replace p734 := eq_true p734
       replace q734 := eq_true q734
       go_wp2
       go_roundg k1
       case measure => have := HK1.out; omega
       case rel => exact ⟨(wrap64 (x7_1 + (wrap64 (x19_1 * (rd t731 x19_1))))), (wrap64 (x8_1 + (rd t731 x19_1))), (wrap64 (x19_1 + 1)), (by first | rfl | (simp; done) | (simp [*]; done)), (by first | rfl | (simp; done) | (simp [*]; done)), (by first | rfl | (simp; done) | (simp [*]; done)), H', ⟨by have := HK1.out; omega⟩, ⟨by (with_reducible repeat (first | apply Kd.R_alloc | apply Kd.R_drewN | apply Kd.R_drew)); exact HO_17.out⟩, ⟨by (with_reducible repeat (first | refine blk_drewN ?_ _ | refine blk_drew ?_ | refine blk_alloc ?_ _)); exact BK729.out⟩, ⟨hb_⟩⟩
      ·rw [if_neg c14] at H
       exact absurd H (by simp)
     ·rw [if_neg c13] at H
      exact absurd H (by simp)
    ·rw [if_neg c12] at H
     have c12b0 : decide (x19_1 < (t731.length : Int)) = false := decide_eq_false c12
     clear c12
     by_cases c15 : x8_1 = 0
     ·rw [if_pos c15] at H
      have c15b0 : (x8_1 == 0) = true := beq_iff_eq.mpr c15
      have c15b1 : (x8_1 != 0) = false := bne_eq_false_iff_eq.mpr c15
      clear c15
      simp only [Option.some.injEq, Prod.mk.injEq] at H
      obtain ⟨rfl, rfl, rfl⟩ := H
      go_wp2
      go_ret3
      exact ⟨by first | rfl | (simp [errW_none, errW_some] <;> rfl) | (simp [*, errW_none, errW_some] <;> rfl), hb_⟩
     ·rw [if_neg c15] at H
      have c15b0 : (x8_1 == 0) = false := beq_eq_false_iff_ne.mpr c15
      have c15b1 : (x8_1 != 0) = true := bne_iff_ne.mpr c15
      replace H := Option.bind_eq_some_iff.mp H
      obtain ⟨⟨t735, t736, t737⟩, A160, H⟩ := H
      replace H : (some (t735, t736, t737)) = some (r1, r2, r3) := H
      have A16 := Aside0.mk A160
      clear A160
      simp only [Option.some.injEq, Prod.mk.injEq] at H
      obtain ⟨rfl, rfl, rfl⟩ := H
      go_wp2_with (first | ((with_reducible refine gate_callee (f := 67) rfl ?_); refine goesL_ (some 37) rfl rfl Try.func67 (by kernel_rfl) rfl #[.int .i64 x7_1, .int .i64 x8_1] rfl (by (try simp only [List.map_toArray, List.map_cons, List.map_nil]); first | done | rfl | (simp only [List.length_drop, List.length_take]; rfl)) ?_; (with_reducible refine (impl_told.calls k1 x7_1 x8_1 t735 t736 t737 _ A16.out).mono ?_); rintro e w' ⟨rfl, ⟨nd, rfl⟩⟩; refine ⟨_, rfl, ?_⟩))
      go_ret3
      exact ⟨by first | rfl | (simp [errW_none, errW_some] <;> rfl) | (simp [*, errW_none, errW_some] <;> rfl), hb_⟩
 ·replace c4 := Bool.eq_false_iff.mpr c4
  subst c4
  have H1 : (some (0, 0, false)) = some (r1, r2, r3) := by rw [if_neg (show ¬ (false = true) by decide)] at H; exact H
  clear H
  have H := H1
  clear H1
  simp only [Option.some.injEq, Prod.mk.injEq] at H
  obtain ⟨rfl, rfl, rfl⟩ := H
  go_enter Try.func41, Try.ntmps41
  go_wp2_with (first | ((with_reducible refine gate_dst (N := 2) rfl ?_); refine box_event ?hg (N := 2) ?hd (cs := #[.int .i64 a0_0, .int .i64 a0_1, .int .i64 a0_2, .slice A0_3 l0_3.length c0_3]) (t := 30) ?hr ?_; (case hd => rfl); (case hg => rfl); (case hr => first | (go_simp; done) | (go_simp; rfl)); intro gb729 hg w17 hbox hb; have n0_ := Aside0.mk (below_step hb_ hb); have n1_ := Aside0.mk (hbox); have n2_ := Aside0.mk ((by rw [hg]; exact (below_size hb_) : w.heap.size ≤ gb729)); have n3_ := Aside0.mk ((by rw [hg]; exact (below_size hb_) : w.heap.size ≤ gb729)); clear HB; have HB := n0_; have BK729 := n1_; have GW729 := n2_; have GE729 := n3_; clear n0_ n1_ n2_ n3_; clear hb hbox hg; have hcz18_0 : w17.cell? ⟨gb729, 0, none⟩ = some (.int .i64 a0_0) := (blk_cell BK729.out 0).trans rfl; have hcz18_1 : w17.cell? ⟨gb729, 1, none⟩ = some (.int .i64 a0_1) := (blk_cell BK729.out 1).trans rfl; have hcz18_2 : w17.cell? ⟨gb729, 2, none⟩ = some (.int .i64 a0_2) := (blk_cell BK729.out 2).trans rfl; have hcz18_3 : w17.cell? ⟨gb729, 3, none⟩ = some (.slice A0_3 l0_3.length c0_3) := (blk_cell BK729.out 3).trans rfl; have hfz18_0 := blk_frozen BK729.out 0; have hfz18_1 := blk_frozen BK729.out 1; have hfz18_2 := blk_frozen BK729.out 2; have hfz18_3 := blk_frozen BK729.out 3) | ((with_reducible refine gate_callee (f := 48) rfl ?_); refine goesL_ (some 13) rfl rfl Try.func48 (by kernel_rfl) rfl #[.agg #[.int .i64 a0_0, .int .i64 a0_1, .int .i64 a0_2, .slice A0_3 l0_3.length c0_3], .int .i64 a1] rfl (by (try simp only [List.map_toArray, List.map_cons, List.map_nil]); first | done | rfl | (simp only [List.length_drop, List.length_take]; rfl)) ?_; (with_reducible refine (impl_isGamed.calls k a0_0 a0_1 a0_2 _ _ l0_3 a1 false _ ?side1 ?side2 A3.out).mono ?_); (case side1 => exact Kd.C_below HR0_3.out hb_); (case side2 => exact HC0_3.out); rintro e w19 ⟨rfl, hb⟩; refine ⟨_, rfl, ?_⟩; have n0_ := Aside0.mk (blk_below (g := gb729) (o := .cells #[.int .i64 a0_0, .int .i64 a0_1, .int .i64 a0_2, .slice A0_3 l0_3.length c0_3] 30 (0, 0)) (by (with_reducible repeat (first | refine blk_drewN ?_ _ | refine blk_drew ?_ | refine blk_alloc ?_ _)); exact BK729.out) hb); have n1_ := Aside0.mk (below_step hb_ hb); clear BK729; clear HB; have BK729 := n0_; have HB := n1_; clear n0_ n1_; (try clear hb); (try clear hb2); (try clear hk); (try clear hi)))
  go_ret3
  exact ⟨by first | rfl | (simp [errW_none, errW_some] <;> rfl) | (simp [*, errW_none, errW_some] <;> rfl), hb_⟩

/-! ### laws_FnExactAverageJumps: function 12 -/
def laws_FnExactAverageJumps.j0 : Nat → Bool → Int → Int → Int → List (S72) → Int → Int → Int → List (S70) → Option (Bool)
 | 0, _, _, _, _, _, _, _, _, _ => none
 | k + 1, x47, x739000, x739001, x739002, x739003, x756000, x756001, x756002, x756003 => if x47 = true then (some false) else ((laws_toBoard.f k x739000 x739001 x739002 x739003).bind fun bt759 => ((laws_eqBoard.f k x756000 x756001 x756002 x756003 bt759.1 bt759.2.1 bt759.2.2.1 bt759.2.2.2).bind fun t765 => (if t765 = true then (some true) else (some false))))
def laws_FnExactAverageJumps.f (k : Nat) (a0_0 : Int) (a0_1 : Int) (a0_2 : Int) (l0_3 : List (S72)) (a1 : Int) : Option (Bool) := (laws_szBoard.f a0_0 a0_1 a0_2 l0_3 1048576).bind fun t739 => (if t739 < 0 then (some true) else ((laws_toBoard.f k a0_0 a0_1 a0_2 l0_3).bind fun bt740 => ((spec_AverageJumps.f k bt740.1 bt740.2.1 bt740.2.2.1 bt740.2.2.2 a1).bind fun bt746 => ((laws_toBoard.f k a0_0 a0_1 a0_2 l0_3).bind fun bt749 => ((impl_AverageJumps.f k bt749.1 bt749.2.1 bt749.2.2.1 bt749.2.2.2 a1).bind fun bt756 => (if bt756.1 = bt746.1 then (if bt756.2.1 = bt746.2.1 then (laws_FnExactAverageJumps.j0 k (bt756.2.2 != bt746.2.2) a0_0 a0_1 a0_2 l0_3 bt749.1 bt749.2.1 bt749.2.2.1 bt749.2.2.2) else (laws_FnExactAverageJumps.j0 k true a0_0 a0_1 a0_2 l0_3 bt749.1 bt749.2.1 bt749.2.2.1 bt749.2.2.2)) else (laws_FnExactAverageJumps.j0 k true a0_0 a0_1 a0_2 l0_3 bt749.1 bt749.2.1 bt749.2.2.1 bt749.2.2.2)))))))
theorem laws_FnExactAverageJumps.mono_l : ∀ k, (∀ y0 y1 y2 y3 y4 y5 y6 y7 y8, LeO (laws_FnExactAverageJumps.j0 k y0 y1 y2 y3 y4 y5 y6 y7 y8) (laws_FnExactAverageJumps.j0 (k + 1) y0 y1 y2 y3 y4 y5 y6 y7 y8))
 | 0 => fun _ _ _ _ _ _ _ _ _ r h => by simp [laws_FnExactAverageJumps.j0] at h
 | k + 1 => by
  have ih0 := laws_FnExactAverageJumps.mono_l k
  ·intro y0 y1 y2 y3 y4 y5 y6 y7 y8
   unfold laws_FnExactAverageJumps.j0
   repeat' first
   | (with_reducible exact ih0 _ _ _ _ _ _ _ _ _)
   | (with_reducible exact impl_AverageJumps.mono _ _ _ _ _ _)
   | (with_reducible exact laws_eqBoard.mono _ _ _ _ _ _ _ _ _)
   | (with_reducible exact laws_toBoard.mono _ _ _ _ _)
   | (with_reducible exact spec_AverageJumps.mono _ _ _ _ _ _)
   | (with_reducible exact LeO.refl _)
   | (with_reducible exact LeO.none _)
   | (with_reducible refine LeO.ite ?_ ?_)
   | (with_reducible refine LeO.bind ?_ (fun _ => ?_))
   | exact ih0 _ _ _ _ _ _ _ _ _
   | exact impl_AverageJumps.mono _ _ _ _ _ _
   | exact laws_eqBoard.mono _ _ _ _ _ _ _ _ _
   | exact laws_toBoard.mono _ _ _ _ _
   | exact spec_AverageJumps.mono _ _ _ _ _ _
   | exact LeO.none _
   | refine LeO.ite ?_ ?_
   | refine LeO.bind ?_ (fun _ => ?_)
theorem laws_FnExactAverageJumps.mono : ∀ a0 a1 a2 a3 a4 k, LeO (laws_FnExactAverageJumps.f k a0 a1 a2 a3 a4) (laws_FnExactAverageJumps.f (k + 1) a0 a1 a2 a3 a4) := by
 intro a0 a1 a2 a3 a4 k
 have ih0 := laws_FnExactAverageJumps.mono_l k
 unfold laws_FnExactAverageJumps.f
 repeat' first
   | (with_reducible exact ih0 _ _ _ _ _ _ _ _ _)
   | (with_reducible exact impl_AverageJumps.mono _ _ _ _ _ _)
   | (with_reducible exact laws_eqBoard.mono _ _ _ _ _ _ _ _ _)
   | (with_reducible exact laws_toBoard.mono _ _ _ _ _)
   | (with_reducible exact spec_AverageJumps.mono _ _ _ _ _ _)
   | (with_reducible exact LeO.refl _)
   | (with_reducible exact LeO.none _)
   | (with_reducible refine LeO.ite ?_ ?_)
   | (with_reducible refine LeO.bind ?_ (fun _ => ?_))
   | exact ih0 _ _ _ _ _ _ _ _ _
   | exact impl_AverageJumps.mono _ _ _ _ _ _
   | exact laws_eqBoard.mono _ _ _ _ _ _ _ _ _
   | exact laws_toBoard.mono _ _ _ _ _
   | exact spec_AverageJumps.mono _ _ _ _ _ _
   | exact LeO.none _
   | refine LeO.ite ?_ ?_
   | refine LeO.bind ?_ (fun _ => ?_)
set_option maxHeartbeats 8000000 in
set_option maxRecDepth 100000 in
theorem laws_FnExactAverageJumps.calls (k : Nat) (a0_0 : Int) (a0_1 : Int) (a0_2 : Int) (A0_3 : Option Addr) (c0_3 : Nat) (l0_3 : List (S72)) (a1 : Int) (r : Bool) (w : World) (hr0_3 : Kd.C k72 w A0_3 l0_3.length l0_3) (hc0_3 : l0_3.length ≤ c0_3) (h : laws_FnExactAverageJumps.f k a0_0 a0_1 a0_2 l0_3 a1 = some r) :
  Calls Try.prog 12 #[.agg #[.int .i64 a0_0, .int .i64 a0_1, .int .i64 a0_2, .slice A0_3 l0_3.length c0_3], .int .i64 a1] w fun e w' => e = .returned (.bool r) ∧ Below w.heap.size w w' := by
 have hu24 := Try.underlying24
 have hu30 := Try.underlying30
 have HR0_3 := Aside0.mk hr0_3
 have HC0_3 := Aside0.mk hc0_3
 clear hr0_3 hc0_3
 have HB := Aside0.mk (Below.refl w.heap.size w)
 have H : ((laws_szBoard.f a0_0 a0_1 a0_2 l0_3 1048576).bind fun t739 => (if t739 < 0 then (some true) else ((laws_toBoard.f k a0_0 a0_1 a0_2 l0_3).bind fun bt740 => ((spec_AverageJumps.f k bt740.1 bt740.2.1 bt740.2.2.1 bt740.2.2.2 a1).bind fun bt746 => ((laws_toBoard.f k a0_0 a0_1 a0_2 l0_3).bind fun bt749 => ((impl_AverageJumps.f k bt749.1 bt749.2.1 bt749.2.2.1 bt749.2.2.2 a1).bind fun bt756 => (if bt756.1 = bt746.1 then (if bt756.2.1 = bt746.2.1 then (laws_FnExactAverageJumps.j0 k (bt756.2.2 != bt746.2.2) a0_0 a0_1 a0_2 l0_3 bt749.1 bt749.2.1 bt749.2.2.1 bt749.2.2.2) else (laws_FnExactAverageJumps.j0 k true a0_0 a0_1 a0_2 l0_3 bt749.1 bt749.2.1 bt749.2.2.1 bt749.2.2.2)) else (laws_FnExactAverageJumps.j0 k true a0_0 a0_1 a0_2 l0_3 bt749.1 bt749.2.1 bt749.2.2.1 bt749.2.2.2)))))))) = some r := h
 clear h
 replace H := Option.bind_eq_some_iff.mp H
 obtain ⟨t739, A30, H⟩ := H
 replace H : (if t739 < 0 then (some true) else ((laws_toBoard.f k a0_0 a0_1 a0_2 l0_3).bind fun bt740 => ((spec_AverageJumps.f k bt740.1 bt740.2.1 bt740.2.2.1 bt740.2.2.2 a1).bind fun bt746 => ((laws_toBoard.f k a0_0 a0_1 a0_2 l0_3).bind fun bt749 => ((impl_AverageJumps.f k bt749.1 bt749.2.1 bt749.2.2.1 bt749.2.2.2 a1).bind fun bt756 => (if bt756.1 = bt746.1 then (if bt756.2.1 = bt746.2.1 then (laws_FnExactAverageJumps.j0 k (bt756.2.2 != bt746.2.2) a0_0 a0_1 a0_2 l0_3 bt749.1 bt749.2.1 bt749.2.2.1 bt749.2.2.2) else (laws_FnExactAverageJumps.j0 k true a0_0 a0_1 a0_2 l0_3 bt749.1 bt749.2.1 bt749.2.2.1 bt749.2.2.2)) else (laws_FnExactAverageJumps.j0 k true a0_0 a0_1 a0_2 l0_3 bt749.1 bt749.2.1 bt749.2.2.1 bt749.2.2.2))))))) = some r := H
 have A3 := Aside0.mk A30
 clear A30
 by_cases c4 : t739 < 0
 ·rw [if_pos c4] at H
  have c4b0 : decide (t739 < 0) = true := decide_eq_true c4
  clear c4
  obtain rfl := Option.some.inj H
  go_enter Try.func12, Try.ntmps12
  go_wp2_with (first | ((with_reducible refine gate_dst (N := 2) rfl ?_); refine box_event ?hg (N := 2) ?hd (cs := #[.int .i64 a0_0, .int .i64 a0_1, .int .i64 a0_2, .slice A0_3 l0_3.length c0_3]) (t := 24) ?hr ?_; (case hd => rfl); (case hg => rfl); (case hr => first | (go_simp; done) | (go_simp; rfl)); intro gb738 hg w5 hbox hb; have n0_ := Aside0.mk (below_step hb_ hb); have n1_ := Aside0.mk (hbox); have n2_ := Aside0.mk ((by rw [hg]; exact (below_size hb_) : w.heap.size ≤ gb738)); have n3_ := Aside0.mk ((by rw [hg]; exact (below_size hb_) : w.heap.size ≤ gb738)); clear HB; have HB := n0_; have BK738 := n1_; have GW738 := n2_; have GE738 := n3_; clear n0_ n1_ n2_ n3_; clear hb hbox hg; have hcz6_0 : w5.cell? ⟨gb738, 0, none⟩ = some (.int .i64 a0_0) := (blk_cell BK738.out 0).trans rfl; have hcz6_1 : w5.cell? ⟨gb738, 1, none⟩ = some (.int .i64 a0_1) := (blk_cell BK738.out 1).trans rfl; have hcz6_2 : w5.cell? ⟨gb738, 2, none⟩ = some (.int .i64 a0_2) := (blk_cell BK738.out 2).trans rfl; have hcz6_3 : w5.cell? ⟨gb738, 3, none⟩ = some (.slice A0_3 l0_3.length c0_3) := (blk_cell BK738.out 3).trans rfl; have hfz6_0 := blk_frozen BK738.out 0; have hfz6_1 := blk_frozen BK738.out 1; have hfz6_2 := blk_frozen BK738.out 2; have hfz6_3 := blk_frozen BK738.out 3) | ((with_reducible refine gate_callee (f := 14) rfl ?_); refine goesL_ (some 15) rfl rfl Try.func14 (by kernel_rfl) rfl #[.agg #[.int .i64 a0_0, .int .i64 a0_1, .int .i64 a0_2, .slice A0_3 l0_3.length c0_3], .int .i64 1048576] rfl (by (try simp only [List.map_toArray, List.map_cons, List.map_nil]); first | done | rfl | (simp only [List.length_drop, List.length_take]; rfl)) ?_; (with_reducible refine (laws_szBoard.calls a0_0 a0_1 a0_2 _ _ l0_3 1048576 t739 _ ?side1 ?side2 A3.out).mono ?_); (case side1 => exact Kd.C_below HR0_3.out hb_); (case side2 => exact HC0_3.out); rintro e w7 ⟨rfl, hb⟩; refine ⟨_, rfl, ?_⟩; have n0_ := Aside0.mk (blk_below (g := gb738) (o := .cells #[.int .i64 a0_0, .int .i64 a0_1, .int .i64 a0_2, .slice A0_3 l0_3.length c0_3] 24 (0, 0)) (by (with_reducible repeat (first | refine blk_drewN ?_ _ | refine blk_drew ?_ | refine blk_alloc ?_ _)); exact BK738.out) hb); have n1_ := Aside0.mk (below_step hb_ hb); clear BK738; clear HB; have BK738 := n0_; have HB := n1_; clear n0_ n1_; (try clear hb); (try clear hb2); (try clear hk); (try clear hi)))
  go_ret
  exact ⟨by first | rfl | (simp [errW_none, errW_some] <;> rfl) | (simp [*, errW_none, errW_some] <;> rfl), hb_⟩
 ·rw [if_neg c4] at H
  have c4b0 : decide (t739 < 0) = false := decide_eq_false c4
  clear c4
  replace H := Option.bind_eq_some_iff.mp H
  obtain ⟨⟨t740, t741, t742, t743⟩, A80, H⟩ := H
  replace H : ((spec_AverageJumps.f k t740 t741 t742 t743 a1).bind fun bt746 => ((laws_toBoard.f k a0_0 a0_1 a0_2 l0_3).bind fun bt749 => ((impl_AverageJumps.f k bt749.1 bt749.2.1 bt749.2.2.1 bt749.2.2.2 a1).bind fun bt756 => (if bt756.1 = bt746.1 then (if bt756.2.1 = bt746.2.1 then (laws_FnExactAverageJumps.j0 k (bt756.2.2 != bt746.2.2) a0_0 a0_1 a0_2 l0_3 bt749.1 bt749.2.1 bt749.2.2.1 bt749.2.2.2) else (laws_FnExactAverageJumps.j0 k true a0_0 a0_1 a0_2 l0_3 bt749.1 bt749.2.1 bt749.2.2.1 bt749.2.2.2)) else (laws_FnExactAverageJumps.j0 k true a0_0 a0_1 a0_2 l0_3 bt749.1 bt749.2.1 bt749.2.2.1 bt749.2.2.2))))) = some r := H
  have A8 := Aside0.mk A80
  clear A80
  replace H := Option.bind_eq_some_iff.mp H
  obtain ⟨⟨t746, t747, t748⟩, A90, H⟩ := H
  replace H : ((laws_toBoard.f k a0_0 a0_1 a0_2 l0_3).bind fun bt749 => ((impl_AverageJumps.f k bt749.1 bt749.2.1 bt749.2.2.1 bt749.2.2.2 a1).bind fun bt756 => (if bt756.1 = t746 then (if bt756.2.1 = t747 then (laws_FnExactAverageJumps.j0 k (bt756.2.2 != t748) a0_0 a0_1 a0_2 l0_3 bt749.1 bt749.2.1 bt749.2.2.1 bt749.2.2.2) else (laws_FnExactAverageJumps.j0 k true a0_0 a0_1 a0_2 l0_3 bt749.1 bt749.2.1 bt749.2.2.1 bt749.2.2.2)) else (laws_FnExactAverageJumps.j0 k true a0_0 a0_1 a0_2 l0_3 bt749.1 bt749.2.1 bt749.2.2.1 bt749.2.2.2)))) = some r := H
  have A9 := Aside0.mk A90
  clear A90
  replace H := Option.bind_eq_some_iff.mp H
  obtain ⟨⟨t749, t750, t751, t752⟩, A100, H⟩ := H
  replace H : ((impl_AverageJumps.f k t749 t750 t751 t752 a1).bind fun bt756 => (if bt756.1 = t746 then (if bt756.2.1 = t747 then (laws_FnExactAverageJumps.j0 k (bt756.2.2 != t748) a0_0 a0_1 a0_2 l0_3 t749 t750 t751 t752) else (laws_FnExactAverageJumps.j0 k true a0_0 a0_1 a0_2 l0_3 t749 t750 t751 t752)) else (laws_FnExactAverageJumps.j0 k true a0_0 a0_1 a0_2 l0_3 t749 t750 t751 t752))) = some r := H
  have A10 := Aside0.mk A100
  clear A100
  replace H := Option.bind_eq_some_iff.mp H
  obtain ⟨⟨t756, t757, t758⟩, A110, H⟩ := H
  replace H : (if t756 = t746 then (if t757 = t747 then (laws_FnExactAverageJumps.j0 k (t758 != t748) a0_0 a0_1 a0_2 l0_3 t749 t750 t751 t752) else (laws_FnExactAverageJumps.j0 k true a0_0 a0_1 a0_2 l0_3 t749 t750 t751 t752)) else (laws_FnExactAverageJumps.j0 k true a0_0 a0_1 a0_2 l0_3 t749 t750 t751 t752)) = some r := H
  have A11 := Aside0.mk A110
  clear A110
  have HC12 := Aside0.mk H
  clear H
  go_enter Try.func12, Try.ntmps12
  go_upto_region 8 with (first | ((with_reducible refine gate_dst (N := 2) rfl ?_); refine box_event ?hg (N := 2) ?hd (cs := #[.int .i64 a0_0, .int .i64 a0_1, .int .i64 a0_2, .slice A0_3 l0_3.length c0_3]) (t := 24) ?hr ?_; (case hd => rfl); (case hg => rfl); (case hr => first | (go_simp; done) | (go_simp; rfl)); intro gb738 hg w13 hbox hb; have n0_ := Aside0.mk (below_step hb_ hb); have n1_ := Aside0.mk (hbox); have n2_ := Aside0.mk ((by rw [hg]; exact (below_size hb_) : w.heap.size ≤ gb738)); have n3_ := Aside0.mk ((by rw [hg]; exact (below_size hb_) : w.heap.size ≤ gb738)); clear HB; have HB := n0_; have BK738 := n1_; have GW738 := n2_; have GE738 := n3_; clear n0_ n1_ n2_ n3_; clear hb hbox hg; have hcz14_0 : w13.cell? ⟨gb738, 0, none⟩ = some (.int .i64 a0_0) := (blk_cell BK738.out 0).trans rfl; have hcz14_1 : w13.cell? ⟨gb738, 1, none⟩ = some (.int .i64 a0_1) := (blk_cell BK738.out 1).trans rfl; have hcz14_2 : w13.cell? ⟨gb738, 2, none⟩ = some (.int .i64 a0_2) := (blk_cell BK738.out 2).trans rfl; have hcz14_3 : w13.cell? ⟨gb738, 3, none⟩ = some (.slice A0_3 l0_3.length c0_3) := (blk_cell BK738.out 3).trans rfl; have hfz14_0 := blk_frozen BK738.out 0; have hfz14_1 := blk_frozen BK738.out 1; have hfz14_2 := blk_frozen BK738.out 2; have hfz14_3 := blk_frozen BK738.out 3) | ((with_reducible refine gate_callee (f := 14) rfl ?_); refine goesL_ (some 15) rfl rfl Try.func14 (by kernel_rfl) rfl #[.agg #[.int .i64 a0_0, .int .i64 a0_1, .int .i64 a0_2, .slice A0_3 l0_3.length c0_3], .int .i64 1048576] rfl (by (try simp only [List.map_toArray, List.map_cons, List.map_nil]); first | done | rfl | (simp only [List.length_drop, List.length_take]; rfl)) ?_; (with_reducible refine (laws_szBoard.calls a0_0 a0_1 a0_2 _ _ l0_3 1048576 t739 _ ?side1 ?side2 A3.out).mono ?_); (case side1 => exact Kd.C_below HR0_3.out hb_); (case side2 => exact HC0_3.out); rintro e w15 ⟨rfl, hb⟩; refine ⟨_, rfl, ?_⟩; have n0_ := Aside0.mk (blk_below (g := gb738) (o := .cells #[.int .i64 a0_0, .int .i64 a0_1, .int .i64 a0_2, .slice A0_3 l0_3.length c0_3] 24 (0, 0)) (by (with_reducible repeat (first | refine blk_drewN ?_ _ | refine blk_drew ?_ | refine blk_alloc ?_ _)); exact BK738.out) hb); have n1_ := Aside0.mk (below_step hb_ hb); clear BK738; clear HB; have BK738 := n0_; have HB := n1_; clear n0_ n1_; (try clear hb); (try clear hb2); (try clear hk); (try clear hi); have hcz16_0 : w15.cell? ⟨gb738, 0, none⟩ = some (.int .i64 a0_0) := (blk_cell BK738.out 0).trans rfl; have hcz16_1 : w15.cell? ⟨gb738, 1, none⟩ = some (.int .i64 a0_1) := (blk_cell BK738.out 1).trans rfl; have hcz16_2 : w15.cell? ⟨gb738, 2, none⟩ = some (.int .i64 a0_2) := (blk_cell BK738.out 2).trans rfl; have hcz16_3 : w15.cell? ⟨gb738, 3, none⟩ = some (.slice A0_3 l0_3.length c0_3) := (blk_cell BK738.out 3).trans rfl; have hfz16_0 := blk_frozen BK738.out 0; have hfz16_1 := blk_frozen BK738.out 1; have hfz16_2 := blk_frozen BK738.out 2; have hfz16_3 := blk_frozen BK738.out 3) | ((with_reducible refine gate_callee (f := 16) rfl ?_); refine goesL_ (some 20) rfl rfl Try.func16 (by kernel_rfl) rfl #[.agg #[.int .i64 a0_0, .int .i64 a0_1, .int .i64 a0_2, .slice A0_3 l0_3.length c0_3]] rfl (by (try simp only [List.map_toArray, List.map_cons, List.map_nil]); first | done | rfl | (simp only [List.length_drop, List.length_take]; rfl)) ?_; (with_reducible refine (laws_toBoard.calls k a0_0 a0_1 a0_2 _ _ l0_3 t740 t741 t742 t743 _ ?side1 ?side2 A8.out).mono ?_); (case side1 => exact Kd.C_below HR0_3.out hb_); (case side2 => exact HC0_3.out); rintro e w17 ⟨v744, rfl, ho0, hb⟩; refine ⟨_, rfl, ?_⟩; have n0_ := Aside0.mk (Kd.R_lower ho0 (below_size hb_)); have n1_ := Aside0.mk (blk_below (g := gb738) (o := .cells #[.int .i64 a0_0, .int .i64 a0_1, .int .i64 a0_2, .slice A0_3 l0_3.length c0_3] 24 (0, 0)) (by (with_reducible repeat (first | refine blk_drewN ?_ _ | refine blk_drew ?_ | refine blk_alloc ?_ _)); exact BK738.out) hb); have n2_ := Aside0.mk (below_step hb_ hb); clear BK738; clear HB; have HO745 := n0_; have BK738 := n1_; have HB := n2_; clear n0_ n1_ n2_; (try clear hb); (try clear hb2); (try clear hk); (try clear hi); (try clear ho0); obtain ⟨Ao18, co18, eo18⟩ := Kd.R_slice HO745.out; subst eo18) | ((with_reducible refine gate_callee (f := 40) rfl ?_); refine goesL_ (some 22) rfl rfl Try.func40 (by kernel_rfl) rfl #[.agg #[.int .i64 t740, .int .i64 t741, .int .i64 t742, .slice Ao18 t743.length co18], .int .i64 a1] rfl (by (try simp only [List.map_toArray, List.map_cons, List.map_nil]); first | done | rfl | (simp only [List.length_drop, List.length_take]; rfl)) ?_; (with_reducible refine (spec_AverageJumps.calls k t740 t741 t742 _ _ t743 a1 t746 t747 t748 _ ?side1 ?side2 A9.out).mono ?_); (case side1 => repeat (first | exact (Kd.R_reads' HO745.out).2.2 | (with_reducible refine Kd.C_alloc ?_ _) | (with_reducible refine Kd.C_drewN ?_ _) | (with_reducible refine Kd.C_drew ?_))); (case side2 => exact (Kd.R_reads' HO745.out).2.1); rintro e w19 ⟨rfl, hb⟩; refine ⟨_, rfl, ?_⟩; have n0_ := Aside0.mk (Kd.R_below (by (with_reducible repeat (first | apply Kd.R_alloc | apply Kd.R_drewN | apply Kd.R_drew)); exact HO745.out) hb); have n1_ := Aside0.mk (blk_below (g := gb738) (o := .cells #[.int .i64 a0_0, .int .i64 a0_1, .int .i64 a0_2, .slice A0_3 l0_3.length c0_3] 24 (0, 0)) (by (with_reducible repeat (first | refine blk_drewN ?_ _ | refine blk_drew ?_ | refine blk_alloc ?_ _)); exact BK738.out) hb); have n2_ := Aside0.mk (below_step hb_ hb); clear HO745; clear BK738; clear HB; have HO745 := n0_; have BK738 := n1_; have HB := n2_; clear n0_ n1_ n2_; (try clear hb); (try clear hb2); (try clear hk); (try clear hi); have hcz20_0 : w19.cell? ⟨gb738, 0, none⟩ = some (.int .i64 a0_0) := (blk_cell BK738.out 0).trans rfl; have hcz20_1 : w19.cell? ⟨gb738, 1, none⟩ = some (.int .i64 a0_1) := (blk_cell BK738.out 1).trans rfl; have hcz20_2 : w19.cell? ⟨gb738, 2, none⟩ = some (.int .i64 a0_2) := (blk_cell BK738.out 2).trans rfl; have hcz20_3 : w19.cell? ⟨gb738, 3, none⟩ = some (.slice A0_3 l0_3.length c0_3) := (blk_cell BK738.out 3).trans rfl; have hfz20_0 := blk_frozen BK738.out 0; have hfz20_1 := blk_frozen BK738.out 1; have hfz20_2 := blk_frozen BK738.out 2; have hfz20_3 := blk_frozen BK738.out 3) | ((with_reducible refine gate_callee (f := 16) rfl ?_); refine goesL_ (some 27) rfl rfl Try.func16 (by kernel_rfl) rfl #[.agg #[.int .i64 a0_0, .int .i64 a0_1, .int .i64 a0_2, .slice A0_3 l0_3.length c0_3]] rfl (by (try simp only [List.map_toArray, List.map_cons, List.map_nil]); first | done | rfl | (simp only [List.length_drop, List.length_take]; rfl)) ?_; (with_reducible refine (laws_toBoard.calls k a0_0 a0_1 a0_2 _ _ l0_3 t749 t750 t751 t752 _ ?side1 ?side2 A10.out).mono ?_); (case side1 => exact Kd.C_below HR0_3.out hb_); (case side2 => exact HC0_3.out); rintro e w21 ⟨v753, rfl, ho0, hb⟩; refine ⟨_, rfl, ?_⟩; have n0_ := Aside0.mk (Kd.R_elder' (by (with_reducible repeat (first | apply Kd.R_alloc | apply Kd.R_drewN | apply Kd.R_drew)); exact HO745.out) (Kd.R_base ho0) hb); have n1_ := Aside0.mk (Kd.R_lower (Kd.R_new' ho0 (Kd.R_lt (by (with_reducible repeat (first | apply Kd.R_alloc | apply Kd.R_drewN | apply Kd.R_drew)); exact HO745.out))) (below_size hb_)); have n2_ := Aside0.mk (blk_below (g := gb738) (o := .cells #[.int .i64 a0_0, .int .i64 a0_1, .int .i64 a0_2, .slice A0_3 l0_3.length c0_3] 24 (0, 0)) (by (with_reducible repeat (first | refine blk_drewN ?_ _ | refine blk_drew ?_ | refine blk_alloc ?_ _)); exact BK738.out) hb); have n3_ := Aside0.mk (below_step hb_ hb); clear HO745; clear BK738; clear HB; have HO745 := n0_; have HO754 := n1_; have BK738 := n2_; have HB := n3_; clear n0_ n1_ n2_ n3_; (try clear hb); (try clear hb2); (try clear hk); (try clear hi); (try clear ho0)) | ((with_reducible refine gate_dst (N := 9) rfl ?_); refine box_event ?hg (N := 9) ?hd (cs := #[.int .i64 0, .int .i64 0, .int .i64 0, .slice none 0 0]) (t := 30) ?hr ?_; (case hd => rfl); (case hg => rfl); (case hr => first | (go_simp; done) | (go_simp; rfl)); intro gb755 hg w22 hbox hb; have n0_ := Aside0.mk (Kd.R_below (by (with_reducible repeat (first | apply Kd.R_alloc | apply Kd.R_drewN | apply Kd.R_drew)); exact HO745.out) hb); have n1_ := Aside0.mk (Kd.R_below (by (with_reducible repeat (first | apply Kd.R_alloc | apply Kd.R_drewN | apply Kd.R_drew)); exact HO754.out) hb); have n2_ := Aside0.mk (blk_below (g := gb738) (o := .cells #[.int .i64 a0_0, .int .i64 a0_1, .int .i64 a0_2, .slice A0_3 l0_3.length c0_3] 24 (0, 0)) (by (with_reducible repeat (first | refine blk_drewN ?_ _ | refine blk_drew ?_ | refine blk_alloc ?_ _)); exact BK738.out) hb); have n3_ := Aside0.mk (below_step hb_ hb); have n4_ := Aside0.mk (hbox); have n5_ := Aside0.mk ((by rw [hg]; exact (below_size hb_) : w.heap.size ≤ gb755)); have n6_ := Aside0.mk ((by rw [hg]; exact (below_size hb_) : w.heap.size ≤ gb755)); have n7_ := Aside0.mk ((by rw [hg]; exact Nat.ne_of_lt (blk_lt (g := gb738) (o := .cells #[.int .i64 a0_0, .int .i64 a0_1, .int .i64 a0_2, .slice A0_3 l0_3.length c0_3] 24 (0, 0)) (by (with_reducible repeat (first | refine blk_drewN ?_ _ | refine blk_drew ?_ | refine blk_alloc ?_ _)); exact BK738.out)) : gb738 ≠ gb755)); have n8_ := Aside0.mk ((by rw [hg]; exact Nat.ne_of_gt (blk_lt (g := gb738) (o := .cells #[.int .i64 a0_0, .int .i64 a0_1, .int .i64 a0_2, .slice A0_3 l0_3.length c0_3] 24 (0, 0)) (by (with_reducible repeat (first | refine blk_drewN ?_ _ | refine blk_drew ?_ | refine blk_alloc ?_ _)); exact BK738.out)) : gb755 ≠ gb738)); clear HO745; clear HO754; clear BK738; clear HB; have HO745 := n0_; have HO754 := n1_; have BK738 := n2_; have HB := n3_; have BK755 := n4_; have GW755 := n5_; have GE755 := n6_; have NB738_755 := n7_; have NB755_738 := n8_; clear n0_ n1_ n2_ n3_ n4_ n5_ n6_ n7_ n8_; clear hb hbox hg; have hnb23 := NB755_738.out; have hnc23 := NB738_755.out; have hcz24_0 : w22.cell? ⟨gb755, 0, none⟩ = some (.int .i64 0) := (blk_cell BK755.out 0).trans rfl; have hcz24_1 : w22.cell? ⟨gb755, 1, none⟩ = some (.int .i64 0) := (blk_cell BK755.out 1).trans rfl; have hcz24_2 : w22.cell? ⟨gb755, 2, none⟩ = some (.int .i64 0) := (blk_cell BK755.out 2).trans rfl; have hcz24_3 : w22.cell? ⟨gb755, 3, none⟩ = some (.slice none 0 0) := (blk_cell BK755.out 3).trans rfl; have hfz24_0 := blk_frozen BK755.out 0; have hfz24_1 := blk_frozen BK755.out 1; have hfz24_2 := blk_frozen BK755.out 2; have hfz24_3 := blk_frozen BK755.out 3; obtain ⟨Ao25, co25, eo25⟩ := Kd.R_slice HO754.out; subst eo25) | ((with_reducible refine gate_callee (f := 41) rfl ?_); refine goesL_ (some 31) rfl rfl Try.func41 (by kernel_rfl) rfl #[.agg #[.int .i64 t749, .int .i64 t750, .int .i64 t751, .slice Ao25 t752.length co25], .int .i64 a1] rfl (by (try simp only [List.map_toArray, List.map_cons, List.map_nil]); first | done | rfl | (simp only [List.length_drop, List.length_take]; rfl)) ?_; (with_reducible refine (impl_AverageJumps.calls k t749 t750 t751 _ _ t752 a1 t756 t757 t758 _ ?side1 ?side2 A11.out).mono ?_); (case side1 => refine (Kd.R_reads' (e := 70) (base := w.heap.size) (ok := fun k_ => (True ∧ some k_ ≠ (.slice Ao18 t743.length co18 : Value).ownBlock)) (n := t752.length) (c := co25) ?_).2.2; exact (by (with_reducible repeat (first | apply Kd.R_alloc | apply Kd.R_drewN | apply Kd.R_drew)); exact (Kd.R_mono (Kd.R_far (p := ⟨gb755, 3, none⟩) (Kd.R_far (p := ⟨gb755, 2, none⟩) (Kd.R_far (p := ⟨gb755, 1, none⟩) (Kd.R_far (p := ⟨gb755, 0, none⟩) (Kd.R_types HO754.out BK755.out (by decide)) (fun _ hk => hk.2) (.int .i64 t749)) (fun _ hk => hk.2) (.int .i64 t750)) (fun _ hk => hk.2) (.int .i64 t751)) (fun _ hk => hk.2) (.slice Ao25 t752.length co25)) (fun _ h_ => h_.1)))); (case side2 => exact (Kd.R_reads' HO754.out).2.1); rintro e w26 ⟨rfl, hb⟩; refine ⟨_, rfl, ?_⟩; have n0_ := Aside0.mk (Kd.R_below (by (with_reducible repeat (first | apply Kd.R_alloc | apply Kd.R_drewN | apply Kd.R_drew)); exact (Kd.R_mono (Kd.R_far (p := ⟨gb755, 3, none⟩) (Kd.R_far (p := ⟨gb755, 2, none⟩) (Kd.R_far (p := ⟨gb755, 1, none⟩) (Kd.R_far (p := ⟨gb755, 0, none⟩) (Kd.R_types HO745.out BK755.out (by decide)) (fun _ hk => hk.2) (.int .i64 t749)) (fun _ hk => hk.2) (.int .i64 t750)) (fun _ hk => hk.2) (.int .i64 t751)) (fun _ hk => hk.2) (.slice Ao25 t752.length co25)) (fun _ h_ => h_.1))) hb); have n1_ := Aside0.mk (Kd.R_below (by (with_reducible repeat (first | apply Kd.R_alloc | apply Kd.R_drewN | apply Kd.R_drew)); exact (Kd.R_mono (Kd.R_far (p := ⟨gb755, 3, none⟩) (Kd.R_far (p := ⟨gb755, 2, none⟩) (Kd.R_far (p := ⟨gb755, 1, none⟩) (Kd.R_far (p := ⟨gb755, 0, none⟩) (Kd.R_types HO754.out BK755.out (by decide)) (fun _ hk => hk.2) (.int .i64 t749)) (fun _ hk => hk.2) (.int .i64 t750)) (fun _ hk => hk.2) (.int .i64 t751)) (fun _ hk => hk.2) (.slice Ao25 t752.length co25)) (fun _ h_ => h_.1))) hb); have n2_ := Aside0.mk (blk_below (g := gb738) (o := .cells #[.int .i64 a0_0, .int .i64 a0_1, .int .i64 a0_2, .slice A0_3 l0_3.length c0_3] 24 (0, 0)) (by (with_reducible repeat (first | refine blk_drewN ?_ _ | refine blk_drew ?_ | refine blk_alloc ?_ _)); refine blk_far ?_ NB738_755.out _; (with_reducible repeat (first | refine blk_drewN ?_ _ | refine blk_drew ?_ | refine blk_alloc ?_ _)); refine blk_far ?_ NB738_755.out _; (with_reducible repeat (first | refine blk_drewN ?_ _ | refine blk_drew ?_ | refine blk_alloc ?_ _)); refine blk_far ?_ NB738_755.out _; (with_reducible repeat (first | refine blk_drewN ?_ _ | refine blk_drew ?_ | refine blk_alloc ?_ _)); refine blk_far ?_ NB738_755.out _; (with_reducible repeat (first | refine blk_drewN ?_ _ | refine blk_drew ?_ | refine blk_alloc ?_ _)); exact BK738.out) hb); have n3_ := Aside0.mk (blk_below (g := gb755) (o := .cells #[.int .i64 t749, .int .i64 t750, .int .i64 t751, .slice Ao25 t752.length co25] 30 (0, 0)) (by (with_reducible repeat (first | refine blk_drewN ?_ _ | refine blk_drew ?_ | refine blk_alloc ?_ _)); refine blk_put (cs := #[.int .i64 t749, .int .i64 t750, .int .i64 t751, .slice none 0 0]) ?_ 3 _ rfl; (with_reducible repeat (first | refine blk_drewN ?_ _ | refine blk_drew ?_ | refine blk_alloc ?_ _)); refine blk_put (cs := #[.int .i64 t749, .int .i64 t750, .int .i64 0, .slice none 0 0]) ?_ 2 _ rfl; (with_reducible repeat (first | refine blk_drewN ?_ _ | refine blk_drew ?_ | refine blk_alloc ?_ _)); refine blk_put (cs := #[.int .i64 t749, .int .i64 0, .int .i64 0, .slice none 0 0]) ?_ 1 _ rfl; (with_reducible repeat (first | refine blk_drewN ?_ _ | refine blk_drew ?_ | refine blk_alloc ?_ _)); refine blk_put (cs := #[.int .i64 0, .int .i64 0, .int .i64 0, .slice none 0 0]) ?_ 0 _ rfl; (with_reducible repeat (first | refine blk_drewN ?_ _ | refine blk_drew ?_ | refine blk_alloc ?_ _)); exact BK755.out) hb); have n4_ := Aside0.mk (below_step hb_ hb); clear HO745; clear HO754; clear BK738; clear BK755; clear HB; have HO745 := n0_; have HO754 := n1_; have BK738 := n2_; have BK755 := n3_; have HB := n4_; clear n0_ n1_ n2_ n3_ n4_; (try clear hb); (try clear hb2); (try clear hk); (try clear hi)))
  (try simp only [Act.put, List.setIfInBounds_toArray, List.set_cons_zero, List.set_cons_succ])
  go_cut [47] (fun v47 wc => ∃ (kq : Nat) (x47_11 : Bool), v47 = .bool x47_11 ∧ Aside0 (laws_FnExactAverageJumps.j0 kq x47_11 a0_0 a0_1 a0_2 l0_3 t749 t750 t751 t752 = some r) ∧ Aside0 (kq ≤ k) ∧ Aside0 (Kd.R k70 70 wc w.heap.size (fun _ => True) (.slice Ao25 t752.length co25) t752) ∧ Aside0 (wc.heap[gb738]? = some (.cells #[.int .i64 a0_0, .int .i64 a0_1, .int .i64 a0_2, (.slice A0_3 l0_3.length c0_3)] 24 (0, 0))) ∧ Aside0 (wc.heap[gb755]? = some (.cells #[.int .i64 t749, .int .i64 t750, .int .i64 t751, (.slice Ao25 t752.length co25)] 30 (0, 0))) ∧ Aside0 (Below w.heap.size w wc))
  case first =>
   have H := HC12.out
   clear HC12
   by_cases c27 : t756 = t746
   ·rw [if_pos c27] at H
    have c27b0 : (t756 == t746) = true := beq_iff_eq.mpr c27
    have c27b1 : (t756 != t746) = false := bne_eq_false_iff_eq.mpr c27
    clear c27
    (first | rw [c27b0] | (simp only [i64_w, i32_w]; rw [c27b0]) | skip)
    by_cases c28 : t757 = t747
    ·rw [if_pos c28] at H
     have c28b0 : (t757 == t747) = true := beq_iff_eq.mpr c28
     have c28b1 : (t757 != t747) = false := bne_eq_false_iff_eq.mpr c28
     clear c28
     have H' := Aside0.mk H
     clear H
     go_wp2
     go_meet
     case rel => exact ⟨_, ((t758 != t748)), (by first | rfl | (simp; done) | (simp [*]; done)), H', ⟨by first | omega | exact Nat.le_refl _⟩, ⟨by (with_reducible repeat (first | apply Kd.R_alloc | apply Kd.R_drewN | apply Kd.R_drew)); exact Kd.R_mono HO754.out (fun _ hk => trivial)⟩, ⟨by (with_reducible repeat (first | refine blk_drewN ?_ _ | refine blk_drew ?_ | refine blk_alloc ?_ _)); exact BK738.out⟩, ⟨by (with_reducible repeat (first | refine blk_drewN ?_ _ | refine blk_drew ?_ | refine blk_alloc ?_ _)); exact BK755.out⟩, ⟨hb_⟩⟩
    ·rw [if_neg c28] at H
     have c28b0 : (t757 == t747) = false := beq_eq_false_iff_ne.mpr c28
     have c28b1 : (t757 != t747) = true := bne_iff_ne.mpr c28
     have H' := Aside0.mk H
     clear H
     go_wp2
     go_meet
     case rel => exact ⟨_, (true), (by first | rfl | (simp; done) | (simp [*]; done)), H', ⟨by first | omega | exact Nat.le_refl _⟩, ⟨by (with_reducible repeat (first | apply Kd.R_alloc | apply Kd.R_drewN | apply Kd.R_drew)); exact Kd.R_mono HO754.out (fun _ hk => trivial)⟩, ⟨by (with_reducible repeat (first | refine blk_drewN ?_ _ | refine blk_drew ?_ | refine blk_alloc ?_ _)); exact BK738.out⟩, ⟨by (with_reducible repeat (first | refine blk_drewN ?_ _ | refine blk_drew ?_ | refine blk_alloc ?_ _)); exact BK755.out⟩, ⟨hb_⟩⟩
   ·rw [if_neg c27] at H
    have c27b0 : (t756 == t746) = false := beq_eq_false_iff_ne.mpr c27
    have c27b1 : (t756 != t746) = true := bne_iff_ne.mpr c27
    (first | rw [c27b0] | (simp only [i64_w, i32_w]; rw [c27b0]) | skip)
    have H' := Aside0.mk H
    clear H
    go_wp2
    go_meet
    case rel => exact ⟨_, (true), (by first | rfl | (simp; done) | (simp [*]; done)), H', ⟨by first | omega | exact Nat.le_refl _⟩, ⟨by (with_reducible repeat (first | apply Kd.R_alloc | apply Kd.R_drewN | apply Kd.R_drew)); exact Kd.R_mono HO754.out (fun _ hk => trivial)⟩, ⟨by (with_reducible repeat (first | refine blk_drewN ?_ _ | refine blk_drew ?_ | refine blk_alloc ?_ _)); exact BK738.out⟩, ⟨by (with_reducible repeat (first | refine blk_drewN ?_ _ | refine blk_drew ?_ | refine blk_alloc ?_ _)); exact BK755.out⟩, ⟨hb_⟩⟩
  case rest =>
   clear HC12
   try clear c1
   try clear c2
   try clear p2
   try clear c4
   try clear c4b0
   try clear c12
   try clear c14
   try clear c16
   try clear c23
   try clear c27
   try clear c27b0
   try clear c27b1
   try clear c28
   try clear c28b0
   try clear c28b1
   try clear hcz14_0
   try clear hcz14_1
   try clear hcz14_2
   try clear hcz14_3
   try clear hcz16_0
   try clear hcz16_1
   try clear hcz16_2
   try clear hcz16_3
   try clear hcz20_0
   try clear hcz20_1
   try clear hcz20_2
   try clear hcz20_3
   try clear hcz24_0
   try clear hcz24_1
   try clear hcz24_2
   try clear hcz24_3
   try clear hcz6_0
   try clear hcz6_1
   try clear hcz6_2
   try clear hcz6_3
   try clear hfz14_0
   try clear hfz14_1
   try clear hfz14_2
   try clear hfz14_3
   try clear hfz16_0
   try clear hfz16_1
   try clear hfz16_2
   try clear hfz16_3
   try clear hfz20_0
   try clear hfz20_1
   try clear hfz20_2
   try clear hfz20_3
   try clear hfz24_0
   try clear hfz24_1
   try clear hfz24_2
   try clear hfz24_3
   try clear hfz6_0
   try clear hfz6_1
   try clear hfz6_2
   try clear hfz6_3
   obtain ⟨kq, x47_11, rfl, HA, HJ11, HO_756003, BK738, BK755, HB⟩ := hcut
   cases kq with
   | zero => exact absurd HA.out (by simp [laws_FnExactAverageJumps.j0])
   | succ kj11 =>
    have H := HA.out
    clear HA
    simp only [laws_FnExactAverageJumps.j0] at H
    by_cases c29 : x47_11 = true
    ·subst c29
     have H1 : (some false) = some r := by rw [if_pos rfl] at H; exact H
     clear H
     have H := H1
     clear H1
     obtain rfl := Option.some.inj H
     go_wp2
     go_ret
     exact ⟨by first | rfl | (simp [errW_none, errW_some] <;> rfl) | (simp [*, errW_none, errW_some] <;> rfl), hb_⟩
    ·replace c29 := Bool.eq_false_iff.mpr c29
     subst c29
     have H1 : ((laws_toBoard.f kj11 a0_0 a0_1 a0_2 l0_3).bind fun bt759 => ((laws_eqBoard.f kj11 t749 t750 t751 t752 bt759.1 bt759.2.1 bt759.2.2.1 bt759.2.2.2).bind fun t765 => (if t765 = true then (some true) else (some false)))) = some r := by rw [if_neg (show ¬ (false = true) by decide)] at H; exact H
     clear H
     have H := H1
     clear H1
     replace H := Option.bind_eq_some_iff.mp H
     obtain ⟨⟨t759, t760, t761, t762⟩, A300, H⟩ := H
     replace H : ((laws_eqBoard.f kj11 t749 t750 t751 t752 t759 t760 t761 t762).bind fun t765 => (if t765 = true then (some true) else (some false))) = some r := H
     have A30 := Aside0.mk A300
     clear A300
     replace H := Option.bind_eq_some_iff.mp H
     obtain ⟨t765, A310, H⟩ := H
     replace H : (if t765 = true then (some true) else (some false)) = some r := H
     have A31 := Aside0.mk A310
     clear A310
     by_cases c32 : t765 = true
     ·subst c32
      have H1 : (some true) = some r := by rw [if_pos rfl] at H; exact H
      clear H
      have H := H1
      clear H1
      obtain rfl := Option.some.inj H
      try go_wp2
      have n0_ := Aside0.mk (Kd.R_drew HO_756003.out)
      have n1_ := Aside0.mk (blk_drew BK738.out)
      have n2_ := Aside0.mk (blk_drew BK755.out)
      have n3_ := Aside0.mk (below_drew1 HB.out)
      clear HO_756003
      clear BK738
      clear BK755
      clear HB
      have HO_756003 := n0_
      have BK738 := n1_
      have BK755 := n2_
      have HB := n3_
      clear n0_ n1_ n2_ n3_
      refine start_ (n := 5) (S := fun w' => w'.cell? ⟨gb755, 0, none⟩ = some (.int .i64 t749) ∧ w'.cell? ⟨gb755, 1, none⟩ = some (.int .i64 t750) ∧ w'.cell? ⟨gb755, 2, none⟩ = some (.int .i64 t751) ∧ w'.cell? ⟨gb755, 3, none⟩ = some (.slice Ao25 t752.length co25) ∧ w'.cell? ⟨gb738, 0, none⟩ = some (.int .i64 a0_0) ∧ w'.cell? ⟨gb738, 1, none⟩ = some (.int .i64 a0_1) ∧ w'.cell? ⟨gb738, 2, none⟩ = some (.int .i64 a0_2) ∧ w'.cell? ⟨gb738, 3, none⟩ = some (.slice A0_3 l0_3.length c0_3)) (ds := []) #[false, false, false, false, false] (by kernel_rfl) rfl rfl ⟨(blk_cell BK755.out 0).trans rfl, (blk_cell BK755.out 1).trans rfl, (blk_cell BK755.out 2).trans rfl, (blk_cell BK755.out 3).trans rfl, (blk_cell BK738.out 0).trans rfl, (blk_cell BK738.out 1).trans rfl, (blk_cell BK738.out 2).trans rfl, (blk_cell BK738.out 3).trans rfl⟩ (fun hHeld => ?_)
      generalize wc.drew = w33 at HO_756003 BK738 BK755 HB hHeld ⊢
      refine take_ (i := 0) (N := some 48) (v := ?_) (a' := ?_) #[true, false, false, false, false] rfl rfl (by kernel_rfl) (fun _ _ _ h => h) (Or.inl ⟨by rfl, ?_⟩) hHeld ?_ ?_
      rotate_left
      ·rintro w' ⟨s0, s1, s2, s3, s4, s5, s6, s7⟩
       go_simp
       with_reducible rfl
      rotate_left
      ·simp only [Act.put, List.setIfInBounds_toArray, List.set_cons_zero, List.set_cons_succ, i64_w, i32_w]
       rfl
      refine take_ (i := 1) (N := some 49) (v := ?_) (a' := ?_) #[true, true, false, false, false] rfl rfl (by kernel_rfl) (fun _ _ _ h => h) (Or.inl ⟨by rfl, ?_⟩) hHeld ?_ ?_
      rotate_left
      ·rintro w' ⟨s0, s1, s2, s3, s4, s5, s6, s7⟩
       go_simp
       with_reducible rfl
      rotate_left
      ·simp only [Act.put, List.setIfInBounds_toArray, List.set_cons_zero, List.set_cons_succ, i64_w, i32_w]
       rfl
      refine one_ (i := 2) (N := some 50) #[true, true, true, false, false] rfl rfl (by kernel_rfl) (by decide) (fun K hK => ?_)
      refine goes_ Try.func16 (by kernel_rfl) rfl #[.agg #[.int .i64 a0_0, .int .i64 a0_1, .int .i64 a0_2, .slice A0_3 l0_3.length c0_3]] (by rfl) rfl rfl (by (try simp only [List.map_toArray, List.map_cons, List.map_nil]); first | done | rfl | (simp only [List.length_drop, List.length_take]; rfl)) ?_
      with_reducible refine (laws_toBoard.calls kj11 a0_0 a0_1 a0_2 _ _ l0_3 t759 t760 t761 t762 _ ?side1 ?side2 A30.out).mono ?_
      (case side1 => exact Kd.C_below HR0_3.out hb_)
      (case side2 => exact HC0_3.out)
      rintro e w34 ⟨v763, rfl, ho0, hb⟩
      refine ⟨_, rfl, ?_⟩
      have n0_ := Aside0.mk (Kd.R_elder' (by (with_reducible repeat (first | apply Kd.R_alloc | apply Kd.R_drewN | apply Kd.R_drew)); exact HO_756003.out) (Kd.R_base ho0) hb)
      have n1_ := Aside0.mk (Kd.R_lower (Kd.R_new' ho0 (Kd.R_lt (by (with_reducible repeat (first | apply Kd.R_alloc | apply Kd.R_drewN | apply Kd.R_drew)); exact HO_756003.out))) (below_size hb_))
      have n2_ := Aside0.mk (blk_below (g := gb738) (o := .cells #[.int .i64 a0_0, .int .i64 a0_1, .int .i64 a0_2, .slice A0_3 l0_3.length c0_3] 24 (0, 0)) (by (with_reducible repeat (first | refine blk_drewN ?_ _ | refine blk_drew ?_ | refine blk_alloc ?_ _)); exact BK738.out) hb)
      have n3_ := Aside0.mk (blk_below (g := gb755) (o := .cells #[.int .i64 t749, .int .i64 t750, .int .i64 t751, .slice Ao25 t752.length co25] 30 (0, 0)) (by (with_reducible repeat (first | refine blk_drewN ?_ _ | refine blk_drew ?_ | refine blk_alloc ?_ _)); exact BK755.out) hb)
      have n4_ := Aside0.mk (below_step hb_ hb)
      clear HO_756003
      clear BK738
      clear BK755
      clear HB
      have HO_756003 := n0_
      have HO764 := n1_
      have BK738 := n2_
      have BK755 := n3_
      have HB := n4_
      clear n0_ n1_ n2_ n3_ n4_
      (try clear hb)
      (try clear hb2)
      (try clear hk)
      (try clear hi)
      (try clear ho0)
      obtain ⟨Ao35, co35, eo35⟩ := Kd.R_slice HO764.out
      (first | subst eo35 | (injection eo35 with f1_ f2_ f3_; have f4_ := f1_.symm; have f5_ := f3_.symm; clear f1_ f2_ f3_; subst f4_; subst f5_))
      refine hK.out _ _ ⟨(blk_cell BK755.out 0).trans rfl, (blk_cell BK755.out 1).trans rfl, (blk_cell BK755.out 2).trans rfl, (blk_cell BK755.out 3).trans rfl, (blk_cell BK738.out 0).trans rfl, (blk_cell BK738.out 1).trans rfl, (blk_cell BK738.out 2).trans rfl, (blk_cell BK738.out 3).trans rfl⟩ (fun hHeld => ?_)
      clear hK K
      refine norm_ (a' := ?_) ?_ ?_
      rotate_left
      ·show Act.put _ (some 50) _ = _
       simp only [Act.put, List.setIfInBounds_toArray, List.set_cons_zero, List.set_cons_succ, i64_w, i32_w]
       rfl
      refine one_ (i := 3) (N := some 51) #[true, true, true, true, false] rfl rfl (by kernel_rfl) (by decide) (fun K hK => ?_)
      refine goes_ Try.func18 (by kernel_rfl) rfl #[.agg #[.int .i64 t749, .int .i64 t750, .int .i64 t751, .slice Ao25 t752.length co25], .agg #[.int .i64 t759, .int .i64 t760, .int .i64 t761, .slice Ao35 t762.length co35]] (by rfl) rfl rfl (by (try simp only [List.map_toArray, List.map_cons, List.map_nil]); first | done | rfl | (simp only [List.length_drop, List.length_take]; rfl)) ?_
      with_reducible refine (laws_eqBoard.calls kj11 t749 t750 t751 _ _ t752 t759 t760 t761 _ _ t762 true _ ?side1 ?side2 ?side3 ?side4 A31.out).mono ?_
      (case side1 => repeat (first | exact (Kd.R_reads' HO_756003.out).2.2 | (with_reducible refine Kd.C_alloc ?_ _) | (with_reducible refine Kd.C_drewN ?_ _) | (with_reducible refine Kd.C_drew ?_)))
      (case side2 => exact (Kd.R_reads' HO_756003.out).2.1)
      (case side3 => repeat (first | exact (Kd.R_reads' HO764.out).2.2 | (with_reducible refine Kd.C_alloc ?_ _) | (with_reducible refine Kd.C_drewN ?_ _) | (with_reducible refine Kd.C_drew ?_)))
      (case side4 => exact (Kd.R_reads' HO764.out).2.1)
      rintro e w36 ⟨rfl, hb⟩
      refine ⟨_, rfl, ?_⟩
      have n0_ := Aside0.mk (Kd.R_below (by (with_reducible repeat (first | apply Kd.R_alloc | apply Kd.R_drewN | apply Kd.R_drew)); exact HO_756003.out) hb)
      have n1_ := Aside0.mk (Kd.R_below (by (with_reducible repeat (first | apply Kd.R_alloc | apply Kd.R_drewN | apply Kd.R_drew)); exact HO764.out) hb)
      have n2_ := Aside0.mk (blk_below (g := gb738) (o := .cells #[.int .i64 a0_0, .int .i64 a0_1, .int .i64 a0_2, .slice A0_3 l0_3.length c0_3] 24 (0, 0)) (by (with_reducible repeat (first | refine blk_drewN ?_ _ | refine blk_drew ?_ | refine blk_alloc ?_ _)); exact BK738.out) hb)
      have n3_ := Aside0.mk (blk_below (g := gb755) (o := .cells #[.int .i64 t749, .int .i64 t750, .int .i64 t751, .slice Ao25 t752.length co25] 30 (0, 0)) (by (with_reducible repeat (first | refine blk_drewN ?_ _ | refine blk_drew ?_ | refine blk_alloc ?_ _)); exact BK755.out) hb)
      have n4_ := Aside0.mk (below_step hb_ hb)
      clear HO_756003
      clear HO764
      clear BK738
      clear BK755
      clear HB
      have HO_756003 := n0_
      have HO764 := n1_
      have BK738 := n2_
      have BK755 := n3_
      have HB := n4_
      clear n0_ n1_ n2_ n3_ n4_
      (try clear hb)
      (try clear hb2)
      (try clear hk)
      (try clear hi)
      refine hK.out _ _ ⟨(blk_cell BK755.out 0).trans rfl, (blk_cell BK755.out 1).trans rfl, (blk_cell BK755.out 2).trans rfl, (blk_cell BK755.out 3).trans rfl, (blk_cell BK738.out 0).trans rfl, (blk_cell BK738.out 1).trans rfl, (blk_cell BK738.out 2).trans rfl, (blk_cell BK738.out 3).trans rfl⟩ (fun hHeld => ?_)
      clear hK K
      refine norm_ (a' := ?_) ?_ ?_
      rotate_left
      ·show Act.put _ (some 51) _ = _
       simp only [Act.put, List.setIfInBounds_toArray, List.set_cons_zero, List.set_cons_succ, i64_w, i32_w]
       rfl
      refine pure_ (i := 4) (N := some 52) (v := ?_) (a' := ?_) #[true, true, true, true, true] rfl rfl (by kernel_rfl) (fun _ _ _ h => h) (Or.inl ⟨by rfl, ?_⟩) ?_ ?_
      rotate_left
      ·intro w'
       go_simp
       with_reducible rfl
      rotate_left
      ·simp only [Act.put, List.setIfInBounds_toArray, List.set_cons_zero, List.set_cons_succ, i64_w, i32_w]
       rfl
      refine done_ (by kernel_rfl) ?_
      try go_wp2
      go_ret
      exact ⟨by first | rfl | (simp [errW_none, errW_some] <;> rfl) | (simp [*, errW_none, errW_some] <;> rfl), hb_⟩
     ·replace c32 := Bool.eq_false_iff.mpr c32
      subst c32
      have H1 : (some false) = some r := by rw [if_neg (show ¬ (false = true) by decide)] at H; exact H
      clear H
      have H := H1
      clear H1
      obtain rfl := Option.some.inj H
      try go_wp2
      have n0_ := Aside0.mk (Kd.R_drew HO_756003.out)
      have n1_ := Aside0.mk (blk_drew BK738.out)
      have n2_ := Aside0.mk (blk_drew BK755.out)
      have n3_ := Aside0.mk (below_drew1 HB.out)
      clear HO_756003
      clear BK738
      clear BK755
      clear HB
      have HO_756003 := n0_
      have BK738 := n1_
      have BK755 := n2_
      have HB := n3_
      clear n0_ n1_ n2_ n3_
      refine start_ (n := 5) (S := fun w' => w'.cell? ⟨gb755, 0, none⟩ = some (.int .i64 t749) ∧ w'.cell? ⟨gb755, 1, none⟩ = some (.int .i64 t750) ∧ w'.cell? ⟨gb755, 2, none⟩ = some (.int .i64 t751) ∧ w'.cell? ⟨gb755, 3, none⟩ = some (.slice Ao25 t752.length co25) ∧ w'.cell? ⟨gb738, 0, none⟩ = some (.int .i64 a0_0) ∧ w'.cell? ⟨gb738, 1, none⟩ = some (.int .i64 a0_1) ∧ w'.cell? ⟨gb738, 2, none⟩ = some (.int .i64 a0_2) ∧ w'.cell? ⟨gb738, 3, none⟩ = some (.slice A0_3 l0_3.length c0_3)) (ds := []) #[false, false, false, false, false] (by kernel_rfl) rfl rfl ⟨(blk_cell BK755.out 0).trans rfl, (blk_cell BK755.out 1).trans rfl, (blk_cell BK755.out 2).trans rfl, (blk_cell BK755.out 3).trans rfl, (blk_cell BK738.out 0).trans rfl, (blk_cell BK738.out 1).trans rfl, (blk_cell BK738.out 2).trans rfl, (blk_cell BK738.out 3).trans rfl⟩ (fun hHeld => ?_)
      generalize wc.drew = w37 at HO_756003 BK738 BK755 HB hHeld ⊢
      refine take_ (i := 0) (N := some 48) (v := ?_) (a' := ?_) #[true, false, false, false, false] rfl rfl (by kernel_rfl) (fun _ _ _ h => h) (Or.inl ⟨by rfl, ?_⟩) hHeld ?_ ?_
      rotate_left
      ·rintro w' ⟨s0, s1, s2, s3, s4, s5, s6, s7⟩
       go_simp
       with_reducible rfl
      rotate_left
      ·simp only [Act.put, List.setIfInBounds_toArray, List.set_cons_zero, List.set_cons_succ, i64_w, i32_w]
       rfl
      refine take_ (i := 1) (N := some 49) (v := ?_) (a' := ?_) #[true, true, false, false, false] rfl rfl (by kernel_rfl) (fun _ _ _ h => h) (Or.inl ⟨by rfl, ?_⟩) hHeld ?_ ?_
      rotate_left
      ·rintro w' ⟨s0, s1, s2, s3, s4, s5, s6, s7⟩
       go_simp
       with_reducible rfl
      rotate_left
      ·simp only [Act.put, List.setIfInBounds_toArray, List.set_cons_zero, List.set_cons_succ, i64_w, i32_w]
       rfl
      refine one_ (i := 2) (N := some 50) #[true, true, true, false, false] rfl rfl (by kernel_rfl) (by decide) (fun K hK => ?_)
      refine goes_ Try.func16 (by kernel_rfl) rfl #[.agg #[.int .i64 a0_0, .int .i64 a0_1, .int .i64 a0_2, .slice A0_3 l0_3.length c0_3]] (by rfl) rfl rfl (by (try simp only [List.map_toArray, List.map_cons, List.map_nil]); first | done | rfl | (simp only [List.length_drop, List.length_take]; rfl)) ?_
      with_reducible refine (laws_toBoard.calls kj11 a0_0 a0_1 a0_2 _ _ l0_3 t759 t760 t761 t762 _ ?side1 ?side2 A30.out).mono ?_
      (case side1 => exact Kd.C_below HR0_3.out hb_)
      (case side2 => exact HC0_3.out)
      rintro e w38 ⟨v763, rfl, ho0, hb⟩
      refine ⟨_, rfl, ?_⟩
      have n0_ := Aside0.mk (Kd.R_elder' (by (with_reducible repeat (first | apply Kd.R_alloc | apply Kd.R_drewN | apply Kd.R_drew)); exact HO_756003.out) (Kd.R_base ho0) hb)
      have n1_ := Aside0.mk (Kd.R_lower (Kd.R_new' ho0 (Kd.R_lt (by (with_reducible repeat (first | apply Kd.R_alloc | apply Kd.R_drewN | apply Kd.R_drew)); exact HO_756003.out))) (below_size hb_))
      have n2_ := Aside0.mk (blk_below (g := gb738) (o := .cells #[.int .i64 a0_0, .int .i64 a0_1, .int .i64 a0_2, .slice A0_3 l0_3.length c0_3] 24 (0, 0)) (by (with_reducible repeat (first | refine blk_drewN ?_ _ | refine blk_drew ?_ | refine blk_alloc ?_ _)); exact BK738.out) hb)
      have n3_ := Aside0.mk (blk_below (g := gb755) (o := .cells #[.int .i64 t749, .int .i64 t750, .int .i64 t751, .slice Ao25 t752.length co25] 30 (0, 0)) (by (with_reducible repeat (first | refine blk_drewN ?_ _ | refine blk_drew ?_ | refine blk_alloc ?_ _)); exact BK755.out) hb)
      have n4_ := Aside0.mk (below_step hb_ hb)
      clear HO_756003
      clear BK738
      clear BK755
      clear HB
      have HO_756003 := n0_
      have HO764 := n1_
      have BK738 := n2_
      have BK755 := n3_
      have HB := n4_
      clear n0_ n1_ n2_ n3_ n4_
      (try clear hb)
      (try clear hb2)
      (try clear hk)
      (try clear hi)
      (try clear ho0)
      obtain ⟨Ao39, co39, eo39⟩ := Kd.R_slice HO764.out
      (first | subst eo39 | (injection eo39 with f1_ f2_ f3_; have f4_ := f1_.symm; have f5_ := f3_.symm; clear f1_ f2_ f3_; subst f4_; subst f5_))
      refine hK.out _ _ ⟨(blk_cell BK755.out 0).trans rfl, (blk_cell BK755.out 1).trans rfl, (blk_cell BK755.out 2).trans rfl, (blk_cell BK755.out 3).trans rfl, (blk_cell BK738.out 0).trans rfl, (blk_cell BK738.out 1).trans rfl, (blk_cell BK738.out 2).trans rfl, (blk_cell BK738.out 3).trans rfl⟩ (fun hHeld => ?_)
      clear hK K
      refine norm_ (a' := ?_) ?_ ?_
      rotate_left
      ·show Act.put _ (some 50) _ = _
       simp only [Act.put, List.setIfInBounds_toArray, List.set_cons_zero, List.set_cons_succ, i64_w, i32_w]
       rfl
      refine one_ (i := 3) (N := some 51) #[true, true, true, true, false] rfl rfl (by kernel_rfl) (by decide) (fun K hK => ?_)
      refine goes_ Try.func18 (by kernel_rfl) rfl #[.agg #[.int .i64 t749, .int .i64 t750, .int .i64 t751, .slice Ao25 t752.length co25], .agg #[.int .i64 t759, .int .i64 t760, .int .i64 t761, .slice Ao39 t762.length co39]] (by rfl) rfl rfl (by (try simp only [List.map_toArray, List.map_cons, List.map_nil]); first | done | rfl | (simp only [List.length_drop, List.length_take]; rfl)) ?_
      with_reducible refine (laws_eqBoard.calls kj11 t749 t750 t751 _ _ t752 t759 t760 t761 _ _ t762 false _ ?side1 ?side2 ?side3 ?side4 A31.out).mono ?_
      (case side1 => repeat (first | exact (Kd.R_reads' HO_756003.out).2.2 | (with_reducible refine Kd.C_alloc ?_ _) | (with_reducible refine Kd.C_drewN ?_ _) | (with_reducible refine Kd.C_drew ?_)))
      (case side2 => exact (Kd.R_reads' HO_756003.out).2.1)
      (case side3 => repeat (first | exact (Kd.R_reads' HO764.out).2.2 | (with_reducible refine Kd.C_alloc ?_ _) | (with_reducible refine Kd.C_drewN ?_ _) | (with_reducible refine Kd.C_drew ?_)))
      (case side4 => exact (Kd.R_reads' HO764.out).2.1)
      rintro e w40 ⟨rfl, hb⟩
      refine ⟨_, rfl, ?_⟩
      have n0_ := Aside0.mk (Kd.R_below (by (with_reducible repeat (first | apply Kd.R_alloc | apply Kd.R_drewN | apply Kd.R_drew)); exact HO_756003.out) hb)
      have n1_ := Aside0.mk (Kd.R_below (by (with_reducible repeat (first | apply Kd.R_alloc | apply Kd.R_drewN | apply Kd.R_drew)); exact HO764.out) hb)
      have n2_ := Aside0.mk (blk_below (g := gb738) (o := .cells #[.int .i64 a0_0, .int .i64 a0_1, .int .i64 a0_2, .slice A0_3 l0_3.length c0_3] 24 (0, 0)) (by (with_reducible repeat (first | refine blk_drewN ?_ _ | refine blk_drew ?_ | refine blk_alloc ?_ _)); exact BK738.out) hb)
      have n3_ := Aside0.mk (blk_below (g := gb755) (o := .cells #[.int .i64 t749, .int .i64 t750, .int .i64 t751, .slice Ao25 t752.length co25] 30 (0, 0)) (by (with_reducible repeat (first | refine blk_drewN ?_ _ | refine blk_drew ?_ | refine blk_alloc ?_ _)); exact BK755.out) hb)
      have n4_ := Aside0.mk (below_step hb_ hb)
      clear HO_756003
      clear HO764
      clear BK738
      clear BK755
      clear HB
      have HO_756003 := n0_
      have HO764 := n1_
      have BK738 := n2_
      have BK755 := n3_
      have HB := n4_
      clear n0_ n1_ n2_ n3_ n4_
      (try clear hb)
      (try clear hb2)
      (try clear hk)
      (try clear hi)
      refine hK.out _ _ ⟨(blk_cell BK755.out 0).trans rfl, (blk_cell BK755.out 1).trans rfl, (blk_cell BK755.out 2).trans rfl, (blk_cell BK755.out 3).trans rfl, (blk_cell BK738.out 0).trans rfl, (blk_cell BK738.out 1).trans rfl, (blk_cell BK738.out 2).trans rfl, (blk_cell BK738.out 3).trans rfl⟩ (fun hHeld => ?_)
      clear hK K
      refine norm_ (a' := ?_) ?_ ?_
      rotate_left
      ·show Act.put _ (some 51) _ = _
       simp only [Act.put, List.setIfInBounds_toArray, List.set_cons_zero, List.set_cons_succ, i64_w, i32_w]
       rfl
      refine pure_ (i := 4) (N := some 52) (v := ?_) (a' := ?_) #[true, true, true, true, true] rfl rfl (by kernel_rfl) (fun _ _ _ h => h) (Or.inl ⟨by rfl, ?_⟩) ?_ ?_
      rotate_left
      ·intro w'
       go_simp
       with_reducible rfl
      rotate_left
      ·simp only [Act.put, List.setIfInBounds_toArray, List.set_cons_zero, List.set_cons_succ, i64_w, i32_w]
       rfl
      refine done_ (by kernel_rfl) ?_
      try go_wp2
      go_ret
      exact ⟨by first | rfl | (simp [errW_none, errW_some] <;> rfl) | (simp [*, errW_none, errW_some] <;> rfl), hb_⟩

end Go.Proofs.Ytphjhfpeomifiaa.P
