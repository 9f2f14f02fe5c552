-- written for this claim by a program of this session (wip/tools/xprint.py), which runs the kit's print with other cuts
import Derived.Test.YtphjhfpeomifiaaP
import Derived.Test.YtphjhfpeomifiaaEByW
import Derived.Test.YtphjhfpeomifiaaESGaByW
import Derived.Test.YtphjhfpeomifiaaP44
import Derived.Test.YtphjhfpeomifiaaP45
import Derived.Test.YtphjhfpeomifiaaP46
import Derived.Test.YtphjhfpeomifiaaP48
import Derived.Test.YtphjhfpeomifiaaP57
import Derived.Test.YtphjhfpeomifiaaP79
namespace Go.Proofs.Ytphjhfpeomifiaa.P
open Go.RowKit Go.Proofs.YtphjhfpeomifiaaW.PrintWords Go.Proofs.YtphjhfpeomifiaaW.PrintLast Go.Proofs.YtphjhfpeomifiaaW.PrintMore
attribute [local go_sem] max2_int min2_int max_two min_two max_three min_three max_four min_four   -- for this text's walks alone
set_option linter.unusedVariables false
set_option linter.unusedSimpArgs false

/-! ### spec_FewestJumps: function 32 -/
mutual
def spec_FewestJumps.j0 : Nat → Int → Bool → Int → Int → Int → List (S70) → Option (Int × Bool)
 | 0, _, _, _, _, _, _ => none
 | k + 1, x1, x19, x480000, x480001, x480002, x480003 => if x19 = true then (some (0, false)) else ((spec_gaBy.f k x480000 x480001 x480002 x480003 x1).bind fun t485 => (spec_FewestJumps.l0 k t485 (t485.length : Int) 0))
def spec_FewestJumps.l0 : Nat → List Int → Int → Int → Option (Int × Bool)
 | 0, _, _, _ => none
 | k + 1, x22, x23, x24 => if x24 < x23 then (if 0 ≤ x24 then (if x24 < (x22.length : Int) then (if (rd x22 x24) > 0 then (some (x24, true)) else (spec_FewestJumps.l0 k x22 x23 (wrap64 (x24 + 1)))) else (none)) else (none)) else (some (0, false))
end
def spec_FewestJumps.f (k : Nat) (a0_0 : Int) (a0_1 : Int) (a0_2 : Int) (l0_3 : List (S70)) (a1 : Int) : Option (Int × Bool) := (spec_gaAsked.f k a0_0 a0_1 a0_2 l0_3 a1).bind fun t480 => (if t480 = true then ((spec_gaCounts.f k a0_0 a0_1 a0_2 l0_3 a1).bind fun t481 => (if 0 < (t481.length : Int) then (spec_FewestJumps.j0 k a1 ((rd t481 0) == 0) a0_0 a0_1 a0_2 l0_3) else (none))) else (spec_FewestJumps.j0 k a1 true a0_0 a0_1 a0_2 l0_3))
theorem spec_FewestJumps.mono_l : ∀ k, (∀ y0 y1 y2 y3 y4 y5, LeO (spec_FewestJumps.j0 k y0 y1 y2 y3 y4 y5) (spec_FewestJumps.j0 (k + 1) y0 y1 y2 y3 y4 y5)) ∧ (∀ y0 y1 y2, LeO (spec_FewestJumps.l0 k y0 y1 y2) (spec_FewestJumps.l0 (k + 1) y0 y1 y2))
 | 0 => ⟨fun _ _ _ _ _ _ r h => by simp [spec_FewestJumps.j0] at h, fun _ _ _ r h => by simp [spec_FewestJumps.l0] at h⟩
 | k + 1 => by
  obtain ⟨ih0, ih1⟩ := spec_FewestJumps.mono_l k
  refine ⟨?_, ?_⟩
  ·intro y0 y1 y2 y3 y4 y5
   unfold spec_FewestJumps.j0
   repeat' first
   | (with_reducible exact ih0 _ _ _ _ _ _)
   | (with_reducible exact ih1 _ _ _)
   | (with_reducible exact spec_gaAsked.mono _ _ _ _ _ _)
   | (with_reducible exact spec_gaBy.mono _ _ _ _ _ _)
   | (with_reducible exact spec_gaCounts.mono _ _ _ _ _ _)
   | (with_reducible exact LeO.refl _)
   | (with_reducible exact LeO.none _)
   | (with_reducible refine LeO.ite ?_ ?_)
   | (with_reducible refine LeO.bind ?_ (fun _ => ?_))
   | exact ih0 _ _ _ _ _ _
   | exact ih1 _ _ _
   | exact spec_gaAsked.mono _ _ _ _ _ _
   | exact spec_gaBy.mono _ _ _ _ _ _
   | exact spec_gaCounts.mono _ _ _ _ _ _
   | exact LeO.none _
   | refine LeO.ite ?_ ?_
   | refine LeO.bind ?_ (fun _ => ?_)
  ·intro y0 y1 y2
   unfold spec_FewestJumps.l0
   repeat' first
   | (with_reducible exact ih0 _ _ _ _ _ _)
   | (with_reducible exact ih1 _ _ _)
   | (with_reducible exact spec_gaAsked.mono _ _ _ _ _ _)
   | (with_reducible exact spec_gaBy.mono _ _ _ _ _ _)
   | (with_reducible exact spec_gaCounts.mono _ _ _ _ _ _)
   | (with_reducible exact LeO.refl _)
   | (with_reducible exact LeO.none _)
   | (with_reducible refine LeO.ite ?_ ?_)
   | (with_reducible refine LeO.bind ?_ (fun _ => ?_))
   | exact ih0 _ _ _ _ _ _
   | exact ih1 _ _ _
   | exact spec_gaAsked.mono _ _ _ _ _ _
   | exact spec_gaBy.mono _ _ _ _ _ _
   | exact spec_gaCounts.mono _ _ _ _ _ _
   | exact LeO.none _
   | refine LeO.ite ?_ ?_
   | refine LeO.bind ?_ (fun _ => ?_)
theorem spec_FewestJumps.mono : ∀ a0 a1 a2 a3 a4 k, LeO (spec_FewestJumps.f k a0 a1 a2 a3 a4) (spec_FewestJumps.f (k + 1) a0 a1 a2 a3 a4) := by
 intro a0 a1 a2 a3 a4 k
 obtain ⟨ih0, ih1⟩ := spec_FewestJumps.mono_l k
 unfold spec_FewestJumps.f
 repeat' first
   | (with_reducible exact ih0 _ _ _ _ _ _)
   | (with_reducible exact ih1 _ _ _)
   | (with_reducible exact spec_gaAsked.mono _ _ _ _ _ _)
   | (with_reducible exact spec_gaBy.mono _ _ _ _ _ _)
   | (with_reducible exact spec_gaCounts.mono _ _ _ _ _ _)
   | (with_reducible exact LeO.refl _)
   | (with_reducible exact LeO.none _)
   | (with_reducible refine LeO.ite ?_ ?_)
   | (with_reducible refine LeO.bind ?_ (fun _ => ?_))
   | exact ih0 _ _ _ _ _ _
   | exact ih1 _ _ _
   | exact spec_gaAsked.mono _ _ _ _ _ _
   | exact spec_gaBy.mono _ _ _ _ _ _
   | exact spec_gaCounts.mono _ _ _ _ _ _
   | exact LeO.none _
   | refine LeO.ite ?_ ?_
   | refine LeO.bind ?_ (fun _ => ?_)
set_option maxHeartbeats 8000000 in
set_option maxRecDepth 100000 in
theorem spec_FewestJumps.calls (k : Nat) (a0_0 : Int) (a0_1 : Int) (a0_2 : Int) (A0_3 : Option Addr) (c0_3 : Nat) (l0_3 : List (S70)) (a1 : Int) (r1 : Int) (r2 : Bool) (w : World) (hr0_3 : Kd.C k70 w A0_3 l0_3.length l0_3) (hc0_3 : l0_3.length ≤ c0_3) (h : spec_FewestJumps.f k a0_0 a0_1 a0_2 l0_3 a1 = some (r1, r2)) :
  Calls Try.prog 32 #[.agg #[.int .i64 a0_0, .int .i64 a0_1, .int .i64 a0_2, .slice A0_3 l0_3.length c0_3], .int .i64 a1] w fun e w' => e = .returned (.tuple #[.int .i64 r1, .bool r2]) ∧ Below w.heap.size w w' := by
 have hu30 := Try.underlying30
 have HR0_3 := Aside0.mk hr0_3
 have HC0_3 := Aside0.mk hc0_3
 clear hr0_3 hc0_3
 have HB := Aside0.mk (Below.refl w.heap.size w)
 have H : ((spec_gaAsked.f k a0_0 a0_1 a0_2 l0_3 a1).bind fun t480 => (if t480 = true then ((spec_gaCounts.f k a0_0 a0_1 a0_2 l0_3 a1).bind fun t481 => (if 0 < (t481.length : Int) then (spec_FewestJumps.j0 k a1 ((rd t481 0) == 0) a0_0 a0_1 a0_2 l0_3) else (none))) else (spec_FewestJumps.j0 k a1 true a0_0 a0_1 a0_2 l0_3))) = some (r1, r2) := h
 clear h
 have HC3 := Aside0.mk H
 clear H
 go_enter Try.func32, Try.ntmps32
 go_upto_region 1 with (first | ((with_reducible refine gate_dst (N := 2) rfl ?_); refine box_event ?hg (N := 2) ?hd (cs := #[.int .i64 a0_0, .int .i64 a0_1, .int .i64 a0_2, .slice A0_3 l0_3.length c0_3]) (t := 30) ?hr ?_; (case hd => rfl); (case hg => rfl); (case hr => first | (go_simp; done) | (go_simp; rfl)); intro gb479 hg w4 hbox hb; have n0_ := Aside0.mk (below_step hb_ hb); have n1_ := Aside0.mk (hbox); have n2_ := Aside0.mk ((by rw [hg]; exact (below_size hb_) : w.heap.size ≤ gb479)); have n3_ := Aside0.mk ((by rw [hg]; exact (below_size hb_) : w.heap.size ≤ gb479)); clear HB; have HB := n0_; have BK479 := n1_; have GW479 := n2_; have GE479 := n3_; clear n0_ n1_ n2_ n3_; clear hb hbox hg))
 (try simp only [Act.put, List.setIfInBounds_toArray, List.set_cons_zero, List.set_cons_succ])
 go_cut [19] (fun v19 wc => ∃ (kq : Nat) (x19_2 : Bool), v19 = .bool x19_2 ∧ Aside0 (spec_FewestJumps.j0 kq a1 x19_2 a0_0 a0_1 a0_2 l0_3 = some (r1, r2)) ∧ Aside0 (kq ≤ k) ∧ Aside0 (wc.heap[gb479]? = some (.cells #[.int .i64 a0_0, .int .i64 a0_1, .int .i64 a0_2, (.slice A0_3 l0_3.length c0_3)] 30 (0, 0))) ∧ Aside0 (Below w.heap.size w wc))
 case first =>
  have H := HC3.out
  clear HC3
  replace H := Option.bind_eq_some_iff.mp H
  obtain ⟨t480, A50, H⟩ := H
  replace H : (if t480 = true then ((spec_gaCounts.f k a0_0 a0_1 a0_2 l0_3 a1).bind fun t481 => (if 0 < (t481.length : Int) then (spec_FewestJumps.j0 k a1 ((rd t481 0) == 0) a0_0 a0_1 a0_2 l0_3) else (none))) else (spec_FewestJumps.j0 k a1 true a0_0 a0_1 a0_2 l0_3)) = some (r1, r2) := H
  have A5 := Aside0.mk A50
  clear A50
  by_cases c6 : t480 = true
  ·subst c6
   have H1 : ((spec_gaCounts.f k a0_0 a0_1 a0_2 l0_3 a1).bind fun t481 => (if 0 < (t481.length : Int) then (spec_FewestJumps.j0 k a1 ((rd t481 0) == 0) a0_0 a0_1 a0_2 l0_3) else (none))) = some (r1, r2) := by rw [if_pos rfl] at H; exact H
   clear H
   have H := H1
   clear H1
   replace H := Option.bind_eq_some_iff.mp H
   obtain ⟨t481, A70, H⟩ := H
   replace H : (if 0 < (t481.length : Int) then (spec_FewestJumps.j0 k a1 ((rd t481 0) == 0) a0_0 a0_1 a0_2 l0_3) else (none)) = some (r1, r2) := H
   have A7 := Aside0.mk A70
   clear A70
   by_cases c8 : 0 < (t481.length : Int)
   ·rw [if_pos c8] at H
    have c8b0 : decide (0 < (t481.length : Int)) = true := decide_eq_true c8
    have c8b1 : decide (0 < t481.length) = true := decide_eq_true (by omega)
    clear c8
    (first | rw [c8b0] | (simp only [i64_w, i32_w]; rw [c8b0]) | skip)
    have H' := Aside0.mk H
    clear H
    have hcz9_0 : w4.cell? ⟨gb479, 0, none⟩ = some (.int .i64 a0_0) := (blk_cell BK479.out 0).trans rfl
    have hcz9_1 : w4.cell? ⟨gb479, 1, none⟩ = some (.int .i64 a0_1) := (blk_cell BK479.out 1).trans rfl
    have hcz9_2 : w4.cell? ⟨gb479, 2, none⟩ = some (.int .i64 a0_2) := (blk_cell BK479.out 2).trans rfl
    have hcz9_3 : w4.cell? ⟨gb479, 3, none⟩ = some (.slice A0_3 l0_3.length c0_3) := (blk_cell BK479.out 3).trans rfl
    have hfz9_0 := blk_frozen BK479.out 0
    have hfz9_1 := blk_frozen BK479.out 1
    have hfz9_2 := blk_frozen BK479.out 2
    have hfz9_3 := blk_frozen BK479.out 3
    go_wp2_with (first | ((with_reducible refine gate_callee (f := 45) rfl ?_); refine goesL_ (some 10) rfl rfl Try.func45 (by kernel_rfl) rfl #[.agg #[.int .i64 a0_0, .int .i64 a0_1, .int .i64 a0_2, .slice A0_3 l0_3.length c0_3], .int .i64 a1] rfl (by (try simp only [List.map_toArray, List.map_cons, List.map_nil]); first | done | rfl | (simp only [List.length_drop, List.length_take]; rfl)) ?_; (with_reducible refine (spec_gaAsked.calls k a0_0 a0_1 a0_2 _ _ l0_3 a1 true _ ?side1 ?side2 A5.out).mono ?_); (case side1 => exact Kd.C_below HR0_3.out hb_); (case side2 => exact HC0_3.out); rintro e w10 ⟨rfl, hb⟩; refine ⟨_, rfl, ?_⟩; have n0_ := Aside0.mk (blk_below (g := gb479) (o := .cells #[.int .i64 a0_0, .int .i64 a0_1, .int .i64 a0_2, .slice A0_3 l0_3.length c0_3] 30 (0, 0)) (by (with_reducible repeat (first | refine blk_drewN ?_ _ | refine blk_drew ?_ | refine blk_alloc ?_ _)); exact BK479.out) hb); have n1_ := Aside0.mk (below_step hb_ hb); clear BK479; clear HB; have BK479 := n0_; have HB := n1_; clear n0_ n1_; (try clear hb); (try clear hb2); (try clear hk); (try clear hi); have hcz11_0 : w10.cell? ⟨gb479, 0, none⟩ = some (.int .i64 a0_0) := (blk_cell BK479.out 0).trans rfl; have hcz11_1 : w10.cell? ⟨gb479, 1, none⟩ = some (.int .i64 a0_1) := (blk_cell BK479.out 1).trans rfl; have hcz11_2 : w10.cell? ⟨gb479, 2, none⟩ = some (.int .i64 a0_2) := (blk_cell BK479.out 2).trans rfl; have hcz11_3 : w10.cell? ⟨gb479, 3, none⟩ = some (.slice A0_3 l0_3.length c0_3) := (blk_cell BK479.out 3).trans rfl; have hfz11_0 := blk_frozen BK479.out 0; have hfz11_1 := blk_frozen BK479.out 1; have hfz11_2 := blk_frozen BK479.out 2; have hfz11_3 := blk_frozen BK479.out 3) | (go_at_call 46; (with_reducible refine (spec_gaCounts.calls k a0_0 a0_1 a0_2 _ _ l0_3 a1 t481 _ ?side1 ?side2 A7.out).mono ?_); (case side1 => exact Kd.C_below HR0_3.out hb_); (case side2 => exact HC0_3.out); rintro e w12 ⟨v482, rfl, ho0, hb⟩; have n0_ := Aside0.mk (Kd.R_lower ho0 (below_size hb_)); have n1_ := Aside0.mk (blk_below (g := gb479) (o := .cells #[.int .i64 a0_0, .int .i64 a0_1, .int .i64 a0_2, .slice A0_3 l0_3.length c0_3] 30 (0, 0)) (by (with_reducible repeat (first | refine blk_drewN ?_ _ | refine blk_drew ?_ | refine blk_alloc ?_ _)); exact BK479.out) hb); have n2_ := Aside0.mk (below_step hb_ hb); clear BK479; clear HB; have HO483 := n0_; have BK479 := n1_; have HB := n2_; clear n0_ n1_ n2_; (try clear hb); (try clear hb2); (try clear hk); (try clear hi); (try clear ho0); obtain ⟨Ao13, co13, eo13⟩ := Kd.R_slice HO483.out; subst eo13; have p484 : 0 ≤ (0 : Int) := (by omega); have q484 : 0 < (t481.length : Int) := of_decide_eq_true (by first | (with_reducible assumption) | assumption); obtain ⟨ad484, e484, hx484_0⟩ := Kd.at_int (Kd.R_reads' HO483.out).2.2 0 p484 q484; cases e484; have qi484 : (0 < t481.length) = True := eq_true (by omega); (try rw [show ((0 : Int)).toNat = 0 from rfl] at hx484_0); (try rw [Addr.add_zero'] at hx484_0); replace p484 := eq_true p484; replace q484 := eq_true q484))
    go_meet
    case rel => exact ⟨_, (((rd t481 0) == 0)), (by first | rfl | (simp; done) | (simp [*]; done)), H', ⟨by first | omega | exact Nat.le_refl _⟩, ⟨by (with_reducible repeat (first | refine blk_drewN ?_ _ | refine blk_drew ?_ | refine blk_alloc ?_ _)); exact BK479.out⟩, ⟨hb_⟩⟩
   ·rw [if_neg c8] at H
    exact absurd H (by simp)
  ·replace c6 := Bool.eq_false_iff.mpr c6
   subst c6
   have H1 : (spec_FewestJumps.j0 k a1 true a0_0 a0_1 a0_2 l0_3) = some (r1, r2) := by rw [if_neg (show ¬ (false = true) by decide)] at H; exact H
   clear H
   have H := H1
   clear H1
   have H' := Aside0.mk H
   clear H
   have hcz14_0 : w4.cell? ⟨gb479, 0, none⟩ = some (.int .i64 a0_0) := (blk_cell BK479.out 0).trans rfl
   have hcz14_1 : w4.cell? ⟨gb479, 1, none⟩ = some (.int .i64 a0_1) := (blk_cell BK479.out 1).trans rfl
   have hcz14_2 : w4.cell? ⟨gb479, 2, none⟩ = some (.int .i64 a0_2) := (blk_cell BK479.out 2).trans rfl
   have hcz14_3 : w4.cell? ⟨gb479, 3, none⟩ = some (.slice A0_3 l0_3.length c0_3) := (blk_cell BK479.out 3).trans rfl
   have hfz14_0 := blk_frozen BK479.out 0
   have hfz14_1 := blk_frozen BK479.out 1
   have hfz14_2 := blk_frozen BK479.out 2
   have hfz14_3 := blk_frozen BK479.out 3
   go_wp2_with (first | ((with_reducible refine gate_callee (f := 45) rfl ?_); refine goesL_ (some 10) rfl rfl Try.func45 (by kernel_rfl) rfl #[.agg #[.int .i64 a0_0, .int .i64 a0_1, .int .i64 a0_2, .slice A0_3 l0_3.length c0_3], .int .i64 a1] rfl (by (try simp only [List.map_toArray, List.map_cons, List.map_nil]); first | done | rfl | (simp only [List.length_drop, List.length_take]; rfl)) ?_; (with_reducible refine (spec_gaAsked.calls k a0_0 a0_1 a0_2 _ _ l0_3 a1 false _ ?side1 ?side2 A5.out).mono ?_); (case side1 => exact Kd.C_below HR0_3.out hb_); (case side2 => exact HC0_3.out); rintro e w15 ⟨rfl, hb⟩; refine ⟨_, rfl, ?_⟩; have n0_ := Aside0.mk (blk_below (g := gb479) (o := .cells #[.int .i64 a0_0, .int .i64 a0_1, .int .i64 a0_2, .slice A0_3 l0_3.length c0_3] 30 (0, 0)) (by (with_reducible repeat (first | refine blk_drewN ?_ _ | refine blk_drew ?_ | refine blk_alloc ?_ _)); exact BK479.out) hb); have n1_ := Aside0.mk (below_step hb_ hb); clear BK479; clear HB; have BK479 := n0_; have HB := n1_; clear n0_ n1_; (try clear hb); (try clear hb2); (try clear hk); (try clear hi)))
   go_meet
   case rel => exact ⟨_, (true), (by first | rfl | (simp; done) | (simp [*]; done)), H', ⟨by first | omega | exact Nat.le_refl _⟩, ⟨by (with_reducible repeat (first | refine blk_drewN ?_ _ | refine blk_drew ?_ | refine blk_alloc ?_ _)); exact BK479.out⟩, ⟨hb_⟩⟩
 case rest =>
  clear HC3
  try clear p2
  try clear c3
  try clear c4
  try clear p4
  try clear q4
  try clear hx4
  try clear qi4
  try clear c6
  try clear c8
  try clear c8b0
  try clear c8b1
  try clear hcz11_0
  try clear hcz11_1
  try clear hcz11_2
  try clear hcz11_3
  try clear hcz14_0
  try clear hcz14_1
  try clear hcz14_2
  try clear hcz14_3
  try clear hcz9_0
  try clear hcz9_1
  try clear hcz9_2
  try clear hcz9_3
  try clear hfz11_0
  try clear hfz11_1
  try clear hfz11_2
  try clear hfz11_3
  try clear hfz14_0
  try clear hfz14_1
  try clear hfz14_2
  try clear hfz14_3
  try clear hfz9_0
  try clear hfz9_1
  try clear hfz9_2
  try clear hfz9_3
  try clear hx484_0
  try clear p484
  try clear q484
  obtain ⟨kq, x19_2, rfl, HA, HJ2, BK479, HB⟩ := hcut
  cases kq with
  | zero => exact absurd HA.out (by simp [spec_FewestJumps.j0])
  | succ kj2 =>
   have H := HA.out
   clear HA
   simp only [spec_FewestJumps.j0] at H
   by_cases c16 : x19_2 = true
   ·subst c16
    have H1 : (some (0, false)) = some (r1, r2) := by rw [if_pos rfl] at H; exact H
    clear H
    have H := H1
    clear H1
    simp only [Option.some.injEq, Prod.mk.injEq] at H
    obtain ⟨rfl, rfl⟩ := H
    go_wp2
    go_ret2
    exact ⟨by first | rfl | (simp [errW_none, errW_some] <;> rfl) | (simp [*, errW_none, errW_some] <;> rfl), hb_⟩
   ·replace c16 := Bool.eq_false_iff.mpr c16
    subst c16
    have H1 : ((spec_gaBy.f kj2 a0_0 a0_1 a0_2 l0_3 a1).bind fun t485 => (spec_FewestJumps.l0 kj2 t485 (t485.length : Int) 0)) = some (r1, r2) := by rw [if_neg (show ¬ (false = true) by decide)] at H; exact H
    clear H
    have H := H1
    clear H1
    replace H := Option.bind_eq_some_iff.mp H
    obtain ⟨t485, A170, H⟩ := H
    replace H : (spec_FewestJumps.l0 kj2 t485 (t485.length : Int) 0) = some (r1, r2) := H
    have A17 := Aside0.mk A170
    clear A170
    have H' := Aside0.mk H
    clear H
    have hcz18_0 : wc.cell? ⟨gb479, 0, none⟩ = some (.int .i64 a0_0) := (blk_cell BK479.out 0).trans rfl
    have hcz18_1 : wc.cell? ⟨gb479, 1, none⟩ = some (.int .i64 a0_1) := (blk_cell BK479.out 1).trans rfl
    have hcz18_2 : wc.cell? ⟨gb479, 2, none⟩ = some (.int .i64 a0_2) := (blk_cell BK479.out 2).trans rfl
    have hcz18_3 : wc.cell? ⟨gb479, 3, none⟩ = some (.slice A0_3 l0_3.length c0_3) := (blk_cell BK479.out 3).trans rfl
    have hfz18_0 := blk_frozen BK479.out 0
    have hfz18_1 := blk_frozen BK479.out 1
    have hfz18_2 := blk_frozen BK479.out 2
    have hfz18_3 := blk_frozen BK479.out 3
    go_wp2_with (first | ((with_reducible refine gate_callee (f := 52) rfl ?_); refine goesL_ (some 22) rfl rfl Try.func52 (by kernel_rfl) rfl #[.agg #[.int .i64 a0_0, .int .i64 a0_1, .int .i64 a0_2, .slice A0_3 l0_3.length c0_3], .int .i64 a1] rfl (by (try simp only [List.map_toArray, List.map_cons, List.map_nil]); first | done | rfl | (simp only [List.length_drop, List.length_take]; rfl)) ?_; (with_reducible refine (spec_gaBy.calls kj2 a0_0 a0_1 a0_2 _ _ l0_3 a1 t485 _ ?side1 ?side2 A17.out).mono ?_); (case side1 => exact Kd.C_below HR0_3.out hb_); (case side2 => exact HC0_3.out); rintro e w19 ⟨v486, rfl, ho0, hb⟩; refine ⟨_, rfl, ?_⟩; have n0_ := Aside0.mk (Kd.R_lower ho0 (below_size hb_)); have n1_ := Aside0.mk (blk_below (g := gb479) (o := .cells #[.int .i64 a0_0, .int .i64 a0_1, .int .i64 a0_2, .slice A0_3 l0_3.length c0_3] 30 (0, 0)) (by (with_reducible repeat (first | refine blk_drewN ?_ _ | refine blk_drew ?_ | refine blk_alloc ?_ _)); exact BK479.out) hb); have n2_ := Aside0.mk (below_step hb_ hb); clear BK479; clear HB; have HO487 := n0_; have BK479 := n1_; have HB := n2_; clear n0_ n1_ n2_; (try clear hb); (try clear hb2); (try clear hk); (try clear hi); (try clear ho0); obtain ⟨Ao20, co20, eo20⟩ := Kd.R_slice HO487.out; subst eo20))
    go_loopg [24] kj2 (fun kq v24 w' => ∃ (x24_2 : Int), v24 = .int .i64 x24_2 ∧ Aside0 (spec_FewestJumps.l0 kq t485 (t485.length : Int) x24_2 = some (r1, r2)) ∧ Aside0 (kq ≤ kj2) ∧ Aside0 (Kd.R (Kd.int .i64) 3 w' w.heap.size (fun _ => True) (.slice Ao20 t485.length co20) t485) ∧ Aside0 (w'.heap[gb479]? = some (.cells #[.int .i64 a0_0, .int .i64 a0_1, .int .i64 a0_2, (.slice A0_3 l0_3.length c0_3)] 30 (0, 0))) ∧ Aside0 (Below w.heap.size w w'))
    case atStart => exact ⟨(0), (by first | rfl | (simp; done) | (simp [*]; done)), H', ⟨Nat.le_refl _⟩, ⟨by (with_reducible repeat (first | apply Kd.R_alloc | apply Kd.R_drewN | apply Kd.R_drew)); exact HO487.out⟩, ⟨by (with_reducible repeat (first | refine blk_drewN ?_ _ | refine blk_drew ?_ | refine blk_alloc ?_ _)); exact BK479.out⟩, ⟨hb_⟩⟩
    case round =>
     clear H'
     try clear c1
     try clear p2
     try clear c3
     try clear c4
     try clear p4
     try clear q4
     try clear hx4
     try clear qi4
     try clear c5
     try clear c6
     try clear c8
     try clear c8b0
     try clear c8b1
     try clear c16
     try clear hcz11_0
     try clear hcz11_1
     try clear hcz11_2
     try clear hcz11_3
     try clear hcz14_0
     try clear hcz14_1
     try clear hcz14_2
     try clear hcz14_3
     try clear hcz18_0
     try clear hcz18_1
     try clear hcz18_2
     try clear hcz18_3
     try clear hcz9_0
     try clear hcz9_1
     try clear hcz9_2
     try clear hcz9_3
     try clear hfz11_0
     try clear hfz11_1
     try clear hfz11_2
     try clear hfz11_3
     try clear hfz14_0
     try clear hfz14_1
     try clear hfz14_2
     try clear hfz14_3
     try clear hfz18_0
     try clear hfz18_1
     try clear hfz18_2
     try clear hfz18_3
     try clear hfz9_0
     try clear hfz9_1
     try clear hfz9_2
     try clear hfz9_3
     try clear hx484_0
     try clear p2
     try clear p4
     try clear p484
     try clear q4
     try clear q484
     obtain ⟨x24_2, rfl, HA, HK2, HO_22, BK479, HB⟩ := hrel
     cases gk with
     | zero => exact absurd HA.out (by simp [spec_FewestJumps.l0])
     | succ k2 =>
      have H := HA.out
      clear HA
      simp only [spec_FewestJumps.l0] at H
      by_cases c21 : x24_2 < (t485.length : Int)
      ·rw [if_pos c21] at H
       have c21b0 : decide (x24_2 < (t485.length : Int)) = true := decide_eq_true c21
       clear c21
       by_cases c22 : 0 ≤ x24_2
       ·rw [if_pos c22] at H
        have c22b0 : decide (0 ≤ x24_2) = true := decide_eq_true c22
        clear c22
        by_cases c23 : x24_2 < (t485.length : Int)
        ·rw [if_pos c23] at H
         have c23b0 : decide (x24_2 < (t485.length : Int)) = true := decide_eq_true c23
         clear c23
         by_cases c24 : (rd t485 x24_2) > 0
         ·rw [if_pos c24] at H
          have c24b0 : decide (0 < (rd t485 x24_2)) = true := decide_eq_true c24
          clear c24
          simp only [Option.some.injEq, Prod.mk.injEq] at H
          obtain ⟨rfl, rfl⟩ := H
          have p488 : 0 ≤ (x24_2 : Int) := of_decide_eq_true (by first | (with_reducible assumption) | assumption)
          have q488 : x24_2 < (t485.length : Int) := of_decide_eq_true (by first | (with_reducible assumption) | assumption)
          obtain ⟨ad488, e488, hx488_0⟩ := Kd.at_int (Kd.R_reads' HO_22.out).2.2 x24_2 p488 q488
          cases e488
          replace p488 := eq_true p488
          replace q488 := eq_true q488
          go_wp2
          go_ret2
          exact ⟨by first | rfl | (simp [errW_none, errW_some] <;> rfl) | (simp [*, errW_none, errW_some] <;> rfl), hb_⟩
         ·rw [if_neg c24] at H
          have c24b0 : decide (0 < (rd t485 x24_2)) = false := decide_eq_false c24
          clear c24
          have H' := Aside0.mk H
          clear H
          have p488 : 0 ≤ (x24_2 : Int) := of_decide_eq_true (by first | (with_reducible assumption) | assumption)
          have q488 : x24_2 < (t485.length : Int) := of_decide_eq_true (by first | (with_reducible assumption) | assumption)
          obtain ⟨ad488, e488, hx488_0⟩ := Kd.at_int (Kd.R_reads' HO_22.out).2.2 x24_2 p488 q488
          cases e488
          replace p488 := eq_true p488
          replace q488 := eq_true q488
          go_wp2
          go_roundg k2
          case measure => have := HJ2.out; have := HK2.out; omega
          case rel => exact ⟨(wrap64 (x24_2 + 1)), (by first | rfl | (simp; done) | (simp [*]; done)), H', ⟨by have := HJ2.out; have := HK2.out; omega⟩, ⟨by (with_reducible repeat (first | apply Kd.R_alloc | apply Kd.R_drewN | apply Kd.R_drew)); exact HO_22.out⟩, ⟨by (with_reducible repeat (first | refine blk_drewN ?_ _ | refine blk_drew ?_ | refine blk_alloc ?_ _)); exact BK479.out⟩, ⟨hb_⟩⟩
        ·rw [if_neg c23] at H
         exact absurd H (by simp)
       ·rw [if_neg c22] at H
        exact absurd H (by simp)
      ·rw [if_neg c21] at H
       have c21b0 : decide (x24_2 < (t485.length : Int)) = false := decide_eq_false c21
       clear c21
       simp only [Option.some.injEq, Prod.mk.injEq] at H
       obtain ⟨rfl, rfl⟩ := H
       go_wp2
       go_ret2
       exact ⟨by first | rfl | (simp [errW_none, errW_some] <;> rfl) | (simp [*, errW_none, errW_some] <;> rfl), hb_⟩

/-! ### impl_FewestJumps: function 33 -/
def impl_FewestJumps.l0 : Nat → List Int → Int → Int → Option (Int × Bool)
 | 0, _, _, _ => none
 | k + 1, x14, x15, x16 => if x16 < x15 then (if 0 ≤ x16 then (if x16 < (x14.length : Int) then (if (rd x14 x16) > 0 then (some (x16, true)) else (impl_FewestJumps.l0 k x14 x15 (wrap64 (x16 + 1)))) else (none)) else (none)) else (some (0, false))
def impl_FewestJumps.f (k : Nat) (a0_0 : Int) (a0_1 : Int) (a0_2 : Int) (l0_3 : List (S70)) (a1 : Int) : Option (Int × Bool) := (impl_isGamed.f k a0_0 a0_1 a0_2 l0_3 a1).bind fun t490 => (if t490 = true then ((impl_Board_byJumps.f k a0_0 a0_1 a0_2 l0_3 a1).bind fun t491 => (impl_FewestJumps.l0 k t491 (t491.length : Int) 0)) else (some (0, false)))
theorem impl_FewestJumps.mono_l : ∀ k, (∀ y0 y1 y2, LeO (impl_FewestJumps.l0 k y0 y1 y2) (impl_FewestJumps.l0 (k + 1) y0 y1 y2))
 | 0 => fun _ _ _ r h => by simp [impl_FewestJumps.l0] at h
 | k + 1 => by
  have ih0 := impl_FewestJumps.mono_l k
  ·intro y0 y1 y2
   unfold impl_FewestJumps.l0
   repeat' first
   | (with_reducible exact ih0 _ _ _)
   | (with_reducible exact impl_Board_byJumps.mono _ _ _ _ _ _)
   | (with_reducible exact impl_isGamed.mono _ _ _ _ _ _)
   | (with_reducible exact LeO.refl _)
   | (with_reducible exact LeO.none _)
   | (with_reducible refine LeO.ite ?_ ?_)
   | (with_reducible refine LeO.bind ?_ (fun _ => ?_))
   | exact ih0 _ _ _
   | exact impl_Board_byJumps.mono _ _ _ _ _ _
   | exact impl_isGamed.mono _ _ _ _ _ _
   | exact LeO.none _
   | refine LeO.ite ?_ ?_
   | refine LeO.bind ?_ (fun _ => ?_)
theorem impl_FewestJumps.mono : ∀ a0 a1 a2 a3 a4 k, LeO (impl_FewestJumps.f k a0 a1 a2 a3 a4) (impl_FewestJumps.f (k + 1) a0 a1 a2 a3 a4) := by
 intro a0 a1 a2 a3 a4 k
 have ih0 := impl_FewestJumps.mono_l k
 unfold impl_FewestJumps.f
 repeat' first
   | (with_reducible exact ih0 _ _ _)
   | (with_reducible exact impl_Board_byJumps.mono _ _ _ _ _ _)
   | (with_reducible exact impl_isGamed.mono _ _ _ _ _ _)
   | (with_reducible exact LeO.refl _)
   | (with_reducible exact LeO.none _)
   | (with_reducible refine LeO.ite ?_ ?_)
   | (with_reducible refine LeO.bind ?_ (fun _ => ?_))
   | exact ih0 _ _ _
   | exact impl_Board_byJumps.mono _ _ _ _ _ _
   | exact impl_isGamed.mono _ _ _ _ _ _
   | exact LeO.none _
   | refine LeO.ite ?_ ?_
   | refine LeO.bind ?_ (fun _ => ?_)
set_option maxHeartbeats 8000000 in
set_option maxRecDepth 100000 in
theorem impl_FewestJumps.calls (k : Nat) (a0_0 : Int) (a0_1 : Int) (a0_2 : Int) (A0_3 : Option Addr) (c0_3 : Nat) (l0_3 : List (S70)) (a1 : Int) (r1 : Int) (r2 : Bool) (w : World) (hr0_3 : Kd.C k70 w A0_3 l0_3.length l0_3) (hc0_3 : l0_3.length ≤ c0_3) (h : impl_FewestJumps.f k a0_0 a0_1 a0_2 l0_3 a1 = some (r1, r2)) :
  Calls Try.prog 33 #[.agg #[.int .i64 a0_0, .int .i64 a0_1, .int .i64 a0_2, .slice A0_3 l0_3.length c0_3], .int .i64 a1] w fun e w' => e = .returned (.tuple #[.int .i64 r1, .bool r2]) ∧ Below w.heap.size w w' := by
 have hu30 := Try.underlying30
 have HR0_3 := Aside0.mk hr0_3
 have HC0_3 := Aside0.mk hc0_3
 clear hr0_3 hc0_3
 have HB := Aside0.mk (Below.refl w.heap.size w)
 have H : ((impl_isGamed.f k a0_0 a0_1 a0_2 l0_3 a1).bind fun t490 => (if t490 = true then ((impl_Board_byJumps.f k a0_0 a0_1 a0_2 l0_3 a1).bind fun t491 => (impl_FewestJumps.l0 k t491 (t491.length : Int) 0)) else (some (0, false)))) = some (r1, r2) := h
 clear h
 replace H := Option.bind_eq_some_iff.mp H
 obtain ⟨t490, A30, H⟩ := H
 replace H : (if t490 = true then ((impl_Board_byJumps.f k a0_0 a0_1 a0_2 l0_3 a1).bind fun t491 => (impl_FewestJumps.l0 k t491 (t491.length : Int) 0)) else (some (0, false))) = some (r1, r2) := H
 have A3 := Aside0.mk A30
 clear A30
 by_cases c4 : t490 = true
 ·subst c4
  have H1 : ((impl_Board_byJumps.f k a0_0 a0_1 a0_2 l0_3 a1).bind fun t491 => (impl_FewestJumps.l0 k t491 (t491.length : Int) 0)) = some (r1, r2) := by rw [if_pos rfl] at H; exact H
  clear H
  have H := H1
  clear H1
  replace H := Option.bind_eq_some_iff.mp H
  obtain ⟨t491, A50, H⟩ := H
  replace H : (impl_FewestJumps.l0 k t491 (t491.length : Int) 0) = some (r1, r2) := H
  have A5 := Aside0.mk A50
  clear A50
  have H' := Aside0.mk H
  clear H
  go_enter Try.func33, Try.ntmps33
  go_wp2_with (first | ((with_reducible refine gate_dst (N := 2) rfl ?_); refine box_event ?hg (N := 2) ?hd (cs := #[.int .i64 a0_0, .int .i64 a0_1, .int .i64 a0_2, .slice A0_3 l0_3.length c0_3]) (t := 30) ?hr ?_; (case hd => rfl); (case hg => rfl); (case hr => first | (go_simp; done) | (go_simp; rfl)); intro gb489 hg w6 hbox hb; have n0_ := Aside0.mk (below_step hb_ hb); have n1_ := Aside0.mk (hbox); have n2_ := Aside0.mk ((by rw [hg]; exact (below_size hb_) : w.heap.size ≤ gb489)); have n3_ := Aside0.mk ((by rw [hg]; exact (below_size hb_) : w.heap.size ≤ gb489)); clear HB; have HB := n0_; have BK489 := n1_; have GW489 := n2_; have GE489 := n3_; clear n0_ n1_ n2_ n3_; clear hb hbox hg; have hcz7_0 : w6.cell? ⟨gb489, 0, none⟩ = some (.int .i64 a0_0) := (blk_cell BK489.out 0).trans rfl; have hcz7_1 : w6.cell? ⟨gb489, 1, none⟩ = some (.int .i64 a0_1) := (blk_cell BK489.out 1).trans rfl; have hcz7_2 : w6.cell? ⟨gb489, 2, none⟩ = some (.int .i64 a0_2) := (blk_cell BK489.out 2).trans rfl; have hcz7_3 : w6.cell? ⟨gb489, 3, none⟩ = some (.slice A0_3 l0_3.length c0_3) := (blk_cell BK489.out 3).trans rfl; have hfz7_0 := blk_frozen BK489.out 0; have hfz7_1 := blk_frozen BK489.out 1; have hfz7_2 := blk_frozen BK489.out 2; have hfz7_3 := blk_frozen BK489.out 3) | ((with_reducible refine gate_callee (f := 48) rfl ?_); refine goesL_ (some 10) rfl rfl Try.func48 (by kernel_rfl) rfl #[.agg #[.int .i64 a0_0, .int .i64 a0_1, .int .i64 a0_2, .slice A0_3 l0_3.length c0_3], .int .i64 a1] rfl (by (try simp only [List.map_toArray, List.map_cons, List.map_nil]); first | done | rfl | (simp only [List.length_drop, List.length_take]; rfl)) ?_; (with_reducible refine (impl_isGamed.calls k a0_0 a0_1 a0_2 _ _ l0_3 a1 true _ ?side1 ?side2 A3.out).mono ?_); (case side1 => exact Kd.C_below HR0_3.out hb_); (case side2 => exact HC0_3.out); rintro e w8 ⟨rfl, hb⟩; refine ⟨_, rfl, ?_⟩; have n0_ := Aside0.mk (blk_below (g := gb489) (o := .cells #[.int .i64 a0_0, .int .i64 a0_1, .int .i64 a0_2, .slice A0_3 l0_3.length c0_3] 30 (0, 0)) (by (with_reducible repeat (first | refine blk_drewN ?_ _ | refine blk_drew ?_ | refine blk_alloc ?_ _)); exact BK489.out) hb); have n1_ := Aside0.mk (below_step hb_ hb); clear BK489; clear HB; have BK489 := n0_; have HB := n1_; clear n0_ n1_; (try clear hb); (try clear hb2); (try clear hk); (try clear hi); have hcz9_0 : w8.cell? ⟨gb489, 0, none⟩ = some (.int .i64 a0_0) := (blk_cell BK489.out 0).trans rfl; have hcz9_1 : w8.cell? ⟨gb489, 1, none⟩ = some (.int .i64 a0_1) := (blk_cell BK489.out 1).trans rfl; have hcz9_2 : w8.cell? ⟨gb489, 2, none⟩ = some (.int .i64 a0_2) := (blk_cell BK489.out 2).trans rfl; have hcz9_3 : w8.cell? ⟨gb489, 3, none⟩ = some (.slice A0_3 l0_3.length c0_3) := (blk_cell BK489.out 3).trans rfl; have hfz9_0 := blk_frozen BK489.out 0; have hfz9_1 := blk_frozen BK489.out 1; have hfz9_2 := blk_frozen BK489.out 2; have hfz9_3 := blk_frozen BK489.out 3) | ((with_reducible refine gate_callee (f := 54) rfl ?_); refine goesL_ (some 14) rfl rfl Try.func54 (by kernel_rfl) rfl #[.agg #[.int .i64 a0_0, .int .i64 a0_1, .int .i64 a0_2, .slice A0_3 l0_3.length c0_3], .int .i64 a1] rfl (by (try simp only [List.map_toArray, List.map_cons, List.map_nil]); first | done | rfl | (simp only [List.length_drop, List.length_take]; rfl)) ?_; (with_reducible refine (impl_Board_byJumps.calls k a0_0 a0_1 a0_2 _ _ l0_3 a1 t491 _ ?side1 ?side2 A5.out).mono ?_); (case side1 => exact Kd.C_below HR0_3.out hb_); (case side2 => exact HC0_3.out); rintro e w10 ⟨v492, rfl, ho0, hb⟩; refine ⟨_, rfl, ?_⟩; have n0_ := Aside0.mk (Kd.R_lower ho0 (below_size hb_)); have n1_ := Aside0.mk (blk_below (g := gb489) (o := .cells #[.int .i64 a0_0, .int .i64 a0_1, .int .i64 a0_2, .slice A0_3 l0_3.length c0_3] 30 (0, 0)) (by (with_reducible repeat (first | refine blk_drewN ?_ _ | refine blk_drew ?_ | refine blk_alloc ?_ _)); exact BK489.out) hb); have n2_ := Aside0.mk (below_step hb_ hb); clear BK489; clear HB; have HO493 := n0_; have BK489 := n1_; have HB := n2_; clear n0_ n1_ n2_; (try clear hb); (try clear hb2); (try clear hk); (try clear hi); (try clear ho0); obtain ⟨Ao11, co11, eo11⟩ := Kd.R_slice HO493.out; subst eo11))
  go_loopg [16] k (fun kq v16 w' => ∃ (x16_1 : Int), v16 = .int .i64 x16_1 ∧ Aside0 (impl_FewestJumps.l0 kq t491 (t491.length : Int) x16_1 = some (r1, r2)) ∧ Aside0 (kq ≤ k) ∧ Aside0 (Kd.R (Kd.int .i64) 3 w' w.heap.size (fun _ => True) (.slice Ao11 t491.length co11) t491) ∧ Aside0 (w'.heap[gb489]? = some (.cells #[.int .i64 a0_0, .int .i64 a0_1, .int .i64 a0_2, (.slice A0_3 l0_3.length c0_3)] 30 (0, 0))) ∧ Aside0 (Below w.heap.size w w'))
  case atStart => exact ⟨(0), (by first | rfl | (simp; done) | (simp [*]; done)), H', ⟨Nat.le_refl _⟩, ⟨by (with_reducible repeat (first | apply Kd.R_alloc | apply Kd.R_drewN | apply Kd.R_drew)); exact HO493.out⟩, ⟨by (with_reducible repeat (first | refine blk_drewN ?_ _ | refine blk_drew ?_ | refine blk_alloc ?_ _)); exact BK489.out⟩, ⟨hb_⟩⟩
  case round =>
   clear H'
   try clear p2
   try clear c3
   try clear c4
   try clear c5
   try clear hcz7_0
   try clear hcz7_1
   try clear hcz7_2
   try clear hcz7_3
   try clear hcz9_0
   try clear hcz9_1
   try clear hcz9_2
   try clear hcz9_3
   try clear hfz7_0
   try clear hfz7_1
   try clear hfz7_2
   try clear hfz7_3
   try clear hfz9_0
   try clear hfz9_1
   try clear hfz9_2
   try clear hfz9_3
   obtain ⟨x16_1, rfl, HA, HK1, HO_14, BK489, HB⟩ := hrel
   cases gk with
   | zero => exact absurd HA.out (by simp [impl_FewestJumps.l0])
   | succ k1 =>
    have H := HA.out
    clear HA
    simp only [impl_FewestJumps.l0] at H
    by_cases c12 : x16_1 < (t491.length : Int)
    ·rw [if_pos c12] at H
     have c12b0 : decide (x16_1 < (t491.length : Int)) = true := decide_eq_true c12
     clear c12
     by_cases c13 : 0 ≤ x16_1
     ·rw [if_pos c13] at H
      have c13b0 : decide (0 ≤ x16_1) = true := decide_eq_true c13
      clear c13
      by_cases c14 : x16_1 < (t491.length : Int)
      ·rw [if_pos c14] at H
       have c14b0 : decide (x16_1 < (t491.length : Int)) = true := decide_eq_true c14
       clear c14
       by_cases c15 : (rd t491 x16_1) > 0
       ·rw [if_pos c15] at H
        have c15b0 : decide (0 < (rd t491 x16_1)) = true := decide_eq_true c15
        clear c15
        simp only [Option.some.injEq, Prod.mk.injEq] at H
        obtain ⟨rfl, rfl⟩ := H
        have p494 : 0 ≤ (x16_1 : Int) := of_decide_eq_true (by first | (with_reducible assumption) | assumption)
        have q494 : x16_1 < (t491.length : Int) := of_decide_eq_true (by first | (with_reducible assumption) | assumption)
        obtain ⟨ad494, e494, hx494_0⟩ := Kd.at_int (Kd.R_reads' HO_14.out).2.2 x16_1 p494 q494
        cases e494
        replace p494 := eq_true p494
        replace q494 := eq_true q494
        go_wp2
        go_ret2
        exact ⟨by first | rfl | (simp [errW_none, errW_some] <;> rfl) | (simp [*, errW_none, errW_some] <;> rfl), hb_⟩
       ·rw [if_neg c15] at H
        have c15b0 : decide (0 < (rd t491 x16_1)) = false := decide_eq_false c15
        clear c15
        have H' := Aside0.mk H
        clear H
        have p494 : 0 ≤ (x16_1 : Int) := of_decide_eq_true (by first | (with_reducible assumption) | assumption)
        have q494 : x16_1 < (t491.length : Int) := of_decide_eq_true (by first | (with_reducible assumption) | assumption)
        obtain ⟨ad494, e494, hx494_0⟩ := Kd.at_int (Kd.R_reads' HO_14.out).2.2 x16_1 p494 q494
        cases e494
        replace p494 := eq_true p494
        replace q494 := eq_true q494
        go_wp2
        go_roundg k1
        case measure => have := HK1.out; omega
        case rel => exact ⟨(wrap64 (x16_1 + 1)), (by first | rfl | (simp; done) | (simp [*]; done)), H', ⟨by have := HK1.out; omega⟩, ⟨by (with_reducible repeat (first | apply Kd.R_alloc | apply Kd.R_drewN | apply Kd.R_drew)); exact HO_14.out⟩, ⟨by (with_reducible repeat (first | refine blk_drewN ?_ _ | refine blk_drew ?_ | refine blk_alloc ?_ _)); exact BK489.out⟩, ⟨hb_⟩⟩
      ·rw [if_neg c14] at H
       exact absurd H (by simp)
     ·rw [if_neg c13] at H
      exact absurd H (by simp)
    ·rw [if_neg c12] at H
     have c12b0 : decide (x16_1 < (t491.length : Int)) = false := decide_eq_false c12
     clear c12
     simp only [Option.some.injEq, Prod.mk.injEq] at H
     obtain ⟨rfl, rfl⟩ := H
     go_wp2
     go_ret2
     exact ⟨by first | rfl | (simp [errW_none, errW_some] <;> rfl) | (simp [*, errW_none, errW_some] <;> rfl), hb_⟩
 ·replace c4 := Bool.eq_false_iff.mpr c4
  subst c4
  have H1 : (some (0, false)) = some (r1, r2) := by rw [if_neg (show ¬ (false = true) by decide)] at H; exact H
  clear H
  have H := H1
  clear H1
  simp only [Option.some.injEq, Prod.mk.injEq] at H
  obtain ⟨rfl, rfl⟩ := H
  go_enter Try.func33, Try.ntmps33
  go_wp2_with (first | ((with_reducible refine gate_dst (N := 2) rfl ?_); refine box_event ?hg (N := 2) ?hd (cs := #[.int .i64 a0_0, .int .i64 a0_1, .int .i64 a0_2, .slice A0_3 l0_3.length c0_3]) (t := 30) ?hr ?_; (case hd => rfl); (case hg => rfl); (case hr => first | (go_simp; done) | (go_simp; rfl)); intro gb489 hg w16 hbox hb; have n0_ := Aside0.mk (below_step hb_ hb); have n1_ := Aside0.mk (hbox); have n2_ := Aside0.mk ((by rw [hg]; exact (below_size hb_) : w.heap.size ≤ gb489)); have n3_ := Aside0.mk ((by rw [hg]; exact (below_size hb_) : w.heap.size ≤ gb489)); clear HB; have HB := n0_; have BK489 := n1_; have GW489 := n2_; have GE489 := n3_; clear n0_ n1_ n2_ n3_; clear hb hbox hg; have hcz17_0 : w16.cell? ⟨gb489, 0, none⟩ = some (.int .i64 a0_0) := (blk_cell BK489.out 0).trans rfl; have hcz17_1 : w16.cell? ⟨gb489, 1, none⟩ = some (.int .i64 a0_1) := (blk_cell BK489.out 1).trans rfl; have hcz17_2 : w16.cell? ⟨gb489, 2, none⟩ = some (.int .i64 a0_2) := (blk_cell BK489.out 2).trans rfl; have hcz17_3 : w16.cell? ⟨gb489, 3, none⟩ = some (.slice A0_3 l0_3.length c0_3) := (blk_cell BK489.out 3).trans rfl; have hfz17_0 := blk_frozen BK489.out 0; have hfz17_1 := blk_frozen BK489.out 1; have hfz17_2 := blk_frozen BK489.out 2; have hfz17_3 := blk_frozen BK489.out 3) | ((with_reducible refine gate_callee (f := 48) rfl ?_); refine goesL_ (some 10) rfl rfl Try.func48 (by kernel_rfl) rfl #[.agg #[.int .i64 a0_0, .int .i64 a0_1, .int .i64 a0_2, .slice A0_3 l0_3.length c0_3], .int .i64 a1] rfl (by (try simp only [List.map_toArray, List.map_cons, List.map_nil]); first | done | rfl | (simp only [List.length_drop, List.length_take]; rfl)) ?_; (with_reducible refine (impl_isGamed.calls k a0_0 a0_1 a0_2 _ _ l0_3 a1 false _ ?side1 ?side2 A3.out).mono ?_); (case side1 => exact Kd.C_below HR0_3.out hb_); (case side2 => exact HC0_3.out); rintro e w18 ⟨rfl, hb⟩; refine ⟨_, rfl, ?_⟩; have n0_ := Aside0.mk (blk_below (g := gb489) (o := .cells #[.int .i64 a0_0, .int .i64 a0_1, .int .i64 a0_2, .slice A0_3 l0_3.length c0_3] 30 (0, 0)) (by (with_reducible repeat (first | refine blk_drewN ?_ _ | refine blk_drew ?_ | refine blk_alloc ?_ _)); exact BK489.out) hb); have n1_ := Aside0.mk (below_step hb_ hb); clear BK489; clear HB; have BK489 := n0_; have HB := n1_; clear n0_ n1_; (try clear hb); (try clear hb2); (try clear hk); (try clear hi)))
  go_ret2
  exact ⟨by first | rfl | (simp [errW_none, errW_some] <;> rfl) | (simp [*, errW_none, errW_some] <;> rfl), hb_⟩

/-! ### laws_FnExactFewestJumps: function 8 -/
def laws_FnExactFewestJumps.j0 : Nat → Bool → Int → Int → Int → List (S72) → Int → Int → Int → List (S70) → Option (Bool)
 | 0, _, _, _, _, _, _, _, _, _ => none
 | k + 1, x38, x496000, x496001, x496002, x496003, x512000, x512001, x512002, x512003 => if x38 = true then (some false) else ((laws_toBoard.f k x496000 x496001 x496002 x496003).bind fun bt514 => ((laws_eqBoard.f k x512000 x512001 x512002 x512003 bt514.1 bt514.2.1 bt514.2.2.1 bt514.2.2.2).bind fun t520 => (if t520 = true then (some true) else (some false))))
def laws_FnExactFewestJumps.f (k : Nat) (a0_0 : Int) (a0_1 : Int) (a0_2 : Int) (l0_3 : List (S72)) (a1 : Int) : Option (Bool) := (laws_szBoard.f a0_0 a0_1 a0_2 l0_3 1048576).bind fun t496 => (if t496 < 0 then (some true) else ((laws_toBoard.f k a0_0 a0_1 a0_2 l0_3).bind fun bt497 => ((spec_FewestJumps.f k bt497.1 bt497.2.1 bt497.2.2.1 bt497.2.2.2 a1).bind fun bt503 => ((laws_toBoard.f k a0_0 a0_1 a0_2 l0_3).bind fun bt505 => ((impl_FewestJumps.f k bt505.1 bt505.2.1 bt505.2.2.1 bt505.2.2.2 a1).bind fun bt512 => (if bt512.1 = bt503.1 then (laws_FnExactFewestJumps.j0 k (bt512.2 != bt503.2) a0_0 a0_1 a0_2 l0_3 bt505.1 bt505.2.1 bt505.2.2.1 bt505.2.2.2) else (laws_FnExactFewestJumps.j0 k true a0_0 a0_1 a0_2 l0_3 bt505.1 bt505.2.1 bt505.2.2.1 bt505.2.2.2)))))))
theorem laws_FnExactFewestJumps.mono_l : ∀ k, (∀ y0 y1 y2 y3 y4 y5 y6 y7 y8, LeO (laws_FnExactFewestJumps.j0 k y0 y1 y2 y3 y4 y5 y6 y7 y8) (laws_FnExactFewestJumps.j0 (k + 1) y0 y1 y2 y3 y4 y5 y6 y7 y8))
 | 0 => fun _ _ _ _ _ _ _ _ _ r h => by simp [laws_FnExactFewestJumps.j0] at h
 | k + 1 => by
  have ih0 := laws_FnExactFewestJumps.mono_l k
  ·intro y0 y1 y2 y3 y4 y5 y6 y7 y8
   unfold laws_FnExactFewestJumps.j0
   repeat' first
   | (with_reducible exact ih0 _ _ _ _ _ _ _ _ _)
   | (with_reducible exact impl_FewestJumps.mono _ _ _ _ _ _)
   | (with_reducible exact laws_eqBoard.mono _ _ _ _ _ _ _ _ _)
   | (with_reducible exact laws_toBoard.mono _ _ _ _ _)
   | (with_reducible exact spec_FewestJumps.mono _ _ _ _ _ _)
   | (with_reducible exact LeO.refl _)
   | (with_reducible exact LeO.none _)
   | (with_reducible refine LeO.ite ?_ ?_)
   | (with_reducible refine LeO.bind ?_ (fun _ => ?_))
   | exact ih0 _ _ _ _ _ _ _ _ _
   | exact impl_FewestJumps.mono _ _ _ _ _ _
   | exact laws_eqBoard.mono _ _ _ _ _ _ _ _ _
   | exact laws_toBoard.mono _ _ _ _ _
   | exact spec_FewestJumps.mono _ _ _ _ _ _
   | exact LeO.none _
   | refine LeO.ite ?_ ?_
   | refine LeO.bind ?_ (fun _ => ?_)
theorem laws_FnExactFewestJumps.mono : ∀ a0 a1 a2 a3 a4 k, LeO (laws_FnExactFewestJumps.f k a0 a1 a2 a3 a4) (laws_FnExactFewestJumps.f (k + 1) a0 a1 a2 a3 a4) := by
 intro a0 a1 a2 a3 a4 k
 have ih0 := laws_FnExactFewestJumps.mono_l k
 unfold laws_FnExactFewestJumps.f
 repeat' first
   | (with_reducible exact ih0 _ _ _ _ _ _ _ _ _)
   | (with_reducible exact impl_FewestJumps.mono _ _ _ _ _ _)
   | (with_reducible exact laws_eqBoard.mono _ _ _ _ _ _ _ _ _)
   | (with_reducible exact laws_toBoard.mono _ _ _ _ _)
   | (with_reducible exact spec_FewestJumps.mono _ _ _ _ _ _)
   | (with_reducible exact LeO.refl _)
   | (with_reducible exact LeO.none _)
   | (with_reducible refine LeO.ite ?_ ?_)
   | (with_reducible refine LeO.bind ?_ (fun _ => ?_))
   | exact ih0 _ _ _ _ _ _ _ _ _
   | exact impl_FewestJumps.mono _ _ _ _ _ _
   | exact laws_eqBoard.mono _ _ _ _ _ _ _ _ _
   | exact laws_toBoard.mono _ _ _ _ _
   | exact spec_FewestJumps.mono _ _ _ _ _ _
   | exact LeO.none _
   | refine LeO.ite ?_ ?_
   | refine LeO.bind ?_ (fun _ => ?_)
set_option maxHeartbeats 8000000 in
set_option maxRecDepth 100000 in
theorem laws_FnExactFewestJumps.calls (k : Nat) (a0_0 : Int) (a0_1 : Int) (a0_2 : Int) (A0_3 : Option Addr) (c0_3 : Nat) (l0_3 : List (S72)) (a1 : Int) (r : Bool) (w : World) (hr0_3 : Kd.C k72 w A0_3 l0_3.length l0_3) (hc0_3 : l0_3.length ≤ c0_3) (h : laws_FnExactFewestJumps.f k a0_0 a0_1 a0_2 l0_3 a1 = some r) :
  Calls Try.prog 8 #[.agg #[.int .i64 a0_0, .int .i64 a0_1, .int .i64 a0_2, .slice A0_3 l0_3.length c0_3], .int .i64 a1] w fun e w' => e = .returned (.bool r) ∧ Below w.heap.size w w' := by
 have hu24 := Try.underlying24
 have hu30 := Try.underlying30
 have HR0_3 := Aside0.mk hr0_3
 have HC0_3 := Aside0.mk hc0_3
 clear hr0_3 hc0_3
 have HB := Aside0.mk (Below.refl w.heap.size w)
 have H : ((laws_szBoard.f a0_0 a0_1 a0_2 l0_3 1048576).bind fun t496 => (if t496 < 0 then (some true) else ((laws_toBoard.f k a0_0 a0_1 a0_2 l0_3).bind fun bt497 => ((spec_FewestJumps.f k bt497.1 bt497.2.1 bt497.2.2.1 bt497.2.2.2 a1).bind fun bt503 => ((laws_toBoard.f k a0_0 a0_1 a0_2 l0_3).bind fun bt505 => ((impl_FewestJumps.f k bt505.1 bt505.2.1 bt505.2.2.1 bt505.2.2.2 a1).bind fun bt512 => (if bt512.1 = bt503.1 then (laws_FnExactFewestJumps.j0 k (bt512.2 != bt503.2) a0_0 a0_1 a0_2 l0_3 bt505.1 bt505.2.1 bt505.2.2.1 bt505.2.2.2) else (laws_FnExactFewestJumps.j0 k true a0_0 a0_1 a0_2 l0_3 bt505.1 bt505.2.1 bt505.2.2.1 bt505.2.2.2)))))))) = some r := h
 clear h
 replace H := Option.bind_eq_some_iff.mp H
 obtain ⟨t496, A30, H⟩ := H
 replace H : (if t496 < 0 then (some true) else ((laws_toBoard.f k a0_0 a0_1 a0_2 l0_3).bind fun bt497 => ((spec_FewestJumps.f k bt497.1 bt497.2.1 bt497.2.2.1 bt497.2.2.2 a1).bind fun bt503 => ((laws_toBoard.f k a0_0 a0_1 a0_2 l0_3).bind fun bt505 => ((impl_FewestJumps.f k bt505.1 bt505.2.1 bt505.2.2.1 bt505.2.2.2 a1).bind fun bt512 => (if bt512.1 = bt503.1 then (laws_FnExactFewestJumps.j0 k (bt512.2 != bt503.2) a0_0 a0_1 a0_2 l0_3 bt505.1 bt505.2.1 bt505.2.2.1 bt505.2.2.2) else (laws_FnExactFewestJumps.j0 k true a0_0 a0_1 a0_2 l0_3 bt505.1 bt505.2.1 bt505.2.2.1 bt505.2.2.2))))))) = some r := H
 have A3 := Aside0.mk A30
 clear A30
 by_cases c4 : t496 < 0
 ·rw [if_pos c4] at H
  have c4b0 : decide (t496 < 0) = true := decide_eq_true c4
  clear c4
  obtain rfl := Option.some.inj H
  go_enter Try.func8, Try.ntmps8
  go_wp2_with (first | ((with_reducible refine gate_dst (N := 2) rfl ?_); refine box_event ?hg (N := 2) ?hd (cs := #[.int .i64 a0_0, .int .i64 a0_1, .int .i64 a0_2, .slice A0_3 l0_3.length c0_3]) (t := 24) ?hr ?_; (case hd => rfl); (case hg => rfl); (case hr => first | (go_simp; done) | (go_simp; rfl)); intro gb495 hg w5 hbox hb; have n0_ := Aside0.mk (below_step hb_ hb); have n1_ := Aside0.mk (hbox); have n2_ := Aside0.mk ((by rw [hg]; exact (below_size hb_) : w.heap.size ≤ gb495)); have n3_ := Aside0.mk ((by rw [hg]; exact (below_size hb_) : w.heap.size ≤ gb495)); clear HB; have HB := n0_; have BK495 := n1_; have GW495 := n2_; have GE495 := n3_; clear n0_ n1_ n2_ n3_; clear hb hbox hg; have hcz6_0 : w5.cell? ⟨gb495, 0, none⟩ = some (.int .i64 a0_0) := (blk_cell BK495.out 0).trans rfl; have hcz6_1 : w5.cell? ⟨gb495, 1, none⟩ = some (.int .i64 a0_1) := (blk_cell BK495.out 1).trans rfl; have hcz6_2 : w5.cell? ⟨gb495, 2, none⟩ = some (.int .i64 a0_2) := (blk_cell BK495.out 2).trans rfl; have hcz6_3 : w5.cell? ⟨gb495, 3, none⟩ = some (.slice A0_3 l0_3.length c0_3) := (blk_cell BK495.out 3).trans rfl; have hfz6_0 := blk_frozen BK495.out 0; have hfz6_1 := blk_frozen BK495.out 1; have hfz6_2 := blk_frozen BK495.out 2; have hfz6_3 := blk_frozen BK495.out 3) | ((with_reducible refine gate_callee (f := 14) rfl ?_); refine goesL_ (some 13) rfl rfl Try.func14 (by kernel_rfl) rfl #[.agg #[.int .i64 a0_0, .int .i64 a0_1, .int .i64 a0_2, .slice A0_3 l0_3.length c0_3], .int .i64 1048576] rfl (by (try simp only [List.map_toArray, List.map_cons, List.map_nil]); first | done | rfl | (simp only [List.length_drop, List.length_take]; rfl)) ?_; (with_reducible refine (laws_szBoard.calls a0_0 a0_1 a0_2 _ _ l0_3 1048576 t496 _ ?side1 ?side2 A3.out).mono ?_); (case side1 => exact Kd.C_below HR0_3.out hb_); (case side2 => exact HC0_3.out); rintro e w7 ⟨rfl, hb⟩; refine ⟨_, rfl, ?_⟩; have n0_ := Aside0.mk (blk_below (g := gb495) (o := .cells #[.int .i64 a0_0, .int .i64 a0_1, .int .i64 a0_2, .slice A0_3 l0_3.length c0_3] 24 (0, 0)) (by (with_reducible repeat (first | refine blk_drewN ?_ _ | refine blk_drew ?_ | refine blk_alloc ?_ _)); exact BK495.out) hb); have n1_ := Aside0.mk (below_step hb_ hb); clear BK495; clear HB; have BK495 := n0_; have HB := n1_; clear n0_ n1_; (try clear hb); (try clear hb2); (try clear hk); (try clear hi)))
  go_ret
  exact ⟨by first | rfl | (simp [errW_none, errW_some] <;> rfl) | (simp [*, errW_none, errW_some] <;> rfl), hb_⟩
 ·rw [if_neg c4] at H
  have c4b0 : decide (t496 < 0) = false := decide_eq_false c4
  clear c4
  replace H := Option.bind_eq_some_iff.mp H
  obtain ⟨⟨t497, t498, t499, t500⟩, A80, H⟩ := H
  replace H : ((spec_FewestJumps.f k t497 t498 t499 t500 a1).bind fun bt503 => ((laws_toBoard.f k a0_0 a0_1 a0_2 l0_3).bind fun bt505 => ((impl_FewestJumps.f k bt505.1 bt505.2.1 bt505.2.2.1 bt505.2.2.2 a1).bind fun bt512 => (if bt512.1 = bt503.1 then (laws_FnExactFewestJumps.j0 k (bt512.2 != bt503.2) a0_0 a0_1 a0_2 l0_3 bt505.1 bt505.2.1 bt505.2.2.1 bt505.2.2.2) else (laws_FnExactFewestJumps.j0 k true a0_0 a0_1 a0_2 l0_3 bt505.1 bt505.2.1 bt505.2.2.1 bt505.2.2.2))))) = some r := H
  have A8 := Aside0.mk A80
  clear A80
  replace H := Option.bind_eq_some_iff.mp H
  obtain ⟨⟨t503, t504⟩, A90, H⟩ := H
  replace H : ((laws_toBoard.f k a0_0 a0_1 a0_2 l0_3).bind fun bt505 => ((impl_FewestJumps.f k bt505.1 bt505.2.1 bt505.2.2.1 bt505.2.2.2 a1).bind fun bt512 => (if bt512.1 = t503 then (laws_FnExactFewestJumps.j0 k (bt512.2 != t504) a0_0 a0_1 a0_2 l0_3 bt505.1 bt505.2.1 bt505.2.2.1 bt505.2.2.2) else (laws_FnExactFewestJumps.j0 k true a0_0 a0_1 a0_2 l0_3 bt505.1 bt505.2.1 bt505.2.2.1 bt505.2.2.2)))) = some r := H
  have A9 := Aside0.mk A90
  clear A90
  replace H := Option.bind_eq_some_iff.mp H
  obtain ⟨⟨t505, t506, t507, t508⟩, A100, H⟩ := H
  replace H : ((impl_FewestJumps.f k t505 t506 t507 t508 a1).bind fun bt512 => (if bt512.1 = t503 then (laws_FnExactFewestJumps.j0 k (bt512.2 != t504) a0_0 a0_1 a0_2 l0_3 t505 t506 t507 t508) else (laws_FnExactFewestJumps.j0 k true a0_0 a0_1 a0_2 l0_3 t505 t506 t507 t508))) = some r := H
  have A10 := Aside0.mk A100
  clear A100
  replace H := Option.bind_eq_some_iff.mp H
  obtain ⟨⟨t512, t513⟩, A110, H⟩ := H
  replace H : (if t512 = t503 then (laws_FnExactFewestJumps.j0 k (t513 != t504) a0_0 a0_1 a0_2 l0_3 t505 t506 t507 t508) else (laws_FnExactFewestJumps.j0 k true a0_0 a0_1 a0_2 l0_3 t505 t506 t507 t508)) = some r := H
  have A11 := Aside0.mk A110
  clear A110
  have HC12 := Aside0.mk H
  clear H
  go_enter Try.func8, Try.ntmps8
  go_upto_region 8 with (first | ((with_reducible refine gate_dst (N := 2) rfl ?_); refine box_event ?hg (N := 2) ?hd (cs := #[.int .i64 a0_0, .int .i64 a0_1, .int .i64 a0_2, .slice A0_3 l0_3.length c0_3]) (t := 24) ?hr ?_; (case hd => rfl); (case hg => rfl); (case hr => first | (go_simp; done) | (go_simp; rfl)); intro gb495 hg w13 hbox hb; have n0_ := Aside0.mk (below_step hb_ hb); have n1_ := Aside0.mk (hbox); have n2_ := Aside0.mk ((by rw [hg]; exact (below_size hb_) : w.heap.size ≤ gb495)); have n3_ := Aside0.mk ((by rw [hg]; exact (below_size hb_) : w.heap.size ≤ gb495)); clear HB; have HB := n0_; have BK495 := n1_; have GW495 := n2_; have GE495 := n3_; clear n0_ n1_ n2_ n3_; clear hb hbox hg; have hcz14_0 : w13.cell? ⟨gb495, 0, none⟩ = some (.int .i64 a0_0) := (blk_cell BK495.out 0).trans rfl; have hcz14_1 : w13.cell? ⟨gb495, 1, none⟩ = some (.int .i64 a0_1) := (blk_cell BK495.out 1).trans rfl; have hcz14_2 : w13.cell? ⟨gb495, 2, none⟩ = some (.int .i64 a0_2) := (blk_cell BK495.out 2).trans rfl; have hcz14_3 : w13.cell? ⟨gb495, 3, none⟩ = some (.slice A0_3 l0_3.length c0_3) := (blk_cell BK495.out 3).trans rfl; have hfz14_0 := blk_frozen BK495.out 0; have hfz14_1 := blk_frozen BK495.out 1; have hfz14_2 := blk_frozen BK495.out 2; have hfz14_3 := blk_frozen BK495.out 3) | ((with_reducible refine gate_callee (f := 14) rfl ?_); refine goesL_ (some 13) rfl rfl Try.func14 (by kernel_rfl) rfl #[.agg #[.int .i64 a0_0, .int .i64 a0_1, .int .i64 a0_2, .slice A0_3 l0_3.length c0_3], .int .i64 1048576] rfl (by (try simp only [List.map_toArray, List.map_cons, List.map_nil]); first | done | rfl | (simp only [List.length_drop, List.length_take]; rfl)) ?_; (with_reducible refine (laws_szBoard.calls a0_0 a0_1 a0_2 _ _ l0_3 1048576 t496 _ ?side1 ?side2 A3.out).mono ?_); (case side1 => exact Kd.C_below HR0_3.out hb_); (case side2 => exact HC0_3.out); rintro e w15 ⟨rfl, hb⟩; refine ⟨_, rfl, ?_⟩; have n0_ := Aside0.mk (blk_below (g := gb495) (o := .cells #[.int .i64 a0_0, .int .i64 a0_1, .int .i64 a0_2, .slice A0_3 l0_3.length c0_3] 24 (0, 0)) (by (with_reducible repeat (first | refine blk_drewN ?_ _ | refine blk_drew ?_ | refine blk_alloc ?_ _)); exact BK495.out) hb); have n1_ := Aside0.mk (below_step hb_ hb); clear BK495; clear HB; have BK495 := n0_; have HB := n1_; clear n0_ n1_; (try clear hb); (try clear hb2); (try clear hk); (try clear hi); have hcz16_0 : w15.cell? ⟨gb495, 0, none⟩ = some (.int .i64 a0_0) := (blk_cell BK495.out 0).trans rfl; have hcz16_1 : w15.cell? ⟨gb495, 1, none⟩ = some (.int .i64 a0_1) := (blk_cell BK495.out 1).trans rfl; have hcz16_2 : w15.cell? ⟨gb495, 2, none⟩ = some (.int .i64 a0_2) := (blk_cell BK495.out 2).trans rfl; have hcz16_3 : w15.cell? ⟨gb495, 3, none⟩ = some (.slice A0_3 l0_3.length c0_3) := (blk_cell BK495.out 3).trans rfl; have hfz16_0 := blk_frozen BK495.out 0; have hfz16_1 := blk_frozen BK495.out 1; have hfz16_2 := blk_frozen BK495.out 2; have hfz16_3 := blk_frozen BK495.out 3) | ((with_reducible refine gate_callee (f := 16) rfl ?_); refine goesL_ (some 18) rfl rfl Try.func16 (by kernel_rfl) rfl #[.agg #[.int .i64 a0_0, .int .i64 a0_1, .int .i64 a0_2, .slice A0_3 l0_3.length c0_3]] rfl (by (try simp only [List.map_toArray, List.map_cons, List.map_nil]); first | done | rfl | (simp only [List.length_drop, List.length_take]; rfl)) ?_; (with_reducible refine (laws_toBoard.calls k a0_0 a0_1 a0_2 _ _ l0_3 t497 t498 t499 t500 _ ?side1 ?side2 A8.out).mono ?_); (case side1 => exact Kd.C_below HR0_3.out hb_); (case side2 => exact HC0_3.out); rintro e w17 ⟨v501, rfl, ho0, hb⟩; refine ⟨_, rfl, ?_⟩; have n0_ := Aside0.mk (Kd.R_lower ho0 (below_size hb_)); have n1_ := Aside0.mk (blk_below (g := gb495) (o := .cells #[.int .i64 a0_0, .int .i64 a0_1, .int .i64 a0_2, .slice A0_3 l0_3.length c0_3] 24 (0, 0)) (by (with_reducible repeat (first | refine blk_drewN ?_ _ | refine blk_drew ?_ | refine blk_alloc ?_ _)); exact BK495.out) hb); have n2_ := Aside0.mk (below_step hb_ hb); clear BK495; clear HB; have HO502 := n0_; have BK495 := n1_; have HB := n2_; clear n0_ n1_ n2_; (try clear hb); (try clear hb2); (try clear hk); (try clear hi); (try clear ho0); obtain ⟨Ao18, co18, eo18⟩ := Kd.R_slice HO502.out; subst eo18) | ((with_reducible refine gate_callee (f := 32) rfl ?_); refine goesL_ (some 20) rfl rfl Try.func32 (by kernel_rfl) rfl #[.agg #[.int .i64 t497, .int .i64 t498, .int .i64 t499, .slice Ao18 t500.length co18], .int .i64 a1] rfl (by (try simp only [List.map_toArray, List.map_cons, List.map_nil]); first | done | rfl | (simp only [List.length_drop, List.length_take]; rfl)) ?_; (with_reducible refine (spec_FewestJumps.calls k t497 t498 t499 _ _ t500 a1 t503 t504 _ ?side1 ?side2 A9.out).mono ?_); (case side1 => repeat (first | exact (Kd.R_reads' HO502.out).2.2 | (with_reducible refine Kd.C_alloc ?_ _) | (with_reducible refine Kd.C_drewN ?_ _) | (with_reducible refine Kd.C_drew ?_))); (case side2 => exact (Kd.R_reads' HO502.out).2.1); rintro e w19 ⟨rfl, hb⟩; refine ⟨_, rfl, ?_⟩; have n0_ := Aside0.mk (Kd.R_below (by (with_reducible repeat (first | apply Kd.R_alloc | apply Kd.R_drewN | apply Kd.R_drew)); exact HO502.out) hb); have n1_ := Aside0.mk (blk_below (g := gb495) (o := .cells #[.int .i64 a0_0, .int .i64 a0_1, .int .i64 a0_2, .slice A0_3 l0_3.length c0_3] 24 (0, 0)) (by (with_reducible repeat (first | refine blk_drewN ?_ _ | refine blk_drew ?_ | refine blk_alloc ?_ _)); exact BK495.out) hb); have n2_ := Aside0.mk (below_step hb_ hb); clear HO502; clear BK495; clear HB; have HO502 := n0_; have BK495 := n1_; have HB := n2_; clear n0_ n1_ n2_; (try clear hb); (try clear hb2); (try clear hk); (try clear hi); have hcz20_0 : w19.cell? ⟨gb495, 0, none⟩ = some (.int .i64 a0_0) := (blk_cell BK495.out 0).trans rfl; have hcz20_1 : w19.cell? ⟨gb495, 1, none⟩ = some (.int .i64 a0_1) := (blk_cell BK495.out 1).trans rfl; have hcz20_2 : w19.cell? ⟨gb495, 2, none⟩ = some (.int .i64 a0_2) := (blk_cell BK495.out 2).trans rfl; have hcz20_3 : w19.cell? ⟨gb495, 3, none⟩ = some (.slice A0_3 l0_3.length c0_3) := (blk_cell BK495.out 3).trans rfl; have hfz20_0 := blk_frozen BK495.out 0; have hfz20_1 := blk_frozen BK495.out 1; have hfz20_2 := blk_frozen BK495.out 2; have hfz20_3 := blk_frozen BK495.out 3) | ((with_reducible refine gate_callee (f := 16) rfl ?_); refine goesL_ (some 24) rfl rfl Try.func16 (by kernel_rfl) rfl #[.agg #[.int .i64 a0_0, .int .i64 a0_1, .int .i64 a0_2, .slice A0_3 l0_3.length c0_3]] rfl (by (try simp only [List.map_toArray, List.map_cons, List.map_nil]); first | done | rfl | (simp only [List.length_drop, List.length_take]; rfl)) ?_; (with_reducible refine (laws_toBoard.calls k a0_0 a0_1 a0_2 _ _ l0_3 t505 t506 t507 t508 _ ?side1 ?side2 A10.out).mono ?_); (case side1 => exact Kd.C_below HR0_3.out hb_); (case side2 => exact HC0_3.out); rintro e w21 ⟨v509, rfl, ho0, hb⟩; refine ⟨_, rfl, ?_⟩; have n0_ := Aside0.mk (Kd.R_elder' (by (with_reducible repeat (first | apply Kd.R_alloc | apply Kd.R_drewN | apply Kd.R_drew)); exact HO502.out) (Kd.R_base ho0) hb); have n1_ := Aside0.mk (Kd.R_lower (Kd.R_new' ho0 (Kd.R_lt (by (with_reducible repeat (first | apply Kd.R_alloc | apply Kd.R_drewN | apply Kd.R_drew)); exact HO502.out))) (below_size hb_)); have n2_ := Aside0.mk (blk_below (g := gb495) (o := .cells #[.int .i64 a0_0, .int .i64 a0_1, .int .i64 a0_2, .slice A0_3 l0_3.length c0_3] 24 (0, 0)) (by (with_reducible repeat (first | refine blk_drewN ?_ _ | refine blk_drew ?_ | refine blk_alloc ?_ _)); exact BK495.out) hb); have n3_ := Aside0.mk (below_step hb_ hb); clear HO502; clear BK495; clear HB; have HO502 := n0_; have HO510 := n1_; have BK495 := n2_; have HB := n3_; clear n0_ n1_ n2_ n3_; (try clear hb); (try clear hb2); (try clear hk); (try clear hi); (try clear ho0)) | ((with_reducible refine gate_dst (N := 8) rfl ?_); refine box_event ?hg (N := 8) ?hd (cs := #[.int .i64 0, .int .i64 0, .int .i64 0, .slice none 0 0]) (t := 30) ?hr ?_; (case hd => rfl); (case hg => rfl); (case hr => first | (go_simp; done) | (go_simp; rfl)); intro gb511 hg w22 hbox hb; have n0_ := Aside0.mk (Kd.R_below (by (with_reducible repeat (first | apply Kd.R_alloc | apply Kd.R_drewN | apply Kd.R_drew)); exact HO502.out) hb); have n1_ := Aside0.mk (Kd.R_below (by (with_reducible repeat (first | apply Kd.R_alloc | apply Kd.R_drewN | apply Kd.R_drew)); exact HO510.out) hb); have n2_ := Aside0.mk (blk_below (g := gb495) (o := .cells #[.int .i64 a0_0, .int .i64 a0_1, .int .i64 a0_2, .slice A0_3 l0_3.length c0_3] 24 (0, 0)) (by (with_reducible repeat (first | refine blk_drewN ?_ _ | refine blk_drew ?_ | refine blk_alloc ?_ _)); exact BK495.out) hb); have n3_ := Aside0.mk (below_step hb_ hb); have n4_ := Aside0.mk (hbox); have n5_ := Aside0.mk ((by rw [hg]; exact (below_size hb_) : w.heap.size ≤ gb511)); have n6_ := Aside0.mk ((by rw [hg]; exact (below_size hb_) : w.heap.size ≤ gb511)); have n7_ := Aside0.mk ((by rw [hg]; exact Nat.ne_of_lt (blk_lt (g := gb495) (o := .cells #[.int .i64 a0_0, .int .i64 a0_1, .int .i64 a0_2, .slice A0_3 l0_3.length c0_3] 24 (0, 0)) (by (with_reducible repeat (first | refine blk_drewN ?_ _ | refine blk_drew ?_ | refine blk_alloc ?_ _)); exact BK495.out)) : gb495 ≠ gb511)); have n8_ := Aside0.mk ((by rw [hg]; exact Nat.ne_of_gt (blk_lt (g := gb495) (o := .cells #[.int .i64 a0_0, .int .i64 a0_1, .int .i64 a0_2, .slice A0_3 l0_3.length c0_3] 24 (0, 0)) (by (with_reducible repeat (first | refine blk_drewN ?_ _ | refine blk_drew ?_ | refine blk_alloc ?_ _)); exact BK495.out)) : gb511 ≠ gb495)); clear HO502; clear HO510; clear BK495; clear HB; have HO502 := n0_; have HO510 := n1_; have BK495 := n2_; have HB := n3_; have BK511 := n4_; have GW511 := n5_; have GE511 := n6_; have NB495_511 := n7_; have NB511_495 := n8_; clear n0_ n1_ n2_ n3_ n4_ n5_ n6_ n7_ n8_; clear hb hbox hg; have hnb23 := NB511_495.out; have hnc23 := NB495_511.out; have hcz24_0 : w22.cell? ⟨gb511, 0, none⟩ = some (.int .i64 0) := (blk_cell BK511.out 0).trans rfl; have hcz24_1 : w22.cell? ⟨gb511, 1, none⟩ = some (.int .i64 0) := (blk_cell BK511.out 1).trans rfl; have hcz24_2 : w22.cell? ⟨gb511, 2, none⟩ = some (.int .i64 0) := (blk_cell BK511.out 2).trans rfl; have hcz24_3 : w22.cell? ⟨gb511, 3, none⟩ = some (.slice none 0 0) := (blk_cell BK511.out 3).trans rfl; have hfz24_0 := blk_frozen BK511.out 0; have hfz24_1 := blk_frozen BK511.out 1; have hfz24_2 := blk_frozen BK511.out 2; have hfz24_3 := blk_frozen BK511.out 3; obtain ⟨Ao25, co25, eo25⟩ := Kd.R_slice HO510.out; subst eo25) | ((with_reducible refine gate_callee (f := 33) rfl ?_); refine goesL_ (some 28) rfl rfl Try.func33 (by kernel_rfl) rfl #[.agg #[.int .i64 t505, .int .i64 t506, .int .i64 t507, .slice Ao25 t508.length co25], .int .i64 a1] rfl (by (try simp only [List.map_toArray, List.map_cons, List.map_nil]); first | done | rfl | (simp only [List.length_drop, List.length_take]; rfl)) ?_; (with_reducible refine (impl_FewestJumps.calls k t505 t506 t507 _ _ t508 a1 t512 t513 _ ?side1 ?side2 A11.out).mono ?_); (case side1 => refine (Kd.R_reads' (e := 70) (base := w.heap.size) (ok := fun k_ => (True ∧ some k_ ≠ (.slice Ao18 t500.length co18 : Value).ownBlock)) (n := t508.length) (c := co25) ?_).2.2; exact (by (with_reducible repeat (first | apply Kd.R_alloc | apply Kd.R_drewN | apply Kd.R_drew)); exact (Kd.R_mono (Kd.R_far (p := ⟨gb511, 3, none⟩) (Kd.R_far (p := ⟨gb511, 2, none⟩) (Kd.R_far (p := ⟨gb511, 1, none⟩) (Kd.R_far (p := ⟨gb511, 0, none⟩) (Kd.R_types HO510.out BK511.out (by decide)) (fun _ hk => hk.2) (.int .i64 t505)) (fun _ hk => hk.2) (.int .i64 t506)) (fun _ hk => hk.2) (.int .i64 t507)) (fun _ hk => hk.2) (.slice Ao25 t508.length co25)) (fun _ h_ => h_.1)))); (case side2 => exact (Kd.R_reads' HO510.out).2.1); rintro e w26 ⟨rfl, hb⟩; refine ⟨_, rfl, ?_⟩; have n0_ := Aside0.mk (Kd.R_below (by (with_reducible repeat (first | apply Kd.R_alloc | apply Kd.R_drewN | apply Kd.R_drew)); exact (Kd.R_mono (Kd.R_far (p := ⟨gb511, 3, none⟩) (Kd.R_far (p := ⟨gb511, 2, none⟩) (Kd.R_far (p := ⟨gb511, 1, none⟩) (Kd.R_far (p := ⟨gb511, 0, none⟩) (Kd.R_types HO502.out BK511.out (by decide)) (fun _ hk => hk.2) (.int .i64 t505)) (fun _ hk => hk.2) (.int .i64 t506)) (fun _ hk => hk.2) (.int .i64 t507)) (fun _ hk => hk.2) (.slice Ao25 t508.length co25)) (fun _ h_ => h_.1))) hb); have n1_ := Aside0.mk (Kd.R_below (by (with_reducible repeat (first | apply Kd.R_alloc | apply Kd.R_drewN | apply Kd.R_drew)); exact (Kd.R_mono (Kd.R_far (p := ⟨gb511, 3, none⟩) (Kd.R_far (p := ⟨gb511, 2, none⟩) (Kd.R_far (p := ⟨gb511, 1, none⟩) (Kd.R_far (p := ⟨gb511, 0, none⟩) (Kd.R_types HO510.out BK511.out (by decide)) (fun _ hk => hk.2) (.int .i64 t505)) (fun _ hk => hk.2) (.int .i64 t506)) (fun _ hk => hk.2) (.int .i64 t507)) (fun _ hk => hk.2) (.slice Ao25 t508.length co25)) (fun _ h_ => h_.1))) hb); have n2_ := Aside0.mk (blk_below (g := gb495) (o := .cells #[.int .i64 a0_0, .int .i64 a0_1, .int .i64 a0_2, .slice A0_3 l0_3.length c0_3] 24 (0, 0)) (by (with_reducible repeat (first | refine blk_drewN ?_ _ | refine blk_drew ?_ | refine blk_alloc ?_ _)); refine blk_far ?_ NB495_511.out _; (with_reducible repeat (first | refine blk_drewN ?_ _ | refine blk_drew ?_ | refine blk_alloc ?_ _)); refine blk_far ?_ NB495_511.out _; (with_reducible repeat (first | refine blk_drewN ?_ _ | refine blk_drew ?_ | refine blk_alloc ?_ _)); refine blk_far ?_ NB495_511.out _; (with_reducible repeat (first | refine blk_drewN ?_ _ | refine blk_drew ?_ | refine blk_alloc ?_ _)); refine blk_far ?_ NB495_511.out _; (with_reducible repeat (first | refine blk_drewN ?_ _ | refine blk_drew ?_ | refine blk_alloc ?_ _)); exact BK495.out) hb); have n3_ := Aside0.mk (blk_below (g := gb511) (o := .cells #[.int .i64 t505, .int .i64 t506, .int .i64 t507, .slice Ao25 t508.length co25] 30 (0, 0)) (by (with_reducible repeat (first | refine blk_drewN ?_ _ | refine blk_drew ?_ | refine blk_alloc ?_ _)); refine blk_put (cs := #[.int .i64 t505, .int .i64 t506, .int .i64 t507, .slice none 0 0]) ?_ 3 _ rfl; (with_reducible repeat (first | refine blk_drewN ?_ _ | refine blk_drew ?_ | refine blk_alloc ?_ _)); refine blk_put (cs := #[.int .i64 t505, .int .i64 t506, .int .i64 0, .slice none 0 0]) ?_ 2 _ rfl; (with_reducible repeat (first | refine blk_drewN ?_ _ | refine blk_drew ?_ | refine blk_alloc ?_ _)); refine blk_put (cs := #[.int .i64 t505, .int .i64 0, .int .i64 0, .slice none 0 0]) ?_ 1 _ rfl; (with_reducible repeat (first | refine blk_drewN ?_ _ | refine blk_drew ?_ | refine blk_alloc ?_ _)); refine blk_put (cs := #[.int .i64 0, .int .i64 0, .int .i64 0, .slice none 0 0]) ?_ 0 _ rfl; (with_reducible repeat (first | refine blk_drewN ?_ _ | refine blk_drew ?_ | refine blk_alloc ?_ _)); exact BK511.out) hb); have n4_ := Aside0.mk (below_step hb_ hb); clear HO502; clear HO510; clear BK495; clear BK511; clear HB; have HO502 := n0_; have HO510 := n1_; have BK495 := n2_; have BK511 := n3_; have HB := n4_; clear n0_ n1_ n2_ n3_ n4_; (try clear hb); (try clear hb2); (try clear hk); (try clear hi)))
  (try simp only [Act.put, List.setIfInBounds_toArray, List.set_cons_zero, List.set_cons_succ])
  go_cut [38] (fun v38 wc => ∃ (kq : Nat) (x38_11 : Bool), v38 = .bool x38_11 ∧ Aside0 (laws_FnExactFewestJumps.j0 kq x38_11 a0_0 a0_1 a0_2 l0_3 t505 t506 t507 t508 = some r) ∧ Aside0 (kq ≤ k) ∧ Aside0 (Kd.R k70 70 wc w.heap.size (fun _ => True) (.slice Ao25 t508.length co25) t508) ∧ Aside0 (wc.heap[gb495]? = some (.cells #[.int .i64 a0_0, .int .i64 a0_1, .int .i64 a0_2, (.slice A0_3 l0_3.length c0_3)] 24 (0, 0))) ∧ Aside0 (wc.heap[gb511]? = some (.cells #[.int .i64 t505, .int .i64 t506, .int .i64 t507, (.slice Ao25 t508.length co25)] 30 (0, 0))) ∧ Aside0 (Below w.heap.size w wc))
  case first =>
   have H := HC12.out
   clear HC12
   by_cases c27 : t512 = t503
   ·rw [if_pos c27] at H
    have c27b0 : (t512 == t503) = true := beq_iff_eq.mpr c27
    have c27b1 : (t512 != t503) = false := bne_eq_false_iff_eq.mpr c27
    clear c27
    (first | rw [c27b0] | (simp only [i64_w, i32_w]; rw [c27b0]) | skip)
    have H' := Aside0.mk H
    clear H
    go_wp2
    go_meet
    case rel => exact ⟨_, ((t513 != t504)), (by first | rfl | (simp; done) | (simp [*]; done)), H', ⟨by first | omega | exact Nat.le_refl _⟩, ⟨by (with_reducible repeat (first | apply Kd.R_alloc | apply Kd.R_drewN | apply Kd.R_drew)); exact Kd.R_mono HO510.out (fun _ hk => trivial)⟩, ⟨by (with_reducible repeat (first | refine blk_drewN ?_ _ | refine blk_drew ?_ | refine blk_alloc ?_ _)); exact BK495.out⟩, ⟨by (with_reducible repeat (first | refine blk_drewN ?_ _ | refine blk_drew ?_ | refine blk_alloc ?_ _)); exact BK511.out⟩, ⟨hb_⟩⟩
   ·rw [if_neg c27] at H
    have c27b0 : (t512 == t503) = false := beq_eq_false_iff_ne.mpr c27
    have c27b1 : (t512 != t503) = true := bne_iff_ne.mpr c27
    (first | rw [c27b0] | (simp only [i64_w, i32_w]; rw [c27b0]) | skip)
    have H' := Aside0.mk H
    clear H
    go_wp2
    go_meet
    case rel => exact ⟨_, (true), (by first | rfl | (simp; done) | (simp [*]; done)), H', ⟨by first | omega | exact Nat.le_refl _⟩, ⟨by (with_reducible repeat (first | apply Kd.R_alloc | apply Kd.R_drewN | apply Kd.R_drew)); exact Kd.R_mono HO510.out (fun _ hk => trivial)⟩, ⟨by (with_reducible repeat (first | refine blk_drewN ?_ _ | refine blk_drew ?_ | refine blk_alloc ?_ _)); exact BK495.out⟩, ⟨by (with_reducible repeat (first | refine blk_drewN ?_ _ | refine blk_drew ?_ | refine blk_alloc ?_ _)); exact BK511.out⟩, ⟨hb_⟩⟩
  case rest =>
   clear HC12
   try clear c1
   try clear c2
   try clear p2
   try clear c3
   try clear c4
   try clear c4b0
   try clear c8
   try clear c14
   try clear c16
   try clear c23
   try clear c27
   try clear c27b0
   try clear c27b1
   try clear hcz14_0
   try clear hcz14_1
   try clear hcz14_2
   try clear hcz14_3
   try clear hcz16_0
   try clear hcz16_1
   try clear hcz16_2
   try clear hcz16_3
   try clear hcz20_0
   try clear hcz20_1
   try clear hcz20_2
   try clear hcz20_3
   try clear hcz24_0
   try clear hcz24_1
   try clear hcz24_2
   try clear hcz24_3
   try clear hcz6_0
   try clear hcz6_1
   try clear hcz6_2
   try clear hcz6_3
   try clear hfz14_0
   try clear hfz14_1
   try clear hfz14_2
   try clear hfz14_3
   try clear hfz16_0
   try clear hfz16_1
   try clear hfz16_2
   try clear hfz16_3
   try clear hfz20_0
   try clear hfz20_1
   try clear hfz20_2
   try clear hfz20_3
   try clear hfz24_0
   try clear hfz24_1
   try clear hfz24_2
   try clear hfz24_3
   try clear hfz6_0
   try clear hfz6_1
   try clear hfz6_2
   try clear hfz6_3
   obtain ⟨kq, x38_11, rfl, HA, HJ11, HO_512003, BK495, BK511, HB⟩ := hcut
   cases kq with
   | zero => exact absurd HA.out (by simp [laws_FnExactFewestJumps.j0])
   | succ kj11 =>
    have H := HA.out
    clear HA
    simp only [laws_FnExactFewestJumps.j0] at H
    by_cases c28 : x38_11 = true
    ·subst c28
     have H1 : (some false) = some r := by rw [if_pos rfl] at H; exact H
     clear H
     have H := H1
     clear H1
     obtain rfl := Option.some.inj H
     go_wp2
     go_ret
     exact ⟨by first | rfl | (simp [errW_none, errW_some] <;> rfl) | (simp [*, errW_none, errW_some] <;> rfl), hb_⟩
    ·replace c28 := Bool.eq_false_iff.mpr c28
     subst c28
     have H1 : ((laws_toBoard.f kj11 a0_0 a0_1 a0_2 l0_3).bind fun bt514 => ((laws_eqBoard.f kj11 t505 t506 t507 t508 bt514.1 bt514.2.1 bt514.2.2.1 bt514.2.2.2).bind fun t520 => (if t520 = true then (some true) else (some false)))) = some r := by rw [if_neg (show ¬ (false = true) by decide)] at H; exact H
     clear H
     have H := H1
     clear H1
     replace H := Option.bind_eq_some_iff.mp H
     obtain ⟨⟨t514, t515, t516, t517⟩, A290, H⟩ := H
     replace H : ((laws_eqBoard.f kj11 t505 t506 t507 t508 t514 t515 t516 t517).bind fun t520 => (if t520 = true then (some true) else (some false))) = some r := H
     have A29 := Aside0.mk A290
     clear A290
     replace H := Option.bind_eq_some_iff.mp H
     obtain ⟨t520, A300, H⟩ := H
     replace H : (if t520 = true then (some true) else (some false)) = some r := H
     have A30 := Aside0.mk A300
     clear A300
     by_cases c31 : t520 = true
     ·subst c31
      have H1 : (some true) = some r := by rw [if_pos rfl] at H; exact H
      clear H
      have H := H1
      clear H1
      obtain rfl := Option.some.inj H
      try go_wp2
      have n0_ := Aside0.mk (Kd.R_drew HO_512003.out)
      have n1_ := Aside0.mk (blk_drew BK495.out)
      have n2_ := Aside0.mk (blk_drew BK511.out)
      have n3_ := Aside0.mk (below_drew1 HB.out)
      clear HO_512003
      clear BK495
      clear BK511
      clear HB
      have HO_512003 := n0_
      have BK495 := n1_
      have BK511 := n2_
      have HB := n3_
      clear n0_ n1_ n2_ n3_
      refine start_ (n := 5) (S := fun w' => w'.cell? ⟨gb511, 0, none⟩ = some (.int .i64 t505) ∧ w'.cell? ⟨gb511, 1, none⟩ = some (.int .i64 t506) ∧ w'.cell? ⟨gb511, 2, none⟩ = some (.int .i64 t507) ∧ w'.cell? ⟨gb511, 3, none⟩ = some (.slice Ao25 t508.length co25) ∧ w'.cell? ⟨gb495, 0, none⟩ = some (.int .i64 a0_0) ∧ w'.cell? ⟨gb495, 1, none⟩ = some (.int .i64 a0_1) ∧ w'.cell? ⟨gb495, 2, none⟩ = some (.int .i64 a0_2) ∧ w'.cell? ⟨gb495, 3, none⟩ = some (.slice A0_3 l0_3.length c0_3)) (ds := []) #[false, false, false, false, false] (by kernel_rfl) rfl rfl ⟨(blk_cell BK511.out 0).trans rfl, (blk_cell BK511.out 1).trans rfl, (blk_cell BK511.out 2).trans rfl, (blk_cell BK511.out 3).trans rfl, (blk_cell BK495.out 0).trans rfl, (blk_cell BK495.out 1).trans rfl, (blk_cell BK495.out 2).trans rfl, (blk_cell BK495.out 3).trans rfl⟩ (fun hHeld => ?_)
      generalize wc.drew = w32 at HO_512003 BK495 BK511 HB hHeld ⊢
      refine take_ (i := 0) (N := some 39) (v := ?_) (a' := ?_) #[true, false, false, false, false] rfl rfl (by kernel_rfl) (fun _ _ _ h => h) (Or.inl ⟨by rfl, ?_⟩) hHeld ?_ ?_
      rotate_left
      ·rintro w' ⟨s0, s1, s2, s3, s4, s5, s6, s7⟩
       go_simp
       with_reducible rfl
      rotate_left
      ·simp only [Act.put, List.setIfInBounds_toArray, List.set_cons_zero, List.set_cons_succ, i64_w, i32_w]
       rfl
      refine take_ (i := 1) (N := some 40) (v := ?_) (a' := ?_) #[true, true, false, false, false] rfl rfl (by kernel_rfl) (fun _ _ _ h => h) (Or.inl ⟨by rfl, ?_⟩) hHeld ?_ ?_
      rotate_left
      ·rintro w' ⟨s0, s1, s2, s3, s4, s5, s6, s7⟩
       go_simp
       with_reducible rfl
      rotate_left
      ·simp only [Act.put, List.setIfInBounds_toArray, List.set_cons_zero, List.set_cons_succ, i64_w, i32_w]
       rfl
      refine one_ (i := 2) (N := some 41) #[true, true, true, false, false] rfl rfl (by kernel_rfl) (by decide) (fun K hK => ?_)
      refine goes_ Try.func16 (by kernel_rfl) rfl #[.agg #[.int .i64 a0_0, .int .i64 a0_1, .int .i64 a0_2, .slice A0_3 l0_3.length c0_3]] (by rfl) rfl rfl (by (try simp only [List.map_toArray, List.map_cons, List.map_nil]); first | done | rfl | (simp only [List.length_drop, List.length_take]; rfl)) ?_
      with_reducible refine (laws_toBoard.calls kj11 a0_0 a0_1 a0_2 _ _ l0_3 t514 t515 t516 t517 _ ?side1 ?side2 A29.out).mono ?_
      (case side1 => exact Kd.C_below HR0_3.out hb_)
      (case side2 => exact HC0_3.out)
      rintro e w33 ⟨v518, rfl, ho0, hb⟩
      refine ⟨_, rfl, ?_⟩
      have n0_ := Aside0.mk (Kd.R_elder' (by (with_reducible repeat (first | apply Kd.R_alloc | apply Kd.R_drewN | apply Kd.R_drew)); exact HO_512003.out) (Kd.R_base ho0) hb)
      have n1_ := Aside0.mk (Kd.R_lower (Kd.R_new' ho0 (Kd.R_lt (by (with_reducible repeat (first | apply Kd.R_alloc | apply Kd.R_drewN | apply Kd.R_drew)); exact HO_512003.out))) (below_size hb_))
      have n2_ := Aside0.mk (blk_below (g := gb495) (o := .cells #[.int .i64 a0_0, .int .i64 a0_1, .int .i64 a0_2, .slice A0_3 l0_3.length c0_3] 24 (0, 0)) (by (with_reducible repeat (first | refine blk_drewN ?_ _ | refine blk_drew ?_ | refine blk_alloc ?_ _)); exact BK495.out) hb)
      have n3_ := Aside0.mk (blk_below (g := gb511) (o := .cells #[.int .i64 t505, .int .i64 t506, .int .i64 t507, .slice Ao25 t508.length co25] 30 (0, 0)) (by (with_reducible repeat (first | refine blk_drewN ?_ _ | refine blk_drew ?_ | refine blk_alloc ?_ _)); exact BK511.out) hb)
      have n4_ := Aside0.mk (below_step hb_ hb)
      clear HO_512003
      clear BK495
      clear BK511
      clear HB
      have HO_512003 := n0_
      have HO519 := n1_
      have BK495 := n2_
      have BK511 := n3_
      have HB := n4_
      clear n0_ n1_ n2_ n3_ n4_
      (try clear hb)
      (try clear hb2)
      (try clear hk)
      (try clear hi)
      (try clear ho0)
      obtain ⟨Ao34, co34, eo34⟩ := Kd.R_slice HO519.out
      (first | subst eo34 | (injection eo34 with f1_ f2_ f3_; have f4_ := f1_.symm; have f5_ := f3_.symm; clear f1_ f2_ f3_; subst f4_; subst f5_))
      refine hK.out _ _ ⟨(blk_cell BK511.out 0).trans rfl, (blk_cell BK511.out 1).trans rfl, (blk_cell BK511.out 2).trans rfl, (blk_cell BK511.out 3).trans rfl, (blk_cell BK495.out 0).trans rfl, (blk_cell BK495.out 1).trans rfl, (blk_cell BK495.out 2).trans rfl, (blk_cell BK495.out 3).trans rfl⟩ (fun hHeld => ?_)
      clear hK K
      refine norm_ (a' := ?_) ?_ ?_
      rotate_left
      ·show Act.put _ (some 41) _ = _
       simp only [Act.put, List.setIfInBounds_toArray, List.set_cons_zero, List.set_cons_succ, i64_w, i32_w]
       rfl
      refine one_ (i := 3) (N := some 42) #[true, true, true, true, false] rfl rfl (by kernel_rfl) (by decide) (fun K hK => ?_)
      refine goes_ Try.func18 (by kernel_rfl) rfl #[.agg #[.int .i64 t505, .int .i64 t506, .int .i64 t507, .slice Ao25 t508.length co25], .agg #[.int .i64 t514, .int .i64 t515, .int .i64 t516, .slice Ao34 t517.length co34]] (by rfl) rfl rfl (by (try simp only [List.map_toArray, List.map_cons, List.map_nil]); first | done | rfl | (simp only [List.length_drop, List.length_take]; rfl)) ?_
      with_reducible refine (laws_eqBoard.calls kj11 t505 t506 t507 _ _ t508 t514 t515 t516 _ _ t517 true _ ?side1 ?side2 ?side3 ?side4 A30.out).mono ?_
      (case side1 => repeat (first | exact (Kd.R_reads' HO_512003.out).2.2 | (with_reducible refine Kd.C_alloc ?_ _) | (with_reducible refine Kd.C_drewN ?_ _) | (with_reducible refine Kd.C_drew ?_)))
      (case side2 => exact (Kd.R_reads' HO_512003.out).2.1)
      (case side3 => repeat (first | exact (Kd.R_reads' HO519.out).2.2 | (with_reducible refine Kd.C_alloc ?_ _) | (with_reducible refine Kd.C_drewN ?_ _) | (with_reducible refine Kd.C_drew ?_)))
      (case side4 => exact (Kd.R_reads' HO519.out).2.1)
      rintro e w35 ⟨rfl, hb⟩
      refine ⟨_, rfl, ?_⟩
      have n0_ := Aside0.mk (Kd.R_below (by (with_reducible repeat (first | apply Kd.R_alloc | apply Kd.R_drewN | apply Kd.R_drew)); exact HO_512003.out) hb)
      have n1_ := Aside0.mk (Kd.R_below (by (with_reducible repeat (first | apply Kd.R_alloc | apply Kd.R_drewN | apply Kd.R_drew)); exact HO519.out) hb)
      have n2_ := Aside0.mk (blk_below (g := gb495) (o := .cells #[.int .i64 a0_0, .int .i64 a0_1, .int .i64 a0_2, .slice A0_3 l0_3.length c0_3] 24 (0, 0)) (by (with_reducible repeat (first | refine blk_drewN ?_ _ | refine blk_drew ?_ | refine blk_alloc ?_ _)); exact BK495.out) hb)
      have n3_ := Aside0.mk (blk_below (g := gb511) (o := .cells #[.int .i64 t505, .int .i64 t506, .int .i64 t507, .slice Ao25 t508.length co25] 30 (0, 0)) (by (with_reducible repeat (first | refine blk_drewN ?_ _ | refine blk_drew ?_ | refine blk_alloc ?_ _)); exact BK511.out) hb)
      have n4_ := Aside0.mk (below_step hb_ hb)
      clear HO_512003
      clear HO519
      clear BK495
      clear BK511
      clear HB
      have HO_512003 := n0_
      have HO519 := n1_
      have BK495 := n2_
      have BK511 := n3_
      have HB := n4_
      clear n0_ n1_ n2_ n3_ n4_
      (try clear hb)
      (try clear hb2)
      (try clear hk)
      (try clear hi)
      refine hK.out _ _ ⟨(blk_cell BK511.out 0).trans rfl, (blk_cell BK511.out 1).trans rfl, (blk_cell BK511.out 2).trans rfl, (blk_cell BK511.out 3).trans rfl, (blk_cell BK495.out 0).trans rfl, (blk_cell BK495.out 1).trans rfl, (blk_cell BK495.out 2).trans rfl, (blk_cell BK495.out 3).trans rfl⟩ (fun hHeld => ?_)
      clear hK K
      refine norm_ (a' := ?_) ?_ ?_
      rotate_left
      ·show Act.put _ (some 42) _ = _
       simp only [Act.put, List.setIfInBounds_toArray, List.set_cons_zero, List.set_cons_succ, i64_w, i32_w]
       rfl
      refine pure_ (i := 4) (N := some 43) (v := ?_) (a' := ?_) #[true, true, true, true, true] rfl rfl (by kernel_rfl) (fun _ _ _ h => h) (Or.inl ⟨by rfl, ?_⟩) ?_ ?_
      rotate_left
      ·intro w'
       go_simp
       with_reducible rfl
      rotate_left
      ·simp only [Act.put, List.setIfInBounds_toArray, List.set_cons_zero, List.set_cons_succ, i64_w, i32_w]
       rfl
      refine done_ (by kernel_rfl) ?_
      try go_wp2
      go_ret
      exact ⟨by first | rfl | (simp [errW_none, errW_some] <;> rfl) | (simp [*, errW_none, errW_some] <;> rfl), hb_⟩
     ·replace c31 := Bool.eq_false_iff.mpr c31
      subst c31
      have H1 : (some false) = some r := by rw [if_neg (show ¬ (false = true) by decide)] at H; exact H
      clear H
      have H := H1
      clear H1
      obtain rfl := Option.some.inj H
      try go_wp2
      have n0_ := Aside0.mk (Kd.R_drew HO_512003.out)
      have n1_ := Aside0.mk (blk_drew BK495.out)
      have n2_ := Aside0.mk (blk_drew BK511.out)
      have n3_ := Aside0.mk (below_drew1 HB.out)
      clear HO_512003
      clear BK495
      clear BK511
      clear HB
      have HO_512003 := n0_
      have BK495 := n1_
      have BK511 := n2_
      have HB := n3_
      clear n0_ n1_ n2_ n3_
      refine start_ (n := 5) (S := fun w' => w'.cell? ⟨gb511, 0, none⟩ = some (.int .i64 t505) ∧ w'.cell? ⟨gb511, 1, none⟩ = some (.int .i64 t506) ∧ w'.cell? ⟨gb511, 2, none⟩ = some (.int .i64 t507) ∧ w'.cell? ⟨gb511, 3, none⟩ = some (.slice Ao25 t508.length co25) ∧ w'.cell? ⟨gb495, 0, none⟩ = some (.int .i64 a0_0) ∧ w'.cell? ⟨gb495, 1, none⟩ = some (.int .i64 a0_1) ∧ w'.cell? ⟨gb495, 2, none⟩ = some (.int .i64 a0_2) ∧ w'.cell? ⟨gb495, 3, none⟩ = some (.slice A0_3 l0_3.length c0_3)) (ds := []) #[false, false, false, false, false] (by kernel_rfl) rfl rfl ⟨(blk_cell BK511.out 0).trans rfl, (blk_cell BK511.out 1).trans rfl, (blk_cell BK511.out 2).trans rfl, (blk_cell BK511.out 3).trans rfl, (blk_cell BK495.out 0).trans rfl, (blk_cell BK495.out 1).trans rfl, (blk_cell BK495.out 2).trans rfl, (blk_cell BK495.out 3).trans rfl⟩ (fun hHeld => ?_)
      generalize wc.drew = w36 at HO_512003 BK495 BK511 HB hHeld ⊢
      refine take_ (i := 0) (N := some 39) (v := ?_) (a' := ?_) #[true, false, false, false, false] rfl rfl (by kernel_rfl) (fun _ _ _ h => h) (Or.inl ⟨by rfl, ?_⟩) hHeld ?_ ?_
      rotate_left
      ·rintro w' ⟨s0, s1, s2, s3, s4, s5, s6, s7⟩
       go_simp
       with_reducible rfl
      rotate_left
      ·simp only [Act.put, List.setIfInBounds_toArray, List.set_cons_zero, List.set_cons_succ, i64_w, i32_w]
       rfl
      refine take_ (i := 1) (N := some 40) (v := ?_) (a' := ?_) #[true, true, false, false, false] rfl rfl (by kernel_rfl) (fun _ _ _ h => h) (Or.inl ⟨by rfl, ?_⟩) hHeld ?_ ?_
      rotate_left
      ·rintro w' ⟨s0, s1, s2, s3, s4, s5, s6, s7⟩
       go_simp
       with_reducible rfl
      rotate_left
      ·simp only [Act.put, List.setIfInBounds_toArray, List.set_cons_zero, List.set_cons_succ, i64_w, i32_w]
       rfl
      refine one_ (i := 2) (N := some 41) #[true, true, true, false, false] rfl rfl (by kernel_rfl) (by decide) (fun K hK => ?_)
      refine goes_ Try.func16 (by kernel_rfl) rfl #[.agg #[.int .i64 a0_0, .int .i64 a0_1, .int .i64 a0_2, .slice A0_3 l0_3.length c0_3]] (by rfl) rfl rfl (by (try simp only [List.map_toArray, List.map_cons, List.map_nil]); first | done | rfl | (simp only [List.length_drop, List.length_take]; rfl)) ?_
      with_reducible refine (laws_toBoard.calls kj11 a0_0 a0_1 a0_2 _ _ l0_3 t514 t515 t516 t517 _ ?side1 ?side2 A29.out).mono ?_
      (case side1 => exact Kd.C_below HR0_3.out hb_)
      (case side2 => exact HC0_3.out)
      rintro e w37 ⟨v518, rfl, ho0, hb⟩
      refine ⟨_, rfl, ?_⟩
      have n0_ := Aside0.mk (Kd.R_elder' (by (with_reducible repeat (first | apply Kd.R_alloc | apply Kd.R_drewN | apply Kd.R_drew)); exact HO_512003.out) (Kd.R_base ho0) hb)
      have n1_ := Aside0.mk (Kd.R_lower (Kd.R_new' ho0 (Kd.R_lt (by (with_reducible repeat (first | apply Kd.R_alloc | apply Kd.R_drewN | apply Kd.R_drew)); exact HO_512003.out))) (below_size hb_))
      have n2_ := Aside0.mk (blk_below (g := gb495) (o := .cells #[.int .i64 a0_0, .int .i64 a0_1, .int .i64 a0_2, .slice A0_3 l0_3.length c0_3] 24 (0, 0)) (by (with_reducible repeat (first | refine blk_drewN ?_ _ | refine blk_drew ?_ | refine blk_alloc ?_ _)); exact BK495.out) hb)
      have n3_ := Aside0.mk (blk_below (g := gb511) (o := .cells #[.int .i64 t505, .int .i64 t506, .int .i64 t507, .slice Ao25 t508.length co25] 30 (0, 0)) (by (with_reducible repeat (first | refine blk_drewN ?_ _ | refine blk_drew ?_ | refine blk_alloc ?_ _)); exact BK511.out) hb)
      have n4_ := Aside0.mk (below_step hb_ hb)
      clear HO_512003
      clear BK495
      clear BK511
      clear HB
      have HO_512003 := n0_
      have HO519 := n1_
      have BK495 := n2_
      have BK511 := n3_
      have HB := n4_
      clear n0_ n1_ n2_ n3_ n4_
      (try clear hb)
      (try clear hb2)
      (try clear hk)
      (try clear hi)
      (try clear ho0)
      obtain ⟨Ao38, co38, eo38⟩ := Kd.R_slice HO519.out
      (first | subst eo38 | (injection eo38 with f1_ f2_ f3_; have f4_ := f1_.symm; have f5_ := f3_.symm; clear f1_ f2_ f3_; subst f4_; subst f5_))
      refine hK.out _ _ ⟨(blk_cell BK511.out 0).trans rfl, (blk_cell BK511.out 1).trans rfl, (blk_cell BK511.out 2).trans rfl, (blk_cell BK511.out 3).trans rfl, (blk_cell BK495.out 0).trans rfl, (blk_cell BK495.out 1).trans rfl, (blk_cell BK495.out 2).trans rfl, (blk_cell BK495.out 3).trans rfl⟩ (fun hHeld => ?_)
      clear hK K
      refine norm_ (a' := ?_) ?_ ?_
      rotate_left
      ·show Act.put _ (some 41) _ = _
       simp only [Act.put, List.setIfInBounds_toArray, List.set_cons_zero, List.set_cons_succ, i64_w, i32_w]
       rfl
      refine one_ (i := 3) (N := some 42) #[true, true, true, true, false] rfl rfl (by kernel_rfl) (by decide) (fun K hK => ?_)
      refine goes_ Try.func18 (by kernel_rfl) rfl #[.agg #[.int .i64 t505, .int .i64 t506, .int .i64 t507, .slice Ao25 t508.length co25], .agg #[.int .i64 t514, .int .i64 t515, .int .i64 t516, .slice Ao38 t517.length co38]] (by rfl) rfl rfl (by (try simp only [List.map_toArray, List.map_cons, List.map_nil]); first | done | rfl | (simp only [List.length_drop, List.length_take]; rfl)) ?_
      with_reducible refine (laws_eqBoard.calls kj11 t505 t506 t507 _ _ t508 t514 t515 t516 _ _ t517 false _ ?side1 ?side2 ?side3 ?side4 A30.out).mono ?_
      (case side1 => repeat (first | exact (Kd.R_reads' HO_512003.out).2.2 | (with_reducible refine Kd.C_alloc ?_ _) | (with_reducible refine Kd.C_drewN ?_ _) | (with_reducible refine Kd.C_drew ?_)))
      (case side2 => exact (Kd.R_reads' HO_512003.out).2.1)
      (case side3 => repeat (first | exact (Kd.R_reads' HO519.out).2.2 | (with_reducible refine Kd.C_alloc ?_ _) | (with_reducible refine Kd.C_drewN ?_ _) | (with_reducible refine Kd.C_drew ?_)))
      (case side4 => exact (Kd.R_reads' HO519.out).2.1)
      rintro e w39 ⟨rfl, hb⟩
      refine ⟨_, rfl, ?_⟩
      have n0_ := Aside0.mk (Kd.R_below (by (with_reducible repeat (first | apply Kd.R_alloc | apply Kd.R_drewN | apply Kd.R_drew)); exact HO_512003.out) hb)
      have n1_ := Aside0.mk (Kd.R_below (by (with_reducible repeat (first | apply Kd.R_alloc | apply Kd.R_drewN | apply Kd.R_drew)); exact HO519.out) hb)
      have n2_ := Aside0.mk (blk_below (g := gb495) (o := .cells #[.int .i64 a0_0, .int .i64 a0_1, .int .i64 a0_2, .slice A0_3 l0_3.length c0_3] 24 (0, 0)) (by (with_reducible repeat (first | refine blk_drewN ?_ _ | refine blk_drew ?_ | refine blk_alloc ?_ _)); exact BK495.out) hb)
      have n3_ := Aside0.mk (blk_below (g := gb511) (o := .cells #[.int .i64 t505, .int .i64 t506, .int .i64 t507, .slice Ao25 t508.length co25] 30 (0, 0)) (by (with_reducible repeat (first | refine blk_drewN ?_ _ | refine blk_drew ?_ | refine blk_alloc ?_ _)); exact BK511.out) hb)
      have n4_ := Aside0.mk (below_step hb_ hb)
      clear HO_512003
      clear HO519
      clear BK495
      clear BK511
      clear HB
      have HO_512003 := n0_
      have HO519 := n1_
      have BK495 := n2_
      have BK511 := n3_
      have HB := n4_
      clear n0_ n1_ n2_ n3_ n4_
      (try clear hb)
      (try clear hb2)
      (try clear hk)
      (try clear hi)
      refine hK.out _ _ ⟨(blk_cell BK511.out 0).trans rfl, (blk_cell BK511.out 1).trans rfl, (blk_cell BK511.out 2).trans rfl, (blk_cell BK511.out 3).trans rfl, (blk_cell BK495.out 0).trans rfl, (blk_cell BK495.out 1).trans rfl, (blk_cell BK495.out 2).trans rfl, (blk_cell BK495.out 3).trans rfl⟩ (fun hHeld => ?_)
      clear hK K
      refine norm_ (a' := ?_) ?_ ?_
      rotate_left
      ·show Act.put _ (some 42) _ = _
       simp only [Act.put, List.setIfInBounds_toArray, List.set_cons_zero, List.set_cons_succ, i64_w, i32_w]
       rfl
      refine pure_ (i := 4) (N := some 43) (v := ?_) (a' := ?_) #[true, true, true, true, true] rfl rfl (by kernel_rfl) (fun _ _ _ h => h) (Or.inl ⟨by rfl, ?_⟩) ?_ ?_
      rotate_left
      ·intro w'
       go_simp
       with_reducible rfl
      rotate_left
      ·simp only [Act.put, List.setIfInBounds_toArray, List.set_cons_zero, List.set_cons_succ, i64_w, i32_w]
       rfl
      refine done_ (by kernel_rfl) ?_
      try go_wp2
      go_ret
      exact ⟨by first | rfl | (simp [errW_none, errW_some] <;> rfl) | (simp [*, errW_none, errW_some] <;> rfl), hb_⟩

end Go.Proofs.Ytphjhfpeomifiaa.P
