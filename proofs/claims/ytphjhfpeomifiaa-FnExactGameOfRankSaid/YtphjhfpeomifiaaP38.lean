-- written for this claim by a program of this session (wip/tools/xprint.py), which runs the kit's print with other cuts
import Derived.Test.YtphjhfpeomifiaaP
import Derived.Test.YtphjhfpeomifiaaP44
import Derived.Test.YtphjhfpeomifiaaP45
import Derived.Test.YtphjhfpeomifiaaP46
import Derived.Test.YtphjhfpeomifiaaP57
namespace Go.Proofs.Ytphjhfpeomifiaa.P
open Go.RowKit Go.Proofs.YtphjhfpeomifiaaW.PrintWords Go.Proofs.YtphjhfpeomifiaaW.PrintLast Go.Proofs.YtphjhfpeomifiaaW.PrintMore
attribute [local go_sem] max2_int min2_int max_two min_two max_three min_three max_four min_four   -- for this text's walks alone
set_option linter.unusedVariables false
set_option linter.unusedSimpArgs false

/-! ### spec_GameOfRank: function 38 -/
mutual
def spec_GameOfRank.j0 : Nat → Int → Int → Bool → Int → Int → Int → List (S70) → Option (List Int × Bool)
 | 0, _, _, _, _, _, _, _ => none
 | k + 1, x1, x2, x28, x595000, x595001, x595002, x595003 => if x28 = true then (some (([] : List Int), false)) else (spec_GameOfRank.l0 k x2 ([] : List Int) 0 (wrap64 (x1 - 1)) x595000 x595001 x595002 x595003)
def spec_GameOfRank.l0 : Nat → Int → List Int → Int → Int → Int → Int → Int → List (S70) → Option (List Int × Bool)
 | 0, _, _, _, _, _, _, _, _ => none
 | k + 1, x2, x8, x9, x10, x595000, x595001, x595002, x595003 => if x10 ≥ 0 then ((spec_gaCounts.f k x595000 x595001 x595002 x595003 x10).bind fun t601 => (spec_GameOfRank.l1 k x2 x8 x9 x10 t601 1 x595000 x595001 x595002 x595003)) else (some (x8, true))
def spec_GameOfRank.l1 : Nat → Int → List Int → Int → Int → List Int → Int → Int → Int → Int → List (S70) → Option (List Int × Bool)
 | 0, _, _, _, _, _, _, _, _, _, _ => none
 | k + 1, x2, x8, x9, x10, x11, x12, x595000, x595001, x595002, x595003 => if x12 ≤ x595001 then ((spec_sqThrow.f k x595000 x595001 x595002 x595003 x9 x12).bind fun t604 => (if 0 ≤ t604 then (if t604 < (x11.length : Int) then (if x2 < (rd x11 t604) then (if x8.length < 17592186044416 then ((spec_sqThrow.f k x595000 x595001 x595002 x595003 x9 x12).bind fun t609 => (spec_GameOfRank.l0 k x2 (x8 ++ [x12]) t609 (wrap64 (x10 - 1)) x595000 x595001 x595002 x595003)) else (none)) else (spec_GameOfRank.l1 k (wrap64 (x2 - (rd x11 t604))) x8 x9 x10 x11 (wrap64 (x12 + 1)) x595000 x595001 x595002 x595003)) else (none)) else (none))) else (spec_GameOfRank.l0 k x2 x8 x9 (wrap64 (x10 - 1)) x595000 x595001 x595002 x595003)
end
def spec_GameOfRank.f (k : Nat) (a0_0 : Int) (a0_1 : Int) (a0_2 : Int) (l0_3 : List (S70)) (a1 : Int) (a2 : Int) : Option (List Int × Bool) := (spec_gaAsked.f k a0_0 a0_1 a0_2 l0_3 a1).bind fun t595 => (if t595 = true then ((spec_gaCounts.f k a0_0 a0_1 a0_2 l0_3 a1).bind fun t596 => (if 0 < (t596.length : Int) then ((spec_l1In.f a2 0 (wrap64 ((rd t596 0) - 1))).bind fun t600 => (spec_GameOfRank.j0 k a1 a2 (!t600) a0_0 a0_1 a0_2 l0_3)) else (none))) else (spec_GameOfRank.j0 k a1 a2 true a0_0 a0_1 a0_2 l0_3))
theorem spec_GameOfRank.mono_l : ∀ k, (∀ y0 y1 y2 y3 y4 y5 y6, LeO (spec_GameOfRank.j0 k y0 y1 y2 y3 y4 y5 y6) (spec_GameOfRank.j0 (k + 1) y0 y1 y2 y3 y4 y5 y6)) ∧ (∀ y0 y1 y2 y3 y4 y5 y6 y7, LeO (spec_GameOfRank.l0 k y0 y1 y2 y3 y4 y5 y6 y7) (spec_GameOfRank.l0 (k + 1) y0 y1 y2 y3 y4 y5 y6 y7)) ∧ (∀ y0 y1 y2 y3 y4 y5 y6 y7 y8 y9, LeO (spec_GameOfRank.l1 k y0 y1 y2 y3 y4 y5 y6 y7 y8 y9) (spec_GameOfRank.l1 (k + 1) y0 y1 y2 y3 y4 y5 y6 y7 y8 y9))
 | 0 => ⟨fun _ _ _ _ _ _ _ r h => by simp [spec_GameOfRank.j0] at h, fun _ _ _ _ _ _ _ _ r h => by simp [spec_GameOfRank.l0] at h, fun _ _ _ _ _ _ _ _ _ _ r h => by simp [spec_GameOfRank.l1] at h⟩
 | k + 1 => by
  obtain ⟨ih0, ih1, ih2⟩ := spec_GameOfRank.mono_l k
  refine ⟨?_, ?_, ?_⟩
  ·intro y0 y1 y2 y3 y4 y5 y6
   unfold spec_GameOfRank.j0
   repeat' first
   | (with_reducible exact ih0 _ _ _ _ _ _ _)
   | (with_reducible exact ih1 _ _ _ _ _ _ _ _)
   | (with_reducible exact ih2 _ _ _ _ _ _ _ _ _ _)
   | (with_reducible exact spec_gaAsked.mono _ _ _ _ _ _)
   | (with_reducible exact spec_gaCounts.mono _ _ _ _ _ _)
   | (with_reducible exact spec_sqThrow.mono _ _ _ _ _ _ _)
   | (with_reducible exact LeO.refl _)
   | (with_reducible exact LeO.none _)
   | (with_reducible refine LeO.ite ?_ ?_)
   | (with_reducible refine LeO.bind ?_ (fun _ => ?_))
   | exact ih0 _ _ _ _ _ _ _
   | exact ih1 _ _ _ _ _ _ _ _
   | exact ih2 _ _ _ _ _ _ _ _ _ _
   | exact spec_gaAsked.mono _ _ _ _ _ _
   | exact spec_gaCounts.mono _ _ _ _ _ _
   | exact spec_sqThrow.mono _ _ _ _ _ _ _
   | exact LeO.none _
   | refine LeO.ite ?_ ?_
   | refine LeO.bind ?_ (fun _ => ?_)
  ·intro y0 y1 y2 y3 y4 y5 y6 y7
   unfold spec_GameOfRank.l0
   repeat' first
   | (with_reducible exact ih0 _ _ _ _ _ _ _)
   | (with_reducible exact ih1 _ _ _ _ _ _ _ _)
   | (with_reducible exact ih2 _ _ _ _ _ _ _ _ _ _)
   | (with_reducible exact spec_gaAsked.mono _ _ _ _ _ _)
   | (with_reducible exact spec_gaCounts.mono _ _ _ _ _ _)
   | (with_reducible exact spec_sqThrow.mono _ _ _ _ _ _ _)
   | (with_reducible exact LeO.refl _)
   | (with_reducible exact LeO.none _)
   | (with_reducible refine LeO.ite ?_ ?_)
   | (with_reducible refine LeO.bind ?_ (fun _ => ?_))
   | exact ih0 _ _ _ _ _ _ _
   | exact ih1 _ _ _ _ _ _ _ _
   | exact ih2 _ _ _ _ _ _ _ _ _ _
   | exact spec_gaAsked.mono _ _ _ _ _ _
   | exact spec_gaCounts.mono _ _ _ _ _ _
   | exact spec_sqThrow.mono _ _ _ _ _ _ _
   | exact LeO.none _
   | refine LeO.ite ?_ ?_
   | refine LeO.bind ?_ (fun _ => ?_)
  ·intro y0 y1 y2 y3 y4 y5 y6 y7 y8 y9
   unfold spec_GameOfRank.l1
   repeat' first
   | (with_reducible exact ih0 _ _ _ _ _ _ _)
   | (with_reducible exact ih1 _ _ _ _ _ _ _ _)
   | (with_reducible exact ih2 _ _ _ _ _ _ _ _ _ _)
   | (with_reducible exact spec_gaAsked.mono _ _ _ _ _ _)
   | (with_reducible exact spec_gaCounts.mono _ _ _ _ _ _)
   | (with_reducible exact spec_sqThrow.mono _ _ _ _ _ _ _)
   | (with_reducible exact LeO.refl _)
   | (with_reducible exact LeO.none _)
   | (with_reducible refine LeO.ite ?_ ?_)
   | (with_reducible refine LeO.bind ?_ (fun _ => ?_))
   | exact ih0 _ _ _ _ _ _ _
   | exact ih1 _ _ _ _ _ _ _ _
   | exact ih2 _ _ _ _ _ _ _ _ _ _
   | exact spec_gaAsked.mono _ _ _ _ _ _
   | exact spec_gaCounts.mono _ _ _ _ _ _
   | exact spec_sqThrow.mono _ _ _ _ _ _ _
   | exact LeO.none _
   | refine LeO.ite ?_ ?_
   | refine LeO.bind ?_ (fun _ => ?_)
theorem spec_GameOfRank.mono : ∀ a0 a1 a2 a3 a4 a5 k, LeO (spec_GameOfRank.f k a0 a1 a2 a3 a4 a5) (spec_GameOfRank.f (k + 1) a0 a1 a2 a3 a4 a5) := by
 intro a0 a1 a2 a3 a4 a5 k
 obtain ⟨ih0, ih1, ih2⟩ := spec_GameOfRank.mono_l k
 unfold spec_GameOfRank.f
 repeat' first
   | (with_reducible exact ih0 _ _ _ _ _ _ _)
   | (with_reducible exact ih1 _ _ _ _ _ _ _ _)
   | (with_reducible exact ih2 _ _ _ _ _ _ _ _ _ _)
   | (with_reducible exact spec_gaAsked.mono _ _ _ _ _ _)
   | (with_reducible exact spec_gaCounts.mono _ _ _ _ _ _)
   | (with_reducible exact spec_sqThrow.mono _ _ _ _ _ _ _)
   | (with_reducible exact LeO.refl _)
   | (with_reducible exact LeO.none _)
   | (with_reducible refine LeO.ite ?_ ?_)
   | (with_reducible refine LeO.bind ?_ (fun _ => ?_))
   | exact ih0 _ _ _ _ _ _ _
   | exact ih1 _ _ _ _ _ _ _ _
   | exact ih2 _ _ _ _ _ _ _ _ _ _
   | exact spec_gaAsked.mono _ _ _ _ _ _
   | exact spec_gaCounts.mono _ _ _ _ _ _
   | exact spec_sqThrow.mono _ _ _ _ _ _ _
   | exact LeO.none _
   | refine LeO.ite ?_ ?_
   | refine LeO.bind ?_ (fun _ => ?_)
set_option maxHeartbeats 8000000 in
set_option maxRecDepth 100000 in
theorem spec_GameOfRank.calls (k : Nat) (a0_0 : Int) (a0_1 : Int) (a0_2 : Int) (A0_3 : Option Addr) (c0_3 : Nat) (l0_3 : List (S70)) (a1 : Int) (a2 : Int) (r1 : List Int) (r2 : Bool) (w : World) (hr0_3 : Kd.C k70 w A0_3 l0_3.length l0_3) (hc0_3 : l0_3.length ≤ c0_3) (h : spec_GameOfRank.f k a0_0 a0_1 a0_2 l0_3 a1 a2 = some (r1, r2)) :
  Calls Try.prog 38 #[.agg #[.int .i64 a0_0, .int .i64 a0_1, .int .i64 a0_2, .slice A0_3 l0_3.length c0_3], .int .i64 a1, .int .i64 a2] w fun e w' => ∃ v0_ : Value, e = .returned (.tuple #[v0_, .bool r2]) ∧ Kd.R (Kd.int .i64) 3 w' w.heap.size (fun _ => True) v0_ r1 ∧ Below w.heap.size w w' := by
 have hu30 := Try.underlying30
 have HR0_3 := Aside0.mk hr0_3
 have HC0_3 := Aside0.mk hc0_3
 clear hr0_3 hc0_3
 have HB := Aside0.mk (Below.refl w.heap.size w)
 have H : ((spec_gaAsked.f k a0_0 a0_1 a0_2 l0_3 a1).bind fun t595 => (if t595 = true then ((spec_gaCounts.f k a0_0 a0_1 a0_2 l0_3 a1).bind fun t596 => (if 0 < (t596.length : Int) then ((spec_l1In.f a2 0 (wrap64 ((rd t596 0) - 1))).bind fun t600 => (spec_GameOfRank.j0 k a1 a2 (!t600) a0_0 a0_1 a0_2 l0_3)) else (none))) else (spec_GameOfRank.j0 k a1 a2 true a0_0 a0_1 a0_2 l0_3))) = some (r1, r2) := h
 clear h
 have HC4 := Aside0.mk H
 clear H
 go_enter Try.func38, Try.ntmps38
 go_upto_region 1 with (first | ((with_reducible refine gate_dst (N := 3) rfl ?_); refine box_event ?hg (N := 3) ?hd (cs := #[.int .i64 a0_0, .int .i64 a0_1, .int .i64 a0_2, .slice A0_3 l0_3.length c0_3]) (t := 30) ?hr ?_; (case hd => rfl); (case hg => rfl); (case hr => first | (go_simp; done) | (go_simp; rfl)); intro gb594 hg w5 hbox hb; have n0_ := Aside0.mk (below_step hb_ hb); have n1_ := Aside0.mk (hbox); have n2_ := Aside0.mk ((by rw [hg]; exact (below_size hb_) : w.heap.size ≤ gb594)); have n3_ := Aside0.mk ((by rw [hg]; exact (below_size hb_) : w.heap.size ≤ gb594)); clear HB; have HB := n0_; have BK594 := n1_; have GW594 := n2_; have GE594 := n3_; clear n0_ n1_ n2_ n3_; clear hb hbox hg))
 (try simp only [Act.put, List.setIfInBounds_toArray, List.set_cons_zero, List.set_cons_succ])
 go_cut [28] (fun v28 wc => ∃ (kq : Nat) (x28_3 : Bool), v28 = .bool x28_3 ∧ Aside0 (spec_GameOfRank.j0 kq a1 a2 x28_3 a0_0 a0_1 a0_2 l0_3 = some (r1, r2)) ∧ Aside0 (kq ≤ k) ∧ Aside0 (wc.heap[gb594]? = some (.cells #[.int .i64 a0_0, .int .i64 a0_1, .int .i64 a0_2, (.slice A0_3 l0_3.length c0_3)] 30 (0, 0))) ∧ Aside0 (Below w.heap.size w wc))
 case first =>
  have H := HC4.out
  clear HC4
  replace H := Option.bind_eq_some_iff.mp H
  obtain ⟨t595, A60, H⟩ := H
  replace H : (if t595 = true then ((spec_gaCounts.f k a0_0 a0_1 a0_2 l0_3 a1).bind fun t596 => (if 0 < (t596.length : Int) then ((spec_l1In.f a2 0 (wrap64 ((rd t596 0) - 1))).bind fun t600 => (spec_GameOfRank.j0 k a1 a2 (!t600) a0_0 a0_1 a0_2 l0_3)) else (none))) else (spec_GameOfRank.j0 k a1 a2 true a0_0 a0_1 a0_2 l0_3)) = some (r1, r2) := H
  have A6 := Aside0.mk A60
  clear A60
  by_cases c7 : t595 = true
  ·subst c7
   have H1 : ((spec_gaCounts.f k a0_0 a0_1 a0_2 l0_3 a1).bind fun t596 => (if 0 < (t596.length : Int) then ((spec_l1In.f a2 0 (wrap64 ((rd t596 0) - 1))).bind fun t600 => (spec_GameOfRank.j0 k a1 a2 (!t600) a0_0 a0_1 a0_2 l0_3)) else (none))) = some (r1, r2) := by rw [if_pos rfl] at H; exact H
   clear H
   have H := H1
   clear H1
   replace H := Option.bind_eq_some_iff.mp H
   obtain ⟨t596, A80, H⟩ := H
   replace H : (if 0 < (t596.length : Int) then ((spec_l1In.f a2 0 (wrap64 ((rd t596 0) - 1))).bind fun t600 => (spec_GameOfRank.j0 k a1 a2 (!t600) a0_0 a0_1 a0_2 l0_3)) else (none)) = some (r1, r2) := H
   have A8 := Aside0.mk A80
   clear A80
   by_cases c9 : 0 < (t596.length : Int)
   ·rw [if_pos c9] at H
    have c9b0 : decide (0 < (t596.length : Int)) = true := decide_eq_true c9
    have c9b1 : decide (0 < t596.length) = true := decide_eq_true (by omega)
    clear c9
    (first | rw [c9b0] | (simp only [i64_w, i32_w]; rw [c9b0]) | skip)
    replace H := Option.bind_eq_some_iff.mp H
    obtain ⟨t600, A100, H⟩ := H
    replace H : (spec_GameOfRank.j0 k a1 a2 (!t600) a0_0 a0_1 a0_2 l0_3) = some (r1, r2) := H
    have A10 := Aside0.mk A100
    clear A100
    have H' := Aside0.mk H
    clear H
    have hcz11_0 : w5.cell? ⟨gb594, 0, none⟩ = some (.int .i64 a0_0) := (blk_cell BK594.out 0).trans rfl
    have hcz11_1 : w5.cell? ⟨gb594, 1, none⟩ = some (.int .i64 a0_1) := (blk_cell BK594.out 1).trans rfl
    have hcz11_2 : w5.cell? ⟨gb594, 2, none⟩ = some (.int .i64 a0_2) := (blk_cell BK594.out 2).trans rfl
    have hcz11_3 : w5.cell? ⟨gb594, 3, none⟩ = some (.slice A0_3 l0_3.length c0_3) := (blk_cell BK594.out 3).trans rfl
    have hfz11_0 := blk_frozen BK594.out 0
    have hfz11_1 := blk_frozen BK594.out 1
    have hfz11_2 := blk_frozen BK594.out 2
    have hfz11_3 := blk_frozen BK594.out 3
    go_wp2_with (first | ((with_reducible refine gate_callee (f := 45) rfl ?_); refine goesL_ (some 16) rfl rfl Try.func45 (by kernel_rfl) rfl #[.agg #[.int .i64 a0_0, .int .i64 a0_1, .int .i64 a0_2, .slice A0_3 l0_3.length c0_3], .int .i64 a1] rfl (by (try simp only [List.map_toArray, List.map_cons, List.map_nil]); first | done | rfl | (simp only [List.length_drop, List.length_take]; rfl)) ?_; (with_reducible refine (spec_gaAsked.calls k a0_0 a0_1 a0_2 _ _ l0_3 a1 true _ ?side1 ?side2 A6.out).mono ?_); (case side1 => exact Kd.C_below HR0_3.out hb_); (case side2 => exact HC0_3.out); rintro e w12 ⟨rfl, hb⟩; refine ⟨_, rfl, ?_⟩; have n0_ := Aside0.mk (blk_below (g := gb594) (o := .cells #[.int .i64 a0_0, .int .i64 a0_1, .int .i64 a0_2, .slice A0_3 l0_3.length c0_3] 30 (0, 0)) (by (with_reducible repeat (first | refine blk_drewN ?_ _ | refine blk_drew ?_ | refine blk_alloc ?_ _)); exact BK594.out) hb); have n1_ := Aside0.mk (below_step hb_ hb); clear BK594; clear HB; have BK594 := n0_; have HB := n1_; clear n0_ n1_; (try clear hb); (try clear hb2); (try clear hk); (try clear hi); have hcz13_0 : w12.cell? ⟨gb594, 0, none⟩ = some (.int .i64 a0_0) := (blk_cell BK594.out 0).trans rfl; have hcz13_1 : w12.cell? ⟨gb594, 1, none⟩ = some (.int .i64 a0_1) := (blk_cell BK594.out 1).trans rfl; have hcz13_2 : w12.cell? ⟨gb594, 2, none⟩ = some (.int .i64 a0_2) := (blk_cell BK594.out 2).trans rfl; have hcz13_3 : w12.cell? ⟨gb594, 3, none⟩ = some (.slice A0_3 l0_3.length c0_3) := (blk_cell BK594.out 3).trans rfl; have hfz13_0 := blk_frozen BK594.out 0; have hfz13_1 := blk_frozen BK594.out 1; have hfz13_2 := blk_frozen BK594.out 2; have hfz13_3 := blk_frozen BK594.out 3) | (go_at_call 46; (with_reducible refine (spec_gaCounts.calls k a0_0 a0_1 a0_2 _ _ l0_3 a1 t596 _ ?side1 ?side2 A8.out).mono ?_); (case side1 => exact Kd.C_below HR0_3.out hb_); (case side2 => exact HC0_3.out); rintro e w14 ⟨v597, rfl, ho0, hb⟩; have n0_ := Aside0.mk (Kd.R_lower ho0 (below_size hb_)); have n1_ := Aside0.mk (blk_below (g := gb594) (o := .cells #[.int .i64 a0_0, .int .i64 a0_1, .int .i64 a0_2, .slice A0_3 l0_3.length c0_3] 30 (0, 0)) (by (with_reducible repeat (first | refine blk_drewN ?_ _ | refine blk_drew ?_ | refine blk_alloc ?_ _)); exact BK594.out) hb); have n2_ := Aside0.mk (below_step hb_ hb); clear BK594; clear HB; have HO598 := n0_; have BK594 := n1_; have HB := n2_; clear n0_ n1_ n2_; (try clear hb); (try clear hb2); (try clear hk); (try clear hi); (try clear ho0); obtain ⟨Ao15, co15, eo15⟩ := Kd.R_slice HO598.out; subst eo15; have p599 : 0 ≤ (0 : Int) := (by omega); have q599 : 0 < (t596.length : Int) := of_decide_eq_true (by first | (with_reducible assumption) | assumption); obtain ⟨ad599, e599, hx599_0⟩ := Kd.at_int (Kd.R_reads' HO598.out).2.2 0 p599 q599; cases e599; have qi599 : (0 < t596.length) = True := eq_true (by omega); (try rw [show ((0 : Int)).toNat = 0 from rfl] at hx599_0); (try rw [Addr.add_zero'] at hx599_0); replace p599 := eq_true p599; replace q599 := eq_true q599) | (go_at_call 51; (with_reducible refine (spec_l1In.calls a2 0 (wrap64 ((rd t596 0) - 1)) t600 _ A10.out).mono ?_); rintro e w' ⟨rfl, ⟨nd, rfl⟩⟩))
    go_meet
    case rel => exact ⟨_, (!t600), (by first | rfl | (simp; done) | (simp [*]; done)), H', ⟨by first | omega | exact Nat.le_refl _⟩, ⟨by (with_reducible repeat (first | refine blk_drewN ?_ _ | refine blk_drew ?_ | refine blk_alloc ?_ _)); exact BK594.out⟩, ⟨hb_⟩⟩
   ·rw [if_neg c9] at H
    exact absurd H (by simp)
  ·replace c7 := Bool.eq_false_iff.mpr c7
   subst c7
   have H1 : (spec_GameOfRank.j0 k a1 a2 true a0_0 a0_1 a0_2 l0_3) = some (r1, r2) := by rw [if_neg (show ¬ (false = true) by decide)] at H; exact H
   clear H
   have H := H1
   clear H1
   have H' := Aside0.mk H
   clear H
   have hcz16_0 : w5.cell? ⟨gb594, 0, none⟩ = some (.int .i64 a0_0) := (blk_cell BK594.out 0).trans rfl
   have hcz16_1 : w5.cell? ⟨gb594, 1, none⟩ = some (.int .i64 a0_1) := (blk_cell BK594.out 1).trans rfl
   have hcz16_2 : w5.cell? ⟨gb594, 2, none⟩ = some (.int .i64 a0_2) := (blk_cell BK594.out 2).trans rfl
   have hcz16_3 : w5.cell? ⟨gb594, 3, none⟩ = some (.slice A0_3 l0_3.length c0_3) := (blk_cell BK594.out 3).trans rfl
   have hfz16_0 := blk_frozen BK594.out 0
   have hfz16_1 := blk_frozen BK594.out 1
   have hfz16_2 := blk_frozen BK594.out 2
   have hfz16_3 := blk_frozen BK594.out 3
   go_wp2_with (first | ((with_reducible refine gate_callee (f := 45) rfl ?_); refine goesL_ (some 16) rfl rfl Try.func45 (by kernel_rfl) rfl #[.agg #[.int .i64 a0_0, .int .i64 a0_1, .int .i64 a0_2, .slice A0_3 l0_3.length c0_3], .int .i64 a1] rfl (by (try simp only [List.map_toArray, List.map_cons, List.map_nil]); first | done | rfl | (simp only [List.length_drop, List.length_take]; rfl)) ?_; (with_reducible refine (spec_gaAsked.calls k a0_0 a0_1 a0_2 _ _ l0_3 a1 false _ ?side1 ?side2 A6.out).mono ?_); (case side1 => exact Kd.C_below HR0_3.out hb_); (case side2 => exact HC0_3.out); rintro e w17 ⟨rfl, hb⟩; refine ⟨_, rfl, ?_⟩; have n0_ := Aside0.mk (blk_below (g := gb594) (o := .cells #[.int .i64 a0_0, .int .i64 a0_1, .int .i64 a0_2, .slice A0_3 l0_3.length c0_3] 30 (0, 0)) (by (with_reducible repeat (first | refine blk_drewN ?_ _ | refine blk_drew ?_ | refine blk_alloc ?_ _)); exact BK594.out) hb); have n1_ := Aside0.mk (below_step hb_ hb); clear BK594; clear HB; have BK594 := n0_; have HB := n1_; clear n0_ n1_; (try clear hb); (try clear hb2); (try clear hk); (try clear hi)))
   go_meet
   case rel => exact ⟨_, (true), (by first | rfl | (simp; done) | (simp [*]; done)), H', ⟨by first | omega | exact Nat.le_refl _⟩, ⟨by (with_reducible repeat (first | refine blk_drewN ?_ _ | refine blk_drew ?_ | refine blk_alloc ?_ _)); exact BK594.out⟩, ⟨hb_⟩⟩
 case rest =>
  clear HC4
  try clear p2
  try clear c3
  try clear c4
  try clear p5
  try clear q5
  try clear hx5
  try clear qi5
  try clear p6
  try clear c7
  try clear c9
  try clear c9b0
  try clear c9b1
  try clear hcz11_0
  try clear hcz11_1
  try clear hcz11_2
  try clear hcz11_3
  try clear hcz13_0
  try clear hcz13_1
  try clear hcz13_2
  try clear hcz13_3
  try clear hcz16_0
  try clear hcz16_1
  try clear hcz16_2
  try clear hcz16_3
  try clear hfz11_0
  try clear hfz11_1
  try clear hfz11_2
  try clear hfz11_3
  try clear hfz13_0
  try clear hfz13_1
  try clear hfz13_2
  try clear hfz13_3
  try clear hfz16_0
  try clear hfz16_1
  try clear hfz16_2
  try clear hfz16_3
  try clear hx599_0
  try clear p599
  try clear q599
  obtain ⟨kq, x28_3, rfl, HA, HJ3, BK594, HB⟩ := hcut
  cases kq with
  | zero => exact absurd HA.out (by simp [spec_GameOfRank.j0])
  | succ kj3 =>
   have H := HA.out
   clear HA
   simp only [spec_GameOfRank.j0] at H
   by_cases c18 : x28_3 = true
   ·subst c18
    have H1 : (some (([] : List Int), false)) = some (r1, r2) := by rw [if_pos rfl] at H; exact H
    clear H
    have H := H1
    clear H1
    simp only [Option.some.injEq, Prod.mk.injEq] at H
    obtain ⟨rfl, rfl⟩ := H
    go_wp2
    go_ret2
    exact ⟨_, by first | rfl | (simp [errW_none, errW_some] <;> rfl) | (simp [*, errW_none, errW_some] <;> rfl), by first | exact Kd.R_nil _ _ _ _ _ | exact Kd.N_nil _ _ _ _ _ | exact Kd.V_nil _ _ _ _ _ | exact Kd.Q_nil _ _ _ _ _ | exact Kd.S_nil _ _ _ _ _, hb_⟩
   ·replace c18 := Bool.eq_false_iff.mpr c18
    subst c18
    have H1 : (spec_GameOfRank.l0 kj3 a2 ([] : List Int) 0 (wrap64 (a1 - 1)) a0_0 a0_1 a0_2 l0_3) = some (r1, r2) := by rw [if_neg (show ¬ (false = true) by decide)] at H; exact H
    clear H
    have H := H1
    clear H1
    have H' := Aside0.mk H
    clear H
    go_wp2
    go_loopg [2, 8, 9, 10] kj3 (fun kq v2 v8 v9 v10 w' => ∃ (x2_2 : Int) (x8_2 : List Int) (x9_2 : Int) (x10_2 : Int), v2 = .int .i64 x2_2 ∧ v9 = .int .i64 x9_2 ∧ v10 = .int .i64 x10_2 ∧ Aside0 (spec_GameOfRank.l0 kq x2_2 x8_2 x9_2 x10_2 a0_0 a0_1 a0_2 l0_3 = some (r1, r2)) ∧ Aside0 (kq ≤ kj3) ∧ Aside0 (Kd.R (Kd.int .i64) 3 w' w.heap.size (fun _ => True) v8 x8_2) ∧ Aside0 (w'.heap[gb594]? = some (.cells #[.int .i64 a0_0, .int .i64 a0_1, .int .i64 a0_2, (.slice A0_3 l0_3.length c0_3)] 30 (0, 0))) ∧ Aside0 (Below w.heap.size w w'))
    case atStart => exact ⟨(a2), (([] : List Int)), (0), (wrap64 (a1 - 1)), (by first | rfl | (simp; done) | (simp [*]; done)), (by first | rfl | (simp; done) | (simp [*]; done)), (by first | rfl | (simp; done) | (simp [*]; done)), H', ⟨Nat.le_refl _⟩, ⟨by first | exact Kd.R_nil _ _ _ _ _ | exact Kd.N_nil _ _ _ _ _ | exact Kd.V_nil _ _ _ _ _ | exact Kd.Q_nil _ _ _ _ _ | exact Kd.S_nil _ _ _ _ _⟩, ⟨by (with_reducible repeat (first | refine blk_drewN ?_ _ | refine blk_drew ?_ | refine blk_alloc ?_ _)); exact BK594.out⟩, ⟨hb_⟩⟩
    case round =>
     clear H'
     try clear c1
     try clear p2
     try clear c3
     try clear c4
     try clear p5
     try clear q5
     try clear hx5
     try clear qi5
     try clear p6
     try clear c7
     try clear c9
     try clear c9b0
     try clear c9b1
     try clear c18
     try clear hcz11_0
     try clear hcz11_1
     try clear hcz11_2
     try clear hcz11_3
     try clear hcz13_0
     try clear hcz13_1
     try clear hcz13_2
     try clear hcz13_3
     try clear hcz16_0
     try clear hcz16_1
     try clear hcz16_2
     try clear hcz16_3
     try clear hfz11_0
     try clear hfz11_1
     try clear hfz11_2
     try clear hfz11_3
     try clear hfz13_0
     try clear hfz13_1
     try clear hfz13_2
     try clear hfz13_3
     try clear hfz16_0
     try clear hfz16_1
     try clear hfz16_2
     try clear hfz16_3
     try clear hx599_0
     try clear p2
     try clear p5
     try clear p599
     try clear p6
     try clear q5
     try clear q599
     obtain ⟨x2_2, x8_2, x9_2, x10_2, rfl, rfl, rfl, HA, HK2, HO_8, BK594, HB⟩ := hrel
     cases gk with
     | zero => exact absurd HA.out (by simp [spec_GameOfRank.l0])
     | succ k2 =>
      have H := HA.out
      clear HA
      simp only [spec_GameOfRank.l0] at H
      by_cases c19 : x10_2 ≥ 0
      ·rw [if_pos c19] at H
       have c19b0 : decide (0 ≤ x10_2) = true := decide_eq_true c19
       clear c19
       replace H := Option.bind_eq_some_iff.mp H
       obtain ⟨t601, A200, H⟩ := H
       replace H : (spec_GameOfRank.l1 k2 x2_2 x8_2 x9_2 x10_2 t601 1 a0_0 a0_1 a0_2 l0_3) = some (r1, r2) := H
       have A20 := Aside0.mk A200
       clear A200
       have H' := Aside0.mk H
       clear H
       have hcz21_0 : wr.cell? ⟨gb594, 0, none⟩ = some (.int .i64 a0_0) := (blk_cell BK594.out 0).trans rfl
       have hcz21_1 : wr.cell? ⟨gb594, 1, none⟩ = some (.int .i64 a0_1) := (blk_cell BK594.out 1).trans rfl
       have hcz21_2 : wr.cell? ⟨gb594, 2, none⟩ = some (.int .i64 a0_2) := (blk_cell BK594.out 2).trans rfl
       have hcz21_3 : wr.cell? ⟨gb594, 3, none⟩ = some (.slice A0_3 l0_3.length c0_3) := (blk_cell BK594.out 3).trans rfl
       have hfz21_0 := blk_frozen BK594.out 0
       have hfz21_1 := blk_frozen BK594.out 1
       have hfz21_2 := blk_frozen BK594.out 2
       have hfz21_3 := blk_frozen BK594.out 3
       go_wp2_with (first | ((with_reducible refine gate_callee (f := 46) rfl ?_); refine goesL_ (some 37) rfl rfl Try.func46 (by kernel_rfl) rfl #[.agg #[.int .i64 a0_0, .int .i64 a0_1, .int .i64 a0_2, .slice A0_3 l0_3.length c0_3], .int .i64 x10_2] rfl (by (try simp only [List.map_toArray, List.map_cons, List.map_nil]); first | done | rfl | (simp only [List.length_drop, List.length_take]; rfl)) ?_; (with_reducible refine (spec_gaCounts.calls k2 a0_0 a0_1 a0_2 _ _ l0_3 x10_2 t601 _ ?side1 ?side2 A20.out).mono ?_); (case side1 => exact Kd.C_below HR0_3.out hb_); (case side2 => exact HC0_3.out); rintro e w22 ⟨v602, rfl, ho0, hb⟩; refine ⟨_, rfl, ?_⟩; have n0_ := Aside0.mk (Kd.R_elder' (by (with_reducible repeat (first | apply Kd.R_alloc | apply Kd.R_drewN | apply Kd.R_drew)); exact HO_8.out) (Kd.R_base ho0) hb); have n1_ := Aside0.mk (Kd.R_lower (Kd.R_new' ho0 (Kd.R_lt (by (with_reducible repeat (first | apply Kd.R_alloc | apply Kd.R_drewN | apply Kd.R_drew)); exact HO_8.out))) (below_size hb_)); have n2_ := Aside0.mk (blk_below (g := gb594) (o := .cells #[.int .i64 a0_0, .int .i64 a0_1, .int .i64 a0_2, .slice A0_3 l0_3.length c0_3] 30 (0, 0)) (by (with_reducible repeat (first | refine blk_drewN ?_ _ | refine blk_drew ?_ | refine blk_alloc ?_ _)); exact BK594.out) hb); have n3_ := Aside0.mk (below_step hb_ hb); clear HO_8; clear BK594; clear HB; have HO_8 := n0_; have HO603 := n1_; have BK594 := n2_; have HB := n3_; clear n0_ n1_ n2_ n3_; (try clear hb); (try clear hb2); (try clear hk); (try clear hi); (try clear ho0)))
       go_loopg [2, 8, 9, 12] k2 (fun kq v2 v8 v9 v12 w' => ∃ (x2_3 : Int) (x8_3 : List Int) (x9_3 : Int) (x12_3 : Int), v2 = .int .i64 x2_3 ∧ v9 = .int .i64 x9_3 ∧ v12 = .int .i64 x12_3 ∧ Aside0 (spec_GameOfRank.l1 kq x2_3 x8_3 x9_3 x10_2 t601 x12_3 a0_0 a0_1 a0_2 l0_3 = some (r1, r2)) ∧ Aside0 (kq ≤ k2) ∧ Aside0 (Kd.R (Kd.int .i64) 3 w' w.heap.size (fun k_ => some k_ ≠ (v602 : Value).ownBlock) v8 x8_3) ∧ Aside0 (Kd.R (Kd.int .i64) 3 w' w.heap.size (fun k_ => some k_ ≠ (v8 : Value).ownBlock) v602 t601) ∧ Aside0 (w'.heap[gb594]? = some (.cells #[.int .i64 a0_0, .int .i64 a0_1, .int .i64 a0_2, (.slice A0_3 l0_3.length c0_3)] 30 (0, 0))) ∧ Aside0 (Below w.heap.size w w'))
       case atStart => exact ⟨(x2_2), (x8_2), (x9_2), (1), (by first | rfl | (simp; done) | (simp [*]; done)), (by first | rfl | (simp; done) | (simp [*]; done)), (by first | rfl | (simp; done) | (simp [*]; done)), H', ⟨Nat.le_refl _⟩, ⟨by (with_reducible repeat (first | apply Kd.R_alloc | apply Kd.R_drewN | apply Kd.R_drew)); exact Kd.R_mono HO_8.out (fun _ hk => hk.2)⟩, ⟨by (with_reducible repeat (first | apply Kd.R_alloc | apply Kd.R_drewN | apply Kd.R_drew)); exact Kd.R_mono HO603.out (fun _ hk => hk.2)⟩, ⟨by (with_reducible repeat (first | refine blk_drewN ?_ _ | refine blk_drew ?_ | refine blk_alloc ?_ _)); exact BK594.out⟩, ⟨hb_⟩⟩
       case round =>
        clear H'
        try clear c1
        try clear p2
        try clear c3
        try clear c4
        try clear p5
        try clear q5
        try clear hx5
        try clear qi5
        try clear p6
        try clear c7
        try clear c9
        try clear c9b0
        try clear c9b1
        try clear c18
        try clear c19
        try clear c19b0
        try clear hcz11_0
        try clear hcz11_1
        try clear hcz11_2
        try clear hcz11_3
        try clear hcz13_0
        try clear hcz13_1
        try clear hcz13_2
        try clear hcz13_3
        try clear hcz16_0
        try clear hcz16_1
        try clear hcz16_2
        try clear hcz16_3
        try clear hcz21_0
        try clear hcz21_1
        try clear hcz21_2
        try clear hcz21_3
        try clear hfz11_0
        try clear hfz11_1
        try clear hfz11_2
        try clear hfz11_3
        try clear hfz13_0
        try clear hfz13_1
        try clear hfz13_2
        try clear hfz13_3
        try clear hfz16_0
        try clear hfz16_1
        try clear hfz16_2
        try clear hfz16_3
        try clear hfz21_0
        try clear hfz21_1
        try clear hfz21_2
        try clear hfz21_3
        try clear hx599_0
        try clear p2
        try clear p5
        try clear p599
        try clear p6
        try clear q5
        try clear q599
        obtain ⟨x2_3, x8_3, x9_3, x12_3, rfl, rfl, rfl, HA, HK3, HO_8, HO_11, BK594, HB⟩ := hrel
        cases gk with
        | zero => exact absurd HA.out (by simp [spec_GameOfRank.l1])
        | succ k3 =>
         have H := HA.out
         clear HA
         simp only [spec_GameOfRank.l1] at H
         by_cases c23 : x12_3 ≤ a0_1
         ·rw [if_pos c23] at H
          have c23b0 : decide (x12_3 ≤ a0_1) = true := decide_eq_true c23
          clear c23
          replace H := Option.bind_eq_some_iff.mp H
          obtain ⟨t604, A240, H⟩ := H
          replace H : (if 0 ≤ t604 then (if t604 < (t601.length : Int) then (if x2_3 < (rd t601 t604) then (if x8_3.length < 17592186044416 then ((spec_sqThrow.f k3 a0_0 a0_1 a0_2 l0_3 x9_3 x12_3).bind fun t609 => (spec_GameOfRank.l0 k3 x2_3 (x8_3 ++ [x12_3]) t609 (wrap64 (x10_2 - 1)) a0_0 a0_1 a0_2 l0_3)) else (none)) else (spec_GameOfRank.l1 k3 (wrap64 (x2_3 - (rd t601 t604))) x8_3 x9_3 x10_2 t601 (wrap64 (x12_3 + 1)) a0_0 a0_1 a0_2 l0_3)) else (none)) else (none)) = some (r1, r2) := H
          have A24 := Aside0.mk A240
          clear A240
          by_cases c25 : 0 ≤ t604
          ·rw [if_pos c25] at H
           have c25b0 : decide (0 ≤ t604) = true := decide_eq_true c25
           clear c25
           by_cases c26 : t604 < (t601.length : Int)
           ·rw [if_pos c26] at H
            have c26b0 : decide (t604 < (t601.length : Int)) = true := decide_eq_true c26
            clear c26
            by_cases c27 : x2_3 < (rd t601 t604)
            ·rw [if_pos c27] at H
             have c27b0 : decide (x2_3 < (rd t601 t604)) = true := decide_eq_true c27
             clear c27
             by_cases c28 : x8_3.length < 17592186044416
             ·rw [if_pos c28] at H
              have LMc28 := Aside0.mk c28
              clear c28
              obtain ⟨y606, hy606⟩ : ∃ y_ : List Int, y_ = (x8_3 ++ [x12_3]) := ⟨_, rfl⟩
              replace H : ((spec_sqThrow.f k3 a0_0 a0_1 a0_2 l0_3 x9_3 x12_3).bind fun t609 => (spec_GameOfRank.l0 k3 x2_3 y606 t609 (wrap64 (x10_2 - 1)) a0_0 a0_1 a0_2 l0_3)) = some (r1, r2) := by first | (rw [hy606]; with_reducible exact H) | (have H2_ := (Option.bind_some _ _).symm.trans H; rw [hy606]; with_reducible exact H2_) | (have H2_ := (Option.bind_some _ _).symm.trans H; with_reducible exact H2_) | with_reducible exact H | (rw [hy606]; exact H) | exact H
              have Ny606 := Aside0.mk hy606
              clear hy606
              replace H := Option.bind_eq_some_iff.mp H
              obtain ⟨t609, A290, H⟩ := H
              replace H : (spec_GameOfRank.l0 k3 x2_3 y606 t609 (wrap64 (x10_2 - 1)) a0_0 a0_1 a0_2 l0_3) = some (r1, r2) := H
              have A29 := Aside0.mk A290
              clear A290
              have H' := Aside0.mk H
              clear H
              have hcz30_0 : wr.cell? ⟨gb594, 0, none⟩ = some (.int .i64 a0_0) := (blk_cell BK594.out 0).trans rfl
              have hcz30_1 : wr.cell? ⟨gb594, 1, none⟩ = some (.int .i64 a0_1) := (blk_cell BK594.out 1).trans rfl
              have hcz30_2 : wr.cell? ⟨gb594, 2, none⟩ = some (.int .i64 a0_2) := (blk_cell BK594.out 2).trans rfl
              have hcz30_3 : wr.cell? ⟨gb594, 3, none⟩ = some (.slice A0_3 l0_3.length c0_3) := (blk_cell BK594.out 3).trans rfl
              have hfz30_0 := blk_frozen BK594.out 0
              have hfz30_1 := blk_frozen BK594.out 1
              have hfz30_2 := blk_frozen BK594.out 2
              have hfz30_3 := blk_frozen BK594.out 3
              go_wp2_with (first | ((with_reducible refine gate_callee (f := 57) rfl ?_); refine goesL_ (some 48) rfl rfl Try.func57 (by kernel_rfl) rfl #[.agg #[.int .i64 a0_0, .int .i64 a0_1, .int .i64 a0_2, .slice A0_3 l0_3.length c0_3], .int .i64 x9_3, .int .i64 x12_3] rfl (by (try simp only [List.map_toArray, List.map_cons, List.map_nil]); first | done | rfl | (simp only [List.length_drop, List.length_take]; rfl)) ?_; (with_reducible refine (spec_sqThrow.calls k3 a0_0 a0_1 a0_2 _ _ l0_3 x9_3 x12_3 t604 _ ?side1 ?side2 A24.out).mono ?_); (case side1 => exact Kd.C_below HR0_3.out hb_); (case side2 => exact HC0_3.out); rintro e w31 ⟨rfl, hb⟩; refine ⟨_, rfl, ?_⟩; have n0_ := Aside0.mk (Kd.R_below (by (with_reducible repeat (first | apply Kd.R_alloc | apply Kd.R_drewN | apply Kd.R_drew)); exact HO_8.out) hb); have n1_ := Aside0.mk (Kd.R_below (by (with_reducible repeat (first | apply Kd.R_alloc | apply Kd.R_drewN | apply Kd.R_drew)); exact HO_11.out) hb); have n2_ := Aside0.mk (blk_below (g := gb594) (o := .cells #[.int .i64 a0_0, .int .i64 a0_1, .int .i64 a0_2, .slice A0_3 l0_3.length c0_3] 30 (0, 0)) (by (with_reducible repeat (first | refine blk_drewN ?_ _ | refine blk_drew ?_ | refine blk_alloc ?_ _)); exact BK594.out) hb); have n3_ := Aside0.mk (below_step hb_ hb); clear HO_8; clear HO_11; clear BK594; clear HB; have HO_8 := n0_; have HO_11 := n1_; have BK594 := n2_; have HB := n3_; clear n0_ n1_ n2_ n3_; (try clear hb); (try clear hb2); (try clear hk); (try clear hi); obtain ⟨Ao32, co32, eo32⟩ := Kd.R_slice HO_11.out; subst eo32; have p605 : 0 ≤ (t604 : Int) := of_decide_eq_true (by first | (with_reducible assumption) | assumption); have q605 : t604 < (t601.length : Int) := of_decide_eq_true (by first | (with_reducible assumption) | assumption); obtain ⟨ad605, e605, hx605_0⟩ := Kd.at_int (Kd.R_reads' HO_11.out).2.2 t604 p605 q605; cases e605; replace p605 := eq_true p605; replace q605 := eq_true q605) | ((with_reducible refine gate_builtin (b := .append) (xs := #[.tmp 54, .tmp 56]) rfl ?_); at_builtin; refine Kd.R_append (Kd.int .i64) (w0 := w) w.heap.size rfl (.tmp 54) (.tmp 56) 36 3 (.int .i64 0) 8 rfl Try.underlying36 info3 rfl (by decide) (by omega) u8 x8_3 x12_3 [.int .i64 x12_3] (fun k_ => some k_ ≠ (.slice (some ad605) t601.length co32 : Value).ownBlock) (fun _ => False) rfl rfl ?aP (fun _ hk => hk.elim) ?aF ?aO ?aB ?aS ?aL ?_; (case aP => exact rfl); (case aB => exact hb_); (case aF => exact (fun k_ hk => Kd.fresh' (Kd.R_lt (by (with_reducible repeat (first | apply Kd.R_alloc | apply Kd.R_drewN | apply Kd.R_drew)); exact HO_11.out)) k_ hk)); (case aO => exact (by (with_reducible repeat (first | apply Kd.R_alloc | apply Kd.R_drewN | apply Kd.R_drew)); exact HO_8.out)); (case aS => exact (below_size hb_)); (case aL => have := LMc28.out; omega); intro v607 w33 ho hb hg hat; rw [← Ny606.out] at ho; have n0_ := Aside0.mk (Kd.R_after (ok := (fun _ => True)) (by (with_reducible repeat (first | apply Kd.R_alloc | apply Kd.R_drewN | apply Kd.R_drew)); exact Kd.R_mono HO_11.out (fun _ hk => ⟨trivial, hk⟩)) hg hat); have n1_ := Aside0.mk (blk_grown (g := gb594) (o := .cells #[.int .i64 a0_0, .int .i64 a0_1, .int .i64 a0_2, .slice A0_3 l0_3.length c0_3] 30 (0, 0)) (by (with_reducible repeat (first | refine blk_drewN ?_ _ | refine blk_drew ?_ | refine blk_alloc ?_ _)); exact BK594.out) hg (Kd.R_ne HO_8.out BK594.out (by decide))); have n2_ := Aside0.mk (hb); have n3_ := Aside0.mk (ho); clear HO_11; clear BK594; clear HB; clear HO_8; have HO_11 := n0_; have BK594 := n1_; have HB := n2_; have HO608 := n3_; clear n0_ n1_ n2_ n3_; clear ho hb hg hat; have hcz34_0 : w33.cell? ⟨gb594, 0, none⟩ = some (.int .i64 a0_0) := (blk_cell BK594.out 0).trans rfl; have hcz34_1 : w33.cell? ⟨gb594, 1, none⟩ = some (.int .i64 a0_1) := (blk_cell BK594.out 1).trans rfl; have hcz34_2 : w33.cell? ⟨gb594, 2, none⟩ = some (.int .i64 a0_2) := (blk_cell BK594.out 2).trans rfl; have hcz34_3 : w33.cell? ⟨gb594, 3, none⟩ = some (.slice A0_3 l0_3.length c0_3) := (blk_cell BK594.out 3).trans rfl; have hfz34_0 := blk_frozen BK594.out 0; have hfz34_1 := blk_frozen BK594.out 1; have hfz34_2 := blk_frozen BK594.out 2; have hfz34_3 := blk_frozen BK594.out 3) | ((with_reducible refine gate_callee (f := 57) rfl ?_); refine goesL_ (some 61) rfl rfl Try.func57 (by kernel_rfl) rfl #[.agg #[.int .i64 a0_0, .int .i64 a0_1, .int .i64 a0_2, .slice A0_3 l0_3.length c0_3], .int .i64 x9_3, .int .i64 x12_3] rfl (by (try simp only [List.map_toArray, List.map_cons, List.map_nil]); first | done | rfl | (simp only [List.length_drop, List.length_take]; rfl)) ?_; (with_reducible refine (spec_sqThrow.calls k3 a0_0 a0_1 a0_2 _ _ l0_3 x9_3 x12_3 t609 _ ?side1 ?side2 A29.out).mono ?_); (case side1 => exact Kd.C_below HR0_3.out hb_); (case side2 => exact HC0_3.out); rintro e w35 ⟨rfl, hb⟩; refine ⟨_, rfl, ?_⟩; have n0_ := Aside0.mk (Kd.R_below (by (with_reducible repeat (first | apply Kd.R_alloc | apply Kd.R_drewN | apply Kd.R_drew)); exact HO_11.out) hb); have n1_ := Aside0.mk (Kd.R_below (by (with_reducible repeat (first | apply Kd.R_alloc | apply Kd.R_drewN | apply Kd.R_drew)); exact HO608.out) hb); have n2_ := Aside0.mk (blk_below (g := gb594) (o := .cells #[.int .i64 a0_0, .int .i64 a0_1, .int .i64 a0_2, .slice A0_3 l0_3.length c0_3] 30 (0, 0)) (by (with_reducible repeat (first | refine blk_drewN ?_ _ | refine blk_drew ?_ | refine blk_alloc ?_ _)); exact BK594.out) hb); have n3_ := Aside0.mk (below_step hb_ hb); clear HO_11; clear HO608; clear BK594; clear HB; have HO_11 := n0_; have HO608 := n1_; have BK594 := n2_; have HB := n3_; clear n0_ n1_ n2_ n3_; (try clear hb); (try clear hb2); (try clear hk); (try clear hi)))
              go_roundg k3
              case measure => have := HJ3.out; have := HK2.out; have := HK3.out; omega
              case rel => exact ⟨(x2_3), (y606), (t609), (wrap64 (x10_2 - 1)), (by first | rfl | (simp; done) | (simp [*]; done)), (by first | rfl | (simp; done) | (simp [*]; done)), (by first | rfl | (simp; done) | (simp [*]; done)), H', ⟨by have := HJ3.out; have := HK2.out; have := HK3.out; omega⟩, ⟨by (with_reducible repeat (first | apply Kd.R_alloc | apply Kd.R_drewN | apply Kd.R_drew)); exact Kd.R_mono HO608.out (fun _ hk => trivial)⟩, ⟨by (with_reducible repeat (first | refine blk_drewN ?_ _ | refine blk_drew ?_ | refine blk_alloc ?_ _)); exact BK594.out⟩, ⟨hb_⟩⟩
             ·rw [if_neg c28] at H
              exact absurd H (by simp)
            ·rw [if_neg c27] at H
             have c27b0 : decide (x2_3 < (rd t601 t604)) = false := decide_eq_false c27
             clear c27
             have H' := Aside0.mk H
             clear H
             have hcz36_0 : wr.cell? ⟨gb594, 0, none⟩ = some (.int .i64 a0_0) := (blk_cell BK594.out 0).trans rfl
             have hcz36_1 : wr.cell? ⟨gb594, 1, none⟩ = some (.int .i64 a0_1) := (blk_cell BK594.out 1).trans rfl
             have hcz36_2 : wr.cell? ⟨gb594, 2, none⟩ = some (.int .i64 a0_2) := (blk_cell BK594.out 2).trans rfl
             have hcz36_3 : wr.cell? ⟨gb594, 3, none⟩ = some (.slice A0_3 l0_3.length c0_3) := (blk_cell BK594.out 3).trans rfl
             have hfz36_0 := blk_frozen BK594.out 0
             have hfz36_1 := blk_frozen BK594.out 1
             have hfz36_2 := blk_frozen BK594.out 2
             have hfz36_3 := blk_frozen BK594.out 3
             go_wp2_with (first | ((with_reducible refine gate_callee (f := 57) rfl ?_); refine goesL_ (some 48) rfl rfl Try.func57 (by kernel_rfl) rfl #[.agg #[.int .i64 a0_0, .int .i64 a0_1, .int .i64 a0_2, .slice A0_3 l0_3.length c0_3], .int .i64 x9_3, .int .i64 x12_3] rfl (by (try simp only [List.map_toArray, List.map_cons, List.map_nil]); first | done | rfl | (simp only [List.length_drop, List.length_take]; rfl)) ?_; (with_reducible refine (spec_sqThrow.calls k3 a0_0 a0_1 a0_2 _ _ l0_3 x9_3 x12_3 t604 _ ?side1 ?side2 A24.out).mono ?_); (case side1 => exact Kd.C_below HR0_3.out hb_); (case side2 => exact HC0_3.out); rintro e w37 ⟨rfl, hb⟩; refine ⟨_, rfl, ?_⟩; have n0_ := Aside0.mk (Kd.R_below (by (with_reducible repeat (first | apply Kd.R_alloc | apply Kd.R_drewN | apply Kd.R_drew)); exact HO_8.out) hb); have n1_ := Aside0.mk (Kd.R_below (by (with_reducible repeat (first | apply Kd.R_alloc | apply Kd.R_drewN | apply Kd.R_drew)); exact HO_11.out) hb); have n2_ := Aside0.mk (blk_below (g := gb594) (o := .cells #[.int .i64 a0_0, .int .i64 a0_1, .int .i64 a0_2, .slice A0_3 l0_3.length c0_3] 30 (0, 0)) (by (with_reducible repeat (first | refine blk_drewN ?_ _ | refine blk_drew ?_ | refine blk_alloc ?_ _)); exact BK594.out) hb); have n3_ := Aside0.mk (below_step hb_ hb); clear HO_8; clear HO_11; clear BK594; clear HB; have HO_8 := n0_; have HO_11 := n1_; have BK594 := n2_; have HB := n3_; clear n0_ n1_ n2_ n3_; (try clear hb); (try clear hb2); (try clear hk); (try clear hi); obtain ⟨Ao38, co38, eo38⟩ := Kd.R_slice HO_11.out; subst eo38; have p605 : 0 ≤ (t604 : Int) := of_decide_eq_true (by first | (with_reducible assumption) | assumption); have q605 : t604 < (t601.length : Int) := of_decide_eq_true (by first | (with_reducible assumption) | assumption); obtain ⟨ad605, e605, hx605_0⟩ := Kd.at_int (Kd.R_reads' HO_11.out).2.2 t604 p605 q605; cases e605; replace p605 := eq_true p605; replace q605 := eq_true q605))
             go_roundg k3
             case measure => have := HJ3.out; have := HK2.out; have := HK3.out; omega
             case rel => exact ⟨(wrap64 (x2_3 - (rd t601 t604))), (x8_3), (x9_3), (wrap64 (x12_3 + 1)), (by first | rfl | (simp; done) | (simp [*]; done)), (by first | rfl | (simp; done) | (simp [*]; done)), (by first | rfl | (simp; done) | (simp [*]; done)), H', ⟨by have := HJ3.out; have := HK2.out; have := HK3.out; omega⟩, ⟨by (with_reducible repeat (first | apply Kd.R_alloc | apply Kd.R_drewN | apply Kd.R_drew)); exact HO_8.out⟩, ⟨by (with_reducible repeat (first | apply Kd.R_alloc | apply Kd.R_drewN | apply Kd.R_drew)); exact HO_11.out⟩, ⟨by (with_reducible repeat (first | refine blk_drewN ?_ _ | refine blk_drew ?_ | refine blk_alloc ?_ _)); exact BK594.out⟩, ⟨hb_⟩⟩
           ·rw [if_neg c26] at H
            exact absurd H (by simp)
          ·rw [if_neg c25] at H
           exact absurd H (by simp)
         ·rw [if_neg c23] at H
          have c23b0 : decide (x12_3 ≤ a0_1) = false := decide_eq_false c23
          clear c23
          have H' := Aside0.mk H
          clear H
          have hcz39_0 : wr.cell? ⟨gb594, 0, none⟩ = some (.int .i64 a0_0) := (blk_cell BK594.out 0).trans rfl
          have hcz39_1 : wr.cell? ⟨gb594, 1, none⟩ = some (.int .i64 a0_1) := (blk_cell BK594.out 1).trans rfl
          have hcz39_2 : wr.cell? ⟨gb594, 2, none⟩ = some (.int .i64 a0_2) := (blk_cell BK594.out 2).trans rfl
          have hcz39_3 : wr.cell? ⟨gb594, 3, none⟩ = some (.slice A0_3 l0_3.length c0_3) := (blk_cell BK594.out 3).trans rfl
          have hfz39_0 := blk_frozen BK594.out 0
          have hfz39_1 := blk_frozen BK594.out 1
          have hfz39_2 := blk_frozen BK594.out 2
          have hfz39_3 := blk_frozen BK594.out 3
          go_wp2
          go_roundg k3
          case measure => have := HJ3.out; have := HK2.out; have := HK3.out; omega
          case rel => exact ⟨(x2_3), (x8_3), (x9_3), (wrap64 (x10_2 - 1)), (by first | rfl | (simp; done) | (simp [*]; done)), (by first | rfl | (simp; done) | (simp [*]; done)), (by first | rfl | (simp; done) | (simp [*]; done)), H', ⟨by have := HJ3.out; have := HK2.out; have := HK3.out; omega⟩, ⟨by (with_reducible repeat (first | apply Kd.R_alloc | apply Kd.R_drewN | apply Kd.R_drew)); exact Kd.R_mono HO_8.out (fun _ hk => trivial)⟩, ⟨by (with_reducible repeat (first | refine blk_drewN ?_ _ | refine blk_drew ?_ | refine blk_alloc ?_ _)); exact BK594.out⟩, ⟨hb_⟩⟩
      ·rw [if_neg c19] at H
       have c19b0 : decide (0 ≤ x10_2) = false := decide_eq_false c19
       clear c19
       simp only [Option.some.injEq, Prod.mk.injEq] at H
       obtain ⟨rfl, rfl⟩ := H
       go_wp2
       go_ret2
       exact ⟨_, by first | rfl | (simp [errW_none, errW_some] <;> rfl) | (simp [*, errW_none, errW_some] <;> rfl), by (with_reducible repeat (first | apply Kd.R_alloc | apply Kd.R_drewN | apply Kd.R_drew)); exact HO_8.out, hb_⟩

end Go.Proofs.Ytphjhfpeomifiaa.P
