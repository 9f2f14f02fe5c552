-- written for this claim by a program of this session (wip/tools/xprint.py), which runs the kit's print with other cuts
import Derived.Test.YtcppahkdfajcaaaP
import Derived.Test.YtcppahkdfajcaaaP63
import Derived.Test.YtcppahkdfajcaaaP71
import Derived.Test.YtcppahkdfajcaaaP76
import Derived.Test.YtcppahkdfajcaaaP90
namespace Go.Proofs.Ytcppahkdfajcaaa.P
open Go.RowKit Go.Proofs.YtcppahkdfajcaaaW.PrintWords Go.Proofs.YtcppahkdfajcaaaW.PrintLast Go.Proofs.YtcppahkdfajcaaaW.PrintMore
attribute [local go_sem] max2_int min2_int max_two min_two max_three min_three max_four min_four   -- for this text's walks alone
set_option linter.unusedVariables false
set_option linter.unusedSimpArgs false

/-! ### impl_ThreatsTo: function 52 -/
mutual
def impl_ThreatsTo.j0 : Nat → List (List Int) → Int → Bool → Int → Int → Int → List Int → List Int → Option (List Int × Bool)
 | 0, _, _, _, _, _, _, _, _ => none
 | k + 1, x1, x2, x21, x654000, x654001, x654002, x654003, x654004 => if x21 = true then (some (([] : List Int), false)) else (if 0 ≤ x2 then (if x2 < (x1.length : Int) then (impl_ThreatsTo.l0 k x1 x2 (([] : List Int)) (rd_L1 x1 x2) ((rd_L1 x1 x2).length : Int) 0 x654000 x654001 x654002 x654003 x654004) else (none)) else (none))
def impl_ThreatsTo.l0 : Nat → List (List Int) → Int → List Int → List Int → Int → Int → Int → Int → Int → List Int → List Int → Option (List Int × Bool)
 | 0, _, _, _, _, _, _, _, _, _, _, _ => none
 | k + 1, x1, x2, x8, x26, x27, x28, x654000, x654001, x654002, x654003, x654004 => if x28 < x27 then (if 0 ≤ x28 then (if x28 < (x26.length : Int) then ((impl_Track_square.f x654000 x654001 x654002 x654003 x654004 x2 (rd x26 x28)).bind fun t661 => (if t661 ≥ 0 then ((impl_Track_isSafe.f k x654000 x654001 x654002 x654003 x654004 t661).bind fun t662 => (if t662 = true then (impl_ThreatsTo.l0 k x1 x2 x8 x26 x27 (wrap64 (x28 + 1)) x654000 x654001 x654002 x654003 x654004) else ((impl_Track_isThreatened.f k x654000 x654001 x654002 x654003 x654004 x1 x2 t661).bind fun t663 => (if t663 = true then (if x8.length < 17592186044416 then (impl_ThreatsTo.l0 k x1 x2 (x8 ++ [x28]) x26 x27 (wrap64 (x28 + 1)) x654000 x654001 x654002 x654003 x654004) else (none)) else (impl_ThreatsTo.l0 k x1 x2 x8 x26 x27 (wrap64 (x28 + 1)) x654000 x654001 x654002 x654003 x654004))))) else (impl_ThreatsTo.l0 k x1 x2 x8 x26 x27 (wrap64 (x28 + 1)) x654000 x654001 x654002 x654003 x654004))) else (none)) else (none)) else (some (x8, true))
end
def impl_ThreatsTo.f (k : Nat) (a0_0 : Int) (a0_1 : Int) (a0_2 : Int) (l0_3 : List Int) (l0_4 : List Int) (l1 : List (List Int)) (a2 : Int) : Option (List Int × Bool) := (impl_isTracked.f k a0_0 a0_1 a0_2 l0_3 l0_4 l1).bind fun t654 => (if t654 = true then ((impl_Track_isPlayer.f a0_0 a0_1 a0_2 l0_3 l0_4 a2).bind fun t655 => (impl_ThreatsTo.j0 k l1 a2 (!t655) a0_0 a0_1 a0_2 l0_3 l0_4)) else (impl_ThreatsTo.j0 k l1 a2 true a0_0 a0_1 a0_2 l0_3 l0_4))
theorem impl_ThreatsTo.mono_l : ∀ k, (∀ y0 y1 y2 y3 y4 y5 y6 y7, LeO (impl_ThreatsTo.j0 k y0 y1 y2 y3 y4 y5 y6 y7) (impl_ThreatsTo.j0 (k + 1) y0 y1 y2 y3 y4 y5 y6 y7)) ∧ (∀ y0 y1 y2 y3 y4 y5 y6 y7 y8 y9 y10, LeO (impl_ThreatsTo.l0 k y0 y1 y2 y3 y4 y5 y6 y7 y8 y9 y10) (impl_ThreatsTo.l0 (k + 1) y0 y1 y2 y3 y4 y5 y6 y7 y8 y9 y10))
 | 0 => ⟨fun _ _ _ _ _ _ _ _ r h => by simp [impl_ThreatsTo.j0] at h, fun _ _ _ _ _ _ _ _ _ _ _ r h => by simp [impl_ThreatsTo.l0] at h⟩
 | k + 1 => by
  obtain ⟨ih0, ih1⟩ := impl_ThreatsTo.mono_l k
  refine ⟨?_, ?_⟩
  ·intro y0 y1 y2 y3 y4 y5 y6 y7
   unfold impl_ThreatsTo.j0
   repeat' first
   | (with_reducible exact ih0 _ _ _ _ _ _ _ _)
   | (with_reducible exact ih1 _ _ _ _ _ _ _ _ _ _ _)
   | (with_reducible exact impl_Track_isSafe.mono _ _ _ _ _ _ _)
   | (with_reducible exact impl_Track_isThreatened.mono _ _ _ _ _ _ _ _ _)
   | (with_reducible exact impl_isTracked.mono _ _ _ _ _ _ _)
   | (with_reducible exact LeO.refl _)
   | (with_reducible exact LeO.none _)
   | (with_reducible refine LeO.ite ?_ ?_)
   | (with_reducible refine LeO.bind ?_ (fun _ => ?_))
   | exact ih0 _ _ _ _ _ _ _ _
   | exact ih1 _ _ _ _ _ _ _ _ _ _ _
   | exact impl_Track_isSafe.mono _ _ _ _ _ _ _
   | exact impl_Track_isThreatened.mono _ _ _ _ _ _ _ _ _
   | exact impl_isTracked.mono _ _ _ _ _ _ _
   | exact LeO.none _
   | refine LeO.ite ?_ ?_
   | refine LeO.bind ?_ (fun _ => ?_)
  ·intro y0 y1 y2 y3 y4 y5 y6 y7 y8 y9 y10
   unfold impl_ThreatsTo.l0
   repeat' first
   | (with_reducible exact ih0 _ _ _ _ _ _ _ _)
   | (with_reducible exact ih1 _ _ _ _ _ _ _ _ _ _ _)
   | (with_reducible exact impl_Track_isSafe.mono _ _ _ _ _ _ _)
   | (with_reducible exact impl_Track_isThreatened.mono _ _ _ _ _ _ _ _ _)
   | (with_reducible exact impl_isTracked.mono _ _ _ _ _ _ _)
   | (with_reducible exact LeO.refl _)
   | (with_reducible exact LeO.none _)
   | (with_reducible refine LeO.ite ?_ ?_)
   | (with_reducible refine LeO.bind ?_ (fun _ => ?_))
   | exact ih0 _ _ _ _ _ _ _ _
   | exact ih1 _ _ _ _ _ _ _ _ _ _ _
   | exact impl_Track_isSafe.mono _ _ _ _ _ _ _
   | exact impl_Track_isThreatened.mono _ _ _ _ _ _ _ _ _
   | exact impl_isTracked.mono _ _ _ _ _ _ _
   | exact LeO.none _
   | refine LeO.ite ?_ ?_
   | refine LeO.bind ?_ (fun _ => ?_)
theorem impl_ThreatsTo.mono : ∀ a0 a1 a2 a3 a4 a5 a6 k, LeO (impl_ThreatsTo.f k a0 a1 a2 a3 a4 a5 a6) (impl_ThreatsTo.f (k + 1) a0 a1 a2 a3 a4 a5 a6) := by
 intro a0 a1 a2 a3 a4 a5 a6 k
 obtain ⟨ih0, ih1⟩ := impl_ThreatsTo.mono_l k
 unfold impl_ThreatsTo.f
 repeat' first
   | (with_reducible exact ih0 _ _ _ _ _ _ _ _)
   | (with_reducible exact ih1 _ _ _ _ _ _ _ _ _ _ _)
   | (with_reducible exact impl_Track_isSafe.mono _ _ _ _ _ _ _)
   | (with_reducible exact impl_Track_isThreatened.mono _ _ _ _ _ _ _ _ _)
   | (with_reducible exact impl_isTracked.mono _ _ _ _ _ _ _)
   | (with_reducible exact LeO.refl _)
   | (with_reducible exact LeO.none _)
   | (with_reducible refine LeO.ite ?_ ?_)
   | (with_reducible refine LeO.bind ?_ (fun _ => ?_))
   | exact ih0 _ _ _ _ _ _ _ _
   | exact ih1 _ _ _ _ _ _ _ _ _ _ _
   | exact impl_Track_isSafe.mono _ _ _ _ _ _ _
   | exact impl_Track_isThreatened.mono _ _ _ _ _ _ _ _ _
   | exact impl_isTracked.mono _ _ _ _ _ _ _
   | exact LeO.none _
   | refine LeO.ite ?_ ?_
   | refine LeO.bind ?_ (fun _ => ?_)
set_option maxHeartbeats 8000000 in
set_option maxRecDepth 100000 in
theorem impl_ThreatsTo.calls (k : Nat) (a0_0 : Int) (a0_1 : Int) (a0_2 : Int) (A0_3 : Option Addr) (c0_3 : Nat) (l0_3 : List Int) (A0_4 : Option Addr) (c0_4 : Nat) (l0_4 : List Int) (A1 : Option Addr) (c1 : Nat) (l1 : List (List Int)) (a2 : Int) (r1 : List Int) (r2 : Bool) (w : World) (hr0_3 : Kd.C (Kd.int .i64) w A0_3 l0_3.length l0_3) (hc0_3 : l0_3.length ≤ c0_3) (hr0_4 : Kd.C (Kd.int .i64) w A0_4 l0_4.length l0_4) (hc0_4 : l0_4.length ≤ c0_4) (hr1 : Kd.C (Kd.slice 3 (Kd.int .i64)) w A1 l1.length l1) (hc1 : l1.length ≤ c1) (h : impl_ThreatsTo.f k a0_0 a0_1 a0_2 l0_3 l0_4 l1 a2 = some (r1, r2)) :
  Calls Try.prog 52 #[.agg #[.int .i64 a0_0, .int .i64 a0_1, .int .i64 a0_2, .slice A0_3 l0_3.length c0_3, .slice A0_4 l0_4.length c0_4], .slice A1 l1.length c1, .int .i64 a2] w fun e w' => ∃ v0_ : Value, e = .returned (.tuple #[v0_, .bool r2]) ∧ Kd.R (Kd.int .i64) 3 w' w.heap.size (fun _ => True) v0_ r1 ∧ Below w.heap.size w w' := by
 have hu27 := Try.underlying27
 have HR0_3 := Aside0.mk hr0_3
 have HC0_3 := Aside0.mk hc0_3
 clear hr0_3 hc0_3
 have HR0_4 := Aside0.mk hr0_4
 have HC0_4 := Aside0.mk hc0_4
 clear hr0_4 hc0_4
 have HR1 := Aside0.mk hr1
 have HC1 := Aside0.mk hc1
 clear hr1 hc1
 have HB := Aside0.mk (Below.refl w.heap.size w)
 have H : ((impl_isTracked.f k a0_0 a0_1 a0_2 l0_3 l0_4 l1).bind fun t654 => (if t654 = true then ((impl_Track_isPlayer.f a0_0 a0_1 a0_2 l0_3 l0_4 a2).bind fun t655 => (impl_ThreatsTo.j0 k l1 a2 (!t655) a0_0 a0_1 a0_2 l0_3 l0_4)) else (impl_ThreatsTo.j0 k l1 a2 true a0_0 a0_1 a0_2 l0_3 l0_4))) = some (r1, r2) := h
 clear h
 have HC4 := Aside0.mk H
 clear H
 go_enter Try.func52, Try.ntmps52
 go_upto_region 1 with (first | ((with_reducible refine gate_dst (N := 3) rfl ?_); refine box_event ?hg (N := 3) ?hd (cs := #[.int .i64 a0_0, .int .i64 a0_1, .int .i64 a0_2, .slice A0_3 l0_3.length c0_3, .slice A0_4 l0_4.length c0_4]) (t := 27) ?hr ?_; (case hd => rfl); (case hg => rfl); (case hr => first | (go_simp; done) | (go_simp; rfl)); intro gb653 hg w5 hbox hb; have n0_ := Aside0.mk (below_step hb_ hb); have n1_ := Aside0.mk (hbox); have n2_ := Aside0.mk ((by rw [hg]; exact (below_size hb_) : w.heap.size ≤ gb653)); have n3_ := Aside0.mk ((by rw [hg]; exact (below_size hb_) : w.heap.size ≤ gb653)); clear HB; have HB := n0_; have BK653 := n1_; have GW653 := n2_; have GE653 := n3_; clear n0_ n1_ n2_ n3_; clear hb hbox hg))
 (try simp only [Act.put, List.setIfInBounds_toArray, List.set_cons_zero, List.set_cons_succ])
 go_cut [21] (fun v21 wc => ∃ (kq : Nat) (x21_3 : Bool), v21 = .bool x21_3 ∧ Aside0 (impl_ThreatsTo.j0 kq l1 a2 x21_3 a0_0 a0_1 a0_2 l0_3 l0_4 = some (r1, r2)) ∧ Aside0 (kq ≤ k) ∧ Aside0 (wc.heap[gb653]? = some (.cells #[.int .i64 a0_0, .int .i64 a0_1, .int .i64 a0_2, (.slice A0_3 l0_3.length c0_3), (.slice A0_4 l0_4.length c0_4)] 27 (0, 0))) ∧ Aside0 (Below w.heap.size w wc))
 case first =>
  have H := HC4.out
  clear HC4
  replace H := Option.bind_eq_some_iff.mp H
  obtain ⟨t654, A60, H⟩ := H
  replace H : (if t654 = true then ((impl_Track_isPlayer.f a0_0 a0_1 a0_2 l0_3 l0_4 a2).bind fun t655 => (impl_ThreatsTo.j0 k l1 a2 (!t655) a0_0 a0_1 a0_2 l0_3 l0_4)) else (impl_ThreatsTo.j0 k l1 a2 true a0_0 a0_1 a0_2 l0_3 l0_4)) = some (r1, r2) := H
  have A6 := Aside0.mk A60
  clear A60
  by_cases c7 : t654 = true
  ·subst c7
   have H1 : ((impl_Track_isPlayer.f a0_0 a0_1 a0_2 l0_3 l0_4 a2).bind fun t655 => (impl_ThreatsTo.j0 k l1 a2 (!t655) a0_0 a0_1 a0_2 l0_3 l0_4)) = some (r1, r2) := by rw [if_pos rfl] at H; exact H
   clear H
   have H := H1
   clear H1
   replace H := Option.bind_eq_some_iff.mp H
   obtain ⟨t655, A80, H⟩ := H
   replace H : (impl_ThreatsTo.j0 k l1 a2 (!t655) a0_0 a0_1 a0_2 l0_3 l0_4) = some (r1, r2) := H
   have A8 := Aside0.mk A80
   clear A80
   have H' := Aside0.mk H
   clear H
   have hcz9_0 : w5.cell? ⟨gb653, 0, none⟩ = some (.int .i64 a0_0) := (blk_cell BK653.out 0).trans rfl
   have hcz9_1 : w5.cell? ⟨gb653, 1, none⟩ = some (.int .i64 a0_1) := (blk_cell BK653.out 1).trans rfl
   have hcz9_2 : w5.cell? ⟨gb653, 2, none⟩ = some (.int .i64 a0_2) := (blk_cell BK653.out 2).trans rfl
   have hcz9_3 : w5.cell? ⟨gb653, 3, none⟩ = some (.slice A0_3 l0_3.length c0_3) := (blk_cell BK653.out 3).trans rfl
   have hcz9_4 : w5.cell? ⟨gb653, 4, none⟩ = some (.slice A0_4 l0_4.length c0_4) := (blk_cell BK653.out 4).trans rfl
   have hfz9_0 := blk_frozen BK653.out 0
   have hfz9_1 := blk_frozen BK653.out 1
   have hfz9_2 := blk_frozen BK653.out 2
   have hfz9_3 := blk_frozen BK653.out 3
   have hfz9_4 := blk_frozen BK653.out 4
   go_wp2_with (first | ((with_reducible refine gate_callee (f := 76) rfl ?_); refine goesL_ (some 14) rfl rfl Try.func76 (by kernel_rfl) rfl #[.agg #[.int .i64 a0_0, .int .i64 a0_1, .int .i64 a0_2, .slice A0_3 l0_3.length c0_3, .slice A0_4 l0_4.length c0_4], .slice A1 l1.length c1] rfl (by (try simp only [List.map_toArray, List.map_cons, List.map_nil]); first | done | rfl | (simp only [List.length_drop, List.length_take]; rfl)) ?_; (with_reducible refine (impl_isTracked.calls k a0_0 a0_1 a0_2 _ _ l0_3 _ _ l0_4 _ _ l1 true _ ?side1 ?side2 ?side3 ?side4 ?side5 ?side6 A6.out).mono ?_); (case side1 => exact Kd.C_below HR0_3.out hb_); (case side2 => exact HC0_3.out); (case side3 => exact Kd.C_below HR0_4.out hb_); (case side4 => exact HC0_4.out); (case side5 => exact Kd.C_below HR1.out hb_); (case side6 => exact HC1.out); rintro e w10 ⟨rfl, hb⟩; refine ⟨_, rfl, ?_⟩; have n0_ := Aside0.mk (blk_below (g := gb653) (o := .cells #[.int .i64 a0_0, .int .i64 a0_1, .int .i64 a0_2, .slice A0_3 l0_3.length c0_3, .slice A0_4 l0_4.length c0_4] 27 (0, 0)) (by (with_reducible repeat (first | refine blk_drewN ?_ _ | refine blk_drew ?_ | refine blk_alloc ?_ _)); exact BK653.out) hb); have n1_ := Aside0.mk (below_step hb_ hb); clear BK653; clear HB; have BK653 := n0_; have HB := n1_; clear n0_ n1_; (try clear hb); (try clear hb2); (try clear hk); (try clear hi); have hcz11_0 : w10.cell? ⟨gb653, 0, none⟩ = some (.int .i64 a0_0) := (blk_cell BK653.out 0).trans rfl; have hcz11_1 : w10.cell? ⟨gb653, 1, none⟩ = some (.int .i64 a0_1) := (blk_cell BK653.out 1).trans rfl; have hcz11_2 : w10.cell? ⟨gb653, 2, none⟩ = some (.int .i64 a0_2) := (blk_cell BK653.out 2).trans rfl; have hcz11_3 : w10.cell? ⟨gb653, 3, none⟩ = some (.slice A0_3 l0_3.length c0_3) := (blk_cell BK653.out 3).trans rfl; have hcz11_4 : w10.cell? ⟨gb653, 4, none⟩ = some (.slice A0_4 l0_4.length c0_4) := (blk_cell BK653.out 4).trans rfl; have hfz11_0 := blk_frozen BK653.out 0; have hfz11_1 := blk_frozen BK653.out 1; have hfz11_2 := blk_frozen BK653.out 2; have hfz11_3 := blk_frozen BK653.out 3; have hfz11_4 := blk_frozen BK653.out 4) | (go_at_call 71; (with_reducible refine (impl_Track_isPlayer.calls a0_0 a0_1 a0_2 _ _ l0_3 _ _ l0_4 a2 t655 _ ?side1 ?side2 ?side3 ?side4 A8.out).mono ?_); (case side1 => exact Kd.C_below HR0_3.out hb_); (case side2 => exact HC0_3.out); (case side3 => exact Kd.C_below HR0_4.out hb_); (case side4 => exact HC0_4.out); rintro e w12 ⟨rfl, hb⟩; have n0_ := Aside0.mk (blk_below (g := gb653) (o := .cells #[.int .i64 a0_0, .int .i64 a0_1, .int .i64 a0_2, .slice A0_3 l0_3.length c0_3, .slice A0_4 l0_4.length c0_4] 27 (0, 0)) (by (with_reducible repeat (first | refine blk_drewN ?_ _ | refine blk_drew ?_ | refine blk_alloc ?_ _)); exact BK653.out) hb); have n1_ := Aside0.mk (below_step hb_ hb); clear BK653; clear HB; have BK653 := n0_; have HB := n1_; clear n0_ n1_; (try clear hb); (try clear hb2); (try clear hk); (try clear hi)))
   go_meet
   case rel => exact ⟨_, (!t655), (by first | rfl | (simp; done) | (simp [*]; done)), H', ⟨by first | omega | exact Nat.le_refl _⟩, ⟨by (with_reducible repeat (first | refine blk_drewN ?_ _ | refine blk_drew ?_ | refine blk_alloc ?_ _)); exact BK653.out⟩, ⟨hb_⟩⟩
  ·replace c7 := Bool.eq_false_iff.mpr c7
   subst c7
   have H1 : (impl_ThreatsTo.j0 k l1 a2 true a0_0 a0_1 a0_2 l0_3 l0_4) = some (r1, r2) := by rw [if_neg (show ¬ (false = true) by decide)] at H; exact H
   clear H
   have H := H1
   clear H1
   have H' := Aside0.mk H
   clear H
   have hcz13_0 : w5.cell? ⟨gb653, 0, none⟩ = some (.int .i64 a0_0) := (blk_cell BK653.out 0).trans rfl
   have hcz13_1 : w5.cell? ⟨gb653, 1, none⟩ = some (.int .i64 a0_1) := (blk_cell BK653.out 1).trans rfl
   have hcz13_2 : w5.cell? ⟨gb653, 2, none⟩ = some (.int .i64 a0_2) := (blk_cell BK653.out 2).trans rfl
   have hcz13_3 : w5.cell? ⟨gb653, 3, none⟩ = some (.slice A0_3 l0_3.length c0_3) := (blk_cell BK653.out 3).trans rfl
   have hcz13_4 : w5.cell? ⟨gb653, 4, none⟩ = some (.slice A0_4 l0_4.length c0_4) := (blk_cell BK653.out 4).trans rfl
   have hfz13_0 := blk_frozen BK653.out 0
   have hfz13_1 := blk_frozen BK653.out 1
   have hfz13_2 := blk_frozen BK653.out 2
   have hfz13_3 := blk_frozen BK653.out 3
   have hfz13_4 := blk_frozen BK653.out 4
   go_wp2_with (first | ((with_reducible refine gate_callee (f := 76) rfl ?_); refine goesL_ (some 14) rfl rfl Try.func76 (by kernel_rfl) rfl #[.agg #[.int .i64 a0_0, .int .i64 a0_1, .int .i64 a0_2, .slice A0_3 l0_3.length c0_3, .slice A0_4 l0_4.length c0_4], .slice A1 l1.length c1] rfl (by (try simp only [List.map_toArray, List.map_cons, List.map_nil]); first | done | rfl | (simp only [List.length_drop, List.length_take]; rfl)) ?_; (with_reducible refine (impl_isTracked.calls k a0_0 a0_1 a0_2 _ _ l0_3 _ _ l0_4 _ _ l1 false _ ?side1 ?side2 ?side3 ?side4 ?side5 ?side6 A6.out).mono ?_); (case side1 => exact Kd.C_below HR0_3.out hb_); (case side2 => exact HC0_3.out); (case side3 => exact Kd.C_below HR0_4.out hb_); (case side4 => exact HC0_4.out); (case side5 => exact Kd.C_below HR1.out hb_); (case side6 => exact HC1.out); rintro e w14 ⟨rfl, hb⟩; refine ⟨_, rfl, ?_⟩; have n0_ := Aside0.mk (blk_below (g := gb653) (o := .cells #[.int .i64 a0_0, .int .i64 a0_1, .int .i64 a0_2, .slice A0_3 l0_3.length c0_3, .slice A0_4 l0_4.length c0_4] 27 (0, 0)) (by (with_reducible repeat (first | refine blk_drewN ?_ _ | refine blk_drew ?_ | refine blk_alloc ?_ _)); exact BK653.out) hb); have n1_ := Aside0.mk (below_step hb_ hb); clear BK653; clear HB; have BK653 := n0_; have HB := n1_; clear n0_ n1_; (try clear hb); (try clear hb2); (try clear hk); (try clear hi)))
   go_meet
   case rel => exact ⟨_, (true), (by first | rfl | (simp; done) | (simp [*]; done)), H', ⟨by first | omega | exact Nat.le_refl _⟩, ⟨by (with_reducible repeat (first | refine blk_drewN ?_ _ | refine blk_drew ?_ | refine blk_alloc ?_ _)); exact BK653.out⟩, ⟨hb_⟩⟩
 case rest =>
  clear HC4
  try clear c1
  try clear p2
  try clear c5
  try clear c7
  try clear hcz11_0
  try clear hcz11_1
  try clear hcz11_2
  try clear hcz11_3
  try clear hcz11_4
  try clear hcz13_0
  try clear hcz13_1
  try clear hcz13_2
  try clear hcz13_3
  try clear hcz13_4
  try clear hcz9_0
  try clear hcz9_1
  try clear hcz9_2
  try clear hcz9_3
  try clear hcz9_4
  try clear hfz11_0
  try clear hfz11_1
  try clear hfz11_2
  try clear hfz11_3
  try clear hfz11_4
  try clear hfz13_0
  try clear hfz13_1
  try clear hfz13_2
  try clear hfz13_3
  try clear hfz13_4
  try clear hfz9_0
  try clear hfz9_1
  try clear hfz9_2
  try clear hfz9_3
  try clear hfz9_4
  obtain ⟨kq, x21_3, rfl, HA, HJ3, BK653, HB⟩ := hcut
  cases kq with
  | zero => exact absurd HA.out (by simp [impl_ThreatsTo.j0])
  | succ kj3 =>
   have H := HA.out
   clear HA
   simp only [impl_ThreatsTo.j0] at H
   by_cases c15 : x21_3 = true
   ·subst c15
    have H1 : (some (([] : List Int), false)) = some (r1, r2) := by rw [if_pos rfl] at H; exact H
    clear H
    have H := H1
    clear H1
    simp only [Option.some.injEq, Prod.mk.injEq] at H
    obtain ⟨rfl, rfl⟩ := H
    go_wp2
    go_ret2
    exact ⟨_, by first | rfl | (simp [errW_none, errW_some] <;> rfl) | (simp [*, errW_none, errW_some] <;> rfl), by first | exact Kd.R_nil _ _ _ _ _ | exact Kd.N_nil _ _ _ _ _ | exact Kd.V_nil _ _ _ _ _ | exact Kd.Q_nil _ _ _ _ _ | exact Kd.S_nil _ _ _ _ _, hb_⟩
   ·replace c15 := Bool.eq_false_iff.mpr c15
    subst c15
    have H1 : (if 0 ≤ a2 then (if a2 < (l1.length : Int) then (impl_ThreatsTo.l0 kj3 l1 a2 (([] : List Int)) (rd_L1 l1 a2) ((rd_L1 l1 a2).length : Int) 0 a0_0 a0_1 a0_2 l0_3 l0_4) else (none)) else (none)) = some (r1, r2) := by rw [if_neg (show ¬ (false = true) by decide)] at H; exact H
    clear H
    have H := H1
    clear H1
    obtain ⟨y656, hy656⟩ : ∃ y_ : List Int, y_ = (([] : List Int)) := ⟨_, rfl⟩
    replace H : (if 0 ≤ a2 then (if a2 < (l1.length : Int) then (impl_ThreatsTo.l0 kj3 l1 a2 y656 (rd_L1 l1 a2) ((rd_L1 l1 a2).length : Int) 0 a0_0 a0_1 a0_2 l0_3 l0_4) else (none)) else (none)) = some (r1, r2) := by first | (rw [hy656]; with_reducible exact H) | (have H2_ := (Option.bind_some _ _).symm.trans H; rw [hy656]; with_reducible exact H2_) | (have H2_ := (Option.bind_some _ _).symm.trans H; with_reducible exact H2_) | with_reducible exact H | (rw [hy656]; exact H) | exact H
    have Ny656 := Aside0.mk hy656
    clear hy656
    by_cases c16 : 0 ≤ a2
    ·rw [if_pos c16] at H
     have c16b0 : decide (0 ≤ a2) = true := decide_eq_true c16
     clear c16
     by_cases c17 : a2 < (l1.length : Int)
     ·rw [if_pos c17] at H
      have c17b0 : decide (a2 < (l1.length : Int)) = true := decide_eq_true c17
      clear c17
      have H' := Aside0.mk H
      clear H
      go_wp2_with (first | ((with_reducible refine gate_dst (N := 22) rfl ?_); refine Kd.R_lit (Kd.int .i64) _ 3 ?hg (N := 22) ?hd (xs := ([] : List Int)) (inner := []) (ok := fun _ => True) (okp := fun _ => True) ?hr ?hp (fun _ hk => hk) trivial (Below.refl _ _) (Nat.le_refl _) (by simp) ?_; (case hd => rfl); (case hg => rfl); (case hr => first | (go_simp; done) | (go_simp; rfl)); (case hp => exact (Reps.none _ _)); intro v657 w18 ho19 hb hg_ hnew_; clear hg_ hnew_; (first | rw [← Ny656.out] at ho19 | (simp only [Int.reduceToNat] at ho19; rw [← Ny656.out] at ho19)); have n0_ := Aside0.mk (Kd.R_lower ho19 (below_size hb_)); have n1_ := Aside0.mk (blk_below (g := gb653) (o := .cells #[.int .i64 a0_0, .int .i64 a0_1, .int .i64 a0_2, .slice A0_3 l0_3.length c0_3, .slice A0_4 l0_4.length c0_4] 27 (0, 0)) (by (with_reducible repeat (first | refine blk_drewN ?_ _ | refine blk_drew ?_ | refine blk_alloc ?_ _)); exact BK653.out) hb); have n2_ := Aside0.mk (below_step hb_ hb); clear BK653; clear HB; have HO658 := n0_; have BK653 := n1_; have HB := n2_; clear n0_ n1_ n2_; clear hb ho19; have p659 : 0 ≤ (a2 : Int) := of_decide_eq_true (by first | (with_reducible assumption) | assumption); have q659 : a2 < (l1.length : Int) := of_decide_eq_true (by first | (with_reducible assumption) | assumption); obtain ⟨ad659, A659_0, c659_0, e659, hx659_0, hl659_0, hi659_0⟩ := at_L1 HR1.out a2 p659 q659; cases e659; replace hx659_0 := (HB.out.cell (World.block_lt_of_cell? w _ hx659_0)).trans hx659_0; have HR659_0 := Aside0.mk hi659_0; have HC659_0 := Aside0.mk hl659_0; clear hi659_0 hl659_0; replace p659 := eq_true p659; replace q659 := eq_true q659))
      go_loopg [8, 28] kj3 (fun kq v8 v28 w' => ∃ (x8_2 : List Int) (x28_2 : Int), v28 = .int .i64 x28_2 ∧ Aside0 (impl_ThreatsTo.l0 kq l1 a2 x8_2 (rd_L1 l1 a2) ((rd_L1 l1 a2).length : Int) x28_2 a0_0 a0_1 a0_2 l0_3 l0_4 = some (r1, r2)) ∧ Aside0 (kq ≤ kj3) ∧ Aside0 (Kd.R (Kd.int .i64) 3 w' w.heap.size (fun _ => True) v8 x8_2) ∧ Aside0 (w'.heap[gb653]? = some (.cells #[.int .i64 a0_0, .int .i64 a0_1, .int .i64 a0_2, (.slice A0_3 l0_3.length c0_3), (.slice A0_4 l0_4.length c0_4)] 27 (0, 0))) ∧ Aside0 (Below w.heap.size w w'))
      case atStart => exact ⟨(y656), (0), (by first | rfl | (simp; done) | (simp [*]; done)), H', ⟨Nat.le_refl _⟩, ⟨by (with_reducible repeat (first | apply Kd.R_alloc | apply Kd.R_drewN | apply Kd.R_drew)); exact HO658.out⟩, ⟨by (with_reducible repeat (first | refine blk_drewN ?_ _ | refine blk_drew ?_ | refine blk_alloc ?_ _)); exact BK653.out⟩, ⟨hb_⟩⟩
      case round =>
       clear H'
       try clear c1
       try clear p2
       try clear c5
       try clear c6
       try clear p6
       try clear q6
       try clear hx6
       try clear c7
       try clear c15
       try clear c16
       try clear c16b0
       try clear c17
       try clear c17b0
       try clear hcz11_0
       try clear hcz11_1
       try clear hcz11_2
       try clear hcz11_3
       try clear hcz11_4
       try clear hcz13_0
       try clear hcz13_1
       try clear hcz13_2
       try clear hcz13_3
       try clear hcz13_4
       try clear hcz9_0
       try clear hcz9_1
       try clear hcz9_2
       try clear hcz9_3
       try clear hcz9_4
       try clear hfz11_0
       try clear hfz11_1
       try clear hfz11_2
       try clear hfz11_3
       try clear hfz11_4
       try clear hfz13_0
       try clear hfz13_1
       try clear hfz13_2
       try clear hfz13_3
       try clear hfz13_4
       try clear hfz9_0
       try clear hfz9_1
       try clear hfz9_2
       try clear hfz9_3
       try clear hfz9_4
       try clear hx659_0
       try clear p2
       try clear p659
       try clear q659
       obtain ⟨x8_2, x28_2, rfl, HA, HK2, HO_8, BK653, HB⟩ := hrel
       cases gk with
       | zero => exact absurd HA.out (by simp [impl_ThreatsTo.l0])
       | succ k2 =>
        have H := HA.out
        clear HA
        simp only [impl_ThreatsTo.l0] at H
        by_cases c20 : x28_2 < ((rd_L1 l1 a2).length : Int)
        ·rw [if_pos c20] at H
         have c20b0 : decide (x28_2 < ((rd_L1 l1 a2).length : Int)) = true := decide_eq_true c20
         clear c20
         by_cases c21 : 0 ≤ x28_2
         ·rw [if_pos c21] at H
          have c21b0 : decide (0 ≤ x28_2) = true := decide_eq_true c21
          clear c21
          by_cases c22 : x28_2 < ((rd_L1 l1 a2).length : Int)
          ·rw [if_pos c22] at H
           have c22b0 : decide (x28_2 < ((rd_L1 l1 a2).length : Int)) = true := decide_eq_true c22
           clear c22
           replace H := Option.bind_eq_some_iff.mp H
           obtain ⟨t661, A230, H⟩ := H
           replace H : (if t661 ≥ 0 then ((impl_Track_isSafe.f k2 a0_0 a0_1 a0_2 l0_3 l0_4 t661).bind fun t662 => (if t662 = true then (impl_ThreatsTo.l0 k2 l1 a2 x8_2 (rd_L1 l1 a2) ((rd_L1 l1 a2).length : Int) (wrap64 (x28_2 + 1)) a0_0 a0_1 a0_2 l0_3 l0_4) else ((impl_Track_isThreatened.f k2 a0_0 a0_1 a0_2 l0_3 l0_4 l1 a2 t661).bind fun t663 => (if t663 = true then (if x8_2.length < 17592186044416 then (impl_ThreatsTo.l0 k2 l1 a2 (x8_2 ++ [x28_2]) (rd_L1 l1 a2) ((rd_L1 l1 a2).length : Int) (wrap64 (x28_2 + 1)) a0_0 a0_1 a0_2 l0_3 l0_4) else (none)) else (impl_ThreatsTo.l0 k2 l1 a2 x8_2 (rd_L1 l1 a2) ((rd_L1 l1 a2).length : Int) (wrap64 (x28_2 + 1)) a0_0 a0_1 a0_2 l0_3 l0_4))))) else (impl_ThreatsTo.l0 k2 l1 a2 x8_2 (rd_L1 l1 a2) ((rd_L1 l1 a2).length : Int) (wrap64 (x28_2 + 1)) a0_0 a0_1 a0_2 l0_3 l0_4)) = some (r1, r2) := H
           have A23 := Aside0.mk A230
           clear A230
           by_cases c24 : t661 ≥ 0
           ·rw [if_pos c24] at H
            have c24b0 : decide (0 ≤ t661) = true := decide_eq_true c24
            clear c24
            replace H := Option.bind_eq_some_iff.mp H
            obtain ⟨t662, A250, H⟩ := H
            replace H : (if t662 = true then (impl_ThreatsTo.l0 k2 l1 a2 x8_2 (rd_L1 l1 a2) ((rd_L1 l1 a2).length : Int) (wrap64 (x28_2 + 1)) a0_0 a0_1 a0_2 l0_3 l0_4) else ((impl_Track_isThreatened.f k2 a0_0 a0_1 a0_2 l0_3 l0_4 l1 a2 t661).bind fun t663 => (if t663 = true then (if x8_2.length < 17592186044416 then (impl_ThreatsTo.l0 k2 l1 a2 (x8_2 ++ [x28_2]) (rd_L1 l1 a2) ((rd_L1 l1 a2).length : Int) (wrap64 (x28_2 + 1)) a0_0 a0_1 a0_2 l0_3 l0_4) else (none)) else (impl_ThreatsTo.l0 k2 l1 a2 x8_2 (rd_L1 l1 a2) ((rd_L1 l1 a2).length : Int) (wrap64 (x28_2 + 1)) a0_0 a0_1 a0_2 l0_3 l0_4)))) = some (r1, r2) := H
            have A25 := Aside0.mk A250
            clear A250
            by_cases c26 : t662 = true
            ·subst c26
             have H1 : (impl_ThreatsTo.l0 k2 l1 a2 x8_2 (rd_L1 l1 a2) ((rd_L1 l1 a2).length : Int) (wrap64 (x28_2 + 1)) a0_0 a0_1 a0_2 l0_3 l0_4) = some (r1, r2) := by rw [if_pos rfl] at H; exact H
             clear H
             have H := H1
             clear H1
             have H' := Aside0.mk H
             clear H
             have p660 : 0 ≤ (x28_2 : Int) := of_decide_eq_true (by first | (with_reducible assumption) | assumption)
             have q660 : x28_2 < ((rd_L1 l1 a2).length : Int) := of_decide_eq_true (by first | (with_reducible assumption) | assumption)
             obtain ⟨ad660, e660, hx660_0⟩ := Kd.at_int HR659_0.out x28_2 p660 q660
             cases e660
             replace hx660_0 := (HB.out.cell (World.block_lt_of_cell? w _ hx660_0)).trans hx660_0
             replace p660 := eq_true p660
             replace q660 := eq_true q660
             have hcz27_0 : wr.cell? ⟨gb653, 0, none⟩ = some (.int .i64 a0_0) := (blk_cell BK653.out 0).trans rfl
             have hcz27_1 : wr.cell? ⟨gb653, 1, none⟩ = some (.int .i64 a0_1) := (blk_cell BK653.out 1).trans rfl
             have hcz27_2 : wr.cell? ⟨gb653, 2, none⟩ = some (.int .i64 a0_2) := (blk_cell BK653.out 2).trans rfl
             have hcz27_3 : wr.cell? ⟨gb653, 3, none⟩ = some (.slice A0_3 l0_3.length c0_3) := (blk_cell BK653.out 3).trans rfl
             have hcz27_4 : wr.cell? ⟨gb653, 4, none⟩ = some (.slice A0_4 l0_4.length c0_4) := (blk_cell BK653.out 4).trans rfl
             have hfz27_0 := blk_frozen BK653.out 0
             have hfz27_1 := blk_frozen BK653.out 1
             have hfz27_2 := blk_frozen BK653.out 2
             have hfz27_3 := blk_frozen BK653.out 3
             have hfz27_4 := blk_frozen BK653.out 4
             go_wp2_with (first | ((with_reducible refine gate_callee (f := 72) rfl ?_); refine goesL_ (some 36) rfl rfl Try.func72 (by kernel_rfl) rfl #[.agg #[.int .i64 a0_0, .int .i64 a0_1, .int .i64 a0_2, .slice A0_3 l0_3.length c0_3, .slice A0_4 l0_4.length c0_4], .int .i64 a2, .int .i64 (rd (rd_L1 l1 a2) x28_2)] rfl (by (try simp only [List.map_toArray, List.map_cons, List.map_nil]); first | done | rfl | (simp only [List.length_drop, List.length_take]; rfl)) ?_; (with_reducible refine (impl_Track_square.calls a0_0 a0_1 a0_2 _ _ l0_3 _ _ l0_4 a2 (rd (rd_L1 l1 a2) x28_2) t661 _ ?side1 ?side2 ?side3 ?side4 A23.out).mono ?_); (case side1 => exact Kd.C_below HR0_3.out hb_); (case side2 => exact HC0_3.out); (case side3 => exact Kd.C_below HR0_4.out hb_); (case side4 => exact HC0_4.out); rintro e w28 ⟨rfl, hb⟩; refine ⟨_, rfl, ?_⟩; have n0_ := Aside0.mk (Kd.R_below (by (with_reducible repeat (first | apply Kd.R_alloc | apply Kd.R_drewN | apply Kd.R_drew)); exact HO_8.out) hb); have n1_ := Aside0.mk (blk_below (g := gb653) (o := .cells #[.int .i64 a0_0, .int .i64 a0_1, .int .i64 a0_2, .slice A0_3 l0_3.length c0_3, .slice A0_4 l0_4.length c0_4] 27 (0, 0)) (by (with_reducible repeat (first | refine blk_drewN ?_ _ | refine blk_drew ?_ | refine blk_alloc ?_ _)); exact BK653.out) hb); have n2_ := Aside0.mk (below_step hb_ hb); clear HO_8; clear BK653; clear HB; have HO_8 := n0_; have BK653 := n1_; have HB := n2_; clear n0_ n1_ n2_; (try clear hb); (try clear hb2); (try clear hk); (try clear hi); have hcz29_0 : w28.cell? ⟨gb653, 0, none⟩ = some (.int .i64 a0_0) := (blk_cell BK653.out 0).trans rfl; have hcz29_1 : w28.cell? ⟨gb653, 1, none⟩ = some (.int .i64 a0_1) := (blk_cell BK653.out 1).trans rfl; have hcz29_2 : w28.cell? ⟨gb653, 2, none⟩ = some (.int .i64 a0_2) := (blk_cell BK653.out 2).trans rfl; have hcz29_3 : w28.cell? ⟨gb653, 3, none⟩ = some (.slice A0_3 l0_3.length c0_3) := (blk_cell BK653.out 3).trans rfl; have hcz29_4 : w28.cell? ⟨gb653, 4, none⟩ = some (.slice A0_4 l0_4.length c0_4) := (blk_cell BK653.out 4).trans rfl; have hfz29_0 := blk_frozen BK653.out 0; have hfz29_1 := blk_frozen BK653.out 1; have hfz29_2 := blk_frozen BK653.out 2; have hfz29_3 := blk_frozen BK653.out 3; have hfz29_4 := blk_frozen BK653.out 4) | (go_at_call 89; (with_reducible refine (impl_Track_isSafe.calls k2 a0_0 a0_1 a0_2 _ _ l0_3 _ _ l0_4 t661 true _ ?side1 ?side2 ?side3 ?side4 A25.out).mono ?_); (case side1 => exact Kd.C_below HR0_3.out hb_); (case side2 => exact HC0_3.out); (case side3 => exact Kd.C_below HR0_4.out hb_); (case side4 => exact HC0_4.out); rintro e w30 ⟨rfl, hb⟩; have n0_ := Aside0.mk (Kd.R_below (by (with_reducible repeat (first | apply Kd.R_alloc | apply Kd.R_drewN | apply Kd.R_drew)); exact HO_8.out) hb); have n1_ := Aside0.mk (blk_below (g := gb653) (o := .cells #[.int .i64 a0_0, .int .i64 a0_1, .int .i64 a0_2, .slice A0_3 l0_3.length c0_3, .slice A0_4 l0_4.length c0_4] 27 (0, 0)) (by (with_reducible repeat (first | refine blk_drewN ?_ _ | refine blk_drew ?_ | refine blk_alloc ?_ _)); exact BK653.out) hb); have n2_ := Aside0.mk (below_step hb_ hb); clear HO_8; clear BK653; clear HB; have HO_8 := n0_; have BK653 := n1_; have HB := n2_; clear n0_ n1_ n2_; (try clear hb); (try clear hb2); (try clear hk); (try clear hi)))
             go_roundg k2
             case measure => have := HJ3.out; have := HK2.out; omega
             case rel => exact ⟨(x8_2), (wrap64 (x28_2 + 1)), (by first | rfl | (simp; done) | (simp [*]; done)), H', ⟨by have := HJ3.out; have := HK2.out; omega⟩, ⟨by (with_reducible repeat (first | apply Kd.R_alloc | apply Kd.R_drewN | apply Kd.R_drew)); exact HO_8.out⟩, ⟨by (with_reducible repeat (first | refine blk_drewN ?_ _ | refine blk_drew ?_ | refine blk_alloc ?_ _)); exact BK653.out⟩, ⟨hb_⟩⟩
            ·replace c26 := Bool.eq_false_iff.mpr c26
             subst c26
             have H1 : ((impl_Track_isThreatened.f k2 a0_0 a0_1 a0_2 l0_3 l0_4 l1 a2 t661).bind fun t663 => (if t663 = true then (if x8_2.length < 17592186044416 then (impl_ThreatsTo.l0 k2 l1 a2 (x8_2 ++ [x28_2]) (rd_L1 l1 a2) ((rd_L1 l1 a2).length : Int) (wrap64 (x28_2 + 1)) a0_0 a0_1 a0_2 l0_3 l0_4) else (none)) else (impl_ThreatsTo.l0 k2 l1 a2 x8_2 (rd_L1 l1 a2) ((rd_L1 l1 a2).length : Int) (wrap64 (x28_2 + 1)) a0_0 a0_1 a0_2 l0_3 l0_4))) = some (r1, r2) := by rw [if_neg (show ¬ (false = true) by decide)] at H; exact H
             clear H
             have H := H1
             clear H1
             replace H := Option.bind_eq_some_iff.mp H
             obtain ⟨t663, A310, H⟩ := H
             replace H : (if t663 = true then (if x8_2.length < 17592186044416 then (impl_ThreatsTo.l0 k2 l1 a2 (x8_2 ++ [x28_2]) (rd_L1 l1 a2) ((rd_L1 l1 a2).length : Int) (wrap64 (x28_2 + 1)) a0_0 a0_1 a0_2 l0_3 l0_4) else (none)) else (impl_ThreatsTo.l0 k2 l1 a2 x8_2 (rd_L1 l1 a2) ((rd_L1 l1 a2).length : Int) (wrap64 (x28_2 + 1)) a0_0 a0_1 a0_2 l0_3 l0_4)) = some (r1, r2) := H
             have A31 := Aside0.mk A310
             clear A310
             by_cases c32 : t663 = true
             ·subst c32
              have H1 : (if x8_2.length < 17592186044416 then (impl_ThreatsTo.l0 k2 l1 a2 (x8_2 ++ [x28_2]) (rd_L1 l1 a2) ((rd_L1 l1 a2).length : Int) (wrap64 (x28_2 + 1)) a0_0 a0_1 a0_2 l0_3 l0_4) else (none)) = some (r1, r2) := by rw [if_pos rfl] at H; exact H
              clear H
              have H := H1
              clear H1
              by_cases c33 : x8_2.length < 17592186044416
              ·rw [if_pos c33] at H
               have LMc33 := Aside0.mk c33
               clear c33
               obtain ⟨y664, hy664⟩ : ∃ y_ : List Int, y_ = (x8_2 ++ [x28_2]) := ⟨_, rfl⟩
               replace H : (impl_ThreatsTo.l0 k2 l1 a2 y664 (rd_L1 l1 a2) ((rd_L1 l1 a2).length : Int) (wrap64 (x28_2 + 1)) a0_0 a0_1 a0_2 l0_3 l0_4) = some (r1, r2) := by first | (rw [hy664]; with_reducible exact H) | (have H2_ := (Option.bind_some _ _).symm.trans H; rw [hy664]; with_reducible exact H2_) | (have H2_ := (Option.bind_some _ _).symm.trans H; with_reducible exact H2_) | with_reducible exact H | (rw [hy664]; exact H) | exact H
               have Ny664 := Aside0.mk hy664
               clear hy664
               have H' := Aside0.mk H
               clear H
               have p660 : 0 ≤ (x28_2 : Int) := of_decide_eq_true (by first | (with_reducible assumption) | assumption)
               have q660 : x28_2 < ((rd_L1 l1 a2).length : Int) := of_decide_eq_true (by first | (with_reducible assumption) | assumption)
               obtain ⟨ad660, e660, hx660_0⟩ := Kd.at_int HR659_0.out x28_2 p660 q660
               cases e660
               replace hx660_0 := (HB.out.cell (World.block_lt_of_cell? w _ hx660_0)).trans hx660_0
               replace p660 := eq_true p660
               replace q660 := eq_true q660
               have hcz34_0 : wr.cell? ⟨gb653, 0, none⟩ = some (.int .i64 a0_0) := (blk_cell BK653.out 0).trans rfl
               have hcz34_1 : wr.cell? ⟨gb653, 1, none⟩ = some (.int .i64 a0_1) := (blk_cell BK653.out 1).trans rfl
               have hcz34_2 : wr.cell? ⟨gb653, 2, none⟩ = some (.int .i64 a0_2) := (blk_cell BK653.out 2).trans rfl
               have hcz34_3 : wr.cell? ⟨gb653, 3, none⟩ = some (.slice A0_3 l0_3.length c0_3) := (blk_cell BK653.out 3).trans rfl
               have hcz34_4 : wr.cell? ⟨gb653, 4, none⟩ = some (.slice A0_4 l0_4.length c0_4) := (blk_cell BK653.out 4).trans rfl
               have hfz34_0 := blk_frozen BK653.out 0
               have hfz34_1 := blk_frozen BK653.out 1
               have hfz34_2 := blk_frozen BK653.out 2
               have hfz34_3 := blk_frozen BK653.out 3
               have hfz34_4 := blk_frozen BK653.out 4
               go_wp2_with (first | ((with_reducible refine gate_callee (f := 72) rfl ?_); refine goesL_ (some 36) rfl rfl Try.func72 (by kernel_rfl) rfl #[.agg #[.int .i64 a0_0, .int .i64 a0_1, .int .i64 a0_2, .slice A0_3 l0_3.length c0_3, .slice A0_4 l0_4.length c0_4], .int .i64 a2, .int .i64 (rd (rd_L1 l1 a2) x28_2)] rfl (by (try simp only [List.map_toArray, List.map_cons, List.map_nil]); first | done | rfl | (simp only [List.length_drop, List.length_take]; rfl)) ?_; (with_reducible refine (impl_Track_square.calls a0_0 a0_1 a0_2 _ _ l0_3 _ _ l0_4 a2 (rd (rd_L1 l1 a2) x28_2) t661 _ ?side1 ?side2 ?side3 ?side4 A23.out).mono ?_); (case side1 => exact Kd.C_below HR0_3.out hb_); (case side2 => exact HC0_3.out); (case side3 => exact Kd.C_below HR0_4.out hb_); (case side4 => exact HC0_4.out); rintro e w35 ⟨rfl, hb⟩; refine ⟨_, rfl, ?_⟩; have n0_ := Aside0.mk (Kd.R_below (by (with_reducible repeat (first | apply Kd.R_alloc | apply Kd.R_drewN | apply Kd.R_drew)); exact HO_8.out) hb); have n1_ := Aside0.mk (blk_below (g := gb653) (o := .cells #[.int .i64 a0_0, .int .i64 a0_1, .int .i64 a0_2, .slice A0_3 l0_3.length c0_3, .slice A0_4 l0_4.length c0_4] 27 (0, 0)) (by (with_reducible repeat (first | refine blk_drewN ?_ _ | refine blk_drew ?_ | refine blk_alloc ?_ _)); exact BK653.out) hb); have n2_ := Aside0.mk (below_step hb_ hb); clear HO_8; clear BK653; clear HB; have HO_8 := n0_; have BK653 := n1_; have HB := n2_; clear n0_ n1_ n2_; (try clear hb); (try clear hb2); (try clear hk); (try clear hi); have hcz36_0 : w35.cell? ⟨gb653, 0, none⟩ = some (.int .i64 a0_0) := (blk_cell BK653.out 0).trans rfl; have hcz36_1 : w35.cell? ⟨gb653, 1, none⟩ = some (.int .i64 a0_1) := (blk_cell BK653.out 1).trans rfl; have hcz36_2 : w35.cell? ⟨gb653, 2, none⟩ = some (.int .i64 a0_2) := (blk_cell BK653.out 2).trans rfl; have hcz36_3 : w35.cell? ⟨gb653, 3, none⟩ = some (.slice A0_3 l0_3.length c0_3) := (blk_cell BK653.out 3).trans rfl; have hcz36_4 : w35.cell? ⟨gb653, 4, none⟩ = some (.slice A0_4 l0_4.length c0_4) := (blk_cell BK653.out 4).trans rfl; have hfz36_0 := blk_frozen BK653.out 0; have hfz36_1 := blk_frozen BK653.out 1; have hfz36_2 := blk_frozen BK653.out 2; have hfz36_3 := blk_frozen BK653.out 3; have hfz36_4 := blk_frozen BK653.out 4) | (go_at_call 89; (with_reducible refine (impl_Track_isSafe.calls k2 a0_0 a0_1 a0_2 _ _ l0_3 _ _ l0_4 t661 false _ ?side1 ?side2 ?side3 ?side4 A25.out).mono ?_); (case side1 => exact Kd.C_below HR0_3.out hb_); (case side2 => exact HC0_3.out); (case side3 => exact Kd.C_below HR0_4.out hb_); (case side4 => exact HC0_4.out); rintro e w37 ⟨rfl, hb⟩; have n0_ := Aside0.mk (Kd.R_below (by (with_reducible repeat (first | apply Kd.R_alloc | apply Kd.R_drewN | apply Kd.R_drew)); exact HO_8.out) hb); have n1_ := Aside0.mk (blk_below (g := gb653) (o := .cells #[.int .i64 a0_0, .int .i64 a0_1, .int .i64 a0_2, .slice A0_3 l0_3.length c0_3, .slice A0_4 l0_4.length c0_4] 27 (0, 0)) (by (with_reducible repeat (first | refine blk_drewN ?_ _ | refine blk_drew ?_ | refine blk_alloc ?_ _)); exact BK653.out) hb); have n2_ := Aside0.mk (below_step hb_ hb); clear HO_8; clear BK653; clear HB; have HO_8 := n0_; have BK653 := n1_; have HB := n2_; clear n0_ n1_ n2_; (try clear hb); (try clear hb2); (try clear hk); (try clear hi); have hcz38_0 : w37.cell? ⟨gb653, 0, none⟩ = some (.int .i64 a0_0) := (blk_cell BK653.out 0).trans rfl; have hcz38_1 : w37.cell? ⟨gb653, 1, none⟩ = some (.int .i64 a0_1) := (blk_cell BK653.out 1).trans rfl; have hcz38_2 : w37.cell? ⟨gb653, 2, none⟩ = some (.int .i64 a0_2) := (blk_cell BK653.out 2).trans rfl; have hcz38_3 : w37.cell? ⟨gb653, 3, none⟩ = some (.slice A0_3 l0_3.length c0_3) := (blk_cell BK653.out 3).trans rfl; have hcz38_4 : w37.cell? ⟨gb653, 4, none⟩ = some (.slice A0_4 l0_4.length c0_4) := (blk_cell BK653.out 4).trans rfl; have hfz38_0 := blk_frozen BK653.out 0; have hfz38_1 := blk_frozen BK653.out 1; have hfz38_2 := blk_frozen BK653.out 2; have hfz38_3 := blk_frozen BK653.out 3; have hfz38_4 := blk_frozen BK653.out 4) | (go_at_call 90; (with_reducible refine (impl_Track_isThreatened.calls k2 a0_0 a0_1 a0_2 _ _ l0_3 _ _ l0_4 _ _ l1 a2 t661 true _ ?side1 ?side2 ?side3 ?side4 ?side5 ?side6 A31.out).mono ?_); (case side1 => exact Kd.C_below HR0_3.out hb_); (case side2 => exact HC0_3.out); (case side3 => exact Kd.C_below HR0_4.out hb_); (case side4 => exact HC0_4.out); (case side5 => exact Kd.C_below HR1.out hb_); (case side6 => exact HC1.out); rintro e w39 ⟨rfl, hb⟩; have n0_ := Aside0.mk (Kd.R_below (by (with_reducible repeat (first | apply Kd.R_alloc | apply Kd.R_drewN | apply Kd.R_drew)); exact HO_8.out) hb); have n1_ := Aside0.mk (blk_below (g := gb653) (o := .cells #[.int .i64 a0_0, .int .i64 a0_1, .int .i64 a0_2, .slice A0_3 l0_3.length c0_3, .slice A0_4 l0_4.length c0_4] 27 (0, 0)) (by (with_reducible repeat (first | refine blk_drewN ?_ _ | refine blk_drew ?_ | refine blk_alloc ?_ _)); exact BK653.out) hb); have n2_ := Aside0.mk (below_step hb_ hb); clear HO_8; clear BK653; clear HB; have HO_8 := n0_; have BK653 := n1_; have HB := n2_; clear n0_ n1_ n2_; (try clear hb); (try clear hb2); (try clear hk); (try clear hi)) | ((with_reducible refine gate_builtin (b := .append) (xs := #[.tmp 52, .tmp 54]) rfl ?_); at_builtin; refine Kd.R_append (Kd.int .i64) (w0 := w) w.heap.size rfl (.tmp 52) (.tmp 54) 22 3 (.int .i64 0) 8 rfl Try.underlying22 info3 rfl (by decide) (by omega) u8 x8_2 x28_2 [.int .i64 x28_2] (fun _ => True) (fun _ => False) rfl rfl ?aP (fun _ hk => hk.elim) ?aF ?aO ?aB ?aS ?aL ?_; (case aP => exact rfl); (case aB => exact hb_); (case aF => exact (fun _ _ => trivial)); (case aO => exact (by (with_reducible repeat (first | apply Kd.R_alloc | apply Kd.R_drewN | apply Kd.R_drew)); exact HO_8.out)); (case aS => exact (below_size hb_)); (case aL => have := LMc33.out; omega); intro v665 w40 ho hb hg hat; rw [← Ny664.out] at ho; have n0_ := Aside0.mk (blk_grown (g := gb653) (o := .cells #[.int .i64 a0_0, .int .i64 a0_1, .int .i64 a0_2, .slice A0_3 l0_3.length c0_3, .slice A0_4 l0_4.length c0_4] 27 (0, 0)) (by (with_reducible repeat (first | refine blk_drewN ?_ _ | refine blk_drew ?_ | refine blk_alloc ?_ _)); exact BK653.out) hg (Kd.R_ne HO_8.out BK653.out (by decide))); have n1_ := Aside0.mk (hb); have n2_ := Aside0.mk (ho); clear BK653; clear HB; clear HO_8; have BK653 := n0_; have HB := n1_; have HO666 := n2_; clear n0_ n1_ n2_; clear ho hb hg hat))
               go_roundg k2
               case measure => have := HJ3.out; have := HK2.out; omega
               case rel => exact ⟨(y664), (wrap64 (x28_2 + 1)), (by first | rfl | (simp; done) | (simp [*]; done)), H', ⟨by have := HJ3.out; have := HK2.out; omega⟩, ⟨by (with_reducible repeat (first | apply Kd.R_alloc | apply Kd.R_drewN | apply Kd.R_drew)); exact HO666.out⟩, ⟨by (with_reducible repeat (first | refine blk_drewN ?_ _ | refine blk_drew ?_ | refine blk_alloc ?_ _)); exact BK653.out⟩, ⟨hb_⟩⟩
              ·rw [if_neg c33] at H
               exact absurd H (by simp)
             ·replace c32 := Bool.eq_false_iff.mpr c32
              subst c32
              have H1 : (impl_ThreatsTo.l0 k2 l1 a2 x8_2 (rd_L1 l1 a2) ((rd_L1 l1 a2).length : Int) (wrap64 (x28_2 + 1)) a0_0 a0_1 a0_2 l0_3 l0_4) = some (r1, r2) := by rw [if_neg (show ¬ (false = true) by decide)] at H; exact H
              clear H
              have H := H1
              clear H1
              have H' := Aside0.mk H
              clear H
              have p660 : 0 ≤ (x28_2 : Int) := of_decide_eq_true (by first | (with_reducible assumption) | assumption)
              have q660 : x28_2 < ((rd_L1 l1 a2).length : Int) := of_decide_eq_true (by first | (with_reducible assumption) | assumption)
              obtain ⟨ad660, e660, hx660_0⟩ := Kd.at_int HR659_0.out x28_2 p660 q660
              cases e660
              replace hx660_0 := (HB.out.cell (World.block_lt_of_cell? w _ hx660_0)).trans hx660_0
              replace p660 := eq_true p660
              replace q660 := eq_true q660
              have hcz41_0 : wr.cell? ⟨gb653, 0, none⟩ = some (.int .i64 a0_0) := (blk_cell BK653.out 0).trans rfl
              have hcz41_1 : wr.cell? ⟨gb653, 1, none⟩ = some (.int .i64 a0_1) := (blk_cell BK653.out 1).trans rfl
              have hcz41_2 : wr.cell? ⟨gb653, 2, none⟩ = some (.int .i64 a0_2) := (blk_cell BK653.out 2).trans rfl
              have hcz41_3 : wr.cell? ⟨gb653, 3, none⟩ = some (.slice A0_3 l0_3.length c0_3) := (blk_cell BK653.out 3).trans rfl
              have hcz41_4 : wr.cell? ⟨gb653, 4, none⟩ = some (.slice A0_4 l0_4.length c0_4) := (blk_cell BK653.out 4).trans rfl
              have hfz41_0 := blk_frozen BK653.out 0
              have hfz41_1 := blk_frozen BK653.out 1
              have hfz41_2 := blk_frozen BK653.out 2
              have hfz41_3 := blk_frozen BK653.out 3
              have hfz41_4 := blk_frozen BK653.out 4
              go_wp2_with (first | ((with_reducible refine gate_callee (f := 72) rfl ?_); refine goesL_ (some 36) rfl rfl Try.func72 (by kernel_rfl) rfl #[.agg #[.int .i64 a0_0, .int .i64 a0_1, .int .i64 a0_2, .slice A0_3 l0_3.length c0_3, .slice A0_4 l0_4.length c0_4], .int .i64 a2, .int .i64 (rd (rd_L1 l1 a2) x28_2)] rfl (by (try simp only [List.map_toArray, List.map_cons, List.map_nil]); first | done | rfl | (simp only [List.length_drop, List.length_take]; rfl)) ?_; (with_reducible refine (impl_Track_square.calls a0_0 a0_1 a0_2 _ _ l0_3 _ _ l0_4 a2 (rd (rd_L1 l1 a2) x28_2) t661 _ ?side1 ?side2 ?side3 ?side4 A23.out).mono ?_); (case side1 => exact Kd.C_below HR0_3.out hb_); (case side2 => exact HC0_3.out); (case side3 => exact Kd.C_below HR0_4.out hb_); (case side4 => exact HC0_4.out); rintro e w42 ⟨rfl, hb⟩; refine ⟨_, rfl, ?_⟩; have n0_ := Aside0.mk (Kd.R_below (by (with_reducible repeat (first | apply Kd.R_alloc | apply Kd.R_drewN | apply Kd.R_drew)); exact HO_8.out) hb); have n1_ := Aside0.mk (blk_below (g := gb653) (o := .cells #[.int .i64 a0_0, .int .i64 a0_1, .int .i64 a0_2, .slice A0_3 l0_3.length c0_3, .slice A0_4 l0_4.length c0_4] 27 (0, 0)) (by (with_reducible repeat (first | refine blk_drewN ?_ _ | refine blk_drew ?_ | refine blk_alloc ?_ _)); exact BK653.out) hb); have n2_ := Aside0.mk (below_step hb_ hb); clear HO_8; clear BK653; clear HB; have HO_8 := n0_; have BK653 := n1_; have HB := n2_; clear n0_ n1_ n2_; (try clear hb); (try clear hb2); (try clear hk); (try clear hi); have hcz43_0 : w42.cell? ⟨gb653, 0, none⟩ = some (.int .i64 a0_0) := (blk_cell BK653.out 0).trans rfl; have hcz43_1 : w42.cell? ⟨gb653, 1, none⟩ = some (.int .i64 a0_1) := (blk_cell BK653.out 1).trans rfl; have hcz43_2 : w42.cell? ⟨gb653, 2, none⟩ = some (.int .i64 a0_2) := (blk_cell BK653.out 2).trans rfl; have hcz43_3 : w42.cell? ⟨gb653, 3, none⟩ = some (.slice A0_3 l0_3.length c0_3) := (blk_cell BK653.out 3).trans rfl; have hcz43_4 : w42.cell? ⟨gb653, 4, none⟩ = some (.slice A0_4 l0_4.length c0_4) := (blk_cell BK653.out 4).trans rfl; have hfz43_0 := blk_frozen BK653.out 0; have hfz43_1 := blk_frozen BK653.out 1; have hfz43_2 := blk_frozen BK653.out 2; have hfz43_3 := blk_frozen BK653.out 3; have hfz43_4 := blk_frozen BK653.out 4) | (go_at_call 89; (with_reducible refine (impl_Track_isSafe.calls k2 a0_0 a0_1 a0_2 _ _ l0_3 _ _ l0_4 t661 false _ ?side1 ?side2 ?side3 ?side4 A25.out).mono ?_); (case side1 => exact Kd.C_below HR0_3.out hb_); (case side2 => exact HC0_3.out); (case side3 => exact Kd.C_below HR0_4.out hb_); (case side4 => exact HC0_4.out); rintro e w44 ⟨rfl, hb⟩; have n0_ := Aside0.mk (Kd.R_below (by (with_reducible repeat (first | apply Kd.R_alloc | apply Kd.R_drewN | apply Kd.R_drew)); exact HO_8.out) hb); have n1_ := Aside0.mk (blk_below (g := gb653) (o := .cells #[.int .i64 a0_0, .int .i64 a0_1, .int .i64 a0_2, .slice A0_3 l0_3.length c0_3, .slice A0_4 l0_4.length c0_4] 27 (0, 0)) (by (with_reducible repeat (first | refine blk_drewN ?_ _ | refine blk_drew ?_ | refine blk_alloc ?_ _)); exact BK653.out) hb); have n2_ := Aside0.mk (below_step hb_ hb); clear HO_8; clear BK653; clear HB; have HO_8 := n0_; have BK653 := n1_; have HB := n2_; clear n0_ n1_ n2_; (try clear hb); (try clear hb2); (try clear hk); (try clear hi); have hcz45_0 : w44.cell? ⟨gb653, 0, none⟩ = some (.int .i64 a0_0) := (blk_cell BK653.out 0).trans rfl; have hcz45_1 : w44.cell? ⟨gb653, 1, none⟩ = some (.int .i64 a0_1) := (blk_cell BK653.out 1).trans rfl; have hcz45_2 : w44.cell? ⟨gb653, 2, none⟩ = some (.int .i64 a0_2) := (blk_cell BK653.out 2).trans rfl; have hcz45_3 : w44.cell? ⟨gb653, 3, none⟩ = some (.slice A0_3 l0_3.length c0_3) := (blk_cell BK653.out 3).trans rfl; have hcz45_4 : w44.cell? ⟨gb653, 4, none⟩ = some (.slice A0_4 l0_4.length c0_4) := (blk_cell BK653.out 4).trans rfl; have hfz45_0 := blk_frozen BK653.out 0; have hfz45_1 := blk_frozen BK653.out 1; have hfz45_2 := blk_frozen BK653.out 2; have hfz45_3 := blk_frozen BK653.out 3; have hfz45_4 := blk_frozen BK653.out 4) | (go_at_call 90; (with_reducible refine (impl_Track_isThreatened.calls k2 a0_0 a0_1 a0_2 _ _ l0_3 _ _ l0_4 _ _ l1 a2 t661 false _ ?side1 ?side2 ?side3 ?side4 ?side5 ?side6 A31.out).mono ?_); (case side1 => exact Kd.C_below HR0_3.out hb_); (case side2 => exact HC0_3.out); (case side3 => exact Kd.C_below HR0_4.out hb_); (case side4 => exact HC0_4.out); (case side5 => exact Kd.C_below HR1.out hb_); (case side6 => exact HC1.out); rintro e w46 ⟨rfl, hb⟩; have n0_ := Aside0.mk (Kd.R_below (by (with_reducible repeat (first | apply Kd.R_alloc | apply Kd.R_drewN | apply Kd.R_drew)); exact HO_8.out) hb); have n1_ := Aside0.mk (blk_below (g := gb653) (o := .cells #[.int .i64 a0_0, .int .i64 a0_1, .int .i64 a0_2, .slice A0_3 l0_3.length c0_3, .slice A0_4 l0_4.length c0_4] 27 (0, 0)) (by (with_reducible repeat (first | refine blk_drewN ?_ _ | refine blk_drew ?_ | refine blk_alloc ?_ _)); exact BK653.out) hb); have n2_ := Aside0.mk (below_step hb_ hb); clear HO_8; clear BK653; clear HB; have HO_8 := n0_; have BK653 := n1_; have HB := n2_; clear n0_ n1_ n2_; (try clear hb); (try clear hb2); (try clear hk); (try clear hi)))
              go_roundg k2
              case measure => have := HJ3.out; have := HK2.out; omega
              case rel => exact ⟨(x8_2), (wrap64 (x28_2 + 1)), (by first | rfl | (simp; done) | (simp [*]; done)), H', ⟨by have := HJ3.out; have := HK2.out; omega⟩, ⟨by (with_reducible repeat (first | apply Kd.R_alloc | apply Kd.R_drewN | apply Kd.R_drew)); exact HO_8.out⟩, ⟨by (with_reducible repeat (first | refine blk_drewN ?_ _ | refine blk_drew ?_ | refine blk_alloc ?_ _)); exact BK653.out⟩, ⟨hb_⟩⟩
           ·rw [if_neg c24] at H
            have c24b0 : decide (0 ≤ t661) = false := decide_eq_false c24
            clear c24
            have H' := Aside0.mk H
            clear H
            have p660 : 0 ≤ (x28_2 : Int) := of_decide_eq_true (by first | (with_reducible assumption) | assumption)
            have q660 : x28_2 < ((rd_L1 l1 a2).length : Int) := of_decide_eq_true (by first | (with_reducible assumption) | assumption)
            obtain ⟨ad660, e660, hx660_0⟩ := Kd.at_int HR659_0.out x28_2 p660 q660
            cases e660
            replace hx660_0 := (HB.out.cell (World.block_lt_of_cell? w _ hx660_0)).trans hx660_0
            replace p660 := eq_true p660
            replace q660 := eq_true q660
            have hcz47_0 : wr.cell? ⟨gb653, 0, none⟩ = some (.int .i64 a0_0) := (blk_cell BK653.out 0).trans rfl
            have hcz47_1 : wr.cell? ⟨gb653, 1, none⟩ = some (.int .i64 a0_1) := (blk_cell BK653.out 1).trans rfl
            have hcz47_2 : wr.cell? ⟨gb653, 2, none⟩ = some (.int .i64 a0_2) := (blk_cell BK653.out 2).trans rfl
            have hcz47_3 : wr.cell? ⟨gb653, 3, none⟩ = some (.slice A0_3 l0_3.length c0_3) := (blk_cell BK653.out 3).trans rfl
            have hcz47_4 : wr.cell? ⟨gb653, 4, none⟩ = some (.slice A0_4 l0_4.length c0_4) := (blk_cell BK653.out 4).trans rfl
            have hfz47_0 := blk_frozen BK653.out 0
            have hfz47_1 := blk_frozen BK653.out 1
            have hfz47_2 := blk_frozen BK653.out 2
            have hfz47_3 := blk_frozen BK653.out 3
            have hfz47_4 := blk_frozen BK653.out 4
            go_wp2_with (first | ((with_reducible refine gate_callee (f := 72) rfl ?_); refine goesL_ (some 36) rfl rfl Try.func72 (by kernel_rfl) rfl #[.agg #[.int .i64 a0_0, .int .i64 a0_1, .int .i64 a0_2, .slice A0_3 l0_3.length c0_3, .slice A0_4 l0_4.length c0_4], .int .i64 a2, .int .i64 (rd (rd_L1 l1 a2) x28_2)] rfl (by (try simp only [List.map_toArray, List.map_cons, List.map_nil]); first | done | rfl | (simp only [List.length_drop, List.length_take]; rfl)) ?_; (with_reducible refine (impl_Track_square.calls a0_0 a0_1 a0_2 _ _ l0_3 _ _ l0_4 a2 (rd (rd_L1 l1 a2) x28_2) t661 _ ?side1 ?side2 ?side3 ?side4 A23.out).mono ?_); (case side1 => exact Kd.C_below HR0_3.out hb_); (case side2 => exact HC0_3.out); (case side3 => exact Kd.C_below HR0_4.out hb_); (case side4 => exact HC0_4.out); rintro e w48 ⟨rfl, hb⟩; refine ⟨_, rfl, ?_⟩; have n0_ := Aside0.mk (Kd.R_below (by (with_reducible repeat (first | apply Kd.R_alloc | apply Kd.R_drewN | apply Kd.R_drew)); exact HO_8.out) hb); have n1_ := Aside0.mk (blk_below (g := gb653) (o := .cells #[.int .i64 a0_0, .int .i64 a0_1, .int .i64 a0_2, .slice A0_3 l0_3.length c0_3, .slice A0_4 l0_4.length c0_4] 27 (0, 0)) (by (with_reducible repeat (first | refine blk_drewN ?_ _ | refine blk_drew ?_ | refine blk_alloc ?_ _)); exact BK653.out) hb); have n2_ := Aside0.mk (below_step hb_ hb); clear HO_8; clear BK653; clear HB; have HO_8 := n0_; have BK653 := n1_; have HB := n2_; clear n0_ n1_ n2_; (try clear hb); (try clear hb2); (try clear hk); (try clear hi)))
            go_roundg k2
            case measure => have := HJ3.out; have := HK2.out; omega
            case rel => exact ⟨(x8_2), (wrap64 (x28_2 + 1)), (by first | rfl | (simp; done) | (simp [*]; done)), H', ⟨by have := HJ3.out; have := HK2.out; omega⟩, ⟨by (with_reducible repeat (first | apply Kd.R_alloc | apply Kd.R_drewN | apply Kd.R_drew)); exact HO_8.out⟩, ⟨by (with_reducible repeat (first | refine blk_drewN ?_ _ | refine blk_drew ?_ | refine blk_alloc ?_ _)); exact BK653.out⟩, ⟨hb_⟩⟩
          ·rw [if_neg c22] at H
           exact absurd H (by simp)
         ·rw [if_neg c21] at H
          exact absurd H (by simp)
        ·rw [if_neg c20] at H
         have c20b0 : decide (x28_2 < ((rd_L1 l1 a2).length : Int)) = false := decide_eq_false c20
         clear c20
         simp only [Option.some.injEq, Prod.mk.injEq] at H
         obtain ⟨rfl, rfl⟩ := H
         go_wp2
         go_ret2
         exact ⟨_, by first | rfl | (simp [errW_none, errW_some] <;> rfl) | (simp [*, errW_none, errW_some] <;> rfl), by (with_reducible repeat (first | apply Kd.R_alloc | apply Kd.R_drewN | apply Kd.R_drew)); exact HO_8.out, hb_⟩
     ·rw [if_neg c17] at H
      exact absurd H (by simp)
    ·rw [if_neg c16] at H
     exact absurd H (by simp)

end Go.Proofs.Ytcppahkdfajcaaa.P
