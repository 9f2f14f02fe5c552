-- written for this claim by a program of this session (wip/tools/xprint.py), which runs the kit's print with other cuts
import Derived.Test.YtcppahkdfajcaaaP
import Derived.Test.YtcppahkdfajcaaaP105
import Derived.Test.YtcppahkdfajcaaaP76
import Derived.Test.YtcppahkdfajcaaaP82
namespace Go.Proofs.Ytcppahkdfajcaaa.P
open Go.RowKit Go.Proofs.YtcppahkdfajcaaaW.PrintWords Go.Proofs.YtcppahkdfajcaaaW.PrintLast Go.Proofs.YtcppahkdfajcaaaW.PrintMore
attribute [local go_sem] max2_int min2_int max_two min_two max_three min_three max_four min_four   -- for this text's walks alone
set_option linter.unusedVariables false
set_option linter.unusedSimpArgs false

/-! ### impl_TokensToGo: function 50 -/
mutual
def impl_TokensToGo.j0 : Nat → List (List Int) → Int → Int → Bool → Int → Int → Int → List Int → List Int → Option (List Int × Bool)
 | 0, _, _, _, _, _, _, _, _, _ => none
 | k + 1, x1, x2, x3, x25, x609000, x609001, x609002, x609003, x609004 => if x25 = true then (some (([] : List Int), false)) else (if 0 ≤ x2 then (if x2 < (x1.length : Int) then (impl_TokensToGo.l0 k x3 (([] : List Int)) (rd_L1 x1 x2) ((rd_L1 x1 x2).length : Int) 0 x609000 x609001 x609002 x609003 x609004) else (none)) else (none))
def impl_TokensToGo.l0 : Nat → Int → List Int → List Int → Int → Int → Int → Int → Int → List Int → List Int → Option (List Int × Bool)
 | 0, _, _, _, _, _, _, _, _, _, _ => none
 | k + 1, x3, x10, x30, x31, x32, x609000, x609001, x609002, x609003, x609004 => if x32 < x31 then (if 0 ≤ x32 then (if x32 < (x30.length : Int) then ((impl_Track_goes.f x609000 x609001 x609002 x609003 x609004 (rd x30 x32) x3).bind fun bt616 => (if bt616.2 = true then (if x10.length < 17592186044416 then (impl_TokensToGo.l0 k x3 (x10 ++ [x32]) x30 x31 (wrap64 (x32 + 1)) x609000 x609001 x609002 x609003 x609004) else (none)) else (impl_TokensToGo.l0 k x3 x10 x30 x31 (wrap64 (x32 + 1)) x609000 x609001 x609002 x609003 x609004))) else (none)) else (none)) else (some (x10, true))
end
def impl_TokensToGo.f (k : Nat) (a0_0 : Int) (a0_1 : Int) (a0_2 : Int) (l0_3 : List Int) (l0_4 : List Int) (l1 : List (List Int)) (a2 : Int) (a3 : Int) : Option (List Int × Bool) := (impl_isTracked.f k a0_0 a0_1 a0_2 l0_3 l0_4 l1).bind fun t609 => (if t609 = true then ((impl_Track_isMove.f a0_0 a0_1 a0_2 l0_3 l0_4 a2 0 a3).bind fun t610 => (impl_TokensToGo.j0 k l1 a2 a3 (!t610) a0_0 a0_1 a0_2 l0_3 l0_4)) else (impl_TokensToGo.j0 k l1 a2 a3 true a0_0 a0_1 a0_2 l0_3 l0_4))
theorem impl_TokensToGo.mono_l : ∀ k, (∀ y0 y1 y2 y3 y4 y5 y6 y7 y8, LeO (impl_TokensToGo.j0 k y0 y1 y2 y3 y4 y5 y6 y7 y8) (impl_TokensToGo.j0 (k + 1) y0 y1 y2 y3 y4 y5 y6 y7 y8)) ∧ (∀ y0 y1 y2 y3 y4 y5 y6 y7 y8 y9, LeO (impl_TokensToGo.l0 k y0 y1 y2 y3 y4 y5 y6 y7 y8 y9) (impl_TokensToGo.l0 (k + 1) y0 y1 y2 y3 y4 y5 y6 y7 y8 y9))
 | 0 => ⟨fun _ _ _ _ _ _ _ _ _ r h => by simp [impl_TokensToGo.j0] at h, fun _ _ _ _ _ _ _ _ _ _ r h => by simp [impl_TokensToGo.l0] at h⟩
 | k + 1 => by
  obtain ⟨ih0, ih1⟩ := impl_TokensToGo.mono_l k
  refine ⟨?_, ?_⟩
  ·intro y0 y1 y2 y3 y4 y5 y6 y7 y8
   unfold impl_TokensToGo.j0
   repeat' first
   | (with_reducible exact ih0 _ _ _ _ _ _ _ _ _)
   | (with_reducible exact ih1 _ _ _ _ _ _ _ _ _ _)
   | (with_reducible exact impl_isTracked.mono _ _ _ _ _ _ _)
   | (with_reducible exact LeO.refl _)
   | (with_reducible exact LeO.none _)
   | (with_reducible refine LeO.ite ?_ ?_)
   | (with_reducible refine LeO.bind ?_ (fun _ => ?_))
   | exact ih0 _ _ _ _ _ _ _ _ _
   | exact ih1 _ _ _ _ _ _ _ _ _ _
   | exact impl_isTracked.mono _ _ _ _ _ _ _
   | exact LeO.none _
   | refine LeO.ite ?_ ?_
   | refine LeO.bind ?_ (fun _ => ?_)
  ·intro y0 y1 y2 y3 y4 y5 y6 y7 y8 y9
   unfold impl_TokensToGo.l0
   repeat' first
   | (with_reducible exact ih0 _ _ _ _ _ _ _ _ _)
   | (with_reducible exact ih1 _ _ _ _ _ _ _ _ _ _)
   | (with_reducible exact impl_isTracked.mono _ _ _ _ _ _ _)
   | (with_reducible exact LeO.refl _)
   | (with_reducible exact LeO.none _)
   | (with_reducible refine LeO.ite ?_ ?_)
   | (with_reducible refine LeO.bind ?_ (fun _ => ?_))
   | exact ih0 _ _ _ _ _ _ _ _ _
   | exact ih1 _ _ _ _ _ _ _ _ _ _
   | exact impl_isTracked.mono _ _ _ _ _ _ _
   | exact LeO.none _
   | refine LeO.ite ?_ ?_
   | refine LeO.bind ?_ (fun _ => ?_)
theorem impl_TokensToGo.mono : ∀ a0 a1 a2 a3 a4 a5 a6 a7 k, LeO (impl_TokensToGo.f k a0 a1 a2 a3 a4 a5 a6 a7) (impl_TokensToGo.f (k + 1) a0 a1 a2 a3 a4 a5 a6 a7) := by
 intro a0 a1 a2 a3 a4 a5 a6 a7 k
 obtain ⟨ih0, ih1⟩ := impl_TokensToGo.mono_l k
 unfold impl_TokensToGo.f
 repeat' first
   | (with_reducible exact ih0 _ _ _ _ _ _ _ _ _)
   | (with_reducible exact ih1 _ _ _ _ _ _ _ _ _ _)
   | (with_reducible exact impl_isTracked.mono _ _ _ _ _ _ _)
   | (with_reducible exact LeO.refl _)
   | (with_reducible exact LeO.none _)
   | (with_reducible refine LeO.ite ?_ ?_)
   | (with_reducible refine LeO.bind ?_ (fun _ => ?_))
   | exact ih0 _ _ _ _ _ _ _ _ _
   | exact ih1 _ _ _ _ _ _ _ _ _ _
   | exact impl_isTracked.mono _ _ _ _ _ _ _
   | exact LeO.none _
   | refine LeO.ite ?_ ?_
   | refine LeO.bind ?_ (fun _ => ?_)
set_option maxHeartbeats 8000000 in
set_option maxRecDepth 100000 in
theorem impl_TokensToGo.calls (k : Nat) (a0_0 : Int) (a0_1 : Int) (a0_2 : Int) (A0_3 : Option Addr) (c0_3 : Nat) (l0_3 : List Int) (A0_4 : Option Addr) (c0_4 : Nat) (l0_4 : List Int) (A1 : Option Addr) (c1 : Nat) (l1 : List (List Int)) (a2 : Int) (a3 : Int) (r1 : List Int) (r2 : Bool) (w : World) (hr0_3 : Kd.C (Kd.int .i64) w A0_3 l0_3.length l0_3) (hc0_3 : l0_3.length ≤ c0_3) (hr0_4 : Kd.C (Kd.int .i64) w A0_4 l0_4.length l0_4) (hc0_4 : l0_4.length ≤ c0_4) (hr1 : Kd.C (Kd.slice 3 (Kd.int .i64)) w A1 l1.length l1) (hc1 : l1.length ≤ c1) (h : impl_TokensToGo.f k a0_0 a0_1 a0_2 l0_3 l0_4 l1 a2 a3 = some (r1, r2)) :
  Calls Try.prog 50 #[.agg #[.int .i64 a0_0, .int .i64 a0_1, .int .i64 a0_2, .slice A0_3 l0_3.length c0_3, .slice A0_4 l0_4.length c0_4], .slice A1 l1.length c1, .int .i64 a2, .int .i64 a3] w fun e w' => ∃ v0_ : Value, e = .returned (.tuple #[v0_, .bool r2]) ∧ Kd.R (Kd.int .i64) 3 w' w.heap.size (fun _ => True) v0_ r1 ∧ Below w.heap.size w w' := by
 have hu27 := Try.underlying27
 have HR0_3 := Aside0.mk hr0_3
 have HC0_3 := Aside0.mk hc0_3
 clear hr0_3 hc0_3
 have HR0_4 := Aside0.mk hr0_4
 have HC0_4 := Aside0.mk hc0_4
 clear hr0_4 hc0_4
 have HR1 := Aside0.mk hr1
 have HC1 := Aside0.mk hc1
 clear hr1 hc1
 have HB := Aside0.mk (Below.refl w.heap.size w)
 have H : ((impl_isTracked.f k a0_0 a0_1 a0_2 l0_3 l0_4 l1).bind fun t609 => (if t609 = true then ((impl_Track_isMove.f a0_0 a0_1 a0_2 l0_3 l0_4 a2 0 a3).bind fun t610 => (impl_TokensToGo.j0 k l1 a2 a3 (!t610) a0_0 a0_1 a0_2 l0_3 l0_4)) else (impl_TokensToGo.j0 k l1 a2 a3 true a0_0 a0_1 a0_2 l0_3 l0_4))) = some (r1, r2) := h
 clear h
 have HC5 := Aside0.mk H
 clear H
 go_enter Try.func50, Try.ntmps50
 go_upto_region 1 with (first | ((with_reducible refine gate_dst (N := 4) rfl ?_); refine box_event ?hg (N := 4) ?hd (cs := #[.int .i64 a0_0, .int .i64 a0_1, .int .i64 a0_2, .slice A0_3 l0_3.length c0_3, .slice A0_4 l0_4.length c0_4]) (t := 27) ?hr ?_; (case hd => rfl); (case hg => rfl); (case hr => first | (go_simp; done) | (go_simp; rfl)); intro gb608 hg w6 hbox hb; have n0_ := Aside0.mk (below_step hb_ hb); have n1_ := Aside0.mk (hbox); have n2_ := Aside0.mk ((by rw [hg]; exact (below_size hb_) : w.heap.size ≤ gb608)); have n3_ := Aside0.mk ((by rw [hg]; exact (below_size hb_) : w.heap.size ≤ gb608)); clear HB; have HB := n0_; have BK608 := n1_; have GW608 := n2_; have GE608 := n3_; clear n0_ n1_ n2_ n3_; clear hb hbox hg))
 (try simp only [Act.put, List.setIfInBounds_toArray, List.set_cons_zero, List.set_cons_succ])
 go_cut [25] (fun v25 wc => ∃ (kq : Nat) (x25_4 : Bool), v25 = .bool x25_4 ∧ Aside0 (impl_TokensToGo.j0 kq l1 a2 a3 x25_4 a0_0 a0_1 a0_2 l0_3 l0_4 = some (r1, r2)) ∧ Aside0 (kq ≤ k) ∧ Aside0 (wc.heap[gb608]? = some (.cells #[.int .i64 a0_0, .int .i64 a0_1, .int .i64 a0_2, (.slice A0_3 l0_3.length c0_3), (.slice A0_4 l0_4.length c0_4)] 27 (0, 0))) ∧ Aside0 (Below w.heap.size w wc))
 case first =>
  have H := HC5.out
  clear HC5
  replace H := Option.bind_eq_some_iff.mp H
  obtain ⟨t609, A70, H⟩ := H
  replace H : (if t609 = true then ((impl_Track_isMove.f a0_0 a0_1 a0_2 l0_3 l0_4 a2 0 a3).bind fun t610 => (impl_TokensToGo.j0 k l1 a2 a3 (!t610) a0_0 a0_1 a0_2 l0_3 l0_4)) else (impl_TokensToGo.j0 k l1 a2 a3 true a0_0 a0_1 a0_2 l0_3 l0_4)) = some (r1, r2) := H
  have A7 := Aside0.mk A70
  clear A70
  by_cases c8 : t609 = true
  ·subst c8
   have H1 : ((impl_Track_isMove.f a0_0 a0_1 a0_2 l0_3 l0_4 a2 0 a3).bind fun t610 => (impl_TokensToGo.j0 k l1 a2 a3 (!t610) a0_0 a0_1 a0_2 l0_3 l0_4)) = some (r1, r2) := by rw [if_pos rfl] at H; exact H
   clear H
   have H := H1
   clear H1
   replace H := Option.bind_eq_some_iff.mp H
   obtain ⟨t610, A90, H⟩ := H
   replace H : (impl_TokensToGo.j0 k l1 a2 a3 (!t610) a0_0 a0_1 a0_2 l0_3 l0_4) = some (r1, r2) := H
   have A9 := Aside0.mk A90
   clear A90
   have H' := Aside0.mk H
   clear H
   have hcz10_0 : w6.cell? ⟨gb608, 0, none⟩ = some (.int .i64 a0_0) := (blk_cell BK608.out 0).trans rfl
   have hcz10_1 : w6.cell? ⟨gb608, 1, none⟩ = some (.int .i64 a0_1) := (blk_cell BK608.out 1).trans rfl
   have hcz10_2 : w6.cell? ⟨gb608, 2, none⟩ = some (.int .i64 a0_2) := (blk_cell BK608.out 2).trans rfl
   have hcz10_3 : w6.cell? ⟨gb608, 3, none⟩ = some (.slice A0_3 l0_3.length c0_3) := (blk_cell BK608.out 3).trans rfl
   have hcz10_4 : w6.cell? ⟨gb608, 4, none⟩ = some (.slice A0_4 l0_4.length c0_4) := (blk_cell BK608.out 4).trans rfl
   have hfz10_0 := blk_frozen BK608.out 0
   have hfz10_1 := blk_frozen BK608.out 1
   have hfz10_2 := blk_frozen BK608.out 2
   have hfz10_3 := blk_frozen BK608.out 3
   have hfz10_4 := blk_frozen BK608.out 4
   go_wp2_with (first | ((with_reducible refine gate_callee (f := 76) rfl ?_); refine goesL_ (some 17) rfl rfl Try.func76 (by kernel_rfl) rfl #[.agg #[.int .i64 a0_0, .int .i64 a0_1, .int .i64 a0_2, .slice A0_3 l0_3.length c0_3, .slice A0_4 l0_4.length c0_4], .slice A1 l1.length c1] rfl (by (try simp only [List.map_toArray, List.map_cons, List.map_nil]); first | done | rfl | (simp only [List.length_drop, List.length_take]; rfl)) ?_; (with_reducible refine (impl_isTracked.calls k a0_0 a0_1 a0_2 _ _ l0_3 _ _ l0_4 _ _ l1 true _ ?side1 ?side2 ?side3 ?side4 ?side5 ?side6 A7.out).mono ?_); (case side1 => exact Kd.C_below HR0_3.out hb_); (case side2 => exact HC0_3.out); (case side3 => exact Kd.C_below HR0_4.out hb_); (case side4 => exact HC0_4.out); (case side5 => exact Kd.C_below HR1.out hb_); (case side6 => exact HC1.out); rintro e w11 ⟨rfl, hb⟩; refine ⟨_, rfl, ?_⟩; have n0_ := Aside0.mk (blk_below (g := gb608) (o := .cells #[.int .i64 a0_0, .int .i64 a0_1, .int .i64 a0_2, .slice A0_3 l0_3.length c0_3, .slice A0_4 l0_4.length c0_4] 27 (0, 0)) (by (with_reducible repeat (first | refine blk_drewN ?_ _ | refine blk_drew ?_ | refine blk_alloc ?_ _)); exact BK608.out) hb); have n1_ := Aside0.mk (below_step hb_ hb); clear BK608; clear HB; have BK608 := n0_; have HB := n1_; clear n0_ n1_; (try clear hb); (try clear hb2); (try clear hk); (try clear hi); have hcz12_0 : w11.cell? ⟨gb608, 0, none⟩ = some (.int .i64 a0_0) := (blk_cell BK608.out 0).trans rfl; have hcz12_1 : w11.cell? ⟨gb608, 1, none⟩ = some (.int .i64 a0_1) := (blk_cell BK608.out 1).trans rfl; have hcz12_2 : w11.cell? ⟨gb608, 2, none⟩ = some (.int .i64 a0_2) := (blk_cell BK608.out 2).trans rfl; have hcz12_3 : w11.cell? ⟨gb608, 3, none⟩ = some (.slice A0_3 l0_3.length c0_3) := (blk_cell BK608.out 3).trans rfl; have hcz12_4 : w11.cell? ⟨gb608, 4, none⟩ = some (.slice A0_4 l0_4.length c0_4) := (blk_cell BK608.out 4).trans rfl; have hfz12_0 := blk_frozen BK608.out 0; have hfz12_1 := blk_frozen BK608.out 1; have hfz12_2 := blk_frozen BK608.out 2; have hfz12_3 := blk_frozen BK608.out 3; have hfz12_4 := blk_frozen BK608.out 4) | (go_at_call 83; (with_reducible refine (impl_Track_isMove.calls a0_0 a0_1 a0_2 _ _ l0_3 _ _ l0_4 a2 0 a3 t610 _ ?side1 ?side2 ?side3 ?side4 A9.out).mono ?_); (case side1 => exact Kd.C_below HR0_3.out hb_); (case side2 => exact HC0_3.out); (case side3 => exact Kd.C_below HR0_4.out hb_); (case side4 => exact HC0_4.out); rintro e w13 ⟨rfl, hb⟩; have n0_ := Aside0.mk (blk_below (g := gb608) (o := .cells #[.int .i64 a0_0, .int .i64 a0_1, .int .i64 a0_2, .slice A0_3 l0_3.length c0_3, .slice A0_4 l0_4.length c0_4] 27 (0, 0)) (by (with_reducible repeat (first | refine blk_drewN ?_ _ | refine blk_drew ?_ | refine blk_alloc ?_ _)); exact BK608.out) hb); have n1_ := Aside0.mk (below_step hb_ hb); clear BK608; clear HB; have BK608 := n0_; have HB := n1_; clear n0_ n1_; (try clear hb); (try clear hb2); (try clear hk); (try clear hi)))
   go_meet
   case rel => exact ⟨_, (!t610), (by first | rfl | (simp; done) | (simp [*]; done)), H', ⟨by first | omega | exact Nat.le_refl _⟩, ⟨by (with_reducible repeat (first | refine blk_drewN ?_ _ | refine blk_drew ?_ | refine blk_alloc ?_ _)); exact BK608.out⟩, ⟨hb_⟩⟩
  ·replace c8 := Bool.eq_false_iff.mpr c8
   subst c8
   have H1 : (impl_TokensToGo.j0 k l1 a2 a3 true a0_0 a0_1 a0_2 l0_3 l0_4) = some (r1, r2) := by rw [if_neg (show ¬ (false = true) by decide)] at H; exact H
   clear H
   have H := H1
   clear H1
   have H' := Aside0.mk H
   clear H
   have hcz14_0 : w6.cell? ⟨gb608, 0, none⟩ = some (.int .i64 a0_0) := (blk_cell BK608.out 0).trans rfl
   have hcz14_1 : w6.cell? ⟨gb608, 1, none⟩ = some (.int .i64 a0_1) := (blk_cell BK608.out 1).trans rfl
   have hcz14_2 : w6.cell? ⟨gb608, 2, none⟩ = some (.int .i64 a0_2) := (blk_cell BK608.out 2).trans rfl
   have hcz14_3 : w6.cell? ⟨gb608, 3, none⟩ = some (.slice A0_3 l0_3.length c0_3) := (blk_cell BK608.out 3).trans rfl
   have hcz14_4 : w6.cell? ⟨gb608, 4, none⟩ = some (.slice A0_4 l0_4.length c0_4) := (blk_cell BK608.out 4).trans rfl
   have hfz14_0 := blk_frozen BK608.out 0
   have hfz14_1 := blk_frozen BK608.out 1
   have hfz14_2 := blk_frozen BK608.out 2
   have hfz14_3 := blk_frozen BK608.out 3
   have hfz14_4 := blk_frozen BK608.out 4
   go_wp2_with (first | ((with_reducible refine gate_callee (f := 76) rfl ?_); refine goesL_ (some 17) rfl rfl Try.func76 (by kernel_rfl) rfl #[.agg #[.int .i64 a0_0, .int .i64 a0_1, .int .i64 a0_2, .slice A0_3 l0_3.length c0_3, .slice A0_4 l0_4.length c0_4], .slice A1 l1.length c1] rfl (by (try simp only [List.map_toArray, List.map_cons, List.map_nil]); first | done | rfl | (simp only [List.length_drop, List.length_take]; rfl)) ?_; (with_reducible refine (impl_isTracked.calls k a0_0 a0_1 a0_2 _ _ l0_3 _ _ l0_4 _ _ l1 false _ ?side1 ?side2 ?side3 ?side4 ?side5 ?side6 A7.out).mono ?_); (case side1 => exact Kd.C_below HR0_3.out hb_); (case side2 => exact HC0_3.out); (case side3 => exact Kd.C_below HR0_4.out hb_); (case side4 => exact HC0_4.out); (case side5 => exact Kd.C_below HR1.out hb_); (case side6 => exact HC1.out); rintro e w15 ⟨rfl, hb⟩; refine ⟨_, rfl, ?_⟩; have n0_ := Aside0.mk (blk_below (g := gb608) (o := .cells #[.int .i64 a0_0, .int .i64 a0_1, .int .i64 a0_2, .slice A0_3 l0_3.length c0_3, .slice A0_4 l0_4.length c0_4] 27 (0, 0)) (by (with_reducible repeat (first | refine blk_drewN ?_ _ | refine blk_drew ?_ | refine blk_alloc ?_ _)); exact BK608.out) hb); have n1_ := Aside0.mk (below_step hb_ hb); clear BK608; clear HB; have BK608 := n0_; have HB := n1_; clear n0_ n1_; (try clear hb); (try clear hb2); (try clear hk); (try clear hi)))
   go_meet
   case rel => exact ⟨_, (true), (by first | rfl | (simp; done) | (simp [*]; done)), H', ⟨by first | omega | exact Nat.le_refl _⟩, ⟨by (with_reducible repeat (first | refine blk_drewN ?_ _ | refine blk_drew ?_ | refine blk_alloc ?_ _)); exact BK608.out⟩, ⟨hb_⟩⟩
 case rest =>
  clear HC5
  try clear c1
  try clear p2
  try clear c5
  try clear c7
  try clear c8
  try clear hcz10_0
  try clear hcz10_1
  try clear hcz10_2
  try clear hcz10_3
  try clear hcz10_4
  try clear hcz12_0
  try clear hcz12_1
  try clear hcz12_2
  try clear hcz12_3
  try clear hcz12_4
  try clear hcz14_0
  try clear hcz14_1
  try clear hcz14_2
  try clear hcz14_3
  try clear hcz14_4
  try clear hfz10_0
  try clear hfz10_1
  try clear hfz10_2
  try clear hfz10_3
  try clear hfz10_4
  try clear hfz12_0
  try clear hfz12_1
  try clear hfz12_2
  try clear hfz12_3
  try clear hfz12_4
  try clear hfz14_0
  try clear hfz14_1
  try clear hfz14_2
  try clear hfz14_3
  try clear hfz14_4
  obtain ⟨kq, x25_4, rfl, HA, HJ4, BK608, HB⟩ := hcut
  cases kq with
  | zero => exact absurd HA.out (by simp [impl_TokensToGo.j0])
  | succ kj4 =>
   have H := HA.out
   clear HA
   simp only [impl_TokensToGo.j0] at H
   by_cases c16 : x25_4 = true
   ·subst c16
    have H1 : (some (([] : List Int), false)) = some (r1, r2) := by rw [if_pos rfl] at H; exact H
    clear H
    have H := H1
    clear H1
    simp only [Option.some.injEq, Prod.mk.injEq] at H
    obtain ⟨rfl, rfl⟩ := H
    go_wp2
    go_ret2
    exact ⟨_, by first | rfl | (simp [errW_none, errW_some] <;> rfl) | (simp [*, errW_none, errW_some] <;> rfl), by first | exact Kd.R_nil _ _ _ _ _ | exact Kd.N_nil _ _ _ _ _ | exact Kd.V_nil _ _ _ _ _ | exact Kd.Q_nil _ _ _ _ _ | exact Kd.S_nil _ _ _ _ _, hb_⟩
   ·replace c16 := Bool.eq_false_iff.mpr c16
    subst c16
    have H1 : (if 0 ≤ a2 then (if a2 < (l1.length : Int) then (impl_TokensToGo.l0 kj4 a3 (([] : List Int)) (rd_L1 l1 a2) ((rd_L1 l1 a2).length : Int) 0 a0_0 a0_1 a0_2 l0_3 l0_4) else (none)) else (none)) = some (r1, r2) := by rw [if_neg (show ¬ (false = true) by decide)] at H; exact H
    clear H
    have H := H1
    clear H1
    obtain ⟨y611, hy611⟩ : ∃ y_ : List Int, y_ = (([] : List Int)) := ⟨_, rfl⟩
    replace H : (if 0 ≤ a2 then (if a2 < (l1.length : Int) then (impl_TokensToGo.l0 kj4 a3 y611 (rd_L1 l1 a2) ((rd_L1 l1 a2).length : Int) 0 a0_0 a0_1 a0_2 l0_3 l0_4) else (none)) else (none)) = some (r1, r2) := by first | (rw [hy611]; with_reducible exact H) | (have H2_ := (Option.bind_some _ _).symm.trans H; rw [hy611]; with_reducible exact H2_) | (have H2_ := (Option.bind_some _ _).symm.trans H; with_reducible exact H2_) | with_reducible exact H | (rw [hy611]; exact H) | exact H
    have Ny611 := Aside0.mk hy611
    clear hy611
    by_cases c17 : 0 ≤ a2
    ·rw [if_pos c17] at H
     have c17b0 : decide (0 ≤ a2) = true := decide_eq_true c17
     clear c17
     by_cases c18 : a2 < (l1.length : Int)
     ·rw [if_pos c18] at H
      have c18b0 : decide (a2 < (l1.length : Int)) = true := decide_eq_true c18
      clear c18
      have H' := Aside0.mk H
      clear H
      go_wp2_with (first | ((with_reducible refine gate_dst (N := 26) rfl ?_); refine Kd.R_lit (Kd.int .i64) _ 3 ?hg (N := 26) ?hd (xs := ([] : List Int)) (inner := []) (ok := fun _ => True) (okp := fun _ => True) ?hr ?hp (fun _ hk => hk) trivial (Below.refl _ _) (Nat.le_refl _) (by simp) ?_; (case hd => rfl); (case hg => rfl); (case hr => first | (go_simp; done) | (go_simp; rfl)); (case hp => exact (Reps.none _ _)); intro v612 w19 ho20 hb hg_ hnew_; clear hg_ hnew_; (first | rw [← Ny611.out] at ho20 | (simp only [Int.reduceToNat] at ho20; rw [← Ny611.out] at ho20)); have n0_ := Aside0.mk (Kd.R_lower ho20 (below_size hb_)); have n1_ := Aside0.mk (blk_below (g := gb608) (o := .cells #[.int .i64 a0_0, .int .i64 a0_1, .int .i64 a0_2, .slice A0_3 l0_3.length c0_3, .slice A0_4 l0_4.length c0_4] 27 (0, 0)) (by (with_reducible repeat (first | refine blk_drewN ?_ _ | refine blk_drew ?_ | refine blk_alloc ?_ _)); exact BK608.out) hb); have n2_ := Aside0.mk (below_step hb_ hb); clear BK608; clear HB; have HO613 := n0_; have BK608 := n1_; have HB := n2_; clear n0_ n1_ n2_; clear hb ho20; have p614 : 0 ≤ (a2 : Int) := of_decide_eq_true (by first | (with_reducible assumption) | assumption); have q614 : a2 < (l1.length : Int) := of_decide_eq_true (by first | (with_reducible assumption) | assumption); obtain ⟨ad614, A614_0, c614_0, e614, hx614_0, hl614_0, hi614_0⟩ := at_L1 HR1.out a2 p614 q614; cases e614; replace hx614_0 := (HB.out.cell (World.block_lt_of_cell? w _ hx614_0)).trans hx614_0; have HR614_0 := Aside0.mk hi614_0; have HC614_0 := Aside0.mk hl614_0; clear hi614_0 hl614_0; replace p614 := eq_true p614; replace q614 := eq_true q614))
      go_loopg [10, 32] kj4 (fun kq v10 v32 w' => ∃ (x10_2 : List Int) (x32_2 : Int), v32 = .int .i64 x32_2 ∧ Aside0 (impl_TokensToGo.l0 kq a3 x10_2 (rd_L1 l1 a2) ((rd_L1 l1 a2).length : Int) x32_2 a0_0 a0_1 a0_2 l0_3 l0_4 = some (r1, r2)) ∧ Aside0 (kq ≤ kj4) ∧ Aside0 (Kd.R (Kd.int .i64) 3 w' w.heap.size (fun _ => True) v10 x10_2) ∧ Aside0 (w'.heap[gb608]? = some (.cells #[.int .i64 a0_0, .int .i64 a0_1, .int .i64 a0_2, (.slice A0_3 l0_3.length c0_3), (.slice A0_4 l0_4.length c0_4)] 27 (0, 0))) ∧ Aside0 (Below w.heap.size w w'))
      case atStart => exact ⟨(y611), (0), (by first | rfl | (simp; done) | (simp [*]; done)), H', ⟨Nat.le_refl _⟩, ⟨by (with_reducible repeat (first | apply Kd.R_alloc | apply Kd.R_drewN | apply Kd.R_drew)); exact HO613.out⟩, ⟨by (with_reducible repeat (first | refine blk_drewN ?_ _ | refine blk_drew ?_ | refine blk_alloc ?_ _)); exact BK608.out⟩, ⟨hb_⟩⟩
      case round =>
       clear H'
       try clear c1
       try clear p2
       try clear c5
       try clear c6
       try clear p6
       try clear q6
       try clear hx6
       try clear c7
       try clear c8
       try clear c16
       try clear c17
       try clear c17b0
       try clear c18
       try clear c18b0
       try clear hcz10_0
       try clear hcz10_1
       try clear hcz10_2
       try clear hcz10_3
       try clear hcz10_4
       try clear hcz12_0
       try clear hcz12_1
       try clear hcz12_2
       try clear hcz12_3
       try clear hcz12_4
       try clear hcz14_0
       try clear hcz14_1
       try clear hcz14_2
       try clear hcz14_3
       try clear hcz14_4
       try clear hfz10_0
       try clear hfz10_1
       try clear hfz10_2
       try clear hfz10_3
       try clear hfz10_4
       try clear hfz12_0
       try clear hfz12_1
       try clear hfz12_2
       try clear hfz12_3
       try clear hfz12_4
       try clear hfz14_0
       try clear hfz14_1
       try clear hfz14_2
       try clear hfz14_3
       try clear hfz14_4
       try clear hx614_0
       try clear p2
       try clear p614
       try clear q614
       obtain ⟨x10_2, x32_2, rfl, HA, HK2, HO_10, BK608, HB⟩ := hrel
       cases gk with
       | zero => exact absurd HA.out (by simp [impl_TokensToGo.l0])
       | succ k2 =>
        have H := HA.out
        clear HA
        simp only [impl_TokensToGo.l0] at H
        by_cases c21 : x32_2 < ((rd_L1 l1 a2).length : Int)
        ·rw [if_pos c21] at H
         have c21b0 : decide (x32_2 < ((rd_L1 l1 a2).length : Int)) = true := decide_eq_true c21
         clear c21
         by_cases c22 : 0 ≤ x32_2
         ·rw [if_pos c22] at H
          have c22b0 : decide (0 ≤ x32_2) = true := decide_eq_true c22
          clear c22
          by_cases c23 : x32_2 < ((rd_L1 l1 a2).length : Int)
          ·rw [if_pos c23] at H
           have c23b0 : decide (x32_2 < ((rd_L1 l1 a2).length : Int)) = true := decide_eq_true c23
           clear c23
           replace H := Option.bind_eq_some_iff.mp H
           obtain ⟨⟨t616, t617⟩, A240, H⟩ := H
           replace H : (if t617 = true then (if x10_2.length < 17592186044416 then (impl_TokensToGo.l0 k2 a3 (x10_2 ++ [x32_2]) (rd_L1 l1 a2) ((rd_L1 l1 a2).length : Int) (wrap64 (x32_2 + 1)) a0_0 a0_1 a0_2 l0_3 l0_4) else (none)) else (impl_TokensToGo.l0 k2 a3 x10_2 (rd_L1 l1 a2) ((rd_L1 l1 a2).length : Int) (wrap64 (x32_2 + 1)) a0_0 a0_1 a0_2 l0_3 l0_4)) = some (r1, r2) := H
           have A24 := Aside0.mk A240
           clear A240
           by_cases c25 : t617 = true
           ·subst c25
            have H1 : (if x10_2.length < 17592186044416 then (impl_TokensToGo.l0 k2 a3 (x10_2 ++ [x32_2]) (rd_L1 l1 a2) ((rd_L1 l1 a2).length : Int) (wrap64 (x32_2 + 1)) a0_0 a0_1 a0_2 l0_3 l0_4) else (none)) = some (r1, r2) := by rw [if_pos rfl] at H; exact H
            clear H
            have H := H1
            clear H1
            by_cases c26 : x10_2.length < 17592186044416
            ·rw [if_pos c26] at H
             have LMc26 := Aside0.mk c26
             clear c26
             obtain ⟨y618, hy618⟩ : ∃ y_ : List Int, y_ = (x10_2 ++ [x32_2]) := ⟨_, rfl⟩
             replace H : (impl_TokensToGo.l0 k2 a3 y618 (rd_L1 l1 a2) ((rd_L1 l1 a2).length : Int) (wrap64 (x32_2 + 1)) a0_0 a0_1 a0_2 l0_3 l0_4) = some (r1, r2) := by first | (rw [hy618]; with_reducible exact H) | (have H2_ := (Option.bind_some _ _).symm.trans H; rw [hy618]; with_reducible exact H2_) | (have H2_ := (Option.bind_some _ _).symm.trans H; with_reducible exact H2_) | with_reducible exact H | (rw [hy618]; exact H) | exact H
             have Ny618 := Aside0.mk hy618
             clear hy618
             have H' := Aside0.mk H
             clear H
             have p615 : 0 ≤ (x32_2 : Int) := of_decide_eq_true (by first | (with_reducible assumption) | assumption)
             have q615 : x32_2 < ((rd_L1 l1 a2).length : Int) := of_decide_eq_true (by first | (with_reducible assumption) | assumption)
             obtain ⟨ad615, e615, hx615_0⟩ := Kd.at_int HR614_0.out x32_2 p615 q615
             cases e615
             replace hx615_0 := (HB.out.cell (World.block_lt_of_cell? w _ hx615_0)).trans hx615_0
             replace p615 := eq_true p615
             replace q615 := eq_true q615
             have hcz27_0 : wr.cell? ⟨gb608, 0, none⟩ = some (.int .i64 a0_0) := (blk_cell BK608.out 0).trans rfl
             have hcz27_1 : wr.cell? ⟨gb608, 1, none⟩ = some (.int .i64 a0_1) := (blk_cell BK608.out 1).trans rfl
             have hcz27_2 : wr.cell? ⟨gb608, 2, none⟩ = some (.int .i64 a0_2) := (blk_cell BK608.out 2).trans rfl
             have hcz27_3 : wr.cell? ⟨gb608, 3, none⟩ = some (.slice A0_3 l0_3.length c0_3) := (blk_cell BK608.out 3).trans rfl
             have hcz27_4 : wr.cell? ⟨gb608, 4, none⟩ = some (.slice A0_4 l0_4.length c0_4) := (blk_cell BK608.out 4).trans rfl
             have hfz27_0 := blk_frozen BK608.out 0
             have hfz27_1 := blk_frozen BK608.out 1
             have hfz27_2 := blk_frozen BK608.out 2
             have hfz27_3 := blk_frozen BK608.out 3
             have hfz27_4 := blk_frozen BK608.out 4
             go_wp2_with (first | ((with_reducible refine gate_callee (f := 84) rfl ?_); refine goesL_ (some 41) rfl rfl Try.func84 (by kernel_rfl) rfl #[.agg #[.int .i64 a0_0, .int .i64 a0_1, .int .i64 a0_2, .slice A0_3 l0_3.length c0_3, .slice A0_4 l0_4.length c0_4], .int .i64 (rd (rd_L1 l1 a2) x32_2), .int .i64 a3] rfl (by (try simp only [List.map_toArray, List.map_cons, List.map_nil]); first | done | rfl | (simp only [List.length_drop, List.length_take]; rfl)) ?_; (with_reducible refine (impl_Track_goes.calls a0_0 a0_1 a0_2 _ _ l0_3 _ _ l0_4 (rd (rd_L1 l1 a2) x32_2) a3 t616 true _ ?side1 ?side2 ?side3 ?side4 A24.out).mono ?_); (case side1 => exact Kd.C_below HR0_3.out hb_); (case side2 => exact HC0_3.out); (case side3 => exact Kd.C_below HR0_4.out hb_); (case side4 => exact HC0_4.out); rintro e w28 ⟨rfl, hb⟩; refine ⟨_, rfl, ?_⟩; have n0_ := Aside0.mk (Kd.R_below (by (with_reducible repeat (first | apply Kd.R_alloc | apply Kd.R_drewN | apply Kd.R_drew)); exact HO_10.out) hb); have n1_ := Aside0.mk (blk_below (g := gb608) (o := .cells #[.int .i64 a0_0, .int .i64 a0_1, .int .i64 a0_2, .slice A0_3 l0_3.length c0_3, .slice A0_4 l0_4.length c0_4] 27 (0, 0)) (by (with_reducible repeat (first | refine blk_drewN ?_ _ | refine blk_drew ?_ | refine blk_alloc ?_ _)); exact BK608.out) hb); have n2_ := Aside0.mk (below_step hb_ hb); clear HO_10; clear BK608; clear HB; have HO_10 := n0_; have BK608 := n1_; have HB := n2_; clear n0_ n1_ n2_; (try clear hb); (try clear hb2); (try clear hk); (try clear hi)) | ((with_reducible refine gate_builtin (b := .append) (xs := #[.tmp 45, .tmp 47]) rfl ?_); at_builtin; refine Kd.R_append (Kd.int .i64) (w0 := w) w.heap.size rfl (.tmp 45) (.tmp 47) 22 3 (.int .i64 0) 8 rfl Try.underlying22 info3 rfl (by decide) (by omega) u10 x10_2 x32_2 [.int .i64 x32_2] (fun _ => True) (fun _ => False) rfl rfl ?aP (fun _ hk => hk.elim) ?aF ?aO ?aB ?aS ?aL ?_; (case aP => exact rfl); (case aB => exact hb_); (case aF => exact (fun _ _ => trivial)); (case aO => exact (by (with_reducible repeat (first | apply Kd.R_alloc | apply Kd.R_drewN | apply Kd.R_drew)); exact HO_10.out)); (case aS => exact (below_size hb_)); (case aL => have := LMc26.out; omega); intro v619 w29 ho hb hg hat; rw [← Ny618.out] at ho; have n0_ := Aside0.mk (blk_grown (g := gb608) (o := .cells #[.int .i64 a0_0, .int .i64 a0_1, .int .i64 a0_2, .slice A0_3 l0_3.length c0_3, .slice A0_4 l0_4.length c0_4] 27 (0, 0)) (by (with_reducible repeat (first | refine blk_drewN ?_ _ | refine blk_drew ?_ | refine blk_alloc ?_ _)); exact BK608.out) hg (Kd.R_ne HO_10.out BK608.out (by decide))); have n1_ := Aside0.mk (hb); have n2_ := Aside0.mk (ho); clear BK608; clear HB; clear HO_10; have BK608 := n0_; have HB := n1_; have HO620 := n2_; clear n0_ n1_ n2_; clear ho hb hg hat))
             go_roundg k2
             case measure => have := HJ4.out; have := HK2.out; omega
             case rel => exact ⟨(y618), (wrap64 (x32_2 + 1)), (by first | rfl | (simp; done) | (simp [*]; done)), H', ⟨by have := HJ4.out; have := HK2.out; omega⟩, ⟨by (with_reducible repeat (first | apply Kd.R_alloc | apply Kd.R_drewN | apply Kd.R_drew)); exact HO620.out⟩, ⟨by (with_reducible repeat (first | refine blk_drewN ?_ _ | refine blk_drew ?_ | refine blk_alloc ?_ _)); exact BK608.out⟩, ⟨hb_⟩⟩
            ·rw [if_neg c26] at H
             exact absurd H (by simp)
           ·replace c25 := Bool.eq_false_iff.mpr c25
            subst c25
            have H1 : (impl_TokensToGo.l0 k2 a3 x10_2 (rd_L1 l1 a2) ((rd_L1 l1 a2).length : Int) (wrap64 (x32_2 + 1)) a0_0 a0_1 a0_2 l0_3 l0_4) = some (r1, r2) := by rw [if_neg (show ¬ (false = true) by decide)] at H; exact H
            clear H
            have H := H1
            clear H1
            have H' := Aside0.mk H
            clear H
            have p615 : 0 ≤ (x32_2 : Int) := of_decide_eq_true (by first | (with_reducible assumption) | assumption)
            have q615 : x32_2 < ((rd_L1 l1 a2).length : Int) := of_decide_eq_true (by first | (with_reducible assumption) | assumption)
            obtain ⟨ad615, e615, hx615_0⟩ := Kd.at_int HR614_0.out x32_2 p615 q615
            cases e615
            replace hx615_0 := (HB.out.cell (World.block_lt_of_cell? w _ hx615_0)).trans hx615_0
            replace p615 := eq_true p615
            replace q615 := eq_true q615
            have hcz30_0 : wr.cell? ⟨gb608, 0, none⟩ = some (.int .i64 a0_0) := (blk_cell BK608.out 0).trans rfl
            have hcz30_1 : wr.cell? ⟨gb608, 1, none⟩ = some (.int .i64 a0_1) := (blk_cell BK608.out 1).trans rfl
            have hcz30_2 : wr.cell? ⟨gb608, 2, none⟩ = some (.int .i64 a0_2) := (blk_cell BK608.out 2).trans rfl
            have hcz30_3 : wr.cell? ⟨gb608, 3, none⟩ = some (.slice A0_3 l0_3.length c0_3) := (blk_cell BK608.out 3).trans rfl
            have hcz30_4 : wr.cell? ⟨gb608, 4, none⟩ = some (.slice A0_4 l0_4.length c0_4) := (blk_cell BK608.out 4).trans rfl
            have hfz30_0 := blk_frozen BK608.out 0
            have hfz30_1 := blk_frozen BK608.out 1
            have hfz30_2 := blk_frozen BK608.out 2
            have hfz30_3 := blk_frozen BK608.out 3
            have hfz30_4 := blk_frozen BK608.out 4
            go_wp2_with (first | ((with_reducible refine gate_callee (f := 84) rfl ?_); refine goesL_ (some 41) rfl rfl Try.func84 (by kernel_rfl) rfl #[.agg #[.int .i64 a0_0, .int .i64 a0_1, .int .i64 a0_2, .slice A0_3 l0_3.length c0_3, .slice A0_4 l0_4.length c0_4], .int .i64 (rd (rd_L1 l1 a2) x32_2), .int .i64 a3] rfl (by (try simp only [List.map_toArray, List.map_cons, List.map_nil]); first | done | rfl | (simp only [List.length_drop, List.length_take]; rfl)) ?_; (with_reducible refine (impl_Track_goes.calls a0_0 a0_1 a0_2 _ _ l0_3 _ _ l0_4 (rd (rd_L1 l1 a2) x32_2) a3 t616 false _ ?side1 ?side2 ?side3 ?side4 A24.out).mono ?_); (case side1 => exact Kd.C_below HR0_3.out hb_); (case side2 => exact HC0_3.out); (case side3 => exact Kd.C_below HR0_4.out hb_); (case side4 => exact HC0_4.out); rintro e w31 ⟨rfl, hb⟩; refine ⟨_, rfl, ?_⟩; have n0_ := Aside0.mk (Kd.R_below (by (with_reducible repeat (first | apply Kd.R_alloc | apply Kd.R_drewN | apply Kd.R_drew)); exact HO_10.out) hb); have n1_ := Aside0.mk (blk_below (g := gb608) (o := .cells #[.int .i64 a0_0, .int .i64 a0_1, .int .i64 a0_2, .slice A0_3 l0_3.length c0_3, .slice A0_4 l0_4.length c0_4] 27 (0, 0)) (by (with_reducible repeat (first | refine blk_drewN ?_ _ | refine blk_drew ?_ | refine blk_alloc ?_ _)); exact BK608.out) hb); have n2_ := Aside0.mk (below_step hb_ hb); clear HO_10; clear BK608; clear HB; have HO_10 := n0_; have BK608 := n1_; have HB := n2_; clear n0_ n1_ n2_; (try clear hb); (try clear hb2); (try clear hk); (try clear hi)))
            go_roundg k2
            case measure => have := HJ4.out; have := HK2.out; omega
            case rel => exact ⟨(x10_2), (wrap64 (x32_2 + 1)), (by first | rfl | (simp; done) | (simp [*]; done)), H', ⟨by have := HJ4.out; have := HK2.out; omega⟩, ⟨by (with_reducible repeat (first | apply Kd.R_alloc | apply Kd.R_drewN | apply Kd.R_drew)); exact HO_10.out⟩, ⟨by (with_reducible repeat (first | refine blk_drewN ?_ _ | refine blk_drew ?_ | refine blk_alloc ?_ _)); exact BK608.out⟩, ⟨hb_⟩⟩
          ·rw [if_neg c23] at H
           exact absurd H (by simp)
         ·rw [if_neg c22] at H
          exact absurd H (by simp)
        ·rw [if_neg c21] at H
         have c21b0 : decide (x32_2 < ((rd_L1 l1 a2).length : Int)) = false := decide_eq_false c21
         clear c21
         simp only [Option.some.injEq, Prod.mk.injEq] at H
         obtain ⟨rfl, rfl⟩ := H
         go_wp2
         go_ret2
         exact ⟨_, by first | rfl | (simp [errW_none, errW_some] <;> rfl) | (simp [*, errW_none, errW_some] <;> rfl), by (with_reducible repeat (first | apply Kd.R_alloc | apply Kd.R_drewN | apply Kd.R_drew)); exact HO_10.out, hb_⟩
     ·rw [if_neg c18] at H
      exact absurd H (by simp)
    ·rw [if_neg c17] at H
     exact absurd H (by simp)

end Go.Proofs.Ytcppahkdfajcaaa.P
