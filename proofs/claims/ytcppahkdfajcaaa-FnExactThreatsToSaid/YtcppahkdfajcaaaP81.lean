-- written for this claim by a program of this session (wip/tools/xprint.py), which runs the kit's print with other cuts
import Derived.Test.YtcppahkdfajcaaaP
import Derived.Test.YtcppahkdfajcaaaP105
import Derived.Test.YtcppahkdfajcaaaP63
import Derived.Test.YtcppahkdfajcaaaP73
namespace Go.Proofs.Ytcppahkdfajcaaa.P
open Go.RowKit Go.Proofs.YtcppahkdfajcaaaW.PrintWords Go.Proofs.YtcppahkdfajcaaaW.PrintLast Go.Proofs.YtcppahkdfajcaaaW.PrintMore
attribute [local go_sem] max2_int min2_int max_two min_two max_three min_three max_four min_four   -- for this text's walks alone
set_option linter.unusedVariables false
set_option linter.unusedSimpArgs false

/-! ### spec_trAsked: function 81 -/
def spec_trAsked.f (k : Nat) (a0_0 : Int) (a0_1 : Int) (a0_2 : Int) (l0_3 : List Int) (l0_4 : List Int) (l1 : List (List Int)) (a2 : Int) (a3 : Int) (a4 : Int) : Option (Bool) := (spec_trGood.f k a0_0 a0_1 a0_2 l0_3 l0_4).bind fun t488 => (if t488 = true then ((spec_trState.f k a0_0 a0_1 a0_2 l0_3 l0_4 l1).bind fun t489 => (if t489 = true then ((spec_trMove.f a0_0 a0_1 a0_2 l0_3 l0_4 a2 a3 a4).bind fun t490 => (some t490)) else (some false))) else (some false))
theorem spec_trAsked.mono : ∀ a0 a1 a2 a3 a4 a5 a6 a7 a8 k, LeO (spec_trAsked.f k a0 a1 a2 a3 a4 a5 a6 a7 a8) (spec_trAsked.f (k + 1) a0 a1 a2 a3 a4 a5 a6 a7 a8) := by
 intro a0 a1 a2 a3 a4 a5 a6 a7 a8 k
 unfold spec_trAsked.f
 repeat' first
   | (with_reducible exact spec_trGood.mono _ _ _ _ _ _)
   | (with_reducible exact spec_trState.mono _ _ _ _ _ _ _)
   | (with_reducible exact LeO.refl _)
   | (with_reducible exact LeO.none _)
   | (with_reducible refine LeO.ite ?_ ?_)
   | (with_reducible refine LeO.bind ?_ (fun _ => ?_))
   | exact spec_trGood.mono _ _ _ _ _ _
   | exact spec_trState.mono _ _ _ _ _ _ _
   | exact LeO.none _
   | refine LeO.ite ?_ ?_
   | refine LeO.bind ?_ (fun _ => ?_)
set_option maxHeartbeats 8000000 in
set_option maxRecDepth 100000 in
theorem spec_trAsked.calls (k : Nat) (a0_0 : Int) (a0_1 : Int) (a0_2 : Int) (A0_3 : Option Addr) (c0_3 : Nat) (l0_3 : List Int) (A0_4 : Option Addr) (c0_4 : Nat) (l0_4 : List Int) (A1 : Option Addr) (c1 : Nat) (l1 : List (List Int)) (a2 : Int) (a3 : Int) (a4 : Int) (r : Bool) (w : World) (hr0_3 : Kd.C (Kd.int .i64) w A0_3 l0_3.length l0_3) (hc0_3 : l0_3.length ≤ c0_3) (hr0_4 : Kd.C (Kd.int .i64) w A0_4 l0_4.length l0_4) (hc0_4 : l0_4.length ≤ c0_4) (hr1 : Kd.C (Kd.slice 3 (Kd.int .i64)) w A1 l1.length l1) (hc1 : l1.length ≤ c1) (h : spec_trAsked.f k a0_0 a0_1 a0_2 l0_3 l0_4 l1 a2 a3 a4 = some r) :
  Calls Try.prog 81 #[.agg #[.int .i64 a0_0, .int .i64 a0_1, .int .i64 a0_2, .slice A0_3 l0_3.length c0_3, .slice A0_4 l0_4.length c0_4], .slice A1 l1.length c1, .int .i64 a2, .int .i64 a3, .int .i64 a4] w fun e w' => e = .returned (.bool r) ∧ Below w.heap.size w w' := by
 have hu27 := Try.underlying27
 have HR0_3 := Aside0.mk hr0_3
 have HC0_3 := Aside0.mk hc0_3
 clear hr0_3 hc0_3
 have HR0_4 := Aside0.mk hr0_4
 have HC0_4 := Aside0.mk hc0_4
 clear hr0_4 hc0_4
 have HR1 := Aside0.mk hr1
 have HC1 := Aside0.mk hc1
 clear hr1 hc1
 have HB := Aside0.mk (Below.refl w.heap.size w)
 have H : ((spec_trGood.f k a0_0 a0_1 a0_2 l0_3 l0_4).bind fun t488 => (if t488 = true then ((spec_trState.f k a0_0 a0_1 a0_2 l0_3 l0_4 l1).bind fun t489 => (if t489 = true then ((spec_trMove.f a0_0 a0_1 a0_2 l0_3 l0_4 a2 a3 a4).bind fun t490 => (some t490)) else (some false))) else (some false))) = some r := h
 clear h
 replace H := Option.bind_eq_some_iff.mp H
 obtain ⟨t488, A60, H⟩ := H
 replace H : (if t488 = true then ((spec_trState.f k a0_0 a0_1 a0_2 l0_3 l0_4 l1).bind fun t489 => (if t489 = true then ((spec_trMove.f a0_0 a0_1 a0_2 l0_3 l0_4 a2 a3 a4).bind fun t490 => (some t490)) else (some false))) else (some false)) = some r := H
 have A6 := Aside0.mk A60
 clear A60
 by_cases c7 : t488 = true
 ·subst c7
  have H1 : ((spec_trState.f k a0_0 a0_1 a0_2 l0_3 l0_4 l1).bind fun t489 => (if t489 = true then ((spec_trMove.f a0_0 a0_1 a0_2 l0_3 l0_4 a2 a3 a4).bind fun t490 => (some t490)) else (some false))) = some r := by rw [if_pos rfl] at H; exact H
  clear H
  have H := H1
  clear H1
  replace H := Option.bind_eq_some_iff.mp H
  obtain ⟨t489, A80, H⟩ := H
  replace H : (if t489 = true then ((spec_trMove.f a0_0 a0_1 a0_2 l0_3 l0_4 a2 a3 a4).bind fun t490 => (some t490)) else (some false)) = some r := H
  have A8 := Aside0.mk A80
  clear A80
  by_cases c9 : t489 = true
  ·subst c9
   have H1 : ((spec_trMove.f a0_0 a0_1 a0_2 l0_3 l0_4 a2 a3 a4).bind fun t490 => (some t490)) = some r := by rw [if_pos rfl] at H; exact H
   clear H
   have H := H1
   clear H1
   replace H := Option.bind_eq_some_iff.mp H
   obtain ⟨t490, A100, H⟩ := H
   replace H : (some t490) = some r := H
   have A10 := Aside0.mk A100
   clear A100
   obtain rfl := Option.some.inj H
   go_enter Try.func81, Try.ntmps81
   go_wp2_with (first | ((with_reducible refine gate_dst (N := 5) rfl ?_); refine box_event ?hg (N := 5) ?hd (cs := #[.int .i64 a0_0, .int .i64 a0_1, .int .i64 a0_2, .slice A0_3 l0_3.length c0_3, .slice A0_4 l0_4.length c0_4]) (t := 27) ?hr ?_; (case hd => rfl); (case hg => rfl); (case hr => first | (go_simp; done) | (go_simp; rfl)); intro gb487 hg w11 hbox hb; have n0_ := Aside0.mk (below_step hb_ hb); have n1_ := Aside0.mk (hbox); have n2_ := Aside0.mk ((by rw [hg]; exact (below_size hb_) : w.heap.size ≤ gb487)); have n3_ := Aside0.mk ((by rw [hg]; exact (below_size hb_) : w.heap.size ≤ gb487)); clear HB; have HB := n0_; have BK487 := n1_; have GW487 := n2_; have GE487 := n3_; clear n0_ n1_ n2_ n3_; clear hb hbox hg; have hcz12_0 : w11.cell? ⟨gb487, 0, none⟩ = some (.int .i64 a0_0) := (blk_cell BK487.out 0).trans rfl; have hcz12_1 : w11.cell? ⟨gb487, 1, none⟩ = some (.int .i64 a0_1) := (blk_cell BK487.out 1).trans rfl; have hcz12_2 : w11.cell? ⟨gb487, 2, none⟩ = some (.int .i64 a0_2) := (blk_cell BK487.out 2).trans rfl; have hcz12_3 : w11.cell? ⟨gb487, 3, none⟩ = some (.slice A0_3 l0_3.length c0_3) := (blk_cell BK487.out 3).trans rfl; have hcz12_4 : w11.cell? ⟨gb487, 4, none⟩ = some (.slice A0_4 l0_4.length c0_4) := (blk_cell BK487.out 4).trans rfl; have hfz12_0 := blk_frozen BK487.out 0; have hfz12_1 := blk_frozen BK487.out 1; have hfz12_2 := blk_frozen BK487.out 2; have hfz12_3 := blk_frozen BK487.out 3; have hfz12_4 := blk_frozen BK487.out 4) | ((with_reducible refine gate_callee (f := 64) rfl ?_); refine goesL_ (some 12) rfl rfl Try.func64 (by kernel_rfl) rfl #[.agg #[.int .i64 a0_0, .int .i64 a0_1, .int .i64 a0_2, .slice A0_3 l0_3.length c0_3, .slice A0_4 l0_4.length c0_4]] rfl (by (try simp only [List.map_toArray, List.map_cons, List.map_nil]); first | done | rfl | (simp only [List.length_drop, List.length_take]; rfl)) ?_; (with_reducible refine (spec_trGood.calls k a0_0 a0_1 a0_2 _ _ l0_3 _ _ l0_4 true _ ?side1 ?side2 ?side3 ?side4 A6.out).mono ?_); (case side1 => exact Kd.C_below HR0_3.out hb_); (case side2 => exact HC0_3.out); (case side3 => exact Kd.C_below HR0_4.out hb_); (case side4 => exact HC0_4.out); rintro e w13 ⟨rfl, hb⟩; refine ⟨_, rfl, ?_⟩; have n0_ := Aside0.mk (blk_below (g := gb487) (o := .cells #[.int .i64 a0_0, .int .i64 a0_1, .int .i64 a0_2, .slice A0_3 l0_3.length c0_3, .slice A0_4 l0_4.length c0_4] 27 (0, 0)) (by (with_reducible repeat (first | refine blk_drewN ?_ _ | refine blk_drew ?_ | refine blk_alloc ?_ _)); exact BK487.out) hb); have n1_ := Aside0.mk (below_step hb_ hb); clear BK487; clear HB; have BK487 := n0_; have HB := n1_; clear n0_ n1_; (try clear hb); (try clear hb2); (try clear hk); (try clear hi); have hcz14_0 : w13.cell? ⟨gb487, 0, none⟩ = some (.int .i64 a0_0) := (blk_cell BK487.out 0).trans rfl; have hcz14_1 : w13.cell? ⟨gb487, 1, none⟩ = some (.int .i64 a0_1) := (blk_cell BK487.out 1).trans rfl; have hcz14_2 : w13.cell? ⟨gb487, 2, none⟩ = some (.int .i64 a0_2) := (blk_cell BK487.out 2).trans rfl; have hcz14_3 : w13.cell? ⟨gb487, 3, none⟩ = some (.slice A0_3 l0_3.length c0_3) := (blk_cell BK487.out 3).trans rfl; have hcz14_4 : w13.cell? ⟨gb487, 4, none⟩ = some (.slice A0_4 l0_4.length c0_4) := (blk_cell BK487.out 4).trans rfl; have hfz14_0 := blk_frozen BK487.out 0; have hfz14_1 := blk_frozen BK487.out 1; have hfz14_2 := blk_frozen BK487.out 2; have hfz14_3 := blk_frozen BK487.out 3; have hfz14_4 := blk_frozen BK487.out 4) | (go_at_call 73; (with_reducible refine (spec_trState.calls k a0_0 a0_1 a0_2 _ _ l0_3 _ _ l0_4 _ _ l1 true _ ?side1 ?side2 ?side3 ?side4 ?side5 ?side6 A8.out).mono ?_); (case side1 => exact Kd.C_below HR0_3.out hb_); (case side2 => exact HC0_3.out); (case side3 => exact Kd.C_below HR0_4.out hb_); (case side4 => exact HC0_4.out); (case side5 => exact Kd.C_below HR1.out hb_); (case side6 => exact HC1.out); rintro e w15 ⟨rfl, hb⟩; have n0_ := Aside0.mk (blk_below (g := gb487) (o := .cells #[.int .i64 a0_0, .int .i64 a0_1, .int .i64 a0_2, .slice A0_3 l0_3.length c0_3, .slice A0_4 l0_4.length c0_4] 27 (0, 0)) (by (with_reducible repeat (first | refine blk_drewN ?_ _ | refine blk_drew ?_ | refine blk_alloc ?_ _)); exact BK487.out) hb); have n1_ := Aside0.mk (below_step hb_ hb); clear BK487; clear HB; have BK487 := n0_; have HB := n1_; clear n0_ n1_; (try clear hb); (try clear hb2); (try clear hk); (try clear hi); have hcz16_0 : w15.cell? ⟨gb487, 0, none⟩ = some (.int .i64 a0_0) := (blk_cell BK487.out 0).trans rfl; have hcz16_1 : w15.cell? ⟨gb487, 1, none⟩ = some (.int .i64 a0_1) := (blk_cell BK487.out 1).trans rfl; have hcz16_2 : w15.cell? ⟨gb487, 2, none⟩ = some (.int .i64 a0_2) := (blk_cell BK487.out 2).trans rfl; have hcz16_3 : w15.cell? ⟨gb487, 3, none⟩ = some (.slice A0_3 l0_3.length c0_3) := (blk_cell BK487.out 3).trans rfl; have hcz16_4 : w15.cell? ⟨gb487, 4, none⟩ = some (.slice A0_4 l0_4.length c0_4) := (blk_cell BK487.out 4).trans rfl; have hfz16_0 := blk_frozen BK487.out 0; have hfz16_1 := blk_frozen BK487.out 1; have hfz16_2 := blk_frozen BK487.out 2; have hfz16_3 := blk_frozen BK487.out 3; have hfz16_4 := blk_frozen BK487.out 4) | (go_at_call 105; (with_reducible refine (spec_trMove.calls a0_0 a0_1 a0_2 _ _ l0_3 _ _ l0_4 a2 a3 a4 t490 _ ?side1 ?side2 ?side3 ?side4 A10.out).mono ?_); (case side1 => exact Kd.C_below HR0_3.out hb_); (case side2 => exact HC0_3.out); (case side3 => exact Kd.C_below HR0_4.out hb_); (case side4 => exact HC0_4.out); rintro e w17 ⟨rfl, hb⟩; have n0_ := Aside0.mk (blk_below (g := gb487) (o := .cells #[.int .i64 a0_0, .int .i64 a0_1, .int .i64 a0_2, .slice A0_3 l0_3.length c0_3, .slice A0_4 l0_4.length c0_4] 27 (0, 0)) (by (with_reducible repeat (first | refine blk_drewN ?_ _ | refine blk_drew ?_ | refine blk_alloc ?_ _)); exact BK487.out) hb); have n1_ := Aside0.mk (below_step hb_ hb); clear BK487; clear HB; have BK487 := n0_; have HB := n1_; clear n0_ n1_; (try clear hb); (try clear hb2); (try clear hk); (try clear hi)))
   go_ret
   exact ⟨by first | rfl | (simp [errW_none, errW_some] <;> rfl) | (simp [*, errW_none, errW_some] <;> rfl), hb_⟩
  ·replace c9 := Bool.eq_false_iff.mpr c9
   subst c9
   have H1 : (some false) = some r := by rw [if_neg (show ¬ (false = true) by decide)] at H; exact H
   clear H
   have H := H1
   clear H1
   obtain rfl := Option.some.inj H
   go_enter Try.func81, Try.ntmps81
   go_wp2_with (first | ((with_reducible refine gate_dst (N := 5) rfl ?_); refine box_event ?hg (N := 5) ?hd (cs := #[.int .i64 a0_0, .int .i64 a0_1, .int .i64 a0_2, .slice A0_3 l0_3.length c0_3, .slice A0_4 l0_4.length c0_4]) (t := 27) ?hr ?_; (case hd => rfl); (case hg => rfl); (case hr => first | (go_simp; done) | (go_simp; rfl)); intro gb487 hg w18 hbox hb; have n0_ := Aside0.mk (below_step hb_ hb); have n1_ := Aside0.mk (hbox); have n2_ := Aside0.mk ((by rw [hg]; exact (below_size hb_) : w.heap.size ≤ gb487)); have n3_ := Aside0.mk ((by rw [hg]; exact (below_size hb_) : w.heap.size ≤ gb487)); clear HB; have HB := n0_; have BK487 := n1_; have GW487 := n2_; have GE487 := n3_; clear n0_ n1_ n2_ n3_; clear hb hbox hg; have hcz19_0 : w18.cell? ⟨gb487, 0, none⟩ = some (.int .i64 a0_0) := (blk_cell BK487.out 0).trans rfl; have hcz19_1 : w18.cell? ⟨gb487, 1, none⟩ = some (.int .i64 a0_1) := (blk_cell BK487.out 1).trans rfl; have hcz19_2 : w18.cell? ⟨gb487, 2, none⟩ = some (.int .i64 a0_2) := (blk_cell BK487.out 2).trans rfl; have hcz19_3 : w18.cell? ⟨gb487, 3, none⟩ = some (.slice A0_3 l0_3.length c0_3) := (blk_cell BK487.out 3).trans rfl; have hcz19_4 : w18.cell? ⟨gb487, 4, none⟩ = some (.slice A0_4 l0_4.length c0_4) := (blk_cell BK487.out 4).trans rfl; have hfz19_0 := blk_frozen BK487.out 0; have hfz19_1 := blk_frozen BK487.out 1; have hfz19_2 := blk_frozen BK487.out 2; have hfz19_3 := blk_frozen BK487.out 3; have hfz19_4 := blk_frozen BK487.out 4) | ((with_reducible refine gate_callee (f := 64) rfl ?_); refine goesL_ (some 12) rfl rfl Try.func64 (by kernel_rfl) rfl #[.agg #[.int .i64 a0_0, .int .i64 a0_1, .int .i64 a0_2, .slice A0_3 l0_3.length c0_3, .slice A0_4 l0_4.length c0_4]] rfl (by (try simp only [List.map_toArray, List.map_cons, List.map_nil]); first | done | rfl | (simp only [List.length_drop, List.length_take]; rfl)) ?_; (with_reducible refine (spec_trGood.calls k a0_0 a0_1 a0_2 _ _ l0_3 _ _ l0_4 true _ ?side1 ?side2 ?side3 ?side4 A6.out).mono ?_); (case side1 => exact Kd.C_below HR0_3.out hb_); (case side2 => exact HC0_3.out); (case side3 => exact Kd.C_below HR0_4.out hb_); (case side4 => exact HC0_4.out); rintro e w20 ⟨rfl, hb⟩; refine ⟨_, rfl, ?_⟩; have n0_ := Aside0.mk (blk_below (g := gb487) (o := .cells #[.int .i64 a0_0, .int .i64 a0_1, .int .i64 a0_2, .slice A0_3 l0_3.length c0_3, .slice A0_4 l0_4.length c0_4] 27 (0, 0)) (by (with_reducible repeat (first | refine blk_drewN ?_ _ | refine blk_drew ?_ | refine blk_alloc ?_ _)); exact BK487.out) hb); have n1_ := Aside0.mk (below_step hb_ hb); clear BK487; clear HB; have BK487 := n0_; have HB := n1_; clear n0_ n1_; (try clear hb); (try clear hb2); (try clear hk); (try clear hi); have hcz21_0 : w20.cell? ⟨gb487, 0, none⟩ = some (.int .i64 a0_0) := (blk_cell BK487.out 0).trans rfl; have hcz21_1 : w20.cell? ⟨gb487, 1, none⟩ = some (.int .i64 a0_1) := (blk_cell BK487.out 1).trans rfl; have hcz21_2 : w20.cell? ⟨gb487, 2, none⟩ = some (.int .i64 a0_2) := (blk_cell BK487.out 2).trans rfl; have hcz21_3 : w20.cell? ⟨gb487, 3, none⟩ = some (.slice A0_3 l0_3.length c0_3) := (blk_cell BK487.out 3).trans rfl; have hcz21_4 : w20.cell? ⟨gb487, 4, none⟩ = some (.slice A0_4 l0_4.length c0_4) := (blk_cell BK487.out 4).trans rfl; have hfz21_0 := blk_frozen BK487.out 0; have hfz21_1 := blk_frozen BK487.out 1; have hfz21_2 := blk_frozen BK487.out 2; have hfz21_3 := blk_frozen BK487.out 3; have hfz21_4 := blk_frozen BK487.out 4) | (go_at_call 73; (with_reducible refine (spec_trState.calls k a0_0 a0_1 a0_2 _ _ l0_3 _ _ l0_4 _ _ l1 false _ ?side1 ?side2 ?side3 ?side4 ?side5 ?side6 A8.out).mono ?_); (case side1 => exact Kd.C_below HR0_3.out hb_); (case side2 => exact HC0_3.out); (case side3 => exact Kd.C_below HR0_4.out hb_); (case side4 => exact HC0_4.out); (case side5 => exact Kd.C_below HR1.out hb_); (case side6 => exact HC1.out); rintro e w22 ⟨rfl, hb⟩; have n0_ := Aside0.mk (blk_below (g := gb487) (o := .cells #[.int .i64 a0_0, .int .i64 a0_1, .int .i64 a0_2, .slice A0_3 l0_3.length c0_3, .slice A0_4 l0_4.length c0_4] 27 (0, 0)) (by (with_reducible repeat (first | refine blk_drewN ?_ _ | refine blk_drew ?_ | refine blk_alloc ?_ _)); exact BK487.out) hb); have n1_ := Aside0.mk (below_step hb_ hb); clear BK487; clear HB; have BK487 := n0_; have HB := n1_; clear n0_ n1_; (try clear hb); (try clear hb2); (try clear hk); (try clear hi)))
   go_ret
   exact ⟨by first | rfl | (simp [errW_none, errW_some] <;> rfl) | (simp [*, errW_none, errW_some] <;> rfl), hb_⟩
 ·replace c7 := Bool.eq_false_iff.mpr c7
  subst c7
  have H1 : (some false) = some r := by rw [if_neg (show ¬ (false = true) by decide)] at H; exact H
  clear H
  have H := H1
  clear H1
  obtain rfl := Option.some.inj H
  go_enter Try.func81, Try.ntmps81
  go_wp2_with (first | ((with_reducible refine gate_dst (N := 5) rfl ?_); refine box_event ?hg (N := 5) ?hd (cs := #[.int .i64 a0_0, .int .i64 a0_1, .int .i64 a0_2, .slice A0_3 l0_3.length c0_3, .slice A0_4 l0_4.length c0_4]) (t := 27) ?hr ?_; (case hd => rfl); (case hg => rfl); (case hr => first | (go_simp; done) | (go_simp; rfl)); intro gb487 hg w23 hbox hb; have n0_ := Aside0.mk (below_step hb_ hb); have n1_ := Aside0.mk (hbox); have n2_ := Aside0.mk ((by rw [hg]; exact (below_size hb_) : w.heap.size ≤ gb487)); have n3_ := Aside0.mk ((by rw [hg]; exact (below_size hb_) : w.heap.size ≤ gb487)); clear HB; have HB := n0_; have BK487 := n1_; have GW487 := n2_; have GE487 := n3_; clear n0_ n1_ n2_ n3_; clear hb hbox hg; have hcz24_0 : w23.cell? ⟨gb487, 0, none⟩ = some (.int .i64 a0_0) := (blk_cell BK487.out 0).trans rfl; have hcz24_1 : w23.cell? ⟨gb487, 1, none⟩ = some (.int .i64 a0_1) := (blk_cell BK487.out 1).trans rfl; have hcz24_2 : w23.cell? ⟨gb487, 2, none⟩ = some (.int .i64 a0_2) := (blk_cell BK487.out 2).trans rfl; have hcz24_3 : w23.cell? ⟨gb487, 3, none⟩ = some (.slice A0_3 l0_3.length c0_3) := (blk_cell BK487.out 3).trans rfl; have hcz24_4 : w23.cell? ⟨gb487, 4, none⟩ = some (.slice A0_4 l0_4.length c0_4) := (blk_cell BK487.out 4).trans rfl; have hfz24_0 := blk_frozen BK487.out 0; have hfz24_1 := blk_frozen BK487.out 1; have hfz24_2 := blk_frozen BK487.out 2; have hfz24_3 := blk_frozen BK487.out 3; have hfz24_4 := blk_frozen BK487.out 4) | ((with_reducible refine gate_callee (f := 64) rfl ?_); refine goesL_ (some 12) rfl rfl Try.func64 (by kernel_rfl) rfl #[.agg #[.int .i64 a0_0, .int .i64 a0_1, .int .i64 a0_2, .slice A0_3 l0_3.length c0_3, .slice A0_4 l0_4.length c0_4]] rfl (by (try simp only [List.map_toArray, List.map_cons, List.map_nil]); first | done | rfl | (simp only [List.length_drop, List.length_take]; rfl)) ?_; (with_reducible refine (spec_trGood.calls k a0_0 a0_1 a0_2 _ _ l0_3 _ _ l0_4 false _ ?side1 ?side2 ?side3 ?side4 A6.out).mono ?_); (case side1 => exact Kd.C_below HR0_3.out hb_); (case side2 => exact HC0_3.out); (case side3 => exact Kd.C_below HR0_4.out hb_); (case side4 => exact HC0_4.out); rintro e w25 ⟨rfl, hb⟩; refine ⟨_, rfl, ?_⟩; have n0_ := Aside0.mk (blk_below (g := gb487) (o := .cells #[.int .i64 a0_0, .int .i64 a0_1, .int .i64 a0_2, .slice A0_3 l0_3.length c0_3, .slice A0_4 l0_4.length c0_4] 27 (0, 0)) (by (with_reducible repeat (first | refine blk_drewN ?_ _ | refine blk_drew ?_ | refine blk_alloc ?_ _)); exact BK487.out) hb); have n1_ := Aside0.mk (below_step hb_ hb); clear BK487; clear HB; have BK487 := n0_; have HB := n1_; clear n0_ n1_; (try clear hb); (try clear hb2); (try clear hk); (try clear hi)))
  go_ret
  exact ⟨by first | rfl | (simp [errW_none, errW_some] <;> rfl) | (simp [*, errW_none, errW_some] <;> rfl), hb_⟩

end Go.Proofs.Ytcppahkdfajcaaa.P
