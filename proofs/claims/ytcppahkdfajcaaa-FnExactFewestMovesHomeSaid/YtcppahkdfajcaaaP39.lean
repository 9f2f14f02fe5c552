-- written for this claim by a program of this session (wip/tools/xprint.py), which runs the kit's print with other cuts
import Derived.Test.YtcppahkdfajcaaaP
import Derived.Test.YtcppahkdfajcaaaP71
import Derived.Test.YtcppahkdfajcaaaP76
namespace Go.Proofs.Ytcppahkdfajcaaa.P
open Go.RowKit Go.Proofs.YtcppahkdfajcaaaW.PrintWords Go.Proofs.YtcppahkdfajcaaaW.PrintLast Go.Proofs.YtcppahkdfajcaaaW.PrintMore
attribute [local go_sem] max2_int min2_int max_two min_two max_three min_three max_four min_four   -- for this text's walks alone
set_option linter.unusedVariables false
set_option linter.unusedSimpArgs false

/-! ### impl_FewestMovesHome: function 39 -/
mutual
def impl_FewestMovesHome.j0 : Nat → List (List Int) → Int → Bool → Int → Int → Int → List Int → List Int → Option (Int × Bool)
  | 0, _, _, _, _, _, _, _, _ => none
  | k + 1, x1, x2, x20, x478000, x478001, x478002, x478003, x478004 => if x20 = true then (some (0, false)) else (if 0 ≤ x2 then (if x2 < (x1.length : Int) then (impl_FewestMovesHome.l0 k 0 (rd_L1 x1 x2) ((rd_L1 x1 x2).length : Int) 0 x478000 x478001 x478002 x478003 x478004) else (none)) else (none))
def impl_FewestMovesHome.l0 : Nat → Int → List Int → Int → Int → Int → Int → Int → List Int → List Int → Option (Int × Bool)
  | 0, _, _, _, _, _, _, _, _, _ => none
  | k + 1, x8, x24, x25, x26, x478000, x478001, x478002, x478003, x478004 => if x26 < x25 then (if 0 ≤ x26 then (if x26 < (x24.length : Int) then (if (rd x24 x26) = (-1) then (if x478001 = 0 then (none) else (impl_FewestMovesHome.l0 k (wrap64 ((wrap64 (x8 + 1)) + (wrap64 (Int.tdiv (wrap64 ((wrap64 ((wrap64 (x478000 - 0)) + x478001)) - 1)) x478001)))) x24 x25 (wrap64 (x26 + 1)) x478000 x478001 x478002 x478003 x478004)) else (if x478001 = 0 then (none) else (impl_FewestMovesHome.l0 k (wrap64 (x8 + (wrap64 (Int.tdiv (wrap64 ((wrap64 ((wrap64 (x478000 - (rd x24 x26))) + x478001)) - 1)) x478001)))) x24 x25 (wrap64 (x26 + 1)) x478000 x478001 x478002 x478003 x478004))) else (none)) else (none)) else (some (x8, true))
end
def impl_FewestMovesHome.f (k : Nat) (a0_0 : Int) (a0_1 : Int) (a0_2 : Int) (l0_3 : List Int) (l0_4 : List Int) (l1 : List (List Int)) (a2 : Int) : Option (Int × Bool) := (impl_isTracked.f k a0_0 a0_1 a0_2 l0_3 l0_4 l1).bind fun t478 => (if t478 = true then ((impl_Track_isPlayer.f a0_0 a0_1 a0_2 l0_3 l0_4 a2).bind fun t479 => (impl_FewestMovesHome.j0 k l1 a2 (!t479) a0_0 a0_1 a0_2 l0_3 l0_4)) else (impl_FewestMovesHome.j0 k l1 a2 true a0_0 a0_1 a0_2 l0_3 l0_4))
theorem impl_FewestMovesHome.mono_l : ∀ k, (∀ y0 y1 y2 y3 y4 y5 y6 y7, LeO (impl_FewestMovesHome.j0 k y0 y1 y2 y3 y4 y5 y6 y7) (impl_FewestMovesHome.j0 (k + 1) y0 y1 y2 y3 y4 y5 y6 y7)) ∧ (∀ y0 y1 y2 y3 y4 y5 y6 y7 y8, LeO (impl_FewestMovesHome.l0 k y0 y1 y2 y3 y4 y5 y6 y7 y8) (impl_FewestMovesHome.l0 (k + 1) y0 y1 y2 y3 y4 y5 y6 y7 y8))
  | 0 => ⟨fun _ _ _ _ _ _ _ _ r h => by simp [impl_FewestMovesHome.j0] at h, fun _ _ _ _ _ _ _ _ _ r h => by simp [impl_FewestMovesHome.l0] at h⟩
  | k + 1 => by
    obtain ⟨ih0, ih1⟩ := impl_FewestMovesHome.mono_l k
    refine ⟨?_, ?_⟩
    · intro y0 y1 y2 y3 y4 y5 y6 y7
      unfold impl_FewestMovesHome.j0
      repeat' first
      | (with_reducible exact ih0 _ _ _ _ _ _ _ _)
      | (with_reducible exact ih1 _ _ _ _ _ _ _ _ _)
      | (with_reducible exact impl_isTracked.mono _ _ _ _ _ _ _)
      | (with_reducible exact LeO.refl _)
      | (with_reducible exact LeO.none _)
      | (with_reducible refine LeO.ite ?_ ?_)
      | (with_reducible refine LeO.bind ?_ (fun _ => ?_))
      | exact ih0 _ _ _ _ _ _ _ _
      | exact ih1 _ _ _ _ _ _ _ _ _
      | exact impl_isTracked.mono _ _ _ _ _ _ _
      | exact LeO.none _
      | refine LeO.ite ?_ ?_
      | refine LeO.bind ?_ (fun _ => ?_)
    · intro y0 y1 y2 y3 y4 y5 y6 y7 y8
      unfold impl_FewestMovesHome.l0
      repeat' first
      | (with_reducible exact ih0 _ _ _ _ _ _ _ _)
      | (with_reducible exact ih1 _ _ _ _ _ _ _ _ _)
      | (with_reducible exact impl_isTracked.mono _ _ _ _ _ _ _)
      | (with_reducible exact LeO.refl _)
      | (with_reducible exact LeO.none _)
      | (with_reducible refine LeO.ite ?_ ?_)
      | (with_reducible refine LeO.bind ?_ (fun _ => ?_))
      | exact ih0 _ _ _ _ _ _ _ _
      | exact ih1 _ _ _ _ _ _ _ _ _
      | exact impl_isTracked.mono _ _ _ _ _ _ _
      | exact LeO.none _
      | refine LeO.ite ?_ ?_
      | refine LeO.bind ?_ (fun _ => ?_)
theorem impl_FewestMovesHome.mono : ∀ a0 a1 a2 a3 a4 a5 a6 k, LeO (impl_FewestMovesHome.f k a0 a1 a2 a3 a4 a5 a6) (impl_FewestMovesHome.f (k + 1) a0 a1 a2 a3 a4 a5 a6) := by
  intro a0 a1 a2 a3 a4 a5 a6 k
  obtain ⟨ih0, ih1⟩ := impl_FewestMovesHome.mono_l k
  unfold impl_FewestMovesHome.f
  repeat' first
      | (with_reducible exact ih0 _ _ _ _ _ _ _ _)
      | (with_reducible exact ih1 _ _ _ _ _ _ _ _ _)
      | (with_reducible exact impl_isTracked.mono _ _ _ _ _ _ _)
      | (with_reducible exact LeO.refl _)
      | (with_reducible exact LeO.none _)
      | (with_reducible refine LeO.ite ?_ ?_)
      | (with_reducible refine LeO.bind ?_ (fun _ => ?_))
      | exact ih0 _ _ _ _ _ _ _ _
      | exact ih1 _ _ _ _ _ _ _ _ _
      | exact impl_isTracked.mono _ _ _ _ _ _ _
      | exact LeO.none _
      | refine LeO.ite ?_ ?_
      | refine LeO.bind ?_ (fun _ => ?_)
set_option maxHeartbeats 8000000 in
set_option maxRecDepth 100000 in
theorem impl_FewestMovesHome.calls (k : Nat) (a0_0 : Int) (a0_1 : Int) (a0_2 : Int) (A0_3 : Option Addr) (c0_3 : Nat) (l0_3 : List Int) (A0_4 : Option Addr) (c0_4 : Nat) (l0_4 : List Int) (A1 : Option Addr) (c1 : Nat) (l1 : List (List Int)) (a2 : Int) (r1 : Int) (r2 : Bool) (w : World) (hr0_3 : Kd.C (Kd.int .i64) w A0_3 l0_3.length l0_3) (hc0_3 : l0_3.length ≤ c0_3) (hr0_4 : Kd.C (Kd.int .i64) w A0_4 l0_4.length l0_4) (hc0_4 : l0_4.length ≤ c0_4) (hr1 : Kd.C (Kd.slice 3 (Kd.int .i64)) w A1 l1.length l1) (hc1 : l1.length ≤ c1) (h : impl_FewestMovesHome.f k a0_0 a0_1 a0_2 l0_3 l0_4 l1 a2 = some (r1, r2)) :
    Calls Try.prog 39 #[.agg #[.int .i64 a0_0, .int .i64 a0_1, .int .i64 a0_2, .slice A0_3 l0_3.length c0_3, .slice A0_4 l0_4.length c0_4], .slice A1 l1.length c1, .int .i64 a2] w fun e w' => e = .returned (.tuple #[.int .i64 r1, .bool r2]) ∧ Below w.heap.size w w' := by
  have hu27 := Try.underlying27
  have HR0_3 := Aside0.mk hr0_3
  have HC0_3 := Aside0.mk hc0_3
  clear hr0_3 hc0_3
  have HR0_4 := Aside0.mk hr0_4
  have HC0_4 := Aside0.mk hc0_4
  clear hr0_4 hc0_4
  have HR1 := Aside0.mk hr1
  have HC1 := Aside0.mk hc1
  clear hr1 hc1
  have HB := Aside0.mk (Below.refl w.heap.size w)
  have H : ((impl_isTracked.f k a0_0 a0_1 a0_2 l0_3 l0_4 l1).bind fun t478 => (if t478 = true then ((impl_Track_isPlayer.f a0_0 a0_1 a0_2 l0_3 l0_4 a2).bind fun t479 => (impl_FewestMovesHome.j0 k l1 a2 (!t479) a0_0 a0_1 a0_2 l0_3 l0_4)) else (impl_FewestMovesHome.j0 k l1 a2 true a0_0 a0_1 a0_2 l0_3 l0_4))) = some (r1, r2) := h
  clear h
  have HC4 := Aside0.mk H
  clear H
  go_enter Try.func39, Try.ntmps39
  go_upto_region 1 with (first | ((with_reducible refine gate_dst (N := 3) rfl ?_); refine box_event ?hg (N := 3) ?hd (cs := #[.int .i64 a0_0, .int .i64 a0_1, .int .i64 a0_2, .slice A0_3 l0_3.length c0_3, .slice A0_4 l0_4.length c0_4]) (t := 27) ?hr ?_; (case hd => rfl); (case hg => rfl); (case hr => first | (go_simp; done) | (go_simp; rfl)); intro gb477 hg w5 hbox hb; have n0_ := Aside0.mk (below_step (by repeat (first | (with_reducible first | exact HB.out | apply below_alloc | apply pw_below_drewN | apply below_drew1) | exact HB.out)) hb); have n1_ := Aside0.mk (hbox); have n2_ := Aside0.mk ((by rw [hg]; exact (below_size (by repeat (first | (with_reducible first | exact HB.out | apply below_alloc | apply pw_below_drewN | apply below_drew1) | exact HB.out))) : w.heap.size ≤ gb477)); have n3_ := Aside0.mk ((by rw [hg]; exact (below_size (by repeat (first | (with_reducible first | exact HB.out | apply below_alloc | apply pw_below_drewN | apply below_drew1) | exact HB.out))) : w.heap.size ≤ gb477)); clear HB; have HB := n0_; have BK477 := n1_; have GW477 := n2_; have GE477 := n3_; clear n0_ n1_ n2_ n3_; clear hb hbox hg))
  (try simp only [Act.put, List.setIfInBounds_toArray, List.set_cons_zero, List.set_cons_succ])
  go_cut [20] (fun v20 wc => ∃ (kq : Nat) (x20_3 : Bool), v20 = .bool x20_3 ∧ Aside0 (impl_FewestMovesHome.j0 kq l1 a2 x20_3 a0_0 a0_1 a0_2 l0_3 l0_4 = some (r1, r2)) ∧ Aside0 (kq ≤ k) ∧ Aside0 (wc.heap[gb477]? = some (.cells #[.int .i64 a0_0, .int .i64 a0_1, .int .i64 a0_2, (.slice A0_3 l0_3.length c0_3), (.slice A0_4 l0_4.length c0_4)] 27 (0, 0))) ∧ Aside0 (Below w.heap.size w wc))
  case first =>
    have H := HC4.out
    clear HC4
    replace H := Option.bind_eq_some_iff.mp H
    obtain ⟨t478, A60, H⟩ := H
    replace H : (if t478 = true then ((impl_Track_isPlayer.f a0_0 a0_1 a0_2 l0_3 l0_4 a2).bind fun t479 => (impl_FewestMovesHome.j0 k l1 a2 (!t479) a0_0 a0_1 a0_2 l0_3 l0_4)) else (impl_FewestMovesHome.j0 k l1 a2 true a0_0 a0_1 a0_2 l0_3 l0_4)) = some (r1, r2) := H
    have A6 := Aside0.mk A60
    clear A60
    by_cases c7 : t478 = true
    · subst c7
      have H1 : ((impl_Track_isPlayer.f a0_0 a0_1 a0_2 l0_3 l0_4 a2).bind fun t479 => (impl_FewestMovesHome.j0 k l1 a2 (!t479) a0_0 a0_1 a0_2 l0_3 l0_4)) = some (r1, r2) := by rw [if_pos rfl] at H; exact H
      clear H
      have H := H1
      clear H1
      replace H := Option.bind_eq_some_iff.mp H
      obtain ⟨t479, A80, H⟩ := H
      replace H : (impl_FewestMovesHome.j0 k l1 a2 (!t479) a0_0 a0_1 a0_2 l0_3 l0_4) = some (r1, r2) := H
      have A8 := Aside0.mk A80
      clear A80
      have H' := Aside0.mk H
      clear H
      have hcz9_0 : w5.cell? ⟨gb477, 0, none⟩ = some (.int .i64 a0_0) := (blk_cell BK477.out 0).trans rfl
      have hcz9_1 : w5.cell? ⟨gb477, 1, none⟩ = some (.int .i64 a0_1) := (blk_cell BK477.out 1).trans rfl
      have hcz9_2 : w5.cell? ⟨gb477, 2, none⟩ = some (.int .i64 a0_2) := (blk_cell BK477.out 2).trans rfl
      have hcz9_3 : w5.cell? ⟨gb477, 3, none⟩ = some (.slice A0_3 l0_3.length c0_3) := (blk_cell BK477.out 3).trans rfl
      have hcz9_4 : w5.cell? ⟨gb477, 4, none⟩ = some (.slice A0_4 l0_4.length c0_4) := (blk_cell BK477.out 4).trans rfl
      have hfz9_0 := blk_frozen BK477.out 0
      have hfz9_1 := blk_frozen BK477.out 1
      have hfz9_2 := blk_frozen BK477.out 2
      have hfz9_3 := blk_frozen BK477.out 3
      have hfz9_4 := blk_frozen BK477.out 4
      go_wp2_with (first | ((with_reducible refine gate_callee (f := 76) rfl ?_); refine goesL_ (some 13) rfl rfl Try.func76 (by kernel_rfl) rfl #[.agg #[.int .i64 a0_0, .int .i64 a0_1, .int .i64 a0_2, .slice A0_3 l0_3.length c0_3, .slice A0_4 l0_4.length c0_4], .slice A1 l1.length c1] rfl (by (try simp only [List.map_toArray, List.map_cons, List.map_nil]); first | done | rfl | (simp only [List.length_drop, List.length_take]; rfl)) ?_; (with_reducible refine (impl_isTracked.calls k a0_0 a0_1 a0_2 _ _ l0_3 _ _ l0_4 _ _ l1 true _ ?side1 ?side2 ?side3 ?side4 ?side5 ?side6 A6.out).mono ?_); (case side1 => repeat (first | exact (Kd.C_below HR0_3.out HB.out) | (with_reducible refine Kd.C_alloc ?_ _) | (with_reducible refine Kd.C_drewN ?_ _) | (with_reducible refine Kd.C_drew ?_))); (case side2 => exact HC0_3.out); (case side3 => repeat (first | exact (Kd.C_below HR0_4.out HB.out) | (with_reducible refine Kd.C_alloc ?_ _) | (with_reducible refine Kd.C_drewN ?_ _) | (with_reducible refine Kd.C_drew ?_))); (case side4 => exact HC0_4.out); (case side5 => repeat (first | exact (Kd.C_below HR1.out HB.out) | (with_reducible refine Kd.C_alloc ?_ _) | (with_reducible refine Kd.C_drewN ?_ _) | (with_reducible refine Kd.C_drew ?_))); (case side6 => exact HC1.out); rintro e w10 ⟨rfl, hb⟩; refine ⟨_, rfl, ?_⟩; have n0_ := Aside0.mk (blk_below (g := gb477) (o := .cells #[.int .i64 a0_0, .int .i64 a0_1, .int .i64 a0_2, .slice A0_3 l0_3.length c0_3, .slice A0_4 l0_4.length c0_4] 27 (0, 0)) (by (with_reducible repeat (first | refine blk_drewN ?_ _ | refine blk_drew ?_ | refine blk_alloc ?_ _)); exact BK477.out) hb); have n1_ := Aside0.mk (below_step (by repeat (first | (with_reducible first | exact HB.out | apply below_alloc | apply pw_below_drewN | apply below_drew1 | refine below_set ?_ GE477.out) | exact HB.out)) hb); clear BK477; clear HB; have BK477 := n0_; have HB := n1_; clear n0_ n1_; (try clear hb); (try clear hb2); (try clear hk); (try clear hi); have hcz11_0 : w10.cell? ⟨gb477, 0, none⟩ = some (.int .i64 a0_0) := (blk_cell BK477.out 0).trans rfl; have hcz11_1 : w10.cell? ⟨gb477, 1, none⟩ = some (.int .i64 a0_1) := (blk_cell BK477.out 1).trans rfl; have hcz11_2 : w10.cell? ⟨gb477, 2, none⟩ = some (.int .i64 a0_2) := (blk_cell BK477.out 2).trans rfl; have hcz11_3 : w10.cell? ⟨gb477, 3, none⟩ = some (.slice A0_3 l0_3.length c0_3) := (blk_cell BK477.out 3).trans rfl; have hcz11_4 : w10.cell? ⟨gb477, 4, none⟩ = some (.slice A0_4 l0_4.length c0_4) := (blk_cell BK477.out 4).trans rfl; have hfz11_0 := blk_frozen BK477.out 0; have hfz11_1 := blk_frozen BK477.out 1; have hfz11_2 := blk_frozen BK477.out 2; have hfz11_3 := blk_frozen BK477.out 3; have hfz11_4 := blk_frozen BK477.out 4) | (go_at_call 71; (with_reducible refine (impl_Track_isPlayer.calls a0_0 a0_1 a0_2 _ _ l0_3 _ _ l0_4 a2 t479 _ ?side1 ?side2 ?side3 ?side4 A8.out).mono ?_); (case side1 => repeat (first | exact (Kd.C_below HR0_3.out HB.out) | (with_reducible refine Kd.C_alloc ?_ _) | (with_reducible refine Kd.C_drewN ?_ _) | (with_reducible refine Kd.C_drew ?_))); (case side2 => exact HC0_3.out); (case side3 => repeat (first | exact (Kd.C_below HR0_4.out HB.out) | (with_reducible refine Kd.C_alloc ?_ _) | (with_reducible refine Kd.C_drewN ?_ _) | (with_reducible refine Kd.C_drew ?_))); (case side4 => exact HC0_4.out); rintro e w12 ⟨rfl, hb⟩; have n0_ := Aside0.mk (blk_below (g := gb477) (o := .cells #[.int .i64 a0_0, .int .i64 a0_1, .int .i64 a0_2, .slice A0_3 l0_3.length c0_3, .slice A0_4 l0_4.length c0_4] 27 (0, 0)) (by (with_reducible repeat (first | refine blk_drewN ?_ _ | refine blk_drew ?_ | refine blk_alloc ?_ _)); exact BK477.out) hb); have n1_ := Aside0.mk (below_step (by repeat (first | (with_reducible first | exact HB.out | apply below_alloc | apply pw_below_drewN | apply below_drew1 | refine below_set ?_ GE477.out) | exact HB.out)) hb); clear BK477; clear HB; have BK477 := n0_; have HB := n1_; clear n0_ n1_; (try clear hb); (try clear hb2); (try clear hk); (try clear hi)))
      go_meet
      case rel => exact ⟨_, (!t479), (by first | rfl | (simp; done) | (simp [*]; done)), H', ⟨by first | omega | exact Nat.le_refl _⟩, ⟨by (with_reducible repeat (first | refine blk_drewN ?_ _ | refine blk_drew ?_ | refine blk_alloc ?_ _)); exact BK477.out⟩, ⟨by repeat (first | (with_reducible first | exact HB.out | apply below_alloc | apply pw_below_drewN | apply below_drew1 | refine below_set ?_ GE477.out) | exact HB.out)⟩⟩
    · replace c7 := Bool.eq_false_iff.mpr c7
      subst c7
      have H1 : (impl_FewestMovesHome.j0 k l1 a2 true a0_0 a0_1 a0_2 l0_3 l0_4) = some (r1, r2) := by rw [if_neg (show ¬ (false = true) by decide)] at H; exact H
      clear H
      have H := H1
      clear H1
      have H' := Aside0.mk H
      clear H
      have hcz13_0 : w5.cell? ⟨gb477, 0, none⟩ = some (.int .i64 a0_0) := (blk_cell BK477.out 0).trans rfl
      have hcz13_1 : w5.cell? ⟨gb477, 1, none⟩ = some (.int .i64 a0_1) := (blk_cell BK477.out 1).trans rfl
      have hcz13_2 : w5.cell? ⟨gb477, 2, none⟩ = some (.int .i64 a0_2) := (blk_cell BK477.out 2).trans rfl
      have hcz13_3 : w5.cell? ⟨gb477, 3, none⟩ = some (.slice A0_3 l0_3.length c0_3) := (blk_cell BK477.out 3).trans rfl
      have hcz13_4 : w5.cell? ⟨gb477, 4, none⟩ = some (.slice A0_4 l0_4.length c0_4) := (blk_cell BK477.out 4).trans rfl
      have hfz13_0 := blk_frozen BK477.out 0
      have hfz13_1 := blk_frozen BK477.out 1
      have hfz13_2 := blk_frozen BK477.out 2
      have hfz13_3 := blk_frozen BK477.out 3
      have hfz13_4 := blk_frozen BK477.out 4
      go_wp2_with (first | ((with_reducible refine gate_callee (f := 76) rfl ?_); refine goesL_ (some 13) rfl rfl Try.func76 (by kernel_rfl) rfl #[.agg #[.int .i64 a0_0, .int .i64 a0_1, .int .i64 a0_2, .slice A0_3 l0_3.length c0_3, .slice A0_4 l0_4.length c0_4], .slice A1 l1.length c1] rfl (by (try simp only [List.map_toArray, List.map_cons, List.map_nil]); first | done | rfl | (simp only [List.length_drop, List.length_take]; rfl)) ?_; (with_reducible refine (impl_isTracked.calls k a0_0 a0_1 a0_2 _ _ l0_3 _ _ l0_4 _ _ l1 false _ ?side1 ?side2 ?side3 ?side4 ?side5 ?side6 A6.out).mono ?_); (case side1 => repeat (first | exact (Kd.C_below HR0_3.out HB.out) | (with_reducible refine Kd.C_alloc ?_ _) | (with_reducible refine Kd.C_drewN ?_ _) | (with_reducible refine Kd.C_drew ?_))); (case side2 => exact HC0_3.out); (case side3 => repeat (first | exact (Kd.C_below HR0_4.out HB.out) | (with_reducible refine Kd.C_alloc ?_ _) | (with_reducible refine Kd.C_drewN ?_ _) | (with_reducible refine Kd.C_drew ?_))); (case side4 => exact HC0_4.out); (case side5 => repeat (first | exact (Kd.C_below HR1.out HB.out) | (with_reducible refine Kd.C_alloc ?_ _) | (with_reducible refine Kd.C_drewN ?_ _) | (with_reducible refine Kd.C_drew ?_))); (case side6 => exact HC1.out); rintro e w14 ⟨rfl, hb⟩; refine ⟨_, rfl, ?_⟩; have n0_ := Aside0.mk (blk_below (g := gb477) (o := .cells #[.int .i64 a0_0, .int .i64 a0_1, .int .i64 a0_2, .slice A0_3 l0_3.length c0_3, .slice A0_4 l0_4.length c0_4] 27 (0, 0)) (by (with_reducible repeat (first | refine blk_drewN ?_ _ | refine blk_drew ?_ | refine blk_alloc ?_ _)); exact BK477.out) hb); have n1_ := Aside0.mk (below_step (by repeat (first | (with_reducible first | exact HB.out | apply below_alloc | apply pw_below_drewN | apply below_drew1 | refine below_set ?_ GE477.out) | exact HB.out)) hb); clear BK477; clear HB; have BK477 := n0_; have HB := n1_; clear n0_ n1_; (try clear hb); (try clear hb2); (try clear hk); (try clear hi)))
      go_meet
      case rel => exact ⟨_, (true), (by first | rfl | (simp; done) | (simp [*]; done)), H', ⟨by first | omega | exact Nat.le_refl _⟩, ⟨by (with_reducible repeat (first | refine blk_drewN ?_ _ | refine blk_drew ?_ | refine blk_alloc ?_ _)); exact BK477.out⟩, ⟨by repeat (first | (with_reducible first | exact HB.out | apply below_alloc | apply pw_below_drewN | apply below_drew1 | refine below_set ?_ GE477.out) | exact HB.out)⟩⟩
  case rest =>
    clear HC4
    try clear c1
    try clear p2
    try clear c3
    try clear c7
    try clear hcz11_0
    try clear hcz11_1
    try clear hcz11_2
    try clear hcz11_3
    try clear hcz11_4
    try clear hcz13_0
    try clear hcz13_1
    try clear hcz13_2
    try clear hcz13_3
    try clear hcz13_4
    try clear hcz9_0
    try clear hcz9_1
    try clear hcz9_2
    try clear hcz9_3
    try clear hcz9_4
    try clear hfz11_0
    try clear hfz11_1
    try clear hfz11_2
    try clear hfz11_3
    try clear hfz11_4
    try clear hfz13_0
    try clear hfz13_1
    try clear hfz13_2
    try clear hfz13_3
    try clear hfz13_4
    try clear hfz9_0
    try clear hfz9_1
    try clear hfz9_2
    try clear hfz9_3
    try clear hfz9_4
    obtain ⟨kq, x20_3, rfl, HA, HJ3, BK477, HB⟩ := hcut
    cases kq with
    | zero => exact absurd HA.out (by simp [impl_FewestMovesHome.j0])
    | succ kj3 =>
      have H := HA.out
      clear HA
      simp only [impl_FewestMovesHome.j0] at H
      by_cases c15 : x20_3 = true
      · subst c15
        have H1 : (some (0, false)) = some (r1, r2) := by rw [if_pos rfl] at H; exact H
        clear H
        have H := H1
        clear H1
        simp only [Option.some.injEq, Prod.mk.injEq] at H
        obtain ⟨rfl, rfl⟩ := H
        go_wp2
        go_ret2
        exact ⟨by first | rfl | (simp [errW_none, errW_some] <;> rfl) | (simp [*, errW_none, errW_some] <;> rfl), by repeat (first | (with_reducible first | exact HB.out | apply below_alloc | apply pw_below_drewN | apply below_drew1 | refine below_set ?_ GE477.out) | exact HB.out)⟩
      · replace c15 := Bool.eq_false_iff.mpr c15
        subst c15
        have H1 : (if 0 ≤ a2 then (if a2 < (l1.length : Int) then (impl_FewestMovesHome.l0 kj3 0 (rd_L1 l1 a2) ((rd_L1 l1 a2).length : Int) 0 a0_0 a0_1 a0_2 l0_3 l0_4) else (none)) else (none)) = some (r1, r2) := by rw [if_neg (show ¬ (false = true) by decide)] at H; exact H
        clear H
        have H := H1
        clear H1
        by_cases c16 : 0 ≤ a2
        · rw [if_pos c16] at H
          have c16b0 : decide (0 ≤ a2) = true := decide_eq_true c16
          clear c16
          by_cases c17 : a2 < (l1.length : Int)
          · rw [if_pos c17] at H
            have c17b0 : decide (a2 < (l1.length : Int)) = true := decide_eq_true c17
            clear c17
            have H' := Aside0.mk H
            clear H
            have p480 : 0 ≤ (a2 : Int) := of_decide_eq_true (by first | (with_reducible assumption) | assumption)
            have q480 : a2 < (l1.length : Int) := of_decide_eq_true (by first | (with_reducible assumption) | assumption)
            obtain ⟨ad480, A480_0, c480_0, e480, hx480_0, hl480_0, hi480_0⟩ := at_L1 HR1.out a2 p480 q480
            cases e480
            replace hx480_0 := (HB.out.cell (World.block_lt_of_cell? w _ hx480_0)).trans hx480_0
            have HR480_0 := Aside0.mk hi480_0
            have HC480_0 := Aside0.mk hl480_0
            clear hi480_0 hl480_0
            replace p480 := eq_true p480
            replace q480 := eq_true q480
            go_wp2
            go_loopg [8, 26] kj3 (fun kq v8 v26 w' => ∃ (x8_2 : Int) (x26_2 : Int), v8 = .int .i64 x8_2 ∧ v26 = .int .i64 x26_2 ∧ Aside0 (impl_FewestMovesHome.l0 kq x8_2 (rd_L1 l1 a2) ((rd_L1 l1 a2).length : Int) x26_2 a0_0 a0_1 a0_2 l0_3 l0_4 = some (r1, r2)) ∧ Aside0 (kq ≤ kj3) ∧ Aside0 (w'.heap[gb477]? = some (.cells #[.int .i64 a0_0, .int .i64 a0_1, .int .i64 a0_2, (.slice A0_3 l0_3.length c0_3), (.slice A0_4 l0_4.length c0_4)] 27 (0, 0))) ∧ Aside0 (Below w.heap.size w w'))
            case atStart => exact ⟨(0), (0), (by first | rfl | (simp; done) | (simp [*]; done)), (by first | rfl | (simp; done) | (simp [*]; done)), H', ⟨Nat.le_refl _⟩, ⟨by (with_reducible repeat (first | refine blk_drewN ?_ _ | refine blk_drew ?_ | refine blk_alloc ?_ _)); exact BK477.out⟩, ⟨by repeat (first | (with_reducible first | exact HB.out | apply below_alloc | apply pw_below_drewN | apply below_drew1 | refine below_set ?_ GE477.out) | exact HB.out)⟩⟩
            case round =>
              clear H'
              try clear c1
              try clear p2
              try clear c3
              try clear c4
              try clear p4
              try clear q4
              try clear hx4
              try clear c7
              try clear c15
              try clear c16
              try clear c16b0
              try clear c17
              try clear c17b0
              try clear hcz11_0
              try clear hcz11_1
              try clear hcz11_2
              try clear hcz11_3
              try clear hcz11_4
              try clear hcz13_0
              try clear hcz13_1
              try clear hcz13_2
              try clear hcz13_3
              try clear hcz13_4
              try clear hcz9_0
              try clear hcz9_1
              try clear hcz9_2
              try clear hcz9_3
              try clear hcz9_4
              try clear hfz11_0
              try clear hfz11_1
              try clear hfz11_2
              try clear hfz11_3
              try clear hfz11_4
              try clear hfz13_0
              try clear hfz13_1
              try clear hfz13_2
              try clear hfz13_3
              try clear hfz13_4
              try clear hfz9_0
              try clear hfz9_1
              try clear hfz9_2
              try clear hfz9_3
              try clear hfz9_4
              try clear hx480_0
              try clear p2
              try clear p480
              try clear q480
              obtain ⟨x8_2, x26_2, rfl, rfl, HA, HK2, BK477, HB⟩ := hrel
              cases gk with
              | zero => exact absurd HA.out (by simp [impl_FewestMovesHome.l0])
              | succ k2 =>
                have H := HA.out
                clear HA
                simp only [impl_FewestMovesHome.l0] at H
                by_cases c18 : x26_2 < ((rd_L1 l1 a2).length : Int)
                · rw [if_pos c18] at H
                  have c18b0 : decide (x26_2 < ((rd_L1 l1 a2).length : Int)) = true := decide_eq_true c18
                  clear c18
                  by_cases c19 : 0 ≤ x26_2
                  · rw [if_pos c19] at H
                    have c19b0 : decide (0 ≤ x26_2) = true := decide_eq_true c19
                    clear c19
                    by_cases c20 : x26_2 < ((rd_L1 l1 a2).length : Int)
                    · rw [if_pos c20] at H
                      have c20b0 : decide (x26_2 < ((rd_L1 l1 a2).length : Int)) = true := decide_eq_true c20
                      clear c20
                      by_cases c21 : (rd (rd_L1 l1 a2) x26_2) = (-1)
                      · rw [if_pos c21] at H
                        have c21b0 : ((rd (rd_L1 l1 a2) x26_2) == (-1)) = true := beq_iff_eq.mpr c21
                        have c21b1 : ((rd (rd_L1 l1 a2) x26_2) != (-1)) = false := bne_eq_false_iff_eq.mpr c21
                        clear c21
                        by_cases c22 : a0_1 = 0
                        · rw [if_pos c22] at H
                          exact absurd H (by simp)
                        · rw [if_neg c22] at H
                          have c22b0 : (a0_1 == 0) = false := beq_eq_false_iff_ne.mpr c22
                          have c22b1 : (a0_1 != 0) = true := bne_iff_ne.mpr c22
                          have H' := Aside0.mk H
                          clear H
                          have p481 : 0 ≤ (x26_2 : Int) := of_decide_eq_true (by first | (with_reducible assumption) | assumption)
                          have q481 : x26_2 < ((rd_L1 l1 a2).length : Int) := of_decide_eq_true (by first | (with_reducible assumption) | assumption)
                          obtain ⟨ad481, e481, hx481_0⟩ := Kd.at_int HR480_0.out x26_2 p481 q481
                          cases e481
                          replace hx481_0 := (HB.out.cell (World.block_lt_of_cell? w _ hx481_0)).trans hx481_0
                          replace p481 := eq_true p481
                          replace q481 := eq_true q481
                          have hcz23_0 : wr.cell? ⟨gb477, 0, none⟩ = some (.int .i64 a0_0) := (blk_cell BK477.out 0).trans rfl
                          have hcz23_1 : wr.cell? ⟨gb477, 1, none⟩ = some (.int .i64 a0_1) := (blk_cell BK477.out 1).trans rfl
                          have hcz23_2 : wr.cell? ⟨gb477, 2, none⟩ = some (.int .i64 a0_2) := (blk_cell BK477.out 2).trans rfl
                          have hcz23_3 : wr.cell? ⟨gb477, 3, none⟩ = some (.slice A0_3 l0_3.length c0_3) := (blk_cell BK477.out 3).trans rfl
                          have hcz23_4 : wr.cell? ⟨gb477, 4, none⟩ = some (.slice A0_4 l0_4.length c0_4) := (blk_cell BK477.out 4).trans rfl
                          have hfz23_0 := blk_frozen BK477.out 0
                          have hfz23_1 := blk_frozen BK477.out 1
                          have hfz23_2 := blk_frozen BK477.out 2
                          have hfz23_3 := blk_frozen BK477.out 3
                          have hfz23_4 := blk_frozen BK477.out 4
                          go_wp2
                          go_roundg k2
                          case measure => have := HJ3.out; have := HK2.out; omega
                          case rel => exact ⟨(wrap64 ((wrap64 (x8_2 + 1)) + (wrap64 (Int.tdiv (wrap64 ((wrap64 ((wrap64 (a0_0 - 0)) + a0_1)) - 1)) a0_1)))), (wrap64 (x26_2 + 1)), (by first | rfl | (simp; done) | (simp [*]; done)), (by first | rfl | (simp; done) | (simp [*]; done)), H', ⟨by have := HJ3.out; have := HK2.out; omega⟩, ⟨by (with_reducible repeat (first | refine blk_drewN ?_ _ | refine blk_drew ?_ | refine blk_alloc ?_ _)); exact BK477.out⟩, ⟨by repeat (first | (with_reducible first | exact HB.out | apply below_alloc | apply pw_below_drewN | apply below_drew1 | refine below_set ?_ GE477.out) | exact HB.out)⟩⟩
                      · rw [if_neg c21] at H
                        have c21b0 : ((rd (rd_L1 l1 a2) x26_2) == (-1)) = false := beq_eq_false_iff_ne.mpr c21
                        have c21b1 : ((rd (rd_L1 l1 a2) x26_2) != (-1)) = true := bne_iff_ne.mpr c21
                        by_cases c24 : a0_1 = 0
                        · rw [if_pos c24] at H
                          exact absurd H (by simp)
                        · rw [if_neg c24] at H
                          have c24b0 : (a0_1 == 0) = false := beq_eq_false_iff_ne.mpr c24
                          have c24b1 : (a0_1 != 0) = true := bne_iff_ne.mpr c24
                          have H' := Aside0.mk H
                          clear H
                          have p481 : 0 ≤ (x26_2 : Int) := of_decide_eq_true (by first | (with_reducible assumption) | assumption)
                          have q481 : x26_2 < ((rd_L1 l1 a2).length : Int) := of_decide_eq_true (by first | (with_reducible assumption) | assumption)
                          obtain ⟨ad481, e481, hx481_0⟩ := Kd.at_int HR480_0.out x26_2 p481 q481
                          cases e481
                          replace hx481_0 := (HB.out.cell (World.block_lt_of_cell? w _ hx481_0)).trans hx481_0
                          replace p481 := eq_true p481
                          replace q481 := eq_true q481
                          have hcz25_0 : wr.cell? ⟨gb477, 0, none⟩ = some (.int .i64 a0_0) := (blk_cell BK477.out 0).trans rfl
                          have hcz25_1 : wr.cell? ⟨gb477, 1, none⟩ = some (.int .i64 a0_1) := (blk_cell BK477.out 1).trans rfl
                          have hcz25_2 : wr.cell? ⟨gb477, 2, none⟩ = some (.int .i64 a0_2) := (blk_cell BK477.out 2).trans rfl
                          have hcz25_3 : wr.cell? ⟨gb477, 3, none⟩ = some (.slice A0_3 l0_3.length c0_3) := (blk_cell BK477.out 3).trans rfl
                          have hcz25_4 : wr.cell? ⟨gb477, 4, none⟩ = some (.slice A0_4 l0_4.length c0_4) := (blk_cell BK477.out 4).trans rfl
                          have hfz25_0 := blk_frozen BK477.out 0
                          have hfz25_1 := blk_frozen BK477.out 1
                          have hfz25_2 := blk_frozen BK477.out 2
                          have hfz25_3 := blk_frozen BK477.out 3
                          have hfz25_4 := blk_frozen BK477.out 4
                          go_wp2
                          go_roundg k2
                          case measure => have := HJ3.out; have := HK2.out; omega
                          case rel => exact ⟨(wrap64 (x8_2 + (wrap64 (Int.tdiv (wrap64 ((wrap64 ((wrap64 (a0_0 - (rd (rd_L1 l1 a2) x26_2))) + a0_1)) - 1)) a0_1)))), (wrap64 (x26_2 + 1)), (by first | rfl | (simp; done) | (simp [*]; done)), (by first | rfl | (simp; done) | (simp [*]; done)), H', ⟨by have := HJ3.out; have := HK2.out; omega⟩, ⟨by (with_reducible repeat (first | refine blk_drewN ?_ _ | refine blk_drew ?_ | refine blk_alloc ?_ _)); exact BK477.out⟩, ⟨by repeat (first | (with_reducible first | exact HB.out | apply below_alloc | apply pw_below_drewN | apply below_drew1 | refine below_set ?_ GE477.out) | exact HB.out)⟩⟩
                    · rw [if_neg c20] at H
                      exact absurd H (by simp)
                  · rw [if_neg c19] at H
                    exact absurd H (by simp)
                · rw [if_neg c18] at H
                  have c18b0 : decide (x26_2 < ((rd_L1 l1 a2).length : Int)) = false := decide_eq_false c18
                  clear c18
                  simp only [Option.some.injEq, Prod.mk.injEq] at H
                  obtain ⟨rfl, rfl⟩ := H
                  go_wp2
                  go_ret2
                  exact ⟨by first | rfl | (simp [errW_none, errW_some] <;> rfl) | (simp [*, errW_none, errW_some] <;> rfl), by repeat (first | (with_reducible first | exact HB.out | apply below_alloc | apply pw_below_drewN | apply below_drew1 | refine below_set ?_ GE477.out) | exact HB.out)⟩
          · rw [if_neg c17] at H
            exact absurd H (by simp)
        · rw [if_neg c16] at H
          exact absurd H (by simp)

end Go.Proofs.Ytcppahkdfajcaaa.P
