-- written for this claim by a program of this session (wip/tools/xprint.py), which runs the kit's print with other cuts
import Derived.Test.YtcppahkdfajcaaaP
import Derived.Test.YtcppahkdfajcaaaP75
namespace Go.Proofs.Ytcppahkdfajcaaa.P
open Go.RowKit Go.Proofs.YtcppahkdfajcaaaW.PrintWords Go.Proofs.YtcppahkdfajcaaaW.PrintLast Go.Proofs.YtcppahkdfajcaaaW.PrintMore
attribute [local go_sem] max2_int min2_int max_two min_two max_three min_three max_four min_four   -- for this text's walks alone
set_option linter.unusedVariables false
set_option linter.unusedSimpArgs false

/-! ### spec_FewestMovesHome: function 38 -/
def spec_FewestMovesHome.l0 : Nat → Int → List Int → Int → Int → Int → Int → Int → List Int → List Int → Option (Int × Bool)
  | 0, _, _, _, _, _, _, _, _, _ => none
  | k + 1, x8, x19, x20, x21, x474000, x474001, x474002, x474003, x474004 => if x21 < x20 then (if 0 ≤ x21 then (if x21 < (x19.length : Int) then (if (rd x19 x21) < 0 then (if x474001 = 0 then (none) else (spec_FewestMovesHome.l0 k (wrap64 ((wrap64 (x8 + 1)) + (wrap64 (Int.tdiv (wrap64 ((wrap64 ((wrap64 (x474000 - 0)) + x474001)) - 1)) x474001)))) x19 x20 (wrap64 (x21 + 1)) x474000 x474001 x474002 x474003 x474004)) else (if x474001 = 0 then (none) else (spec_FewestMovesHome.l0 k (wrap64 (x8 + (wrap64 (Int.tdiv (wrap64 ((wrap64 ((wrap64 (x474000 - (rd x19 x21))) + x474001)) - 1)) x474001)))) x19 x20 (wrap64 (x21 + 1)) x474000 x474001 x474002 x474003 x474004))) else (none)) else (none)) else (some (x8, true))
def spec_FewestMovesHome.f (k : Nat) (a0_0 : Int) (a0_1 : Int) (a0_2 : Int) (l0_3 : List Int) (l0_4 : List Int) (l1 : List (List Int)) (a2 : Int) : Option (Int × Bool) := (spec_trPlayer.f k a0_0 a0_1 a0_2 l0_3 l0_4 l1 a2).bind fun t474 => (if t474 = true then (if 0 ≤ a2 then (if a2 < (l1.length : Int) then (spec_FewestMovesHome.l0 k 0 (rd_L1 l1 a2) ((rd_L1 l1 a2).length : Int) 0 a0_0 a0_1 a0_2 l0_3 l0_4) else (none)) else (none)) else (some (0, false)))
theorem spec_FewestMovesHome.mono_l : ∀ k, (∀ y0 y1 y2 y3 y4 y5 y6 y7 y8, LeO (spec_FewestMovesHome.l0 k y0 y1 y2 y3 y4 y5 y6 y7 y8) (spec_FewestMovesHome.l0 (k + 1) y0 y1 y2 y3 y4 y5 y6 y7 y8))
  | 0 => fun _ _ _ _ _ _ _ _ _ r h => by simp [spec_FewestMovesHome.l0] at h
  | k + 1 => by
    have ih0 := spec_FewestMovesHome.mono_l k
    · intro y0 y1 y2 y3 y4 y5 y6 y7 y8
      unfold spec_FewestMovesHome.l0
      repeat' first
      | (with_reducible exact ih0 _ _ _ _ _ _ _ _ _)
      | (with_reducible exact spec_trPlayer.mono _ _ _ _ _ _ _ _)
      | (with_reducible exact LeO.refl _)
      | (with_reducible exact LeO.none _)
      | (with_reducible refine LeO.ite ?_ ?_)
      | (with_reducible refine LeO.bind ?_ (fun _ => ?_))
      | exact ih0 _ _ _ _ _ _ _ _ _
      | exact spec_trPlayer.mono _ _ _ _ _ _ _ _
      | exact LeO.none _
      | refine LeO.ite ?_ ?_
      | refine LeO.bind ?_ (fun _ => ?_)
theorem spec_FewestMovesHome.mono : ∀ a0 a1 a2 a3 a4 a5 a6 k, LeO (spec_FewestMovesHome.f k a0 a1 a2 a3 a4 a5 a6) (spec_FewestMovesHome.f (k + 1) a0 a1 a2 a3 a4 a5 a6) := by
  intro a0 a1 a2 a3 a4 a5 a6 k
  have ih0 := spec_FewestMovesHome.mono_l k
  unfold spec_FewestMovesHome.f
  repeat' first
      | (with_reducible exact ih0 _ _ _ _ _ _ _ _ _)
      | (with_reducible exact spec_trPlayer.mono _ _ _ _ _ _ _ _)
      | (with_reducible exact LeO.refl _)
      | (with_reducible exact LeO.none _)
      | (with_reducible refine LeO.ite ?_ ?_)
      | (with_reducible refine LeO.bind ?_ (fun _ => ?_))
      | exact ih0 _ _ _ _ _ _ _ _ _
      | exact spec_trPlayer.mono _ _ _ _ _ _ _ _
      | exact LeO.none _
      | refine LeO.ite ?_ ?_
      | refine LeO.bind ?_ (fun _ => ?_)
set_option maxHeartbeats 8000000 in
set_option maxRecDepth 100000 in
theorem spec_FewestMovesHome.calls (k : Nat) (a0_0 : Int) (a0_1 : Int) (a0_2 : Int) (A0_3 : Option Addr) (c0_3 : Nat) (l0_3 : List Int) (A0_4 : Option Addr) (c0_4 : Nat) (l0_4 : List Int) (A1 : Option Addr) (c1 : Nat) (l1 : List (List Int)) (a2 : Int) (r1 : Int) (r2 : Bool) (w : World) (hr0_3 : Kd.C (Kd.int .i64) w A0_3 l0_3.length l0_3) (hc0_3 : l0_3.length ≤ c0_3) (hr0_4 : Kd.C (Kd.int .i64) w A0_4 l0_4.length l0_4) (hc0_4 : l0_4.length ≤ c0_4) (hr1 : Kd.C (Kd.slice 3 (Kd.int .i64)) w A1 l1.length l1) (hc1 : l1.length ≤ c1) (h : spec_FewestMovesHome.f k a0_0 a0_1 a0_2 l0_3 l0_4 l1 a2 = some (r1, r2)) :
    Calls Try.prog 38 #[.agg #[.int .i64 a0_0, .int .i64 a0_1, .int .i64 a0_2, .slice A0_3 l0_3.length c0_3, .slice A0_4 l0_4.length c0_4], .slice A1 l1.length c1, .int .i64 a2] w fun e w' => e = .returned (.tuple #[.int .i64 r1, .bool r2]) ∧ Below w.heap.size w w' := by
  have hu27 := Try.underlying27
  have HR0_3 := Aside0.mk hr0_3
  have HC0_3 := Aside0.mk hc0_3
  clear hr0_3 hc0_3
  have HR0_4 := Aside0.mk hr0_4
  have HC0_4 := Aside0.mk hc0_4
  clear hr0_4 hc0_4
  have HR1 := Aside0.mk hr1
  have HC1 := Aside0.mk hc1
  clear hr1 hc1
  have HB := Aside0.mk (Below.refl w.heap.size w)
  have H : ((spec_trPlayer.f k a0_0 a0_1 a0_2 l0_3 l0_4 l1 a2).bind fun t474 => (if t474 = true then (if 0 ≤ a2 then (if a2 < (l1.length : Int) then (spec_FewestMovesHome.l0 k 0 (rd_L1 l1 a2) ((rd_L1 l1 a2).length : Int) 0 a0_0 a0_1 a0_2 l0_3 l0_4) else (none)) else (none)) else (some (0, false)))) = some (r1, r2) := h
  clear h
  replace H := Option.bind_eq_some_iff.mp H
  obtain ⟨t474, A40, H⟩ := H
  replace H : (if t474 = true then (if 0 ≤ a2 then (if a2 < (l1.length : Int) then (spec_FewestMovesHome.l0 k 0 (rd_L1 l1 a2) ((rd_L1 l1 a2).length : Int) 0 a0_0 a0_1 a0_2 l0_3 l0_4) else (none)) else (none)) else (some (0, false))) = some (r1, r2) := H
  have A4 := Aside0.mk A40
  clear A40
  by_cases c5 : t474 = true
  · subst c5
    have H1 : (if 0 ≤ a2 then (if a2 < (l1.length : Int) then (spec_FewestMovesHome.l0 k 0 (rd_L1 l1 a2) ((rd_L1 l1 a2).length : Int) 0 a0_0 a0_1 a0_2 l0_3 l0_4) else (none)) else (none)) = some (r1, r2) := by rw [if_pos rfl] at H; exact H
    clear H
    have H := H1
    clear H1
    by_cases c6 : 0 ≤ a2
    · rw [if_pos c6] at H
      have c6b0 : decide (0 ≤ a2) = true := decide_eq_true c6
      clear c6
      by_cases c7 : a2 < (l1.length : Int)
      · rw [if_pos c7] at H
        have c7b0 : decide (a2 < (l1.length : Int)) = true := decide_eq_true c7
        clear c7
        have H' := Aside0.mk H
        clear H
        go_enter Try.func38, Try.ntmps38
        go_wp2_with (first | ((with_reducible refine gate_dst (N := 3) rfl ?_); refine box_event ?hg (N := 3) ?hd (cs := #[.int .i64 a0_0, .int .i64 a0_1, .int .i64 a0_2, .slice A0_3 l0_3.length c0_3, .slice A0_4 l0_4.length c0_4]) (t := 27) ?hr ?_; (case hd => rfl); (case hg => rfl); (case hr => first | (go_simp; done) | (go_simp; rfl)); intro gb473 hg w8 hbox hb; have n0_ := Aside0.mk (below_step (by repeat (first | (with_reducible first | exact HB.out | apply below_alloc | apply pw_below_drewN | apply below_drew1) | exact HB.out)) hb); have n1_ := Aside0.mk (hbox); have n2_ := Aside0.mk ((by rw [hg]; exact (below_size (by repeat (first | (with_reducible first | exact HB.out | apply below_alloc | apply pw_below_drewN | apply below_drew1) | exact HB.out))) : w.heap.size ≤ gb473)); have n3_ := Aside0.mk ((by rw [hg]; exact (below_size (by repeat (first | (with_reducible first | exact HB.out | apply below_alloc | apply pw_below_drewN | apply below_drew1) | exact HB.out))) : w.heap.size ≤ gb473)); clear HB; have HB := n0_; have BK473 := n1_; have GW473 := n2_; have GE473 := n3_; clear n0_ n1_ n2_ n3_; clear hb hbox hg; have hcz9_0 : w8.cell? ⟨gb473, 0, none⟩ = some (.int .i64 a0_0) := (blk_cell BK473.out 0).trans rfl; have hcz9_1 : w8.cell? ⟨gb473, 1, none⟩ = some (.int .i64 a0_1) := (blk_cell BK473.out 1).trans rfl; have hcz9_2 : w8.cell? ⟨gb473, 2, none⟩ = some (.int .i64 a0_2) := (blk_cell BK473.out 2).trans rfl; have hcz9_3 : w8.cell? ⟨gb473, 3, none⟩ = some (.slice A0_3 l0_3.length c0_3) := (blk_cell BK473.out 3).trans rfl; have hcz9_4 : w8.cell? ⟨gb473, 4, none⟩ = some (.slice A0_4 l0_4.length c0_4) := (blk_cell BK473.out 4).trans rfl; have hfz9_0 := blk_frozen BK473.out 0; have hfz9_1 := blk_frozen BK473.out 1; have hfz9_2 := blk_frozen BK473.out 2; have hfz9_3 := blk_frozen BK473.out 3; have hfz9_4 := blk_frozen BK473.out 4) | ((with_reducible refine gate_callee (f := 75) rfl ?_); refine goesL_ (some 14) rfl rfl Try.func75 (by kernel_rfl) rfl #[.agg #[.int .i64 a0_0, .int .i64 a0_1, .int .i64 a0_2, .slice A0_3 l0_3.length c0_3, .slice A0_4 l0_4.length c0_4], .slice A1 l1.length c1, .int .i64 a2] rfl (by (try simp only [List.map_toArray, List.map_cons, List.map_nil]); first | done | rfl | (simp only [List.length_drop, List.length_take]; rfl)) ?_; (with_reducible refine (spec_trPlayer.calls k a0_0 a0_1 a0_2 _ _ l0_3 _ _ l0_4 _ _ l1 a2 true _ ?side1 ?side2 ?side3 ?side4 ?side5 ?side6 A4.out).mono ?_); (case side1 => repeat (first | exact (Kd.C_below HR0_3.out HB.out) | (with_reducible refine Kd.C_alloc ?_ _) | (with_reducible refine Kd.C_drewN ?_ _) | (with_reducible refine Kd.C_drew ?_))); (case side2 => exact HC0_3.out); (case side3 => repeat (first | exact (Kd.C_below HR0_4.out HB.out) | (with_reducible refine Kd.C_alloc ?_ _) | (with_reducible refine Kd.C_drewN ?_ _) | (with_reducible refine Kd.C_drew ?_))); (case side4 => exact HC0_4.out); (case side5 => repeat (first | exact (Kd.C_below HR1.out HB.out) | (with_reducible refine Kd.C_alloc ?_ _) | (with_reducible refine Kd.C_drewN ?_ _) | (with_reducible refine Kd.C_drew ?_))); (case side6 => exact HC1.out); rintro e w10 ⟨rfl, hb⟩; refine ⟨_, rfl, ?_⟩; have n0_ := Aside0.mk (blk_below (g := gb473) (o := .cells #[.int .i64 a0_0, .int .i64 a0_1, .int .i64 a0_2, .slice A0_3 l0_3.length c0_3, .slice A0_4 l0_4.length c0_4] 27 (0, 0)) (by (with_reducible repeat (first | refine blk_drewN ?_ _ | refine blk_drew ?_ | refine blk_alloc ?_ _)); exact BK473.out) hb); have n1_ := Aside0.mk (below_step (by repeat (first | (with_reducible first | exact HB.out | apply below_alloc | apply pw_below_drewN | apply below_drew1 | refine below_set ?_ GE473.out) | exact HB.out)) hb); clear BK473; clear HB; have BK473 := n0_; have HB := n1_; clear n0_ n1_; (try clear hb); (try clear hb2); (try clear hk); (try clear hi); have p475 : 0 ≤ (a2 : Int) := of_decide_eq_true (by first | (with_reducible assumption) | assumption); have q475 : a2 < (l1.length : Int) := of_decide_eq_true (by first | (with_reducible assumption) | assumption); obtain ⟨ad475, A475_0, c475_0, e475, hx475_0, hl475_0, hi475_0⟩ := at_L1 HR1.out a2 p475 q475; cases e475; replace hx475_0 := (HB.out.cell (World.block_lt_of_cell? w _ hx475_0)).trans hx475_0; have HR475_0 := Aside0.mk hi475_0; have HC475_0 := Aside0.mk hl475_0; clear hi475_0 hl475_0; replace p475 := eq_true p475; replace q475 := eq_true q475))
        go_loopg [8, 21] k (fun kq v8 v21 w' => ∃ (x8_1 : Int) (x21_1 : Int), v8 = .int .i64 x8_1 ∧ v21 = .int .i64 x21_1 ∧ Aside0 (spec_FewestMovesHome.l0 kq x8_1 (rd_L1 l1 a2) ((rd_L1 l1 a2).length : Int) x21_1 a0_0 a0_1 a0_2 l0_3 l0_4 = some (r1, r2)) ∧ Aside0 (kq ≤ k) ∧ Aside0 (w'.heap[gb473]? = some (.cells #[.int .i64 a0_0, .int .i64 a0_1, .int .i64 a0_2, (.slice A0_3 l0_3.length c0_3), (.slice A0_4 l0_4.length c0_4)] 27 (0, 0))) ∧ Aside0 (Below w.heap.size w w'))
        case atStart => exact ⟨(0), (0), (by first | rfl | (simp; done) | (simp [*]; done)), (by first | rfl | (simp; done) | (simp [*]; done)), H', ⟨Nat.le_refl _⟩, ⟨by (with_reducible repeat (first | refine blk_drewN ?_ _ | refine blk_drew ?_ | refine blk_alloc ?_ _)); exact BK473.out⟩, ⟨by repeat (first | (with_reducible first | exact HB.out | apply below_alloc | apply pw_below_drewN | apply below_drew1 | refine below_set ?_ GE473.out) | exact HB.out)⟩⟩
        case round =>
          clear H'
          try clear c1
          try clear p2
          try clear c3
          try clear c4
          try clear p4
          try clear q4
          try clear hx4
          try clear c5
          try clear c6
          try clear c6b0
          try clear c7
          try clear c7b0
          try clear hcz9_0
          try clear hcz9_1
          try clear hcz9_2
          try clear hcz9_3
          try clear hcz9_4
          try clear hfz9_0
          try clear hfz9_1
          try clear hfz9_2
          try clear hfz9_3
          try clear hfz9_4
          try clear hx475_0
          try clear p475
          try clear q475
          obtain ⟨x8_1, x21_1, rfl, rfl, HA, HK1, BK473, HB⟩ := hrel
          cases gk with
          | zero => exact absurd HA.out (by simp [spec_FewestMovesHome.l0])
          | succ k1 =>
            have H := HA.out
            clear HA
            simp only [spec_FewestMovesHome.l0] at H
            by_cases c11 : x21_1 < ((rd_L1 l1 a2).length : Int)
            · rw [if_pos c11] at H
              have c11b0 : decide (x21_1 < ((rd_L1 l1 a2).length : Int)) = true := decide_eq_true c11
              clear c11
              by_cases c12 : 0 ≤ x21_1
              · rw [if_pos c12] at H
                have c12b0 : decide (0 ≤ x21_1) = true := decide_eq_true c12
                clear c12
                by_cases c13 : x21_1 < ((rd_L1 l1 a2).length : Int)
                · rw [if_pos c13] at H
                  have c13b0 : decide (x21_1 < ((rd_L1 l1 a2).length : Int)) = true := decide_eq_true c13
                  clear c13
                  by_cases c14 : (rd (rd_L1 l1 a2) x21_1) < 0
                  · rw [if_pos c14] at H
                    have c14b0 : decide ((rd (rd_L1 l1 a2) x21_1) < 0) = true := decide_eq_true c14
                    clear c14
                    by_cases c15 : a0_1 = 0
                    · rw [if_pos c15] at H
                      exact absurd H (by simp)
                    · rw [if_neg c15] at H
                      have c15b0 : (a0_1 == 0) = false := beq_eq_false_iff_ne.mpr c15
                      have c15b1 : (a0_1 != 0) = true := bne_iff_ne.mpr c15
                      have H' := Aside0.mk H
                      clear H
                      have p476 : 0 ≤ (x21_1 : Int) := of_decide_eq_true (by first | (with_reducible assumption) | assumption)
                      have q476 : x21_1 < ((rd_L1 l1 a2).length : Int) := of_decide_eq_true (by first | (with_reducible assumption) | assumption)
                      obtain ⟨ad476, e476, hx476_0⟩ := Kd.at_int HR475_0.out x21_1 p476 q476
                      cases e476
                      replace hx476_0 := (HB.out.cell (World.block_lt_of_cell? w _ hx476_0)).trans hx476_0
                      replace p476 := eq_true p476
                      replace q476 := eq_true q476
                      have hcz16_0 : wr.cell? ⟨gb473, 0, none⟩ = some (.int .i64 a0_0) := (blk_cell BK473.out 0).trans rfl
                      have hcz16_1 : wr.cell? ⟨gb473, 1, none⟩ = some (.int .i64 a0_1) := (blk_cell BK473.out 1).trans rfl
                      have hcz16_2 : wr.cell? ⟨gb473, 2, none⟩ = some (.int .i64 a0_2) := (blk_cell BK473.out 2).trans rfl
                      have hcz16_3 : wr.cell? ⟨gb473, 3, none⟩ = some (.slice A0_3 l0_3.length c0_3) := (blk_cell BK473.out 3).trans rfl
                      have hcz16_4 : wr.cell? ⟨gb473, 4, none⟩ = some (.slice A0_4 l0_4.length c0_4) := (blk_cell BK473.out 4).trans rfl
                      have hfz16_0 := blk_frozen BK473.out 0
                      have hfz16_1 := blk_frozen BK473.out 1
                      have hfz16_2 := blk_frozen BK473.out 2
                      have hfz16_3 := blk_frozen BK473.out 3
                      have hfz16_4 := blk_frozen BK473.out 4
                      go_wp2
                      go_roundg k1
                      case measure => have := HK1.out; omega
                      case rel => exact ⟨(wrap64 ((wrap64 (x8_1 + 1)) + (wrap64 (Int.tdiv (wrap64 ((wrap64 ((wrap64 (a0_0 - 0)) + a0_1)) - 1)) a0_1)))), (wrap64 (x21_1 + 1)), (by first | rfl | (simp; done) | (simp [*]; done)), (by first | rfl | (simp; done) | (simp [*]; done)), H', ⟨by have := HK1.out; omega⟩, ⟨by (with_reducible repeat (first | refine blk_drewN ?_ _ | refine blk_drew ?_ | refine blk_alloc ?_ _)); exact BK473.out⟩, ⟨by repeat (first | (with_reducible first | exact HB.out | apply below_alloc | apply pw_below_drewN | apply below_drew1 | refine below_set ?_ GE473.out) | exact HB.out)⟩⟩
                  · rw [if_neg c14] at H
                    have c14b0 : decide ((rd (rd_L1 l1 a2) x21_1) < 0) = false := decide_eq_false c14
                    clear c14
                    by_cases c17 : a0_1 = 0
                    · rw [if_pos c17] at H
                      exact absurd H (by simp)
                    · rw [if_neg c17] at H
                      have c17b0 : (a0_1 == 0) = false := beq_eq_false_iff_ne.mpr c17
                      have c17b1 : (a0_1 != 0) = true := bne_iff_ne.mpr c17
                      have H' := Aside0.mk H
                      clear H
                      have p476 : 0 ≤ (x21_1 : Int) := of_decide_eq_true (by first | (with_reducible assumption) | assumption)
                      have q476 : x21_1 < ((rd_L1 l1 a2).length : Int) := of_decide_eq_true (by first | (with_reducible assumption) | assumption)
                      obtain ⟨ad476, e476, hx476_0⟩ := Kd.at_int HR475_0.out x21_1 p476 q476
                      cases e476
                      replace hx476_0 := (HB.out.cell (World.block_lt_of_cell? w _ hx476_0)).trans hx476_0
                      replace p476 := eq_true p476
                      replace q476 := eq_true q476
                      have hcz18_0 : wr.cell? ⟨gb473, 0, none⟩ = some (.int .i64 a0_0) := (blk_cell BK473.out 0).trans rfl
                      have hcz18_1 : wr.cell? ⟨gb473, 1, none⟩ = some (.int .i64 a0_1) := (blk_cell BK473.out 1).trans rfl
                      have hcz18_2 : wr.cell? ⟨gb473, 2, none⟩ = some (.int .i64 a0_2) := (blk_cell BK473.out 2).trans rfl
                      have hcz18_3 : wr.cell? ⟨gb473, 3, none⟩ = some (.slice A0_3 l0_3.length c0_3) := (blk_cell BK473.out 3).trans rfl
                      have hcz18_4 : wr.cell? ⟨gb473, 4, none⟩ = some (.slice A0_4 l0_4.length c0_4) := (blk_cell BK473.out 4).trans rfl
                      have hfz18_0 := blk_frozen BK473.out 0
                      have hfz18_1 := blk_frozen BK473.out 1
                      have hfz18_2 := blk_frozen BK473.out 2
                      have hfz18_3 := blk_frozen BK473.out 3
                      have hfz18_4 := blk_frozen BK473.out 4
                      go_wp2
                      go_roundg k1
                      case measure => have := HK1.out; omega
                      case rel => exact ⟨(wrap64 (x8_1 + (wrap64 (Int.tdiv (wrap64 ((wrap64 ((wrap64 (a0_0 - (rd (rd_L1 l1 a2) x21_1))) + a0_1)) - 1)) a0_1)))), (wrap64 (x21_1 + 1)), (by first | rfl | (simp; done) | (simp [*]; done)), (by first | rfl | (simp; done) | (simp [*]; done)), H', ⟨by have := HK1.out; omega⟩, ⟨by (with_reducible repeat (first | refine blk_drewN ?_ _ | refine blk_drew ?_ | refine blk_alloc ?_ _)); exact BK473.out⟩, ⟨by repeat (first | (with_reducible first | exact HB.out | apply below_alloc | apply pw_below_drewN | apply below_drew1 | refine below_set ?_ GE473.out) | exact HB.out)⟩⟩
                · rw [if_neg c13] at H
                  exact absurd H (by simp)
              · rw [if_neg c12] at H
                exact absurd H (by simp)
            · rw [if_neg c11] at H
              have c11b0 : decide (x21_1 < ((rd_L1 l1 a2).length : Int)) = false := decide_eq_false c11
              clear c11
              simp only [Option.some.injEq, Prod.mk.injEq] at H
              obtain ⟨rfl, rfl⟩ := H
              go_wp2
              go_ret2
              exact ⟨by first | rfl | (simp [errW_none, errW_some] <;> rfl) | (simp [*, errW_none, errW_some] <;> rfl), by repeat (first | (with_reducible first | exact HB.out | apply below_alloc | apply pw_below_drewN | apply below_drew1 | refine below_set ?_ GE473.out) | exact HB.out)⟩
      · rw [if_neg c7] at H
        exact absurd H (by simp)
    · rw [if_neg c6] at H
      exact absurd H (by simp)
  · replace c5 := Bool.eq_false_iff.mpr c5
    subst c5
    have H1 : (some (0, false)) = some (r1, r2) := by rw [if_neg (show ¬ (false = true) by decide)] at H; exact H
    clear H
    have H := H1
    clear H1
    simp only [Option.some.injEq, Prod.mk.injEq] at H
    obtain ⟨rfl, rfl⟩ := H
    go_enter Try.func38, Try.ntmps38
    go_wp2_with (first | ((with_reducible refine gate_dst (N := 3) rfl ?_); refine box_event ?hg (N := 3) ?hd (cs := #[.int .i64 a0_0, .int .i64 a0_1, .int .i64 a0_2, .slice A0_3 l0_3.length c0_3, .slice A0_4 l0_4.length c0_4]) (t := 27) ?hr ?_; (case hd => rfl); (case hg => rfl); (case hr => first | (go_simp; done) | (go_simp; rfl)); intro gb473 hg w19 hbox hb; have n0_ := Aside0.mk (below_step (by repeat (first | (with_reducible first | exact HB.out | apply below_alloc | apply pw_below_drewN | apply below_drew1) | exact HB.out)) hb); have n1_ := Aside0.mk (hbox); have n2_ := Aside0.mk ((by rw [hg]; exact (below_size (by repeat (first | (with_reducible first | exact HB.out | apply below_alloc | apply pw_below_drewN | apply below_drew1) | exact HB.out))) : w.heap.size ≤ gb473)); have n3_ := Aside0.mk ((by rw [hg]; exact (below_size (by repeat (first | (with_reducible first | exact HB.out | apply below_alloc | apply pw_below_drewN | apply below_drew1) | exact HB.out))) : w.heap.size ≤ gb473)); clear HB; have HB := n0_; have BK473 := n1_; have GW473 := n2_; have GE473 := n3_; clear n0_ n1_ n2_ n3_; clear hb hbox hg; have hcz20_0 : w19.cell? ⟨gb473, 0, none⟩ = some (.int .i64 a0_0) := (blk_cell BK473.out 0).trans rfl; have hcz20_1 : w19.cell? ⟨gb473, 1, none⟩ = some (.int .i64 a0_1) := (blk_cell BK473.out 1).trans rfl; have hcz20_2 : w19.cell? ⟨gb473, 2, none⟩ = some (.int .i64 a0_2) := (blk_cell BK473.out 2).trans rfl; have hcz20_3 : w19.cell? ⟨gb473, 3, none⟩ = some (.slice A0_3 l0_3.length c0_3) := (blk_cell BK473.out 3).trans rfl; have hcz20_4 : w19.cell? ⟨gb473, 4, none⟩ = some (.slice A0_4 l0_4.length c0_4) := (blk_cell BK473.out 4).trans rfl; have hfz20_0 := blk_frozen BK473.out 0; have hfz20_1 := blk_frozen BK473.out 1; have hfz20_2 := blk_frozen BK473.out 2; have hfz20_3 := blk_frozen BK473.out 3; have hfz20_4 := blk_frozen BK473.out 4) | ((with_reducible refine gate_callee (f := 75) rfl ?_); refine goesL_ (some 14) rfl rfl Try.func75 (by kernel_rfl) rfl #[.agg #[.int .i64 a0_0, .int .i64 a0_1, .int .i64 a0_2, .slice A0_3 l0_3.length c0_3, .slice A0_4 l0_4.length c0_4], .slice A1 l1.length c1, .int .i64 a2] rfl (by (try simp only [List.map_toArray, List.map_cons, List.map_nil]); first | done | rfl | (simp only [List.length_drop, List.length_take]; rfl)) ?_; (with_reducible refine (spec_trPlayer.calls k a0_0 a0_1 a0_2 _ _ l0_3 _ _ l0_4 _ _ l1 a2 false _ ?side1 ?side2 ?side3 ?side4 ?side5 ?side6 A4.out).mono ?_); (case side1 => repeat (first | exact (Kd.C_below HR0_3.out HB.out) | (with_reducible refine Kd.C_alloc ?_ _) | (with_reducible refine Kd.C_drewN ?_ _) | (with_reducible refine Kd.C_drew ?_))); (case side2 => exact HC0_3.out); (case side3 => repeat (first | exact (Kd.C_below HR0_4.out HB.out) | (with_reducible refine Kd.C_alloc ?_ _) | (with_reducible refine Kd.C_drewN ?_ _) | (with_reducible refine Kd.C_drew ?_))); (case side4 => exact HC0_4.out); (case side5 => repeat (first | exact (Kd.C_below HR1.out HB.out) | (with_reducible refine Kd.C_alloc ?_ _) | (with_reducible refine Kd.C_drewN ?_ _) | (with_reducible refine Kd.C_drew ?_))); (case side6 => exact HC1.out); rintro e w21 ⟨rfl, hb⟩; refine ⟨_, rfl, ?_⟩; have n0_ := Aside0.mk (blk_below (g := gb473) (o := .cells #[.int .i64 a0_0, .int .i64 a0_1, .int .i64 a0_2, .slice A0_3 l0_3.length c0_3, .slice A0_4 l0_4.length c0_4] 27 (0, 0)) (by (with_reducible repeat (first | refine blk_drewN ?_ _ | refine blk_drew ?_ | refine blk_alloc ?_ _)); exact BK473.out) hb); have n1_ := Aside0.mk (below_step (by repeat (first | (with_reducible first | exact HB.out | apply below_alloc | apply pw_below_drewN | apply below_drew1 | refine below_set ?_ GE473.out) | exact HB.out)) hb); clear BK473; clear HB; have BK473 := n0_; have HB := n1_; clear n0_ n1_; (try clear hb); (try clear hb2); (try clear hk); (try clear hi)))
    go_ret2
    exact ⟨by first | rfl | (simp [errW_none, errW_some] <;> rfl) | (simp [*, errW_none, errW_some] <;> rfl), by repeat (first | (with_reducible first | exact HB.out | apply below_alloc | apply pw_below_drewN | apply below_drew1 | refine below_set ?_ GE473.out) | exact HB.out)⟩

end Go.Proofs.Ytcppahkdfajcaaa.P
