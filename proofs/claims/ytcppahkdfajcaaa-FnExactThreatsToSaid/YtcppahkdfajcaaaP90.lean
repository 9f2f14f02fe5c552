-- written for this claim by a program of this session (wip/tools/xprint.py), which runs the kit's print with other cuts
import Derived.Test.YtcppahkdfajcaaaP
import Derived.Test.YtcppahkdfajcaaaP63
import Derived.Test.YtcppahkdfajcaaaP82
namespace Go.Proofs.Ytcppahkdfajcaaa.P
open Go.RowKit Go.Proofs.YtcppahkdfajcaaaW.PrintWords Go.Proofs.YtcppahkdfajcaaaW.PrintLast Go.Proofs.YtcppahkdfajcaaaW.PrintMore
attribute [local go_sem] max2_int min2_int max_two min_two max_three min_three max_four min_four   -- for this text's walks alone
set_option linter.unusedVariables false
set_option linter.unusedSimpArgs false

/-! ### impl_Track_isThreatened: function 90 -/
mutual
def impl_Track_isThreatened.l0 : Nat → Int → Int → List (List Int) → Int → Int → Int → Int → Int → List Int → List Int → Option (Bool)
 | 0, _, _, _, _, _, _, _, _, _, _ => none
 | k + 1, x2, x3, x16, x17, x18, x648000, x648001, x648002, x648003, x648004 => if x18 < x17 then (if 0 ≤ x18 then (if x18 < (x16.length : Int) then (if x18 = x2 then (impl_Track_isThreatened.l0 k x2 x3 x16 x17 (wrap64 (x18 + 1)) x648000 x648001 x648002 x648003 x648004) else (impl_Track_isThreatened.l1 k x2 x3 x18 x16 x17 x18 (rd_L1 x16 x18) ((rd_L1 x16 x18).length : Int) 0 x648000 x648001 x648002 x648003 x648004)) else (none)) else (none)) else (some false)
def impl_Track_isThreatened.l1 : Nat → Int → Int → Int → List (List Int) → Int → Int → List Int → Int → Int → Int → Int → Int → List Int → List Int → Option (Bool)
 | 0, _, _, _, _, _, _, _, _, _, _, _, _, _, _ => none
 | k + 1, x2, x3, x9, x16, x17, x18, x26, x27, x28, x648000, x648001, x648002, x648003, x648004 => if x28 < x27 then (if 0 ≤ x28 then (if x28 < (x26.length : Int) then (impl_Track_isThreatened.l2 k x2 x3 x9 (rd x26 x28) 1 x16 x17 x18 x26 x27 x28 x648000 x648001 x648002 x648003 x648004) else (none)) else (none)) else (impl_Track_isThreatened.l0 k x2 x3 x16 x17 (wrap64 (x18 + 1)) x648000 x648001 x648002 x648003 x648004)
def impl_Track_isThreatened.l2 : Nat → Int → Int → Int → Int → Int → List (List Int) → Int → Int → List Int → Int → Int → Int → Int → Int → List Int → List Int → Option (Bool)
 | 0, _, _, _, _, _, _, _, _, _, _, _, _, _, _, _, _ => none
 | k + 1, x2, x3, x9, x12, x13, x16, x17, x18, x26, x27, x28, x648000, x648001, x648002, x648003, x648004 => if x13 ≤ x648001 then ((impl_Track_goes.f x648000 x648001 x648002 x648003 x648004 x12 x13).bind fun bt650 => (if bt650.2 = true then ((impl_Track_square.f x648000 x648001 x648002 x648003 x648004 x9 bt650.1).bind fun t652 => (if t652 = x3 then (some true) else (impl_Track_isThreatened.l2 k x2 x3 x9 x12 (wrap64 (x13 + 1)) x16 x17 x18 x26 x27 x28 x648000 x648001 x648002 x648003 x648004))) else (impl_Track_isThreatened.l2 k x2 x3 x9 x12 (wrap64 (x13 + 1)) x16 x17 x18 x26 x27 x28 x648000 x648001 x648002 x648003 x648004))) else (impl_Track_isThreatened.l1 k x2 x3 x9 x16 x17 x18 x26 x27 (wrap64 (x28 + 1)) x648000 x648001 x648002 x648003 x648004)
end
def impl_Track_isThreatened.f (k : Nat) (a0_0 : Int) (a0_1 : Int) (a0_2 : Int) (l0_3 : List Int) (l0_4 : List Int) (l1 : List (List Int)) (a2 : Int) (a3 : Int) : Option (Bool) := impl_Track_isThreatened.l0 k a2 a3 l1 (l1.length : Int) 0 a0_0 a0_1 a0_2 l0_3 l0_4
theorem impl_Track_isThreatened.mono_l : ∀ k, (∀ y0 y1 y2 y3 y4 y5 y6 y7 y8 y9, LeO (impl_Track_isThreatened.l0 k y0 y1 y2 y3 y4 y5 y6 y7 y8 y9) (impl_Track_isThreatened.l0 (k + 1) y0 y1 y2 y3 y4 y5 y6 y7 y8 y9)) ∧ (∀ y0 y1 y2 y3 y4 y5 y6 y7 y8 y9 y10 y11 y12 y13, LeO (impl_Track_isThreatened.l1 k y0 y1 y2 y3 y4 y5 y6 y7 y8 y9 y10 y11 y12 y13) (impl_Track_isThreatened.l1 (k + 1) y0 y1 y2 y3 y4 y5 y6 y7 y8 y9 y10 y11 y12 y13)) ∧ (∀ y0 y1 y2 y3 y4 y5 y6 y7 y8 y9 y10 y11 y12 y13 y14 y15, LeO (impl_Track_isThreatened.l2 k y0 y1 y2 y3 y4 y5 y6 y7 y8 y9 y10 y11 y12 y13 y14 y15) (impl_Track_isThreatened.l2 (k + 1) y0 y1 y2 y3 y4 y5 y6 y7 y8 y9 y10 y11 y12 y13 y14 y15))
 | 0 => ⟨fun _ _ _ _ _ _ _ _ _ _ r h => by simp [impl_Track_isThreatened.l0] at h, fun _ _ _ _ _ _ _ _ _ _ _ _ _ _ r h => by simp [impl_Track_isThreatened.l1] at h, fun _ _ _ _ _ _ _ _ _ _ _ _ _ _ _ _ r h => by simp [impl_Track_isThreatened.l2] at h⟩
 | k + 1 => by
  obtain ⟨ih0, ih1, ih2⟩ := impl_Track_isThreatened.mono_l k
  refine ⟨?_, ?_, ?_⟩
  ·intro y0 y1 y2 y3 y4 y5 y6 y7 y8 y9
   unfold impl_Track_isThreatened.l0
   repeat' first
   | (with_reducible exact ih0 _ _ _ _ _ _ _ _ _ _)
   | (with_reducible exact ih1 _ _ _ _ _ _ _ _ _ _ _ _ _ _)
   | (with_reducible exact ih2 _ _ _ _ _ _ _ _ _ _ _ _ _ _ _ _)
   | (with_reducible exact LeO.refl _)
   | (with_reducible exact LeO.none _)
   | (with_reducible refine LeO.ite ?_ ?_)
   | (with_reducible refine LeO.bind ?_ (fun _ => ?_))
   | exact ih0 _ _ _ _ _ _ _ _ _ _
   | exact ih1 _ _ _ _ _ _ _ _ _ _ _ _ _ _
   | exact ih2 _ _ _ _ _ _ _ _ _ _ _ _ _ _ _ _
   | exact LeO.none _
   | refine LeO.ite ?_ ?_
   | refine LeO.bind ?_ (fun _ => ?_)
  ·intro y0 y1 y2 y3 y4 y5 y6 y7 y8 y9 y10 y11 y12 y13
   unfold impl_Track_isThreatened.l1
   repeat' first
   | (with_reducible exact ih0 _ _ _ _ _ _ _ _ _ _)
   | (with_reducible exact ih1 _ _ _ _ _ _ _ _ _ _ _ _ _ _)
   | (with_reducible exact ih2 _ _ _ _ _ _ _ _ _ _ _ _ _ _ _ _)
   | (with_reducible exact LeO.refl _)
   | (with_reducible exact LeO.none _)
   | (with_reducible refine LeO.ite ?_ ?_)
   | (with_reducible refine LeO.bind ?_ (fun _ => ?_))
   | exact ih0 _ _ _ _ _ _ _ _ _ _
   | exact ih1 _ _ _ _ _ _ _ _ _ _ _ _ _ _
   | exact ih2 _ _ _ _ _ _ _ _ _ _ _ _ _ _ _ _
   | exact LeO.none _
   | refine LeO.ite ?_ ?_
   | refine LeO.bind ?_ (fun _ => ?_)
  ·intro y0 y1 y2 y3 y4 y5 y6 y7 y8 y9 y10 y11 y12 y13 y14 y15
   unfold impl_Track_isThreatened.l2
   repeat' first
   | (with_reducible exact ih0 _ _ _ _ _ _ _ _ _ _)
   | (with_reducible exact ih1 _ _ _ _ _ _ _ _ _ _ _ _ _ _)
   | (with_reducible exact ih2 _ _ _ _ _ _ _ _ _ _ _ _ _ _ _ _)
   | (with_reducible exact LeO.refl _)
   | (with_reducible exact LeO.none _)
   | (with_reducible refine LeO.ite ?_ ?_)
   | (with_reducible refine LeO.bind ?_ (fun _ => ?_))
   | exact ih0 _ _ _ _ _ _ _ _ _ _
   | exact ih1 _ _ _ _ _ _ _ _ _ _ _ _ _ _
   | exact ih2 _ _ _ _ _ _ _ _ _ _ _ _ _ _ _ _
   | exact LeO.none _
   | refine LeO.ite ?_ ?_
   | refine LeO.bind ?_ (fun _ => ?_)
theorem impl_Track_isThreatened.mono : ∀ a0 a1 a2 a3 a4 a5 a6 a7 k, LeO (impl_Track_isThreatened.f k a0 a1 a2 a3 a4 a5 a6 a7) (impl_Track_isThreatened.f (k + 1) a0 a1 a2 a3 a4 a5 a6 a7) := by
 intro a0 a1 a2 a3 a4 a5 a6 a7 k
 obtain ⟨ih0, ih1, ih2⟩ := impl_Track_isThreatened.mono_l k
 unfold impl_Track_isThreatened.f
 repeat' first
   | (with_reducible exact ih0 _ _ _ _ _ _ _ _ _ _)
   | (with_reducible exact ih1 _ _ _ _ _ _ _ _ _ _ _ _ _ _)
   | (with_reducible exact ih2 _ _ _ _ _ _ _ _ _ _ _ _ _ _ _ _)
   | (with_reducible exact LeO.refl _)
   | (with_reducible exact LeO.none _)
   | (with_reducible refine LeO.ite ?_ ?_)
   | (with_reducible refine LeO.bind ?_ (fun _ => ?_))
   | exact ih0 _ _ _ _ _ _ _ _ _ _
   | exact ih1 _ _ _ _ _ _ _ _ _ _ _ _ _ _
   | exact ih2 _ _ _ _ _ _ _ _ _ _ _ _ _ _ _ _
   | exact LeO.none _
   | refine LeO.ite ?_ ?_
   | refine LeO.bind ?_ (fun _ => ?_)
set_option maxHeartbeats 8000000 in
set_option maxRecDepth 100000 in
theorem impl_Track_isThreatened.calls (k : Nat) (a0_0 : Int) (a0_1 : Int) (a0_2 : Int) (A0_3 : Option Addr) (c0_3 : Nat) (l0_3 : List Int) (A0_4 : Option Addr) (c0_4 : Nat) (l0_4 : List Int) (A1 : Option Addr) (c1 : Nat) (l1 : List (List Int)) (a2 : Int) (a3 : Int) (r : Bool) (w : World) (hr0_3 : Kd.C (Kd.int .i64) w A0_3 l0_3.length l0_3) (hc0_3 : l0_3.length ≤ c0_3) (hr0_4 : Kd.C (Kd.int .i64) w A0_4 l0_4.length l0_4) (hc0_4 : l0_4.length ≤ c0_4) (hr1 : Kd.C (Kd.slice 3 (Kd.int .i64)) w A1 l1.length l1) (hc1 : l1.length ≤ c1) (h : impl_Track_isThreatened.f k a0_0 a0_1 a0_2 l0_3 l0_4 l1 a2 a3 = some r) :
  Calls Try.prog 90 #[.agg #[.int .i64 a0_0, .int .i64 a0_1, .int .i64 a0_2, .slice A0_3 l0_3.length c0_3, .slice A0_4 l0_4.length c0_4], .slice A1 l1.length c1, .int .i64 a2, .int .i64 a3] w fun e w' => e = .returned (.bool r) ∧ Below w.heap.size w w' := by
 have hu27 := Try.underlying27
 have HR0_3 := Aside0.mk hr0_3
 have HC0_3 := Aside0.mk hc0_3
 clear hr0_3 hc0_3
 have HR0_4 := Aside0.mk hr0_4
 have HC0_4 := Aside0.mk hc0_4
 clear hr0_4 hc0_4
 have HR1 := Aside0.mk hr1
 have HC1 := Aside0.mk hc1
 clear hr1 hc1
 have HB := Aside0.mk (Below.refl w.heap.size w)
 have H : (impl_Track_isThreatened.l0 k a2 a3 l1 (l1.length : Int) 0 a0_0 a0_1 a0_2 l0_3 l0_4) = some r := h
 clear h
 have H' := Aside0.mk H
 clear H
 go_enter Try.func90, Try.ntmps90
 go_wp2_with (first | ((with_reducible refine gate_dst (N := 4) rfl ?_); refine box_event ?hg (N := 4) ?hd (cs := #[.int .i64 a0_0, .int .i64 a0_1, .int .i64 a0_2, .slice A0_3 l0_3.length c0_3, .slice A0_4 l0_4.length c0_4]) (t := 27) ?hr ?_; (case hd => rfl); (case hg => rfl); (case hr => first | (go_simp; done) | (go_simp; rfl)); intro gb647 hg w5 hbox hb; have n0_ := Aside0.mk (below_step hb_ hb); have n1_ := Aside0.mk (hbox); have n2_ := Aside0.mk ((by rw [hg]; exact (below_size hb_) : w.heap.size ≤ gb647)); have n3_ := Aside0.mk ((by rw [hg]; exact (below_size hb_) : w.heap.size ≤ gb647)); clear HB; have HB := n0_; have BK647 := n1_; have GW647 := n2_; have GE647 := n3_; clear n0_ n1_ n2_ n3_; clear hb hbox hg))
 go_loopg [18] k (fun kq v18 w' => ∃ (x18_1 : Int), v18 = .int .i64 x18_1 ∧ Aside0 (impl_Track_isThreatened.l0 kq a2 a3 l1 (l1.length : Int) x18_1 a0_0 a0_1 a0_2 l0_3 l0_4 = some r) ∧ Aside0 (kq ≤ k) ∧ Aside0 (w'.heap[gb647]? = some (.cells #[.int .i64 a0_0, .int .i64 a0_1, .int .i64 a0_2, (.slice A0_3 l0_3.length c0_3), (.slice A0_4 l0_4.length c0_4)] 27 (0, 0))) ∧ Aside0 (Below w.heap.size w w'))
 case atStart => exact ⟨(0), (by first | rfl | (simp; done) | (simp [*]; done)), H', ⟨Nat.le_refl _⟩, ⟨by (with_reducible repeat (first | refine blk_drewN ?_ _ | refine blk_drew ?_ | refine blk_alloc ?_ _)); exact BK647.out⟩, ⟨hb_⟩⟩
 case round =>
  clear H'
  try clear c1
  try clear p2
  obtain ⟨x18_1, rfl, HA, HK1, BK647, HB⟩ := hrel
  cases gk with
  | zero => exact absurd HA.out (by simp [impl_Track_isThreatened.l0])
  | succ k1 =>
   have H := HA.out
   clear HA
   simp only [impl_Track_isThreatened.l0] at H
   by_cases c6 : x18_1 < (l1.length : Int)
   ·rw [if_pos c6] at H
    have c6b0 : decide (x18_1 < (l1.length : Int)) = true := decide_eq_true c6
    clear c6
    by_cases c7 : 0 ≤ x18_1
    ·rw [if_pos c7] at H
     have c7b0 : decide (0 ≤ x18_1) = true := decide_eq_true c7
     clear c7
     by_cases c8 : x18_1 < (l1.length : Int)
     ·rw [if_pos c8] at H
      have c8b0 : decide (x18_1 < (l1.length : Int)) = true := decide_eq_true c8
      clear c8
      by_cases c9 : x18_1 = a2
      ·rw [if_pos c9] at H
       have c9b0 : (x18_1 == a2) = true := beq_iff_eq.mpr c9
       have c9b1 : (x18_1 != a2) = false := bne_eq_false_iff_eq.mpr c9
       clear c9
       have H' := Aside0.mk H
       clear H
       have p648 : 0 ≤ (x18_1 : Int) := of_decide_eq_true (by first | (with_reducible assumption) | assumption)
       have q648 : x18_1 < (l1.length : Int) := of_decide_eq_true (by first | (with_reducible assumption) | assumption)
       obtain ⟨ad648, A648_0, c648_0, e648, hx648_0, hl648_0, hi648_0⟩ := at_L1 HR1.out x18_1 p648 q648
       cases e648
       replace hx648_0 := (HB.out.cell (World.block_lt_of_cell? w _ hx648_0)).trans hx648_0
       have HR648_0 := Aside0.mk hi648_0
       have HC648_0 := Aside0.mk hl648_0
       clear hi648_0 hl648_0
       replace p648 := eq_true p648
       replace q648 := eq_true q648
       go_wp2
       go_roundg k1
       case measure => have := HK1.out; omega
       case rel => exact ⟨(wrap64 (x18_1 + 1)), (by first | rfl | (simp; done) | (simp [*]; done)), H', ⟨by have := HK1.out; omega⟩, ⟨by (with_reducible repeat (first | refine blk_drewN ?_ _ | refine blk_drew ?_ | refine blk_alloc ?_ _)); exact BK647.out⟩, ⟨hb_⟩⟩
      ·rw [if_neg c9] at H
       have c9b0 : (x18_1 == a2) = false := beq_eq_false_iff_ne.mpr c9
       have c9b1 : (x18_1 != a2) = true := bne_iff_ne.mpr c9
       have H' := Aside0.mk H
       clear H
       have p648 : 0 ≤ (x18_1 : Int) := of_decide_eq_true (by first | (with_reducible assumption) | assumption)
       have q648 : x18_1 < (l1.length : Int) := of_decide_eq_true (by first | (with_reducible assumption) | assumption)
       obtain ⟨ad648, A648_0, c648_0, e648, hx648_0, hl648_0, hi648_0⟩ := at_L1 HR1.out x18_1 p648 q648
       cases e648
       replace hx648_0 := (HB.out.cell (World.block_lt_of_cell? w _ hx648_0)).trans hx648_0
       have HR648_0 := Aside0.mk hi648_0
       have HC648_0 := Aside0.mk hl648_0
       clear hi648_0 hl648_0
       replace p648 := eq_true p648
       replace q648 := eq_true q648
       go_wp2
       go_loopg [28] k1 (fun kq v28 w' => ∃ (x28_2 : Int), v28 = .int .i64 x28_2 ∧ Aside0 (impl_Track_isThreatened.l1 kq a2 a3 x18_1 l1 (l1.length : Int) x18_1 (rd_L1 l1 x18_1) ((rd_L1 l1 x18_1).length : Int) x28_2 a0_0 a0_1 a0_2 l0_3 l0_4 = some r) ∧ Aside0 (kq ≤ k1) ∧ Aside0 (w'.heap[gb647]? = some (.cells #[.int .i64 a0_0, .int .i64 a0_1, .int .i64 a0_2, (.slice A0_3 l0_3.length c0_3), (.slice A0_4 l0_4.length c0_4)] 27 (0, 0))) ∧ Aside0 (Below w.heap.size w w'))
       case atStart => exact ⟨(0), (by first | rfl | (simp; done) | (simp [*]; done)), H', ⟨Nat.le_refl _⟩, ⟨by (with_reducible repeat (first | refine blk_drewN ?_ _ | refine blk_drew ?_ | refine blk_alloc ?_ _)); exact BK647.out⟩, ⟨hb_⟩⟩
       case round =>
        clear H'
        try clear c1
        try clear p2
        try clear c6
        try clear c6b0
        try clear p6
        try clear q6
        try clear hx6
        try clear c7
        try clear c7b0
        try clear c8
        try clear c8b0
        try clear c9
        try clear c9b0
        try clear c9b1
        try clear hx648_0
        try clear p2
        try clear p648
        try clear q648
        obtain ⟨x28_2, rfl, HA, HK2, BK647, HB⟩ := hrel
        cases gk with
        | zero => exact absurd HA.out (by simp [impl_Track_isThreatened.l1])
        | succ k2 =>
         have H := HA.out
         clear HA
         simp only [impl_Track_isThreatened.l1] at H
         by_cases c10 : x28_2 < ((rd_L1 l1 x18_1).length : Int)
         ·rw [if_pos c10] at H
          have c10b0 : decide (x28_2 < ((rd_L1 l1 x18_1).length : Int)) = true := decide_eq_true c10
          clear c10
          by_cases c11 : 0 ≤ x28_2
          ·rw [if_pos c11] at H
           have c11b0 : decide (0 ≤ x28_2) = true := decide_eq_true c11
           clear c11
           by_cases c12 : x28_2 < ((rd_L1 l1 x18_1).length : Int)
           ·rw [if_pos c12] at H
            have c12b0 : decide (x28_2 < ((rd_L1 l1 x18_1).length : Int)) = true := decide_eq_true c12
            clear c12
            have H' := Aside0.mk H
            clear H
            have p649 : 0 ≤ (x28_2 : Int) := of_decide_eq_true (by first | (with_reducible assumption) | assumption)
            have q649 : x28_2 < ((rd_L1 l1 x18_1).length : Int) := of_decide_eq_true (by first | (with_reducible assumption) | assumption)
            obtain ⟨ad649, e649, hx649_0⟩ := Kd.at_int HR648_0.out x28_2 p649 q649
            cases e649
            replace hx649_0 := (HB.out.cell (World.block_lt_of_cell? w _ hx649_0)).trans hx649_0
            replace p649 := eq_true p649
            replace q649 := eq_true q649
            go_wp2
            go_loopg [13] k2 (fun kq v13 w' => ∃ (x13_3 : Int), v13 = .int .i64 x13_3 ∧ Aside0 (impl_Track_isThreatened.l2 kq a2 a3 x18_1 (rd (rd_L1 l1 x18_1) x28_2) x13_3 l1 (l1.length : Int) x18_1 (rd_L1 l1 x18_1) ((rd_L1 l1 x18_1).length : Int) x28_2 a0_0 a0_1 a0_2 l0_3 l0_4 = some r) ∧ Aside0 (kq ≤ k2) ∧ Aside0 (w'.heap[gb647]? = some (.cells #[.int .i64 a0_0, .int .i64 a0_1, .int .i64 a0_2, (.slice A0_3 l0_3.length c0_3), (.slice A0_4 l0_4.length c0_4)] 27 (0, 0))) ∧ Aside0 (Below w.heap.size w w'))
            case atStart => exact ⟨(1), (by first | rfl | (simp; done) | (simp [*]; done)), H', ⟨Nat.le_refl _⟩, ⟨by (with_reducible repeat (first | refine blk_drewN ?_ _ | refine blk_drew ?_ | refine blk_alloc ?_ _)); exact BK647.out⟩, ⟨hb_⟩⟩
            case round =>
             clear H'
             try clear c1
             try clear p2
             try clear c6
             try clear c6b0
             try clear p6
             try clear q6
             try clear hx6
             try clear c7
             try clear c7b0
             try clear c8
             try clear c8b0
             try clear c9
             try clear c9b0
             try clear c9b1
             try clear c10
             try clear c10b0
             try clear c11
             try clear c11b0
             try clear c12
             try clear c12b0
             try clear hx648_0
             try clear hx649_0
             try clear p2
             try clear p6
             try clear p648
             try clear p649
             try clear q6
             try clear q648
             try clear q649
             obtain ⟨x13_3, rfl, HA, HK3, BK647, HB⟩ := hrel
             cases gk with
             | zero => exact absurd HA.out (by simp [impl_Track_isThreatened.l2])
             | succ k3 =>
              have H := HA.out
              clear HA
              simp only [impl_Track_isThreatened.l2] at H
              by_cases c13 : x13_3 ≤ a0_1
              ·rw [if_pos c13] at H
               have c13b0 : decide (x13_3 ≤ a0_1) = true := decide_eq_true c13
               clear c13
               replace H := Option.bind_eq_some_iff.mp H
               obtain ⟨⟨t650, t651⟩, A140, H⟩ := H
               replace H : (if t651 = true then ((impl_Track_square.f a0_0 a0_1 a0_2 l0_3 l0_4 x18_1 t650).bind fun t652 => (if t652 = a3 then (some true) else (impl_Track_isThreatened.l2 k3 a2 a3 x18_1 (rd (rd_L1 l1 x18_1) x28_2) (wrap64 (x13_3 + 1)) l1 (l1.length : Int) x18_1 (rd_L1 l1 x18_1) ((rd_L1 l1 x18_1).length : Int) x28_2 a0_0 a0_1 a0_2 l0_3 l0_4))) else (impl_Track_isThreatened.l2 k3 a2 a3 x18_1 (rd (rd_L1 l1 x18_1) x28_2) (wrap64 (x13_3 + 1)) l1 (l1.length : Int) x18_1 (rd_L1 l1 x18_1) ((rd_L1 l1 x18_1).length : Int) x28_2 a0_0 a0_1 a0_2 l0_3 l0_4)) = some r := H
               have A14 := Aside0.mk A140
               clear A140
               by_cases c15 : t651 = true
               ·subst c15
                have H1 : ((impl_Track_square.f a0_0 a0_1 a0_2 l0_3 l0_4 x18_1 t650).bind fun t652 => (if t652 = a3 then (some true) else (impl_Track_isThreatened.l2 k3 a2 a3 x18_1 (rd (rd_L1 l1 x18_1) x28_2) (wrap64 (x13_3 + 1)) l1 (l1.length : Int) x18_1 (rd_L1 l1 x18_1) ((rd_L1 l1 x18_1).length : Int) x28_2 a0_0 a0_1 a0_2 l0_3 l0_4))) = some r := by rw [if_pos rfl] at H; exact H
                clear H
                have H := H1
                clear H1
                replace H := Option.bind_eq_some_iff.mp H
                obtain ⟨t652, A160, H⟩ := H
                replace H : (if t652 = a3 then (some true) else (impl_Track_isThreatened.l2 k3 a2 a3 x18_1 (rd (rd_L1 l1 x18_1) x28_2) (wrap64 (x13_3 + 1)) l1 (l1.length : Int) x18_1 (rd_L1 l1 x18_1) ((rd_L1 l1 x18_1).length : Int) x28_2 a0_0 a0_1 a0_2 l0_3 l0_4)) = some r := H
                have A16 := Aside0.mk A160
                clear A160
                by_cases c17 : t652 = a3
                ·rw [if_pos c17] at H
                 have c17b0 : (t652 == a3) = true := beq_iff_eq.mpr c17
                 have c17b1 : (t652 != a3) = false := bne_eq_false_iff_eq.mpr c17
                 clear c17
                 obtain rfl := Option.some.inj H
                 have hcz18_0 : wr.cell? ⟨gb647, 0, none⟩ = some (.int .i64 a0_0) := (blk_cell BK647.out 0).trans rfl
                 have hcz18_1 : wr.cell? ⟨gb647, 1, none⟩ = some (.int .i64 a0_1) := (blk_cell BK647.out 1).trans rfl
                 have hcz18_2 : wr.cell? ⟨gb647, 2, none⟩ = some (.int .i64 a0_2) := (blk_cell BK647.out 2).trans rfl
                 have hcz18_3 : wr.cell? ⟨gb647, 3, none⟩ = some (.slice A0_3 l0_3.length c0_3) := (blk_cell BK647.out 3).trans rfl
                 have hcz18_4 : wr.cell? ⟨gb647, 4, none⟩ = some (.slice A0_4 l0_4.length c0_4) := (blk_cell BK647.out 4).trans rfl
                 have hfz18_0 := blk_frozen BK647.out 0
                 have hfz18_1 := blk_frozen BK647.out 1
                 have hfz18_2 := blk_frozen BK647.out 2
                 have hfz18_3 := blk_frozen BK647.out 3
                 have hfz18_4 := blk_frozen BK647.out 4
                 go_wp2_with (first | ((with_reducible refine gate_callee (f := 84) rfl ?_); refine goesL_ (some 42) rfl rfl Try.func84 (by kernel_rfl) rfl #[.agg #[.int .i64 a0_0, .int .i64 a0_1, .int .i64 a0_2, .slice A0_3 l0_3.length c0_3, .slice A0_4 l0_4.length c0_4], .int .i64 (rd (rd_L1 l1 x18_1) x28_2), .int .i64 x13_3] rfl (by (try simp only [List.map_toArray, List.map_cons, List.map_nil]); first | done | rfl | (simp only [List.length_drop, List.length_take]; rfl)) ?_; (with_reducible refine (impl_Track_goes.calls a0_0 a0_1 a0_2 _ _ l0_3 _ _ l0_4 (rd (rd_L1 l1 x18_1) x28_2) x13_3 t650 true _ ?side1 ?side2 ?side3 ?side4 A14.out).mono ?_); (case side1 => exact Kd.C_below HR0_3.out hb_); (case side2 => exact HC0_3.out); (case side3 => exact Kd.C_below HR0_4.out hb_); (case side4 => exact HC0_4.out); rintro e w19 ⟨rfl, hb⟩; refine ⟨_, rfl, ?_⟩; have n0_ := Aside0.mk (blk_below (g := gb647) (o := .cells #[.int .i64 a0_0, .int .i64 a0_1, .int .i64 a0_2, .slice A0_3 l0_3.length c0_3, .slice A0_4 l0_4.length c0_4] 27 (0, 0)) (by (with_reducible repeat (first | refine blk_drewN ?_ _ | refine blk_drew ?_ | refine blk_alloc ?_ _)); exact BK647.out) hb); have n1_ := Aside0.mk (below_step hb_ hb); clear BK647; clear HB; have BK647 := n0_; have HB := n1_; clear n0_ n1_; (try clear hb); (try clear hb2); (try clear hk); (try clear hi); have hcz20_0 : w19.cell? ⟨gb647, 0, none⟩ = some (.int .i64 a0_0) := (blk_cell BK647.out 0).trans rfl; have hcz20_1 : w19.cell? ⟨gb647, 1, none⟩ = some (.int .i64 a0_1) := (blk_cell BK647.out 1).trans rfl; have hcz20_2 : w19.cell? ⟨gb647, 2, none⟩ = some (.int .i64 a0_2) := (blk_cell BK647.out 2).trans rfl; have hcz20_3 : w19.cell? ⟨gb647, 3, none⟩ = some (.slice A0_3 l0_3.length c0_3) := (blk_cell BK647.out 3).trans rfl; have hcz20_4 : w19.cell? ⟨gb647, 4, none⟩ = some (.slice A0_4 l0_4.length c0_4) := (blk_cell BK647.out 4).trans rfl; have hfz20_0 := blk_frozen BK647.out 0; have hfz20_1 := blk_frozen BK647.out 1; have hfz20_2 := blk_frozen BK647.out 2; have hfz20_3 := blk_frozen BK647.out 3; have hfz20_4 := blk_frozen BK647.out 4) | (go_at_call 72; (with_reducible refine (impl_Track_square.calls a0_0 a0_1 a0_2 _ _ l0_3 _ _ l0_4 x18_1 t650 t652 _ ?side1 ?side2 ?side3 ?side4 A16.out).mono ?_); (case side1 => exact Kd.C_below HR0_3.out hb_); (case side2 => exact HC0_3.out); (case side3 => exact Kd.C_below HR0_4.out hb_); (case side4 => exact HC0_4.out); rintro e w21 ⟨rfl, hb⟩; have n0_ := Aside0.mk (blk_below (g := gb647) (o := .cells #[.int .i64 a0_0, .int .i64 a0_1, .int .i64 a0_2, .slice A0_3 l0_3.length c0_3, .slice A0_4 l0_4.length c0_4] 27 (0, 0)) (by (with_reducible repeat (first | refine blk_drewN ?_ _ | refine blk_drew ?_ | refine blk_alloc ?_ _)); exact BK647.out) hb); have n1_ := Aside0.mk (below_step hb_ hb); clear BK647; clear HB; have BK647 := n0_; have HB := n1_; clear n0_ n1_; (try clear hb); (try clear hb2); (try clear hk); (try clear hi)))
                 go_ret
                 exact ⟨by first | rfl | (simp [errW_none, errW_some] <;> rfl) | (simp [*, errW_none, errW_some] <;> rfl), hb_⟩
                ·rw [if_neg c17] at H
                 have c17b0 : (t652 == a3) = false := beq_eq_false_iff_ne.mpr c17
                 have c17b1 : (t652 != a3) = true := bne_iff_ne.mpr c17
                 have H' := Aside0.mk H
                 clear H
                 have hcz22_0 : wr.cell? ⟨gb647, 0, none⟩ = some (.int .i64 a0_0) := (blk_cell BK647.out 0).trans rfl
                 have hcz22_1 : wr.cell? ⟨gb647, 1, none⟩ = some (.int .i64 a0_1) := (blk_cell BK647.out 1).trans rfl
                 have hcz22_2 : wr.cell? ⟨gb647, 2, none⟩ = some (.int .i64 a0_2) := (blk_cell BK647.out 2).trans rfl
                 have hcz22_3 : wr.cell? ⟨gb647, 3, none⟩ = some (.slice A0_3 l0_3.length c0_3) := (blk_cell BK647.out 3).trans rfl
                 have hcz22_4 : wr.cell? ⟨gb647, 4, none⟩ = some (.slice A0_4 l0_4.length c0_4) := (blk_cell BK647.out 4).trans rfl
                 have hfz22_0 := blk_frozen BK647.out 0
                 have hfz22_1 := blk_frozen BK647.out 1
                 have hfz22_2 := blk_frozen BK647.out 2
                 have hfz22_3 := blk_frozen BK647.out 3
                 have hfz22_4 := blk_frozen BK647.out 4
                 go_wp2_with (first | ((with_reducible refine gate_callee (f := 84) rfl ?_); refine goesL_ (some 42) rfl rfl Try.func84 (by kernel_rfl) rfl #[.agg #[.int .i64 a0_0, .int .i64 a0_1, .int .i64 a0_2, .slice A0_3 l0_3.length c0_3, .slice A0_4 l0_4.length c0_4], .int .i64 (rd (rd_L1 l1 x18_1) x28_2), .int .i64 x13_3] rfl (by (try simp only [List.map_toArray, List.map_cons, List.map_nil]); first | done | rfl | (simp only [List.length_drop, List.length_take]; rfl)) ?_; (with_reducible refine (impl_Track_goes.calls a0_0 a0_1 a0_2 _ _ l0_3 _ _ l0_4 (rd (rd_L1 l1 x18_1) x28_2) x13_3 t650 true _ ?side1 ?side2 ?side3 ?side4 A14.out).mono ?_); (case side1 => exact Kd.C_below HR0_3.out hb_); (case side2 => exact HC0_3.out); (case side3 => exact Kd.C_below HR0_4.out hb_); (case side4 => exact HC0_4.out); rintro e w23 ⟨rfl, hb⟩; refine ⟨_, rfl, ?_⟩; have n0_ := Aside0.mk (blk_below (g := gb647) (o := .cells #[.int .i64 a0_0, .int .i64 a0_1, .int .i64 a0_2, .slice A0_3 l0_3.length c0_3, .slice A0_4 l0_4.length c0_4] 27 (0, 0)) (by (with_reducible repeat (first | refine blk_drewN ?_ _ | refine blk_drew ?_ | refine blk_alloc ?_ _)); exact BK647.out) hb); have n1_ := Aside0.mk (below_step hb_ hb); clear BK647; clear HB; have BK647 := n0_; have HB := n1_; clear n0_ n1_; (try clear hb); (try clear hb2); (try clear hk); (try clear hi); have hcz24_0 : w23.cell? ⟨gb647, 0, none⟩ = some (.int .i64 a0_0) := (blk_cell BK647.out 0).trans rfl; have hcz24_1 : w23.cell? ⟨gb647, 1, none⟩ = some (.int .i64 a0_1) := (blk_cell BK647.out 1).trans rfl; have hcz24_2 : w23.cell? ⟨gb647, 2, none⟩ = some (.int .i64 a0_2) := (blk_cell BK647.out 2).trans rfl; have hcz24_3 : w23.cell? ⟨gb647, 3, none⟩ = some (.slice A0_3 l0_3.length c0_3) := (blk_cell BK647.out 3).trans rfl; have hcz24_4 : w23.cell? ⟨gb647, 4, none⟩ = some (.slice A0_4 l0_4.length c0_4) := (blk_cell BK647.out 4).trans rfl; have hfz24_0 := blk_frozen BK647.out 0; have hfz24_1 := blk_frozen BK647.out 1; have hfz24_2 := blk_frozen BK647.out 2; have hfz24_3 := blk_frozen BK647.out 3; have hfz24_4 := blk_frozen BK647.out 4) | (go_at_call 72; (with_reducible refine (impl_Track_square.calls a0_0 a0_1 a0_2 _ _ l0_3 _ _ l0_4 x18_1 t650 t652 _ ?side1 ?side2 ?side3 ?side4 A16.out).mono ?_); (case side1 => exact Kd.C_below HR0_3.out hb_); (case side2 => exact HC0_3.out); (case side3 => exact Kd.C_below HR0_4.out hb_); (case side4 => exact HC0_4.out); rintro e w25 ⟨rfl, hb⟩; have n0_ := Aside0.mk (blk_below (g := gb647) (o := .cells #[.int .i64 a0_0, .int .i64 a0_1, .int .i64 a0_2, .slice A0_3 l0_3.length c0_3, .slice A0_4 l0_4.length c0_4] 27 (0, 0)) (by (with_reducible repeat (first | refine blk_drewN ?_ _ | refine blk_drew ?_ | refine blk_alloc ?_ _)); exact BK647.out) hb); have n1_ := Aside0.mk (below_step hb_ hb); clear BK647; clear HB; have BK647 := n0_; have HB := n1_; clear n0_ n1_; (try clear hb); (try clear hb2); (try clear hk); (try clear hi)))
                 go_roundg k3
                 case measure => have := HK1.out; have := HK2.out; have := HK3.out; omega
                 case rel => exact ⟨(wrap64 (x13_3 + 1)), (by first | rfl | (simp; done) | (simp [*]; done)), H', ⟨by have := HK1.out; have := HK2.out; have := HK3.out; omega⟩, ⟨by (with_reducible repeat (first | refine blk_drewN ?_ _ | refine blk_drew ?_ | refine blk_alloc ?_ _)); exact BK647.out⟩, ⟨hb_⟩⟩
               ·replace c15 := Bool.eq_false_iff.mpr c15
                subst c15
                have H1 : (impl_Track_isThreatened.l2 k3 a2 a3 x18_1 (rd (rd_L1 l1 x18_1) x28_2) (wrap64 (x13_3 + 1)) l1 (l1.length : Int) x18_1 (rd_L1 l1 x18_1) ((rd_L1 l1 x18_1).length : Int) x28_2 a0_0 a0_1 a0_2 l0_3 l0_4) = some r := by rw [if_neg (show ¬ (false = true) by decide)] at H; exact H
                clear H
                have H := H1
                clear H1
                have H' := Aside0.mk H
                clear H
                have hcz26_0 : wr.cell? ⟨gb647, 0, none⟩ = some (.int .i64 a0_0) := (blk_cell BK647.out 0).trans rfl
                have hcz26_1 : wr.cell? ⟨gb647, 1, none⟩ = some (.int .i64 a0_1) := (blk_cell BK647.out 1).trans rfl
                have hcz26_2 : wr.cell? ⟨gb647, 2, none⟩ = some (.int .i64 a0_2) := (blk_cell BK647.out 2).trans rfl
                have hcz26_3 : wr.cell? ⟨gb647, 3, none⟩ = some (.slice A0_3 l0_3.length c0_3) := (blk_cell BK647.out 3).trans rfl
                have hcz26_4 : wr.cell? ⟨gb647, 4, none⟩ = some (.slice A0_4 l0_4.length c0_4) := (blk_cell BK647.out 4).trans rfl
                have hfz26_0 := blk_frozen BK647.out 0
                have hfz26_1 := blk_frozen BK647.out 1
                have hfz26_2 := blk_frozen BK647.out 2
                have hfz26_3 := blk_frozen BK647.out 3
                have hfz26_4 := blk_frozen BK647.out 4
                go_wp2_with (first | ((with_reducible refine gate_callee (f := 84) rfl ?_); refine goesL_ (some 42) rfl rfl Try.func84 (by kernel_rfl) rfl #[.agg #[.int .i64 a0_0, .int .i64 a0_1, .int .i64 a0_2, .slice A0_3 l0_3.length c0_3, .slice A0_4 l0_4.length c0_4], .int .i64 (rd (rd_L1 l1 x18_1) x28_2), .int .i64 x13_3] rfl (by (try simp only [List.map_toArray, List.map_cons, List.map_nil]); first | done | rfl | (simp only [List.length_drop, List.length_take]; rfl)) ?_; (with_reducible refine (impl_Track_goes.calls a0_0 a0_1 a0_2 _ _ l0_3 _ _ l0_4 (rd (rd_L1 l1 x18_1) x28_2) x13_3 t650 false _ ?side1 ?side2 ?side3 ?side4 A14.out).mono ?_); (case side1 => exact Kd.C_below HR0_3.out hb_); (case side2 => exact HC0_3.out); (case side3 => exact Kd.C_below HR0_4.out hb_); (case side4 => exact HC0_4.out); rintro e w27 ⟨rfl, hb⟩; refine ⟨_, rfl, ?_⟩; have n0_ := Aside0.mk (blk_below (g := gb647) (o := .cells #[.int .i64 a0_0, .int .i64 a0_1, .int .i64 a0_2, .slice A0_3 l0_3.length c0_3, .slice A0_4 l0_4.length c0_4] 27 (0, 0)) (by (with_reducible repeat (first | refine blk_drewN ?_ _ | refine blk_drew ?_ | refine blk_alloc ?_ _)); exact BK647.out) hb); have n1_ := Aside0.mk (below_step hb_ hb); clear BK647; clear HB; have BK647 := n0_; have HB := n1_; clear n0_ n1_; (try clear hb); (try clear hb2); (try clear hk); (try clear hi)))
                go_roundg k3
                case measure => have := HK1.out; have := HK2.out; have := HK3.out; omega
                case rel => exact ⟨(wrap64 (x13_3 + 1)), (by first | rfl | (simp; done) | (simp [*]; done)), H', ⟨by have := HK1.out; have := HK2.out; have := HK3.out; omega⟩, ⟨by (with_reducible repeat (first | refine blk_drewN ?_ _ | refine blk_drew ?_ | refine blk_alloc ?_ _)); exact BK647.out⟩, ⟨hb_⟩⟩
              ·rw [if_neg c13] at H
               have c13b0 : decide (x13_3 ≤ a0_1) = false := decide_eq_false c13
               clear c13
               have H' := Aside0.mk H
               clear H
               have hcz28_0 : wr.cell? ⟨gb647, 0, none⟩ = some (.int .i64 a0_0) := (blk_cell BK647.out 0).trans rfl
               have hcz28_1 : wr.cell? ⟨gb647, 1, none⟩ = some (.int .i64 a0_1) := (blk_cell BK647.out 1).trans rfl
               have hcz28_2 : wr.cell? ⟨gb647, 2, none⟩ = some (.int .i64 a0_2) := (blk_cell BK647.out 2).trans rfl
               have hcz28_3 : wr.cell? ⟨gb647, 3, none⟩ = some (.slice A0_3 l0_3.length c0_3) := (blk_cell BK647.out 3).trans rfl
               have hcz28_4 : wr.cell? ⟨gb647, 4, none⟩ = some (.slice A0_4 l0_4.length c0_4) := (blk_cell BK647.out 4).trans rfl
               have hfz28_0 := blk_frozen BK647.out 0
               have hfz28_1 := blk_frozen BK647.out 1
               have hfz28_2 := blk_frozen BK647.out 2
               have hfz28_3 := blk_frozen BK647.out 3
               have hfz28_4 := blk_frozen BK647.out 4
               go_wp2
               go_roundg k3
               case measure => have := HK1.out; have := HK2.out; have := HK3.out; omega
               case rel => exact ⟨(wrap64 (x28_2 + 1)), (by first | rfl | (simp; done) | (simp [*]; done)), H', ⟨by have := HK1.out; have := HK2.out; have := HK3.out; omega⟩, ⟨by (with_reducible repeat (first | refine blk_drewN ?_ _ | refine blk_drew ?_ | refine blk_alloc ?_ _)); exact BK647.out⟩, ⟨hb_⟩⟩
           ·rw [if_neg c12] at H
            exact absurd H (by simp)
          ·rw [if_neg c11] at H
           exact absurd H (by simp)
         ·rw [if_neg c10] at H
          have c10b0 : decide (x28_2 < ((rd_L1 l1 x18_1).length : Int)) = false := decide_eq_false c10
          clear c10
          have H' := Aside0.mk H
          clear H
          go_wp2
          go_roundg k2
          case measure => have := HK1.out; have := HK2.out; omega
          case rel => exact ⟨(wrap64 (x18_1 + 1)), (by first | rfl | (simp; done) | (simp [*]; done)), H', ⟨by have := HK1.out; have := HK2.out; omega⟩, ⟨by (with_reducible repeat (first | refine blk_drewN ?_ _ | refine blk_drew ?_ | refine blk_alloc ?_ _)); exact BK647.out⟩, ⟨hb_⟩⟩
     ·rw [if_neg c8] at H
      exact absurd H (by simp)
    ·rw [if_neg c7] at H
     exact absurd H (by simp)
   ·rw [if_neg c6] at H
    have c6b0 : decide (x18_1 < (l1.length : Int)) = false := decide_eq_false c6
    clear c6
    obtain rfl := Option.some.inj H
    go_wp2
    go_ret
    exact ⟨by first | rfl | (simp [errW_none, errW_some] <;> rfl) | (simp [*, errW_none, errW_some] <;> rfl), hb_⟩

end Go.Proofs.Ytcppahkdfajcaaa.P
