-- written for this claim by a program of this session (wip/tools/xprint.py), which runs the kit's print with other cuts
import Derived.Test.YtcppahkdfajcaaaP
import Derived.Test.YtcppahkdfajcaaaP63
namespace Go.Proofs.Ytcppahkdfajcaaa.P
open Go.RowKit Go.Proofs.YtcppahkdfajcaaaW.PrintWords Go.Proofs.YtcppahkdfajcaaaW.PrintLast Go.Proofs.YtcppahkdfajcaaaW.PrintMore
attribute [local go_sem] max2_int min2_int max_two min_two max_three min_three max_four min_four   -- for this text's walks alone
set_option linter.unusedVariables false
set_option linter.unusedSimpArgs false

/-! ### impl_Track_tokensAt: function 86 -/
mutual
def impl_Track_tokensAt.l0 : Nat → Int → List (List Int) → List (List Int) → Int → Int → Int → Int → Int → List Int → List Int → Option ((List (List Int)))
 | 0, _, _, _, _, _, _, _, _, _, _ => none
 | k + 1, x2, x7, x13, x14, x15, x563000, x563001, x563002, x563003, x563004 => if x15 < x14 then (if 0 ≤ x15 then (if x15 < (x13.length : Int) then (impl_Track_tokensAt.l1 k x2 x7 x15 x13 x14 x15 (rd_L1 x13 x15) ((rd_L1 x13 x15).length : Int) 0 x563000 x563001 x563002 x563003 x563004) else (none)) else (none)) else (some x7)
def impl_Track_tokensAt.l1 : Nat → Int → List (List Int) → Int → List (List Int) → Int → Int → List Int → Int → Int → Int → Int → Int → List Int → List Int → Option ((List (List Int)))
 | 0, _, _, _, _, _, _, _, _, _, _, _, _, _, _ => none
 | k + 1, x2, x7, x8, x13, x14, x15, x20, x21, x22, x563000, x563001, x563002, x563003, x563004 => if x22 < x21 then (if 0 ≤ x22 then (if x22 < (x20.length : Int) then ((impl_Track_square.f x563000 x563001 x563002 x563003 x563004 x8 (rd x20 x22)).bind fun t568 => (if t568 = x2 then (if x7.length < 5864062014805 then (impl_Track_tokensAt.l1 k x2 (x7 ++ [(([x8, x22] : List Int))]) x8 x13 x14 x15 x20 x21 (wrap64 (x22 + 1)) x563000 x563001 x563002 x563003 x563004) else (none)) else (impl_Track_tokensAt.l1 k x2 x7 x8 x13 x14 x15 x20 x21 (wrap64 (x22 + 1)) x563000 x563001 x563002 x563003 x563004))) else (none)) else (none)) else (impl_Track_tokensAt.l0 k x2 x7 x13 x14 (wrap64 (x15 + 1)) x563000 x563001 x563002 x563003 x563004)
end
def impl_Track_tokensAt.f (k : Nat) (a0_0 : Int) (a0_1 : Int) (a0_2 : Int) (l0_3 : List Int) (l0_4 : List Int) (l1 : List (List Int)) (a2 : Int) : Option ((List (List Int))) := impl_Track_tokensAt.l0 k a2 (([] : List (List Int))) l1 (l1.length : Int) 0 a0_0 a0_1 a0_2 l0_3 l0_4
theorem impl_Track_tokensAt.mono_l : ∀ k, (∀ y0 y1 y2 y3 y4 y5 y6 y7 y8 y9, LeO (impl_Track_tokensAt.l0 k y0 y1 y2 y3 y4 y5 y6 y7 y8 y9) (impl_Track_tokensAt.l0 (k + 1) y0 y1 y2 y3 y4 y5 y6 y7 y8 y9)) ∧ (∀ y0 y1 y2 y3 y4 y5 y6 y7 y8 y9 y10 y11 y12 y13, LeO (impl_Track_tokensAt.l1 k y0 y1 y2 y3 y4 y5 y6 y7 y8 y9 y10 y11 y12 y13) (impl_Track_tokensAt.l1 (k + 1) y0 y1 y2 y3 y4 y5 y6 y7 y8 y9 y10 y11 y12 y13))
 | 0 => ⟨fun _ _ _ _ _ _ _ _ _ _ r h => by simp [impl_Track_tokensAt.l0] at h, fun _ _ _ _ _ _ _ _ _ _ _ _ _ _ r h => by simp [impl_Track_tokensAt.l1] at h⟩
 | k + 1 => by
  obtain ⟨ih0, ih1⟩ := impl_Track_tokensAt.mono_l k
  refine ⟨?_, ?_⟩
  ·intro y0 y1 y2 y3 y4 y5 y6 y7 y8 y9
   unfold impl_Track_tokensAt.l0
   repeat' first
   | (with_reducible exact ih0 _ _ _ _ _ _ _ _ _ _)
   | (with_reducible exact ih1 _ _ _ _ _ _ _ _ _ _ _ _ _ _)
   | (with_reducible exact LeO.refl _)
   | (with_reducible exact LeO.none _)
   | (with_reducible refine LeO.ite ?_ ?_)
   | (with_reducible refine LeO.bind ?_ (fun _ => ?_))
   | exact ih0 _ _ _ _ _ _ _ _ _ _
   | exact ih1 _ _ _ _ _ _ _ _ _ _ _ _ _ _
   | exact LeO.none _
   | refine LeO.ite ?_ ?_
   | refine LeO.bind ?_ (fun _ => ?_)
  ·intro y0 y1 y2 y3 y4 y5 y6 y7 y8 y9 y10 y11 y12 y13
   unfold impl_Track_tokensAt.l1
   repeat' first
   | (with_reducible exact ih0 _ _ _ _ _ _ _ _ _ _)
   | (with_reducible exact ih1 _ _ _ _ _ _ _ _ _ _ _ _ _ _)
   | (with_reducible exact LeO.refl _)
   | (with_reducible exact LeO.none _)
   | (with_reducible refine LeO.ite ?_ ?_)
   | (with_reducible refine LeO.bind ?_ (fun _ => ?_))
   | exact ih0 _ _ _ _ _ _ _ _ _ _
   | exact ih1 _ _ _ _ _ _ _ _ _ _ _ _ _ _
   | exact LeO.none _
   | refine LeO.ite ?_ ?_
   | refine LeO.bind ?_ (fun _ => ?_)
theorem impl_Track_tokensAt.mono : ∀ a0 a1 a2 a3 a4 a5 a6 k, LeO (impl_Track_tokensAt.f k a0 a1 a2 a3 a4 a5 a6) (impl_Track_tokensAt.f (k + 1) a0 a1 a2 a3 a4 a5 a6) := by
 intro a0 a1 a2 a3 a4 a5 a6 k
 obtain ⟨ih0, ih1⟩ := impl_Track_tokensAt.mono_l k
 unfold impl_Track_tokensAt.f
 repeat' first
   | (with_reducible exact ih0 _ _ _ _ _ _ _ _ _ _)
   | (with_reducible exact ih1 _ _ _ _ _ _ _ _ _ _ _ _ _ _)
   | (with_reducible exact LeO.refl _)
   | (with_reducible exact LeO.none _)
   | (with_reducible refine LeO.ite ?_ ?_)
   | (with_reducible refine LeO.bind ?_ (fun _ => ?_))
   | exact ih0 _ _ _ _ _ _ _ _ _ _
   | exact ih1 _ _ _ _ _ _ _ _ _ _ _ _ _ _
   | exact LeO.none _
   | refine LeO.ite ?_ ?_
   | refine LeO.bind ?_ (fun _ => ?_)
set_option maxHeartbeats 8000000 in
set_option maxRecDepth 100000 in
theorem impl_Track_tokensAt.calls (k : Nat) (a0_0 : Int) (a0_1 : Int) (a0_2 : Int) (A0_3 : Option Addr) (c0_3 : Nat) (l0_3 : List Int) (A0_4 : Option Addr) (c0_4 : Nat) (l0_4 : List Int) (A1 : Option Addr) (c1 : Nat) (l1 : List (List Int)) (a2 : Int) (r : List (List Int)) (w : World) (hr0_3 : Kd.C (Kd.int .i64) w A0_3 l0_3.length l0_3) (hc0_3 : l0_3.length ≤ c0_3) (hr0_4 : Kd.C (Kd.int .i64) w A0_4 l0_4.length l0_4) (hc0_4 : l0_4.length ≤ c0_4) (hr1 : Kd.C (Kd.slice 3 (Kd.int .i64)) w A1 l1.length l1) (hc1 : l1.length ≤ c1) (h : impl_Track_tokensAt.f k a0_0 a0_1 a0_2 l0_3 l0_4 l1 a2 = some r) :
  Calls Try.prog 86 #[.agg #[.int .i64 a0_0, .int .i64 a0_1, .int .i64 a0_2, .slice A0_3 l0_3.length c0_3, .slice A0_4 l0_4.length c0_4], .slice A1 l1.length c1, .int .i64 a2] w fun e w' => ∃ v0_ : Value, e = .returned (v0_) ∧ Kd.S (Kd.slice 3 (Kd.int .i64)) 22 w' w.heap.size (fun _ => True) v0_ r ∧ Below w.heap.size w w' := by
 have hu27 := Try.underlying27
 have HR0_3 := Aside0.mk hr0_3
 have HC0_3 := Aside0.mk hc0_3
 clear hr0_3 hc0_3
 have HR0_4 := Aside0.mk hr0_4
 have HC0_4 := Aside0.mk hc0_4
 clear hr0_4 hc0_4
 have HR1 := Aside0.mk hr1
 have HC1 := Aside0.mk hc1
 clear hr1 hc1
 have HB := Aside0.mk (Below.refl w.heap.size w)
 have H : (impl_Track_tokensAt.l0 k a2 (([] : List (List Int))) l1 (l1.length : Int) 0 a0_0 a0_1 a0_2 l0_3 l0_4) = some r := h
 clear h
 obtain ⟨y563, hy563⟩ : ∃ y_ : List (List Int), y_ = (([] : List (List Int))) := ⟨_, rfl⟩
 replace H : (impl_Track_tokensAt.l0 k a2 y563 l1 (l1.length : Int) 0 a0_0 a0_1 a0_2 l0_3 l0_4) = some r := by first | (rw [hy563]; with_reducible exact H) | (have H2_ := (Option.bind_some _ _).symm.trans H; rw [hy563]; with_reducible exact H2_) | (have H2_ := (Option.bind_some _ _).symm.trans H; with_reducible exact H2_) | with_reducible exact H | (rw [hy563]; exact H) | exact H
 have Ny563 := Aside0.mk hy563
 clear hy563
 have H' := Aside0.mk H
 clear H
 go_enter Try.func86, Try.ntmps86
 go_wp2_with (first | ((with_reducible refine gate_dst (N := 3) rfl ?_); refine box_event ?hg (N := 3) ?hd (cs := #[.int .i64 a0_0, .int .i64 a0_1, .int .i64 a0_2, .slice A0_3 l0_3.length c0_3, .slice A0_4 l0_4.length c0_4]) (t := 27) ?hr ?_; (case hd => rfl); (case hg => rfl); (case hr => first | (go_simp; done) | (go_simp; rfl)); intro gb562 hg w4 hbox hb; have n0_ := Aside0.mk (below_step hb_ hb); have n1_ := Aside0.mk (hbox); have n2_ := Aside0.mk ((by rw [hg]; exact (below_size hb_) : w.heap.size ≤ gb562)); have n3_ := Aside0.mk ((by rw [hg]; exact (below_size hb_) : w.heap.size ≤ gb562)); clear HB; have HB := n0_; have BK562 := n1_; have GW562 := n2_; have GE562 := n3_; clear n0_ n1_ n2_ n3_; clear hb hbox hg) | ((with_reducible refine gate_dst (N := 12) rfl ?_); refine Kd.S_lit (Kd.slice 3 (Kd.int .i64)) _ 22 ?hg (N := 12) ?hd (xs := ([] : List (List Int))) (inner := []) (ok := fun _ => True) (okp := fun _ => True) ?hr ?hp (fun _ hk => hk) trivial (Below.refl _ _) (Nat.le_refl _) (by simp) ?_; (case hd => rfl); (case hg => rfl); (case hr => first | (go_simp; done) | (go_simp; rfl)); (case hp => exact (Reps.none _ _)); intro v564 w5 ho6 hb hg_ hnew_; clear hg_ hnew_; (first | rw [← Ny563.out] at ho6 | (simp only [Int.reduceToNat] at ho6; rw [← Ny563.out] at ho6)); have n0_ := Aside0.mk (Kd.S_lower ho6 (below_size hb_)); have n1_ := Aside0.mk (blk_below (g := gb562) (o := .cells #[.int .i64 a0_0, .int .i64 a0_1, .int .i64 a0_2, .slice A0_3 l0_3.length c0_3, .slice A0_4 l0_4.length c0_4] 27 (0, 0)) (by (with_reducible repeat (first | refine blk_drewN ?_ _ | refine blk_drew ?_ | refine blk_alloc ?_ _)); exact BK562.out) hb); have n2_ := Aside0.mk (below_step hb_ hb); clear BK562; clear HB; have HO565 := n0_; have BK562 := n1_; have HB := n2_; clear n0_ n1_ n2_; clear hb ho6))
 go_loopg [7, 15] k (fun kq v7 v15 w' => ∃ (x7_1 : List (List Int)) (x15_1 : Int), v15 = .int .i64 x15_1 ∧ Aside0 (impl_Track_tokensAt.l0 kq a2 x7_1 l1 (l1.length : Int) x15_1 a0_0 a0_1 a0_2 l0_3 l0_4 = some r) ∧ Aside0 (kq ≤ k) ∧ Aside0 (Kd.S (Kd.slice 3 (Kd.int .i64)) 22 w' w.heap.size (fun _ => True) v7 x7_1) ∧ Aside0 (w'.heap[gb562]? = some (.cells #[.int .i64 a0_0, .int .i64 a0_1, .int .i64 a0_2, (.slice A0_3 l0_3.length c0_3), (.slice A0_4 l0_4.length c0_4)] 27 (0, 0))) ∧ Aside0 (Below w.heap.size w w'))
 case atStart => exact ⟨(y563), (0), (by first | rfl | (simp; done) | (simp [*]; done)), H', ⟨Nat.le_refl _⟩, ⟨by (with_reducible repeat (first | apply Kd.S_alloc | apply Kd.S_drewN | apply Kd.S_drew)); exact HO565.out⟩, ⟨by (with_reducible repeat (first | refine blk_drewN ?_ _ | refine blk_drew ?_ | refine blk_alloc ?_ _)); exact BK562.out⟩, ⟨hb_⟩⟩
 case round =>
  clear H'
  try clear c1
  try clear p2
  obtain ⟨x7_1, x15_1, rfl, HA, HK1, HO_7, BK562, HB⟩ := hrel
  cases gk with
  | zero => exact absurd HA.out (by simp [impl_Track_tokensAt.l0])
  | succ k1 =>
   have H := HA.out
   clear HA
   simp only [impl_Track_tokensAt.l0] at H
   by_cases c7 : x15_1 < (l1.length : Int)
   ·rw [if_pos c7] at H
    have c7b0 : decide (x15_1 < (l1.length : Int)) = true := decide_eq_true c7
    clear c7
    by_cases c8 : 0 ≤ x15_1
    ·rw [if_pos c8] at H
     have c8b0 : decide (0 ≤ x15_1) = true := decide_eq_true c8
     clear c8
     by_cases c9 : x15_1 < (l1.length : Int)
     ·rw [if_pos c9] at H
      have c9b0 : decide (x15_1 < (l1.length : Int)) = true := decide_eq_true c9
      clear c9
      have H' := Aside0.mk H
      clear H
      have p566 : 0 ≤ (x15_1 : Int) := of_decide_eq_true (by first | (with_reducible assumption) | assumption)
      have q566 : x15_1 < (l1.length : Int) := of_decide_eq_true (by first | (with_reducible assumption) | assumption)
      obtain ⟨ad566, A566_0, c566_0, e566, hx566_0, hl566_0, hi566_0⟩ := at_L1 HR1.out x15_1 p566 q566
      cases e566
      replace hx566_0 := (HB.out.cell (World.block_lt_of_cell? w _ hx566_0)).trans hx566_0
      have HR566_0 := Aside0.mk hi566_0
      have HC566_0 := Aside0.mk hl566_0
      clear hi566_0 hl566_0
      replace p566 := eq_true p566
      replace q566 := eq_true q566
      go_wp2
      go_loopg [7, 22] k1 (fun kq v7 v22 w' => ∃ (x7_2 : List (List Int)) (x22_2 : Int), v22 = .int .i64 x22_2 ∧ Aside0 (impl_Track_tokensAt.l1 kq a2 x7_2 x15_1 l1 (l1.length : Int) x15_1 (rd_L1 l1 x15_1) ((rd_L1 l1 x15_1).length : Int) x22_2 a0_0 a0_1 a0_2 l0_3 l0_4 = some r) ∧ Aside0 (kq ≤ k1) ∧ Aside0 (Kd.S (Kd.slice 3 (Kd.int .i64)) 22 w' w.heap.size (fun _ => True) v7 x7_2) ∧ Aside0 (w'.heap[gb562]? = some (.cells #[.int .i64 a0_0, .int .i64 a0_1, .int .i64 a0_2, (.slice A0_3 l0_3.length c0_3), (.slice A0_4 l0_4.length c0_4)] 27 (0, 0))) ∧ Aside0 (Below w.heap.size w w'))
      case atStart => exact ⟨(x7_1), (0), (by first | rfl | (simp; done) | (simp [*]; done)), H', ⟨Nat.le_refl _⟩, ⟨by (with_reducible repeat (first | apply Kd.S_alloc | apply Kd.S_drewN | apply Kd.S_drew)); exact HO_7.out⟩, ⟨by (with_reducible repeat (first | refine blk_drewN ?_ _ | refine blk_drew ?_ | refine blk_alloc ?_ _)); exact BK562.out⟩, ⟨hb_⟩⟩
      case round =>
       clear H'
       try clear c1
       try clear p2
       try clear c5
       try clear p5
       try clear q5
       try clear hx5
       try clear c7
       try clear c7b0
       try clear c8
       try clear c8b0
       try clear c9
       try clear c9b0
       try clear hx566_0
       try clear p2
       try clear p566
       try clear q566
       obtain ⟨x7_2, x22_2, rfl, HA, HK2, HO_7, BK562, HB⟩ := hrel
       cases gk with
       | zero => exact absurd HA.out (by simp [impl_Track_tokensAt.l1])
       | succ k2 =>
        have H := HA.out
        clear HA
        simp only [impl_Track_tokensAt.l1] at H
        by_cases c10 : x22_2 < ((rd_L1 l1 x15_1).length : Int)
        ·rw [if_pos c10] at H
         have c10b0 : decide (x22_2 < ((rd_L1 l1 x15_1).length : Int)) = true := decide_eq_true c10
         clear c10
         by_cases c11 : 0 ≤ x22_2
         ·rw [if_pos c11] at H
          have c11b0 : decide (0 ≤ x22_2) = true := decide_eq_true c11
          clear c11
          by_cases c12 : x22_2 < ((rd_L1 l1 x15_1).length : Int)
          ·rw [if_pos c12] at H
           have c12b0 : decide (x22_2 < ((rd_L1 l1 x15_1).length : Int)) = true := decide_eq_true c12
           clear c12
           replace H := Option.bind_eq_some_iff.mp H
           obtain ⟨t568, A130, H⟩ := H
           replace H : (if t568 = a2 then (if x7_2.length < 5864062014805 then (impl_Track_tokensAt.l1 k2 a2 (x7_2 ++ [(([x15_1, x22_2] : List Int))]) x15_1 l1 (l1.length : Int) x15_1 (rd_L1 l1 x15_1) ((rd_L1 l1 x15_1).length : Int) (wrap64 (x22_2 + 1)) a0_0 a0_1 a0_2 l0_3 l0_4) else (none)) else (impl_Track_tokensAt.l1 k2 a2 x7_2 x15_1 l1 (l1.length : Int) x15_1 (rd_L1 l1 x15_1) ((rd_L1 l1 x15_1).length : Int) (wrap64 (x22_2 + 1)) a0_0 a0_1 a0_2 l0_3 l0_4)) = some r := H
           have A13 := Aside0.mk A130
           clear A130
           by_cases c14 : t568 = a2
           ·rw [if_pos c14] at H
            have c14b0 : (t568 == a2) = true := beq_iff_eq.mpr c14
            have c14b1 : (t568 != a2) = false := bne_eq_false_iff_eq.mpr c14
            clear c14
            obtain ⟨y569, hy569⟩ : ∃ y_ : List Int, y_ = (([x15_1, x22_2] : List Int)) := ⟨_, rfl⟩
            replace H : (if x7_2.length < 5864062014805 then (impl_Track_tokensAt.l1 k2 a2 (x7_2 ++ [y569]) x15_1 l1 (l1.length : Int) x15_1 (rd_L1 l1 x15_1) ((rd_L1 l1 x15_1).length : Int) (wrap64 (x22_2 + 1)) a0_0 a0_1 a0_2 l0_3 l0_4) else (none)) = some r := by first | (rw [hy569]; with_reducible exact H) | (have H2_ := (Option.bind_some _ _).symm.trans H; rw [hy569]; with_reducible exact H2_) | (have H2_ := (Option.bind_some _ _).symm.trans H; with_reducible exact H2_) | with_reducible exact H | (rw [hy569]; exact H) | exact H
            have Ny569 := Aside0.mk hy569
            clear hy569
            by_cases c15 : x7_2.length < 5864062014805
            ·rw [if_pos c15] at H
             have LMc15 := Aside0.mk c15
             clear c15
             obtain ⟨y572, hy572⟩ : ∃ y_ : List (List Int), y_ = (x7_2 ++ [y569]) := ⟨_, rfl⟩
             replace H : (impl_Track_tokensAt.l1 k2 a2 y572 x15_1 l1 (l1.length : Int) x15_1 (rd_L1 l1 x15_1) ((rd_L1 l1 x15_1).length : Int) (wrap64 (x22_2 + 1)) a0_0 a0_1 a0_2 l0_3 l0_4) = some r := by first | (rw [hy572]; with_reducible exact H) | (have H2_ := (Option.bind_some _ _).symm.trans H; rw [hy572]; with_reducible exact H2_) | (have H2_ := (Option.bind_some _ _).symm.trans H; with_reducible exact H2_) | with_reducible exact H | (rw [hy572]; exact H) | exact H
             have Ny572 := Aside0.mk hy572
             clear hy572
             have H' := Aside0.mk H
             clear H
             have p567 : 0 ≤ (x22_2 : Int) := of_decide_eq_true (by first | (with_reducible assumption) | assumption)
             have q567 : x22_2 < ((rd_L1 l1 x15_1).length : Int) := of_decide_eq_true (by first | (with_reducible assumption) | assumption)
             obtain ⟨ad567, e567, hx567_0⟩ := Kd.at_int HR566_0.out x22_2 p567 q567
             cases e567
             replace hx567_0 := (HB.out.cell (World.block_lt_of_cell? w _ hx567_0)).trans hx567_0
             replace p567 := eq_true p567
             replace q567 := eq_true q567
             have hcz16_0 : wr.cell? ⟨gb562, 0, none⟩ = some (.int .i64 a0_0) := (blk_cell BK562.out 0).trans rfl
             have hcz16_1 : wr.cell? ⟨gb562, 1, none⟩ = some (.int .i64 a0_1) := (blk_cell BK562.out 1).trans rfl
             have hcz16_2 : wr.cell? ⟨gb562, 2, none⟩ = some (.int .i64 a0_2) := (blk_cell BK562.out 2).trans rfl
             have hcz16_3 : wr.cell? ⟨gb562, 3, none⟩ = some (.slice A0_3 l0_3.length c0_3) := (blk_cell BK562.out 3).trans rfl
             have hcz16_4 : wr.cell? ⟨gb562, 4, none⟩ = some (.slice A0_4 l0_4.length c0_4) := (blk_cell BK562.out 4).trans rfl
             have hfz16_0 := blk_frozen BK562.out 0
             have hfz16_1 := blk_frozen BK562.out 1
             have hfz16_2 := blk_frozen BK562.out 2
             have hfz16_3 := blk_frozen BK562.out 3
             have hfz16_4 := blk_frozen BK562.out 4
             go_wp2_with (first | ((with_reducible refine gate_callee (f := 72) rfl ?_); refine goesL_ (some 30) rfl rfl Try.func72 (by kernel_rfl) rfl #[.agg #[.int .i64 a0_0, .int .i64 a0_1, .int .i64 a0_2, .slice A0_3 l0_3.length c0_3, .slice A0_4 l0_4.length c0_4], .int .i64 x15_1, .int .i64 (rd (rd_L1 l1 x15_1) x22_2)] rfl (by (try simp only [List.map_toArray, List.map_cons, List.map_nil]); first | done | rfl | (simp only [List.length_drop, List.length_take]; rfl)) ?_; (with_reducible refine (impl_Track_square.calls a0_0 a0_1 a0_2 _ _ l0_3 _ _ l0_4 x15_1 (rd (rd_L1 l1 x15_1) x22_2) t568 _ ?side1 ?side2 ?side3 ?side4 A13.out).mono ?_); (case side1 => exact Kd.C_below HR0_3.out hb_); (case side2 => exact HC0_3.out); (case side3 => exact Kd.C_below HR0_4.out hb_); (case side4 => exact HC0_4.out); rintro e w17 ⟨rfl, hb⟩; refine ⟨_, rfl, ?_⟩; have n0_ := Aside0.mk (Kd.S_below (by (with_reducible repeat (first | apply Kd.S_alloc | apply Kd.S_drewN | apply Kd.S_drew)); exact HO_7.out) hb); have n1_ := Aside0.mk (blk_below (g := gb562) (o := .cells #[.int .i64 a0_0, .int .i64 a0_1, .int .i64 a0_2, .slice A0_3 l0_3.length c0_3, .slice A0_4 l0_4.length c0_4] 27 (0, 0)) (by (with_reducible repeat (first | refine blk_drewN ?_ _ | refine blk_drew ?_ | refine blk_alloc ?_ _)); exact BK562.out) hb); have n2_ := Aside0.mk (below_step hb_ hb); clear HO_7; clear BK562; clear HB; have HO_7 := n0_; have BK562 := n1_; have HB := n2_; clear n0_ n1_ n2_; (try clear hb); (try clear hb2); (try clear hk); (try clear hi)) | ((with_reducible refine gate_dst (N := 36) rfl ?_); refine Kd.R_lit (Kd.int .i64) _ 3 ?hg (N := 36) ?hd (xs := ([x15_1, x22_2] : List Int)) (inner := [.int .i64 x15_1, .int .i64 x22_2]) (ok := fun _ => True) (okp := fun _ => True) ?hr ?hp (fun _ hk => hk) trivial (Below.refl _ _) (Nat.le_refl _) (by simp) ?_; (case hd => rfl); (case hg => rfl); (case hr => first | (go_simp; done) | (go_simp; rfl)); (case hp => exact (Reps.one (show Kd.M (Kd.int .i64) _ _ _ x15_1 [.int .i64 x15_1] from rfl) (Reps.one (show Kd.M (Kd.int .i64) _ _ _ x22_2 [.int .i64 x22_2] from rfl) (Reps.none _ _)))); intro v570 w18 ho19 hb hg_ hnew_; clear hg_ hnew_; (first | rw [← Ny569.out] at ho19 | (simp only [Int.reduceToNat] at ho19; rw [← Ny569.out] at ho19)); have n0_ := Aside0.mk (Kd.S_elder' (by (with_reducible repeat (first | apply Kd.S_alloc | apply Kd.S_drewN | apply Kd.S_drew)); exact HO_7.out) (Kd.R_base ho19) hb); have n1_ := Aside0.mk (Kd.R_lower ho19 (below_size hb_)); have n2_ := Aside0.mk (blk_below (g := gb562) (o := .cells #[.int .i64 a0_0, .int .i64 a0_1, .int .i64 a0_2, .slice A0_3 l0_3.length c0_3, .slice A0_4 l0_4.length c0_4] 27 (0, 0)) (by (with_reducible repeat (first | refine blk_drewN ?_ _ | refine blk_drew ?_ | refine blk_alloc ?_ _)); exact BK562.out) hb); have n3_ := Aside0.mk (below_step hb_ hb); clear HO_7; clear BK562; clear HB; have HO_7 := n0_; have HO571 := n1_; have BK562 := n2_; have HB := n3_; clear n0_ n1_ n2_ n3_; clear hb ho19; obtain ⟨Ao21, co21, eo21⟩ := Kd.R_slice HO571.out; subst eo21) | ((with_reducible refine gate_builtin (b := .append) (xs := #[.tmp 33, .tmp 37]) rfl ?_); at_builtin; refine Kd.S_append (Kd.slice 3 (Kd.int .i64)) (w0 := w) w.heap.size rfl (.tmp 33) (.tmp 37) 34 22 (.slice none 0 0) 24 rfl Try.underlying34 info22 rfl (by decide) (by omega) u7 x7_2 y569 [.slice Ao21 y569.length co21] (fun _ => True) (fun k_ => some k_ = (.slice Ao21 y569.length co21 : Value).ownBlock) rfl rfl ?aP (fun k_ hk_ => ((Kd.R_mono (ok' := fun k_ => ((fun _ => True)) k_ ∧ some k_ ≠ (u7 : Value).ownBlock) (Kd.R_apart' (HO571.out) (Kd.S_typed HO_7.out) (by decide)) (fun k_ hk => ⟨trivial, hk.2⟩))).1 k_ hk_.symm) ?aF ?aO ?aB ?aS ?aL ?_; (case aP => exact Kd.M_row (Kd.R_mono (Kd.R_tight rfl (Kd.R_mono (ok' := fun k_ => ((fun _ => True)) k_ ∧ some k_ ≠ (u7 : Value).ownBlock) (Kd.R_apart' (HO571.out) (Kd.S_typed HO_7.out) (by decide)) (fun k_ hk => ⟨trivial, hk.2⟩))) (fun _ h_ => h_))); (case aB => exact hb_); (case aF => exact (fun _ _ => trivial)); (case aO => exact (by (with_reducible repeat (first | apply Kd.S_alloc | apply Kd.S_drewN | apply Kd.S_drew)); exact Kd.S_mono HO_7.out (fun k_ hk => ⟨trivial, fun e_ => hk.2 e_⟩))); (case aS => exact (below_size hb_)); (case aL => have := LMc15.out; omega); intro v573 w20 ho hb hg hat; rw [← Ny572.out] at ho; have n0_ := Aside0.mk (blk_grown (g := gb562) (o := .cells #[.int .i64 a0_0, .int .i64 a0_1, .int .i64 a0_2, .slice A0_3 l0_3.length c0_3, .slice A0_4 l0_4.length c0_4] 27 (0, 0)) (by (with_reducible repeat (first | refine blk_drewN ?_ _ | refine blk_drew ?_ | refine blk_alloc ?_ _)); exact BK562.out) hg (Kd.S_ne HO_7.out BK562.out (by decide))); have n1_ := Aside0.mk (hb); have n2_ := Aside0.mk (ho); clear BK562; clear HB; clear HO_7; clear HO571; have BK562 := n0_; have HB := n1_; have HO574 := n2_; clear n0_ n1_ n2_; clear ho hb hg hat))
             go_roundg k2
             case measure => have := HK1.out; have := HK2.out; omega
             case rel => exact ⟨(y572), (wrap64 (x22_2 + 1)), (by first | rfl | (simp; done) | (simp [*]; done)), H', ⟨by have := HK1.out; have := HK2.out; omega⟩, ⟨by (with_reducible repeat (first | apply Kd.S_alloc | apply Kd.S_drewN | apply Kd.S_drew)); exact HO574.out⟩, ⟨by (with_reducible repeat (first | refine blk_drewN ?_ _ | refine blk_drew ?_ | refine blk_alloc ?_ _)); exact BK562.out⟩, ⟨hb_⟩⟩
            ·rw [if_neg c15] at H
             exact absurd H (by simp)
           ·rw [if_neg c14] at H
            have c14b0 : (t568 == a2) = false := beq_eq_false_iff_ne.mpr c14
            have c14b1 : (t568 != a2) = true := bne_iff_ne.mpr c14
            have H' := Aside0.mk H
            clear H
            have p567 : 0 ≤ (x22_2 : Int) := of_decide_eq_true (by first | (with_reducible assumption) | assumption)
            have q567 : x22_2 < ((rd_L1 l1 x15_1).length : Int) := of_decide_eq_true (by first | (with_reducible assumption) | assumption)
            obtain ⟨ad567, e567, hx567_0⟩ := Kd.at_int HR566_0.out x22_2 p567 q567
            cases e567
            replace hx567_0 := (HB.out.cell (World.block_lt_of_cell? w _ hx567_0)).trans hx567_0
            replace p567 := eq_true p567
            replace q567 := eq_true q567
            have hcz22_0 : wr.cell? ⟨gb562, 0, none⟩ = some (.int .i64 a0_0) := (blk_cell BK562.out 0).trans rfl
            have hcz22_1 : wr.cell? ⟨gb562, 1, none⟩ = some (.int .i64 a0_1) := (blk_cell BK562.out 1).trans rfl
            have hcz22_2 : wr.cell? ⟨gb562, 2, none⟩ = some (.int .i64 a0_2) := (blk_cell BK562.out 2).trans rfl
            have hcz22_3 : wr.cell? ⟨gb562, 3, none⟩ = some (.slice A0_3 l0_3.length c0_3) := (blk_cell BK562.out 3).trans rfl
            have hcz22_4 : wr.cell? ⟨gb562, 4, none⟩ = some (.slice A0_4 l0_4.length c0_4) := (blk_cell BK562.out 4).trans rfl
            have hfz22_0 := blk_frozen BK562.out 0
            have hfz22_1 := blk_frozen BK562.out 1
            have hfz22_2 := blk_frozen BK562.out 2
            have hfz22_3 := blk_frozen BK562.out 3
            have hfz22_4 := blk_frozen BK562.out 4
            go_wp2_with (first | ((with_reducible refine gate_callee (f := 72) rfl ?_); refine goesL_ (some 30) rfl rfl Try.func72 (by kernel_rfl) rfl #[.agg #[.int .i64 a0_0, .int .i64 a0_1, .int .i64 a0_2, .slice A0_3 l0_3.length c0_3, .slice A0_4 l0_4.length c0_4], .int .i64 x15_1, .int .i64 (rd (rd_L1 l1 x15_1) x22_2)] rfl (by (try simp only [List.map_toArray, List.map_cons, List.map_nil]); first | done | rfl | (simp only [List.length_drop, List.length_take]; rfl)) ?_; (with_reducible refine (impl_Track_square.calls a0_0 a0_1 a0_2 _ _ l0_3 _ _ l0_4 x15_1 (rd (rd_L1 l1 x15_1) x22_2) t568 _ ?side1 ?side2 ?side3 ?side4 A13.out).mono ?_); (case side1 => exact Kd.C_below HR0_3.out hb_); (case side2 => exact HC0_3.out); (case side3 => exact Kd.C_below HR0_4.out hb_); (case side4 => exact HC0_4.out); rintro e w23 ⟨rfl, hb⟩; refine ⟨_, rfl, ?_⟩; have n0_ := Aside0.mk (Kd.S_below (by (with_reducible repeat (first | apply Kd.S_alloc | apply Kd.S_drewN | apply Kd.S_drew)); exact HO_7.out) hb); have n1_ := Aside0.mk (blk_below (g := gb562) (o := .cells #[.int .i64 a0_0, .int .i64 a0_1, .int .i64 a0_2, .slice A0_3 l0_3.length c0_3, .slice A0_4 l0_4.length c0_4] 27 (0, 0)) (by (with_reducible repeat (first | refine blk_drewN ?_ _ | refine blk_drew ?_ | refine blk_alloc ?_ _)); exact BK562.out) hb); have n2_ := Aside0.mk (below_step hb_ hb); clear HO_7; clear BK562; clear HB; have HO_7 := n0_; have BK562 := n1_; have HB := n2_; clear n0_ n1_ n2_; (try clear hb); (try clear hb2); (try clear hk); (try clear hi)))
            go_roundg k2
            case measure => have := HK1.out; have := HK2.out; omega
            case rel => exact ⟨(x7_2), (wrap64 (x22_2 + 1)), (by first | rfl | (simp; done) | (simp [*]; done)), H', ⟨by have := HK1.out; have := HK2.out; omega⟩, ⟨by (with_reducible repeat (first | apply Kd.S_alloc | apply Kd.S_drewN | apply Kd.S_drew)); exact HO_7.out⟩, ⟨by (with_reducible repeat (first | refine blk_drewN ?_ _ | refine blk_drew ?_ | refine blk_alloc ?_ _)); exact BK562.out⟩, ⟨hb_⟩⟩
          ·rw [if_neg c12] at H
           exact absurd H (by simp)
         ·rw [if_neg c11] at H
          exact absurd H (by simp)
        ·rw [if_neg c10] at H
         have c10b0 : decide (x22_2 < ((rd_L1 l1 x15_1).length : Int)) = false := decide_eq_false c10
         clear c10
         have H' := Aside0.mk H
         clear H
         go_wp2
         go_roundg k2
         case measure => have := HK1.out; have := HK2.out; omega
         case rel => exact ⟨(x7_2), (wrap64 (x15_1 + 1)), (by first | rfl | (simp; done) | (simp [*]; done)), H', ⟨by have := HK1.out; have := HK2.out; omega⟩, ⟨by (with_reducible repeat (first | apply Kd.S_alloc | apply Kd.S_drewN | apply Kd.S_drew)); exact HO_7.out⟩, ⟨by (with_reducible repeat (first | refine blk_drewN ?_ _ | refine blk_drew ?_ | refine blk_alloc ?_ _)); exact BK562.out⟩, ⟨hb_⟩⟩
     ·rw [if_neg c9] at H
      exact absurd H (by simp)
    ·rw [if_neg c8] at H
     exact absurd H (by simp)
   ·rw [if_neg c7] at H
    have c7b0 : decide (x15_1 < (l1.length : Int)) = false := decide_eq_false c7
    clear c7
    obtain rfl := Option.some.inj H
    go_wp2
    go_ret
    exact ⟨_, by first | rfl | (simp [errW_none, errW_some] <;> rfl) | (simp [*, errW_none, errW_some] <;> rfl), by (with_reducible repeat (first | apply Kd.S_alloc | apply Kd.S_drewN | apply Kd.S_drew)); exact HO_7.out, hb_⟩

end Go.Proofs.Ytcppahkdfajcaaa.P
