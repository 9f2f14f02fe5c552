-- written for this claim by a program of this session (wip/tools/xprint.py), which runs the kit's print with other cuts
import Derived.Test.YtcppahkdfajcaaaP
import Derived.Test.YtcppahkdfajcaaaP63
namespace Go.Proofs.Ytcppahkdfajcaaa.P
open Go.RowKit Go.Proofs.YtcppahkdfajcaaaW.PrintWords Go.Proofs.YtcppahkdfajcaaaW.PrintLast Go.Proofs.YtcppahkdfajcaaaW.PrintMore
attribute [local go_sem] max2_int min2_int max_two min_two max_three min_three max_four min_four   -- for this text's walks alone
set_option linter.unusedVariables false
set_option linter.unusedSimpArgs false

/-! ### spec_trState: function 73 -/
mutual
def spec_trState.l0 : Nat → List (List Int) → List (List Int) → Int → Int → Int → Int → Int → List Int → List Int → Option (Bool)
 | 0, _, _, _, _, _, _, _, _, _ => none
 | k + 1, x1, x17, x18, x19, x255000, x255001, x255002, x255003, x255004 => if x19 < x18 then (if 0 ≤ x19 then (if x19 < (x17.length : Int) then (if ((rd_L1 x17 x19).length : Int) = x255002 then ((spec_l1All.f k (rd_L1 x17 x19) (-1) x255000).bind fun t256 => (if t256 = true then (spec_trState.l0 k x1 x17 x18 (wrap64 (x19 + 1)) x255000 x255001 x255002 x255003 x255004) else (some false))) else (some false)) else (none)) else (none)) else (spec_trState.l1 k x1 0 x255000 x255001 x255002 x255003 x255004)
def spec_trState.l1 : Nat → List (List Int) → Int → Int → Int → Int → List Int → List Int → Option (Bool)
 | 0, _, _, _, _, _, _, _ => none
 | k + 1, x1, x7, x255000, x255001, x255002, x255003, x255004 => if x7 < x255000 then ((spec_trAt.f k x255000 x255001 x255002 x255003 x255004 x1 x7).bind fun t257 => (spec_trState.l2 k x1 x7 t257 t257 (t257.length : Int) 0 x255000 x255001 x255002 x255003 x255004)) else (some true)
def spec_trState.l2 : Nat → List (List Int) → Int → List (List Int) → List (List Int) → Int → Int → Int → Int → Int → List Int → List Int → Option (Bool)
 | 0, _, _, _, _, _, _, _, _, _, _, _ => none
 | k + 1, x1, x7, x8, x46, x47, x48, x255000, x255001, x255002, x255003, x255004 => if x48 < x47 then (if 0 ≤ x48 then (if x48 < (x46.length : Int) then (if 0 < ((rd_L1 x46 x48).length : Int) then (if 0 < (x8.length : Int) then (if 0 < ((rd_L1 x8 0).length : Int) then (if (rd (rd_L1 x46 x48) 0) = (rd (rd_L1 x8 0) 0) then (spec_trState.l2 k x1 x7 x8 x46 x47 (wrap64 (x48 + 1)) x255000 x255001 x255002 x255003 x255004) else ((spec_l1Has.f k x255004 x7).bind fun t264 => (if t264 = true then (spec_trState.l2 k x1 x7 x8 x46 x47 (wrap64 (x48 + 1)) x255000 x255001 x255002 x255003 x255004) else (some false)))) else (none)) else (none)) else (none)) else (none)) else (none)) else (spec_trState.l1 k x1 (wrap64 (x7 + 1)) x255000 x255001 x255002 x255003 x255004)
end
def spec_trState.f (k : Nat) (a0_0 : Int) (a0_1 : Int) (a0_2 : Int) (l0_3 : List Int) (l0_4 : List Int) (l1 : List (List Int)) : Option (Bool) := if (l1.length : Int) = (l0_3.length : Int) then (spec_trState.l0 k l1 l1 (l1.length : Int) 0 a0_0 a0_1 a0_2 l0_3 l0_4) else (some false)
theorem spec_trState.mono_l : ∀ k, (∀ y0 y1 y2 y3 y4 y5 y6 y7 y8, LeO (spec_trState.l0 k y0 y1 y2 y3 y4 y5 y6 y7 y8) (spec_trState.l0 (k + 1) y0 y1 y2 y3 y4 y5 y6 y7 y8)) ∧ (∀ y0 y1 y2 y3 y4 y5 y6, LeO (spec_trState.l1 k y0 y1 y2 y3 y4 y5 y6) (spec_trState.l1 (k + 1) y0 y1 y2 y3 y4 y5 y6)) ∧ (∀ y0 y1 y2 y3 y4 y5 y6 y7 y8 y9 y10, LeO (spec_trState.l2 k y0 y1 y2 y3 y4 y5 y6 y7 y8 y9 y10) (spec_trState.l2 (k + 1) y0 y1 y2 y3 y4 y5 y6 y7 y8 y9 y10))
 | 0 => ⟨fun _ _ _ _ _ _ _ _ _ r h => by simp [spec_trState.l0] at h, fun _ _ _ _ _ _ _ r h => by simp [spec_trState.l1] at h, fun _ _ _ _ _ _ _ _ _ _ _ r h => by simp [spec_trState.l2] at h⟩
 | k + 1 => by
  obtain ⟨ih0, ih1, ih2⟩ := spec_trState.mono_l k
  refine ⟨?_, ?_, ?_⟩
  ·intro y0 y1 y2 y3 y4 y5 y6 y7 y8
   unfold spec_trState.l0
   repeat' first
   | (with_reducible exact ih0 _ _ _ _ _ _ _ _ _)
   | (with_reducible exact ih1 _ _ _ _ _ _ _)
   | (with_reducible exact ih2 _ _ _ _ _ _ _ _ _ _ _)
   | (with_reducible exact spec_l1All.mono _ _ _ _)
   | (with_reducible exact spec_l1Has.mono _ _ _)
   | (with_reducible exact spec_trAt.mono _ _ _ _ _ _ _ _)
   | (with_reducible exact LeO.refl _)
   | (with_reducible exact LeO.none _)
   | (with_reducible refine LeO.ite ?_ ?_)
   | (with_reducible refine LeO.bind ?_ (fun _ => ?_))
   | exact ih0 _ _ _ _ _ _ _ _ _
   | exact ih1 _ _ _ _ _ _ _
   | exact ih2 _ _ _ _ _ _ _ _ _ _ _
   | exact spec_l1All.mono _ _ _ _
   | exact spec_l1Has.mono _ _ _
   | exact spec_trAt.mono _ _ _ _ _ _ _ _
   | exact LeO.none _
   | refine LeO.ite ?_ ?_
   | refine LeO.bind ?_ (fun _ => ?_)
  ·intro y0 y1 y2 y3 y4 y5 y6
   unfold spec_trState.l1
   repeat' first
   | (with_reducible exact ih0 _ _ _ _ _ _ _ _ _)
   | (with_reducible exact ih1 _ _ _ _ _ _ _)
   | (with_reducible exact ih2 _ _ _ _ _ _ _ _ _ _ _)
   | (with_reducible exact spec_l1All.mono _ _ _ _)
   | (with_reducible exact spec_l1Has.mono _ _ _)
   | (with_reducible exact spec_trAt.mono _ _ _ _ _ _ _ _)
   | (with_reducible exact LeO.refl _)
   | (with_reducible exact LeO.none _)
   | (with_reducible refine LeO.ite ?_ ?_)
   | (with_reducible refine LeO.bind ?_ (fun _ => ?_))
   | exact ih0 _ _ _ _ _ _ _ _ _
   | exact ih1 _ _ _ _ _ _ _
   | exact ih2 _ _ _ _ _ _ _ _ _ _ _
   | exact spec_l1All.mono _ _ _ _
   | exact spec_l1Has.mono _ _ _
   | exact spec_trAt.mono _ _ _ _ _ _ _ _
   | exact LeO.none _
   | refine LeO.ite ?_ ?_
   | refine LeO.bind ?_ (fun _ => ?_)
  ·intro y0 y1 y2 y3 y4 y5 y6 y7 y8 y9 y10
   unfold spec_trState.l2
   repeat' first
   | (with_reducible exact ih0 _ _ _ _ _ _ _ _ _)
   | (with_reducible exact ih1 _ _ _ _ _ _ _)
   | (with_reducible exact ih2 _ _ _ _ _ _ _ _ _ _ _)
   | (with_reducible exact spec_l1All.mono _ _ _ _)
   | (with_reducible exact spec_l1Has.mono _ _ _)
   | (with_reducible exact spec_trAt.mono _ _ _ _ _ _ _ _)
   | (with_reducible exact LeO.refl _)
   | (with_reducible exact LeO.none _)
   | (with_reducible refine LeO.ite ?_ ?_)
   | (with_reducible refine LeO.bind ?_ (fun _ => ?_))
   | exact ih0 _ _ _ _ _ _ _ _ _
   | exact ih1 _ _ _ _ _ _ _
   | exact ih2 _ _ _ _ _ _ _ _ _ _ _
   | exact spec_l1All.mono _ _ _ _
   | exact spec_l1Has.mono _ _ _
   | exact spec_trAt.mono _ _ _ _ _ _ _ _
   | exact LeO.none _
   | refine LeO.ite ?_ ?_
   | refine LeO.bind ?_ (fun _ => ?_)
theorem spec_trState.mono : ∀ a0 a1 a2 a3 a4 a5 k, LeO (spec_trState.f k a0 a1 a2 a3 a4 a5) (spec_trState.f (k + 1) a0 a1 a2 a3 a4 a5) := by
 intro a0 a1 a2 a3 a4 a5 k
 obtain ⟨ih0, ih1, ih2⟩ := spec_trState.mono_l k
 unfold spec_trState.f
 repeat' first
   | (with_reducible exact ih0 _ _ _ _ _ _ _ _ _)
   | (with_reducible exact ih1 _ _ _ _ _ _ _)
   | (with_reducible exact ih2 _ _ _ _ _ _ _ _ _ _ _)
   | (with_reducible exact spec_l1All.mono _ _ _ _)
   | (with_reducible exact spec_l1Has.mono _ _ _)
   | (with_reducible exact spec_trAt.mono _ _ _ _ _ _ _ _)
   | (with_reducible exact LeO.refl _)
   | (with_reducible exact LeO.none _)
   | (with_reducible refine LeO.ite ?_ ?_)
   | (with_reducible refine LeO.bind ?_ (fun _ => ?_))
   | exact ih0 _ _ _ _ _ _ _ _ _
   | exact ih1 _ _ _ _ _ _ _
   | exact ih2 _ _ _ _ _ _ _ _ _ _ _
   | exact spec_l1All.mono _ _ _ _
   | exact spec_l1Has.mono _ _ _
   | exact spec_trAt.mono _ _ _ _ _ _ _ _
   | exact LeO.none _
   | refine LeO.ite ?_ ?_
   | refine LeO.bind ?_ (fun _ => ?_)
set_option maxHeartbeats 8000000 in
set_option maxRecDepth 100000 in
theorem spec_trState.calls (k : Nat) (a0_0 : Int) (a0_1 : Int) (a0_2 : Int) (A0_3 : Option Addr) (c0_3 : Nat) (l0_3 : List Int) (A0_4 : Option Addr) (c0_4 : Nat) (l0_4 : List Int) (A1 : Option Addr) (c1 : Nat) (l1 : List (List Int)) (r : Bool) (w : World) (hr0_3 : Kd.C (Kd.int .i64) w A0_3 l0_3.length l0_3) (hc0_3 : l0_3.length ≤ c0_3) (hr0_4 : Kd.C (Kd.int .i64) w A0_4 l0_4.length l0_4) (hc0_4 : l0_4.length ≤ c0_4) (hr1 : Kd.C (Kd.slice 3 (Kd.int .i64)) w A1 l1.length l1) (hc1 : l1.length ≤ c1) (h : spec_trState.f k a0_0 a0_1 a0_2 l0_3 l0_4 l1 = some r) :
  Calls Try.prog 73 #[.agg #[.int .i64 a0_0, .int .i64 a0_1, .int .i64 a0_2, .slice A0_3 l0_3.length c0_3, .slice A0_4 l0_4.length c0_4], .slice A1 l1.length c1] w fun e w' => e = .returned (.bool r) ∧ Below w.heap.size w w' := by
 have hu27 := Try.underlying27
 have HR0_3 := Aside0.mk hr0_3
 have HC0_3 := Aside0.mk hc0_3
 clear hr0_3 hc0_3
 have HR0_4 := Aside0.mk hr0_4
 have HC0_4 := Aside0.mk hc0_4
 clear hr0_4 hc0_4
 have HR1 := Aside0.mk hr1
 have HC1 := Aside0.mk hc1
 clear hr1 hc1
 have HB := Aside0.mk (Below.refl w.heap.size w)
 have H : (if (l1.length : Int) = (l0_3.length : Int) then (spec_trState.l0 k l1 l1 (l1.length : Int) 0 a0_0 a0_1 a0_2 l0_3 l0_4) else (some false)) = some r := h
 clear h
 by_cases c3 : (l1.length : Int) = (l0_3.length : Int)
 ·rw [if_pos c3] at H
  have c3b0 : ((l1.length : Int) == (l0_3.length : Int)) = true := beq_iff_eq.mpr c3
  have c3b1 : ((l1.length : Int) != (l0_3.length : Int)) = false := bne_eq_false_iff_eq.mpr c3
  have c3b2 : (l1.length == l0_3.length) = true := by first | simpa using c3 | (simp at c3 ⊢; omega)
  clear c3
  have H' := Aside0.mk H
  clear H
  go_enter Try.func73, Try.ntmps73
  go_wp2_with (first | ((with_reducible refine gate_dst (N := 2) rfl ?_); refine box_event ?hg (N := 2) ?hd (cs := #[.int .i64 a0_0, .int .i64 a0_1, .int .i64 a0_2, .slice A0_3 l0_3.length c0_3, .slice A0_4 l0_4.length c0_4]) (t := 27) ?hr ?_; (case hd => rfl); (case hg => rfl); (case hr => first | (go_simp; done) | (go_simp; rfl)); intro gb254 hg w4 hbox hb; have n0_ := Aside0.mk (below_step hb_ hb); have n1_ := Aside0.mk (hbox); have n2_ := Aside0.mk ((by rw [hg]; exact (below_size hb_) : w.heap.size ≤ gb254)); have n3_ := Aside0.mk ((by rw [hg]; exact (below_size hb_) : w.heap.size ≤ gb254)); clear HB; have HB := n0_; have BK254 := n1_; have GW254 := n2_; have GE254 := n3_; clear n0_ n1_ n2_ n3_; clear hb hbox hg; have hcz5_0 : w4.cell? ⟨gb254, 0, none⟩ = some (.int .i64 a0_0) := (blk_cell BK254.out 0).trans rfl; have hcz5_1 : w4.cell? ⟨gb254, 1, none⟩ = some (.int .i64 a0_1) := (blk_cell BK254.out 1).trans rfl; have hcz5_2 : w4.cell? ⟨gb254, 2, none⟩ = some (.int .i64 a0_2) := (blk_cell BK254.out 2).trans rfl; have hcz5_3 : w4.cell? ⟨gb254, 3, none⟩ = some (.slice A0_3 l0_3.length c0_3) := (blk_cell BK254.out 3).trans rfl; have hcz5_4 : w4.cell? ⟨gb254, 4, none⟩ = some (.slice A0_4 l0_4.length c0_4) := (blk_cell BK254.out 4).trans rfl; have hfz5_0 := blk_frozen BK254.out 0; have hfz5_1 := blk_frozen BK254.out 1; have hfz5_2 := blk_frozen BK254.out 2; have hfz5_3 := blk_frozen BK254.out 3; have hfz5_4 := blk_frozen BK254.out 4))
  repeat (go_quiet (first | ((with_reducible refine gate_dst (N := 2) rfl ?_); refine box_event ?hg (N := 2) ?hd (cs := #[.int .i64 a0_0, .int .i64 a0_1, .int .i64 a0_2, .slice A0_3 l0_3.length c0_3, .slice A0_4 l0_4.length c0_4]) (t := 27) ?hr ?_; (case hd => rfl); (case hg => rfl); (case hr => first | (go_simp; done) | (go_simp; rfl)); intro gb254 hg w4 hbox hb; have n0_ := Aside0.mk (below_step hb_ hb); have n1_ := Aside0.mk (hbox); have n2_ := Aside0.mk ((by rw [hg]; exact (below_size hb_) : w.heap.size ≤ gb254)); have n3_ := Aside0.mk ((by rw [hg]; exact (below_size hb_) : w.heap.size ≤ gb254)); clear HB; have HB := n0_; have BK254 := n1_; have GW254 := n2_; have GE254 := n3_; clear n0_ n1_ n2_ n3_; clear hb hbox hg; have hcz5_0 : w4.cell? ⟨gb254, 0, none⟩ = some (.int .i64 a0_0) := (blk_cell BK254.out 0).trans rfl; have hcz5_1 : w4.cell? ⟨gb254, 1, none⟩ = some (.int .i64 a0_1) := (blk_cell BK254.out 1).trans rfl; have hcz5_2 : w4.cell? ⟨gb254, 2, none⟩ = some (.int .i64 a0_2) := (blk_cell BK254.out 2).trans rfl; have hcz5_3 : w4.cell? ⟨gb254, 3, none⟩ = some (.slice A0_3 l0_3.length c0_3) := (blk_cell BK254.out 3).trans rfl; have hcz5_4 : w4.cell? ⟨gb254, 4, none⟩ = some (.slice A0_4 l0_4.length c0_4) := (blk_cell BK254.out 4).trans rfl; have hfz5_0 := blk_frozen BK254.out 0; have hfz5_1 := blk_frozen BK254.out 1; have hfz5_2 := blk_frozen BK254.out 2; have hfz5_3 := blk_frozen BK254.out 3; have hfz5_4 := blk_frozen BK254.out 4)); try go_wp2_with (first | ((with_reducible refine gate_dst (N := 2) rfl ?_); refine box_event ?hg (N := 2) ?hd (cs := #[.int .i64 a0_0, .int .i64 a0_1, .int .i64 a0_2, .slice A0_3 l0_3.length c0_3, .slice A0_4 l0_4.length c0_4]) (t := 27) ?hr ?_; (case hd => rfl); (case hg => rfl); (case hr => first | (go_simp; done) | (go_simp; rfl)); intro gb254 hg w4 hbox hb; have n0_ := Aside0.mk (below_step hb_ hb); have n1_ := Aside0.mk (hbox); have n2_ := Aside0.mk ((by rw [hg]; exact (below_size hb_) : w.heap.size ≤ gb254)); have n3_ := Aside0.mk ((by rw [hg]; exact (below_size hb_) : w.heap.size ≤ gb254)); clear HB; have HB := n0_; have BK254 := n1_; have GW254 := n2_; have GE254 := n3_; clear n0_ n1_ n2_ n3_; clear hb hbox hg; have hcz5_0 : w4.cell? ⟨gb254, 0, none⟩ = some (.int .i64 a0_0) := (blk_cell BK254.out 0).trans rfl; have hcz5_1 : w4.cell? ⟨gb254, 1, none⟩ = some (.int .i64 a0_1) := (blk_cell BK254.out 1).trans rfl; have hcz5_2 : w4.cell? ⟨gb254, 2, none⟩ = some (.int .i64 a0_2) := (blk_cell BK254.out 2).trans rfl; have hcz5_3 : w4.cell? ⟨gb254, 3, none⟩ = some (.slice A0_3 l0_3.length c0_3) := (blk_cell BK254.out 3).trans rfl; have hcz5_4 : w4.cell? ⟨gb254, 4, none⟩ = some (.slice A0_4 l0_4.length c0_4) := (blk_cell BK254.out 4).trans rfl; have hfz5_0 := blk_frozen BK254.out 0; have hfz5_1 := blk_frozen BK254.out 1; have hfz5_2 := blk_frozen BK254.out 2; have hfz5_3 := blk_frozen BK254.out 3; have hfz5_4 := blk_frozen BK254.out 4)))
  go_loopg [19] k (fun kq v19 w' => ∃ (x19_1 : Int), v19 = .int .i64 x19_1 ∧ Aside0 (spec_trState.l0 kq l1 l1 (l1.length : Int) x19_1 a0_0 a0_1 a0_2 l0_3 l0_4 = some r) ∧ Aside0 (kq ≤ k) ∧ Aside0 (w'.heap[gb254]? = some (.cells #[.int .i64 a0_0, .int .i64 a0_1, .int .i64 a0_2, (.slice A0_3 l0_3.length c0_3), (.slice A0_4 l0_4.length c0_4)] 27 (0, 0))) ∧ Aside0 (Below w.heap.size w w'))
  case atStart => exact ⟨(0), (by first | rfl | (simp; done) | (simp [*]; done)), H', ⟨Nat.le_refl _⟩, ⟨by (with_reducible repeat (first | refine blk_drewN ?_ _ | refine blk_drew ?_ | refine blk_alloc ?_ _)); exact BK254.out⟩, ⟨hb_⟩⟩
  case round =>
   clear H'
   try clear c1
   try clear p2
   try clear c3
   try clear c3b0
   try clear c3b1
   try clear c3b2
   try clear hcz5_0
   try clear hcz5_1
   try clear hcz5_2
   try clear hcz5_3
   try clear hcz5_4
   try clear hfz5_0
   try clear hfz5_1
   try clear hfz5_2
   try clear hfz5_3
   try clear hfz5_4
   obtain ⟨x19_1, rfl, HA, HK1, BK254, HB⟩ := hrel
   cases gk with
   | zero => exact absurd HA.out (by simp [spec_trState.l0])
   | succ k1 =>
    have H := HA.out
    clear HA
    simp only [spec_trState.l0] at H
    by_cases c6 : x19_1 < (l1.length : Int)
    ·rw [if_pos c6] at H
     have c6b0 : decide (x19_1 < (l1.length : Int)) = true := decide_eq_true c6
     clear c6
     by_cases c7 : 0 ≤ x19_1
     ·rw [if_pos c7] at H
      have c7b0 : decide (0 ≤ x19_1) = true := decide_eq_true c7
      clear c7
      by_cases c8 : x19_1 < (l1.length : Int)
      ·rw [if_pos c8] at H
       have c8b0 : decide (x19_1 < (l1.length : Int)) = true := decide_eq_true c8
       clear c8
       by_cases c9 : ((rd_L1 l1 x19_1).length : Int) = a0_2
       ·rw [if_pos c9] at H
        have c9b0 : (((rd_L1 l1 x19_1).length : Int) == a0_2) = true := beq_iff_eq.mpr c9
        have c9b1 : (((rd_L1 l1 x19_1).length : Int) != a0_2) = false := bne_eq_false_iff_eq.mpr c9
        clear c9
        replace H := Option.bind_eq_some_iff.mp H
        obtain ⟨t256, A100, H⟩ := H
        replace H : (if t256 = true then (spec_trState.l0 k1 l1 l1 (l1.length : Int) (wrap64 (x19_1 + 1)) a0_0 a0_1 a0_2 l0_3 l0_4) else (some false)) = some r := H
        have A10 := Aside0.mk A100
        clear A100
        by_cases c11 : t256 = true
        ·subst c11
         have H1 : (spec_trState.l0 k1 l1 l1 (l1.length : Int) (wrap64 (x19_1 + 1)) a0_0 a0_1 a0_2 l0_3 l0_4) = some r := by rw [if_pos rfl] at H; exact H
         clear H
         have H := H1
         clear H1
         have H' := Aside0.mk H
         clear H
         have p255 : 0 ≤ (x19_1 : Int) := of_decide_eq_true (by first | (with_reducible assumption) | assumption)
         have q255 : x19_1 < (l1.length : Int) := of_decide_eq_true (by first | (with_reducible assumption) | assumption)
         obtain ⟨ad255, A255_0, c255_0, e255, hx255_0, hl255_0, hi255_0⟩ := at_L1 HR1.out x19_1 p255 q255
         cases e255
         replace hx255_0 := (HB.out.cell (World.block_lt_of_cell? w _ hx255_0)).trans hx255_0
         have HR255_0 := Aside0.mk hi255_0
         have HC255_0 := Aside0.mk hl255_0
         clear hi255_0 hl255_0
         replace p255 := eq_true p255
         replace q255 := eq_true q255
         have hcz12_0 : wr.cell? ⟨gb254, 0, none⟩ = some (.int .i64 a0_0) := (blk_cell BK254.out 0).trans rfl
         have hcz12_1 : wr.cell? ⟨gb254, 1, none⟩ = some (.int .i64 a0_1) := (blk_cell BK254.out 1).trans rfl
         have hcz12_2 : wr.cell? ⟨gb254, 2, none⟩ = some (.int .i64 a0_2) := (blk_cell BK254.out 2).trans rfl
         have hcz12_3 : wr.cell? ⟨gb254, 3, none⟩ = some (.slice A0_3 l0_3.length c0_3) := (blk_cell BK254.out 3).trans rfl
         have hcz12_4 : wr.cell? ⟨gb254, 4, none⟩ = some (.slice A0_4 l0_4.length c0_4) := (blk_cell BK254.out 4).trans rfl
         have hfz12_0 := blk_frozen BK254.out 0
         have hfz12_1 := blk_frozen BK254.out 1
         have hfz12_2 := blk_frozen BK254.out 2
         have hfz12_3 := blk_frozen BK254.out 3
         have hfz12_4 := blk_frozen BK254.out 4
         go_wp2_with (first | (go_at_call 98; (with_reducible refine (spec_l1All.calls k1 _ _ (rd_L1 l1 x19_1) (-1) a0_0 true _ ?side1 ?side2 A10.out).mono ?_); (case side1 => exact Kd.C_below HR255_0.out hb_); (case side2 => exact HC255_0.out); rintro e w' ⟨rfl, ⟨nd, rfl⟩⟩; (try first | exact ⟨rfl, _, World.drewN_drewN _ _ _⟩ | exact ⟨rfl, _, Eq.trans (World.drewN_drewN _ _ _) (congrArg (World.drewN _) (Nat.add_assoc _ _ _))⟩)))
         repeat (go_quiet (first | (go_at_call 98; (with_reducible refine (spec_l1All.calls k1 _ _ (rd_L1 l1 x19_1) (-1) a0_0 true _ ?side1 ?side2 A10.out).mono ?_); (case side1 => exact Kd.C_below HR255_0.out hb_); (case side2 => exact HC255_0.out); rintro e w' ⟨rfl, ⟨nd, rfl⟩⟩; (try first | exact ⟨rfl, _, World.drewN_drewN _ _ _⟩ | exact ⟨rfl, _, Eq.trans (World.drewN_drewN _ _ _) (congrArg (World.drewN _) (Nat.add_assoc _ _ _))⟩))); try go_wp2_with (first | (go_at_call 98; (with_reducible refine (spec_l1All.calls k1 _ _ (rd_L1 l1 x19_1) (-1) a0_0 true _ ?side1 ?side2 A10.out).mono ?_); (case side1 => exact Kd.C_below HR255_0.out hb_); (case side2 => exact HC255_0.out); rintro e w' ⟨rfl, ⟨nd, rfl⟩⟩; (try first | exact ⟨rfl, _, World.drewN_drewN _ _ _⟩ | exact ⟨rfl, _, Eq.trans (World.drewN_drewN _ _ _) (congrArg (World.drewN _) (Nat.add_assoc _ _ _))⟩))))
         go_roundg k1
         case measure => have := HK1.out; omega
         case rel => exact ⟨(wrap64 (x19_1 + 1)), (by first | rfl | (simp; done) | (simp [*]; done)), H', ⟨by have := HK1.out; omega⟩, ⟨by (with_reducible repeat (first | refine blk_drewN ?_ _ | refine blk_drew ?_ | refine blk_alloc ?_ _)); exact BK254.out⟩, ⟨hb_⟩⟩
        ·replace c11 := Bool.eq_false_iff.mpr c11
         subst c11
         have H1 : (some false) = some r := by rw [if_neg (show ¬ (false = true) by decide)] at H; exact H
         clear H
         have H := H1
         clear H1
         obtain rfl := Option.some.inj H
         have p255 : 0 ≤ (x19_1 : Int) := of_decide_eq_true (by first | (with_reducible assumption) | assumption)
         have q255 : x19_1 < (l1.length : Int) := of_decide_eq_true (by first | (with_reducible assumption) | assumption)
         obtain ⟨ad255, A255_0, c255_0, e255, hx255_0, hl255_0, hi255_0⟩ := at_L1 HR1.out x19_1 p255 q255
         cases e255
         replace hx255_0 := (HB.out.cell (World.block_lt_of_cell? w _ hx255_0)).trans hx255_0
         have HR255_0 := Aside0.mk hi255_0
         have HC255_0 := Aside0.mk hl255_0
         clear hi255_0 hl255_0
         replace p255 := eq_true p255
         replace q255 := eq_true q255
         have hcz13_0 : wr.cell? ⟨gb254, 0, none⟩ = some (.int .i64 a0_0) := (blk_cell BK254.out 0).trans rfl
         have hcz13_1 : wr.cell? ⟨gb254, 1, none⟩ = some (.int .i64 a0_1) := (blk_cell BK254.out 1).trans rfl
         have hcz13_2 : wr.cell? ⟨gb254, 2, none⟩ = some (.int .i64 a0_2) := (blk_cell BK254.out 2).trans rfl
         have hcz13_3 : wr.cell? ⟨gb254, 3, none⟩ = some (.slice A0_3 l0_3.length c0_3) := (blk_cell BK254.out 3).trans rfl
         have hcz13_4 : wr.cell? ⟨gb254, 4, none⟩ = some (.slice A0_4 l0_4.length c0_4) := (blk_cell BK254.out 4).trans rfl
         have hfz13_0 := blk_frozen BK254.out 0
         have hfz13_1 := blk_frozen BK254.out 1
         have hfz13_2 := blk_frozen BK254.out 2
         have hfz13_3 := blk_frozen BK254.out 3
         have hfz13_4 := blk_frozen BK254.out 4
         go_wp2_with (first | (go_at_call 98; (with_reducible refine (spec_l1All.calls k1 _ _ (rd_L1 l1 x19_1) (-1) a0_0 false _ ?side1 ?side2 A10.out).mono ?_); (case side1 => exact Kd.C_below HR255_0.out hb_); (case side2 => exact HC255_0.out); rintro e w' ⟨rfl, ⟨nd, rfl⟩⟩; (try first | exact ⟨rfl, _, World.drewN_drewN _ _ _⟩ | exact ⟨rfl, _, Eq.trans (World.drewN_drewN _ _ _) (congrArg (World.drewN _) (Nat.add_assoc _ _ _))⟩)))
         repeat (go_quiet (first | (go_at_call 98; (with_reducible refine (spec_l1All.calls k1 _ _ (rd_L1 l1 x19_1) (-1) a0_0 false _ ?side1 ?side2 A10.out).mono ?_); (case side1 => exact Kd.C_below HR255_0.out hb_); (case side2 => exact HC255_0.out); rintro e w' ⟨rfl, ⟨nd, rfl⟩⟩; (try first | exact ⟨rfl, _, World.drewN_drewN _ _ _⟩ | exact ⟨rfl, _, Eq.trans (World.drewN_drewN _ _ _) (congrArg (World.drewN _) (Nat.add_assoc _ _ _))⟩))); try go_wp2_with (first | (go_at_call 98; (with_reducible refine (spec_l1All.calls k1 _ _ (rd_L1 l1 x19_1) (-1) a0_0 false _ ?side1 ?side2 A10.out).mono ?_); (case side1 => exact Kd.C_below HR255_0.out hb_); (case side2 => exact HC255_0.out); rintro e w' ⟨rfl, ⟨nd, rfl⟩⟩; (try first | exact ⟨rfl, _, World.drewN_drewN _ _ _⟩ | exact ⟨rfl, _, Eq.trans (World.drewN_drewN _ _ _) (congrArg (World.drewN _) (Nat.add_assoc _ _ _))⟩))))
         go_ret
         exact ⟨by first | rfl | (simp [errW_none, errW_some] <;> rfl) | (simp [*, errW_none, errW_some] <;> rfl), hb_⟩
       ·rw [if_neg c9] at H
        have c9b0 : (((rd_L1 l1 x19_1).length : Int) == a0_2) = false := beq_eq_false_iff_ne.mpr c9
        have c9b1 : (((rd_L1 l1 x19_1).length : Int) != a0_2) = true := bne_iff_ne.mpr c9
        obtain rfl := Option.some.inj H
        have p255 : 0 ≤ (x19_1 : Int) := of_decide_eq_true (by first | (with_reducible assumption) | assumption)
        have q255 : x19_1 < (l1.length : Int) := of_decide_eq_true (by first | (with_reducible assumption) | assumption)
        obtain ⟨ad255, A255_0, c255_0, e255, hx255_0, hl255_0, hi255_0⟩ := at_L1 HR1.out x19_1 p255 q255
        cases e255
        replace hx255_0 := (HB.out.cell (World.block_lt_of_cell? w _ hx255_0)).trans hx255_0
        have HR255_0 := Aside0.mk hi255_0
        have HC255_0 := Aside0.mk hl255_0
        clear hi255_0 hl255_0
        replace p255 := eq_true p255
        replace q255 := eq_true q255
        have hcz14_0 : wr.cell? ⟨gb254, 0, none⟩ = some (.int .i64 a0_0) := (blk_cell BK254.out 0).trans rfl
        have hcz14_1 : wr.cell? ⟨gb254, 1, none⟩ = some (.int .i64 a0_1) := (blk_cell BK254.out 1).trans rfl
        have hcz14_2 : wr.cell? ⟨gb254, 2, none⟩ = some (.int .i64 a0_2) := (blk_cell BK254.out 2).trans rfl
        have hcz14_3 : wr.cell? ⟨gb254, 3, none⟩ = some (.slice A0_3 l0_3.length c0_3) := (blk_cell BK254.out 3).trans rfl
        have hcz14_4 : wr.cell? ⟨gb254, 4, none⟩ = some (.slice A0_4 l0_4.length c0_4) := (blk_cell BK254.out 4).trans rfl
        have hfz14_0 := blk_frozen BK254.out 0
        have hfz14_1 := blk_frozen BK254.out 1
        have hfz14_2 := blk_frozen BK254.out 2
        have hfz14_3 := blk_frozen BK254.out 3
        have hfz14_4 := blk_frozen BK254.out 4
        go_wp2
        repeat (go_quiet (fail); try go_wp2)
        go_ret
        exact ⟨by first | rfl | (simp [errW_none, errW_some] <;> rfl) | (simp [*, errW_none, errW_some] <;> rfl), hb_⟩
      ·rw [if_neg c8] at H
       exact absurd H (by simp)
     ·rw [if_neg c7] at H
      exact absurd H (by simp)
    ·rw [if_neg c6] at H
     have c6b0 : decide (x19_1 < (l1.length : Int)) = false := decide_eq_false c6
     clear c6
     have H' := Aside0.mk H
     clear H
     go_wp2
     repeat (go_quiet (fail); try go_wp2)
     go_loopg [7] k1 (fun kq v7 w' => ∃ (x7_2 : Int), v7 = .int .i64 x7_2 ∧ Aside0 (spec_trState.l1 kq l1 x7_2 a0_0 a0_1 a0_2 l0_3 l0_4 = some r) ∧ Aside0 (kq ≤ k1) ∧ Aside0 (w'.heap[gb254]? = some (.cells #[.int .i64 a0_0, .int .i64 a0_1, .int .i64 a0_2, (.slice A0_3 l0_3.length c0_3), (.slice A0_4 l0_4.length c0_4)] 27 (0, 0))) ∧ Aside0 (Below w.heap.size w w'))
     case atStart => exact ⟨(0), (by first | rfl | (simp; done) | (simp [*]; done)), H', ⟨Nat.le_refl _⟩, ⟨by (with_reducible repeat (first | refine blk_drewN ?_ _ | refine blk_drew ?_ | refine blk_alloc ?_ _)); exact BK254.out⟩, ⟨hb_⟩⟩
     case round =>
      clear H'
      try clear c1
      try clear c2
      try clear p2
      try clear q2
      try clear hx2
      try clear c3
      try clear c3b0
      try clear c3b1
      try clear c3b2
      try clear c6
      try clear c6b0
      try clear p6
      try clear c7
      try clear c7b0
      try clear c8
      try clear c8b0
      try clear c9
      try clear c9b0
      try clear c9b1
      try clear c11
      try clear hcz12_0
      try clear hcz12_1
      try clear hcz12_2
      try clear hcz12_3
      try clear hcz12_4
      try clear hcz13_0
      try clear hcz13_1
      try clear hcz13_2
      try clear hcz13_3
      try clear hcz13_4
      try clear hcz14_0
      try clear hcz14_1
      try clear hcz14_2
      try clear hcz14_3
      try clear hcz14_4
      try clear hcz5_0
      try clear hcz5_1
      try clear hcz5_2
      try clear hcz5_3
      try clear hcz5_4
      try clear hfz12_0
      try clear hfz12_1
      try clear hfz12_2
      try clear hfz12_3
      try clear hfz12_4
      try clear hfz13_0
      try clear hfz13_1
      try clear hfz13_2
      try clear hfz13_3
      try clear hfz13_4
      try clear hfz14_0
      try clear hfz14_1
      try clear hfz14_2
      try clear hfz14_3
      try clear hfz14_4
      try clear hfz5_0
      try clear hfz5_1
      try clear hfz5_2
      try clear hfz5_3
      try clear hfz5_4
      try clear hx255_0
      try clear p2
      try clear p255
      try clear q255
      obtain ⟨x7_2, rfl, HA, HK2, BK254, HB⟩ := hrel
      cases gk with
      | zero => exact absurd HA.out (by simp [spec_trState.l1])
      | succ k2 =>
       have H := HA.out
       clear HA
       simp only [spec_trState.l1] at H
       by_cases c15 : x7_2 < a0_0
       ·rw [if_pos c15] at H
        have c15b0 : decide (x7_2 < a0_0) = true := decide_eq_true c15
        clear c15
        replace H := Option.bind_eq_some_iff.mp H
        obtain ⟨t257, A160, H⟩ := H
        replace H : (spec_trState.l2 k2 l1 x7_2 t257 t257 (t257.length : Int) 0 a0_0 a0_1 a0_2 l0_3 l0_4) = some r := H
        have A16 := Aside0.mk A160
        clear A160
        have H' := Aside0.mk H
        clear H
        have hcz17_0 : wr.cell? ⟨gb254, 0, none⟩ = some (.int .i64 a0_0) := (blk_cell BK254.out 0).trans rfl
        have hcz17_1 : wr.cell? ⟨gb254, 1, none⟩ = some (.int .i64 a0_1) := (blk_cell BK254.out 1).trans rfl
        have hcz17_2 : wr.cell? ⟨gb254, 2, none⟩ = some (.int .i64 a0_2) := (blk_cell BK254.out 2).trans rfl
        have hcz17_3 : wr.cell? ⟨gb254, 3, none⟩ = some (.slice A0_3 l0_3.length c0_3) := (blk_cell BK254.out 3).trans rfl
        have hcz17_4 : wr.cell? ⟨gb254, 4, none⟩ = some (.slice A0_4 l0_4.length c0_4) := (blk_cell BK254.out 4).trans rfl
        have hfz17_0 := blk_frozen BK254.out 0
        have hfz17_1 := blk_frozen BK254.out 1
        have hfz17_2 := blk_frozen BK254.out 2
        have hfz17_3 := blk_frozen BK254.out 3
        have hfz17_4 := blk_frozen BK254.out 4
        go_wp2_with (first | (go_at_call 85; (with_reducible refine (spec_trAt.calls k2 a0_0 a0_1 a0_2 _ _ l0_3 _ _ l0_4 _ _ l1 x7_2 t257 _ ?side1 ?side2 ?side3 ?side4 ?side5 ?side6 A16.out).mono ?_); (case side1 => exact Kd.C_below HR0_3.out hb_); (case side2 => exact HC0_3.out); (case side3 => exact Kd.C_below HR0_4.out hb_); (case side4 => exact HC0_4.out); (case side5 => exact Kd.C_below HR1.out hb_); (case side6 => exact HC1.out); rintro e w18 ⟨v258, rfl, ho0, hb⟩; have n0_ := Aside0.mk (Kd.S_lower ho0 (below_size hb_)); have n1_ := Aside0.mk (blk_below (g := gb254) (o := .cells #[.int .i64 a0_0, .int .i64 a0_1, .int .i64 a0_2, .slice A0_3 l0_3.length c0_3, .slice A0_4 l0_4.length c0_4] 27 (0, 0)) (by (with_reducible repeat (first | refine blk_drewN ?_ _ | refine blk_drew ?_ | refine blk_alloc ?_ _)); exact BK254.out) hb); have n2_ := Aside0.mk (below_step hb_ hb); clear BK254; clear HB; have HO259 := n0_; have BK254 := n1_; have HB := n2_; clear n0_ n1_ n2_; (try clear hb); (try clear hb2); (try clear hk); (try clear hi); (try clear ho0); obtain ⟨Ao19, co19, eo19⟩ := Kd.S_slice HO259.out; subst eo19))
        repeat (go_quiet (first | (go_at_call 85; (with_reducible refine (spec_trAt.calls k2 a0_0 a0_1 a0_2 _ _ l0_3 _ _ l0_4 _ _ l1 x7_2 t257 _ ?side1 ?side2 ?side3 ?side4 ?side5 ?side6 A16.out).mono ?_); (case side1 => exact Kd.C_below HR0_3.out hb_); (case side2 => exact HC0_3.out); (case side3 => exact Kd.C_below HR0_4.out hb_); (case side4 => exact HC0_4.out); (case side5 => exact Kd.C_below HR1.out hb_); (case side6 => exact HC1.out); rintro e w18 ⟨v258, rfl, ho0, hb⟩; have n0_ := Aside0.mk (Kd.S_lower ho0 (below_size hb_)); have n1_ := Aside0.mk (blk_below (g := gb254) (o := .cells #[.int .i64 a0_0, .int .i64 a0_1, .int .i64 a0_2, .slice A0_3 l0_3.length c0_3, .slice A0_4 l0_4.length c0_4] 27 (0, 0)) (by (with_reducible repeat (first | refine blk_drewN ?_ _ | refine blk_drew ?_ | refine blk_alloc ?_ _)); exact BK254.out) hb); have n2_ := Aside0.mk (below_step hb_ hb); clear BK254; clear HB; have HO259 := n0_; have BK254 := n1_; have HB := n2_; clear n0_ n1_ n2_; (try clear hb); (try clear hb2); (try clear hk); (try clear hi); (try clear ho0); obtain ⟨Ao19, co19, eo19⟩ := Kd.S_slice HO259.out; subst eo19)); try go_wp2_with (first | (go_at_call 85; (with_reducible refine (spec_trAt.calls k2 a0_0 a0_1 a0_2 _ _ l0_3 _ _ l0_4 _ _ l1 x7_2 t257 _ ?side1 ?side2 ?side3 ?side4 ?side5 ?side6 A16.out).mono ?_); (case side1 => exact Kd.C_below HR0_3.out hb_); (case side2 => exact HC0_3.out); (case side3 => exact Kd.C_below HR0_4.out hb_); (case side4 => exact HC0_4.out); (case side5 => exact Kd.C_below HR1.out hb_); (case side6 => exact HC1.out); rintro e w18 ⟨v258, rfl, ho0, hb⟩; have n0_ := Aside0.mk (Kd.S_lower ho0 (below_size hb_)); have n1_ := Aside0.mk (blk_below (g := gb254) (o := .cells #[.int .i64 a0_0, .int .i64 a0_1, .int .i64 a0_2, .slice A0_3 l0_3.length c0_3, .slice A0_4 l0_4.length c0_4] 27 (0, 0)) (by (with_reducible repeat (first | refine blk_drewN ?_ _ | refine blk_drew ?_ | refine blk_alloc ?_ _)); exact BK254.out) hb); have n2_ := Aside0.mk (below_step hb_ hb); clear BK254; clear HB; have HO259 := n0_; have BK254 := n1_; have HB := n2_; clear n0_ n1_ n2_; (try clear hb); (try clear hb2); (try clear hk); (try clear hi); (try clear ho0); obtain ⟨Ao19, co19, eo19⟩ := Kd.S_slice HO259.out; subst eo19)))
        go_loopg [48] k2 (fun kq v48 w' => ∃ (x48_3 : Int), v48 = .int .i64 x48_3 ∧ Aside0 (spec_trState.l2 kq l1 x7_2 t257 t257 (t257.length : Int) x48_3 a0_0 a0_1 a0_2 l0_3 l0_4 = some r) ∧ Aside0 (kq ≤ k2) ∧ Aside0 (Kd.S (Kd.slice 3 (Kd.int .i64)) 22 w' w.heap.size (fun _ => True) (.slice Ao19 t257.length co19) t257) ∧ Aside0 (Kd.S (Kd.slice 3 (Kd.int .i64)) 22 w' w.heap.size (fun _ => True) (.slice Ao19 t257.length co19) t257) ∧ Aside0 (w'.heap[gb254]? = some (.cells #[.int .i64 a0_0, .int .i64 a0_1, .int .i64 a0_2, (.slice A0_3 l0_3.length c0_3), (.slice A0_4 l0_4.length c0_4)] 27 (0, 0))) ∧ Aside0 (Below w.heap.size w w'))
        case atStart => exact ⟨(0), (by first | rfl | (simp; done) | (simp [*]; done)), H', ⟨Nat.le_refl _⟩, ⟨by (with_reducible repeat (first | apply Kd.S_alloc | apply Kd.S_drewN | apply Kd.S_drew)); exact HO259.out⟩, ⟨by (with_reducible repeat (first | apply Kd.S_alloc | apply Kd.S_drewN | apply Kd.S_drew)); exact HO259.out⟩, ⟨by (with_reducible repeat (first | refine blk_drewN ?_ _ | refine blk_drew ?_ | refine blk_alloc ?_ _)); exact BK254.out⟩, ⟨hb_⟩⟩
        case round =>
         clear H'
         try clear c1
         try clear c2
         try clear p2
         try clear q2
         try clear hx2
         try clear c3
         try clear c3b0
         try clear c3b1
         try clear c3b2
         try clear c6
         try clear c6b0
         try clear p6
         try clear c7
         try clear c7b0
         try clear c8
         try clear c8b0
         try clear c9
         try clear c9b0
         try clear c9b1
         try clear c11
         try clear c15
         try clear c15b0
         try clear hcz12_0
         try clear hcz12_1
         try clear hcz12_2
         try clear hcz12_3
         try clear hcz12_4
         try clear hcz13_0
         try clear hcz13_1
         try clear hcz13_2
         try clear hcz13_3
         try clear hcz13_4
         try clear hcz14_0
         try clear hcz14_1
         try clear hcz14_2
         try clear hcz14_3
         try clear hcz14_4
         try clear hcz17_0
         try clear hcz17_1
         try clear hcz17_2
         try clear hcz17_3
         try clear hcz17_4
         try clear hcz5_0
         try clear hcz5_1
         try clear hcz5_2
         try clear hcz5_3
         try clear hcz5_4
         try clear hfz12_0
         try clear hfz12_1
         try clear hfz12_2
         try clear hfz12_3
         try clear hfz12_4
         try clear hfz13_0
         try clear hfz13_1
         try clear hfz13_2
         try clear hfz13_3
         try clear hfz13_4
         try clear hfz14_0
         try clear hfz14_1
         try clear hfz14_2
         try clear hfz14_3
         try clear hfz14_4
         try clear hfz17_0
         try clear hfz17_1
         try clear hfz17_2
         try clear hfz17_3
         try clear hfz17_4
         try clear hfz5_0
         try clear hfz5_1
         try clear hfz5_2
         try clear hfz5_3
         try clear hfz5_4
         try clear hx255_0
         try clear p2
         try clear p255
         try clear p6
         try clear q2
         try clear q255
         obtain ⟨x48_3, rfl, HA, HK3, HO_8, HO_46, BK254, HB⟩ := hrel
         cases gk with
         | zero => exact absurd HA.out (by simp [spec_trState.l2])
         | succ k3 =>
          have H := HA.out
          clear HA
          simp only [spec_trState.l2] at H
          by_cases c20 : x48_3 < (t257.length : Int)
          ·rw [if_pos c20] at H
           have c20b0 : decide (x48_3 < (t257.length : Int)) = true := decide_eq_true c20
           clear c20
           by_cases c21 : 0 ≤ x48_3
           ·rw [if_pos c21] at H
            have c21b0 : decide (0 ≤ x48_3) = true := decide_eq_true c21
            clear c21
            by_cases c22 : x48_3 < (t257.length : Int)
            ·rw [if_pos c22] at H
             have c22b0 : decide (x48_3 < (t257.length : Int)) = true := decide_eq_true c22
             clear c22
             by_cases c23 : 0 < ((rd_L1 t257 x48_3).length : Int)
             ·rw [if_pos c23] at H
              have c23b0 : decide (0 < ((rd_L1 t257 x48_3).length : Int)) = true := decide_eq_true c23
              have c23b1 : decide (0 < (rd_L1 t257 x48_3).length) = true := decide_eq_true (by omega)
              clear c23
              by_cases c24 : 0 < (t257.length : Int)
              ·rw [if_pos c24] at H
               have c24b0 : decide (0 < (t257.length : Int)) = true := decide_eq_true c24
               have c24b1 : decide (0 < t257.length) = true := decide_eq_true (by omega)
               clear c24
               by_cases c25 : 0 < ((rd_L1 t257 0).length : Int)
               ·rw [if_pos c25] at H
                have c25b0 : decide (0 < ((rd_L1 t257 0).length : Int)) = true := decide_eq_true c25
                have c25b1 : decide (0 < (rd_L1 t257 0).length) = true := decide_eq_true (by omega)
                clear c25
                by_cases c26 : (rd (rd_L1 t257 x48_3) 0) = (rd (rd_L1 t257 0) 0)
                ·rw [if_pos c26] at H
                 have c26b0 : ((rd (rd_L1 t257 x48_3) 0) == (rd (rd_L1 t257 0) 0)) = true := beq_iff_eq.mpr c26
                 have c26b1 : ((rd (rd_L1 t257 x48_3) 0) != (rd (rd_L1 t257 0) 0)) = false := bne_eq_false_iff_eq.mpr c26
                 clear c26
                 have H' := Aside0.mk H
                 clear H
                 have p260 : 0 ≤ (x48_3 : Int) := of_decide_eq_true (by first | (with_reducible assumption) | assumption)
                 have q260 : x48_3 < (t257.length : Int) := of_decide_eq_true (by first | (with_reducible assumption) | assumption)
                 obtain ⟨ad260, A260_0, c260_0, e260, hx260_0, hl260_0, hi260_0⟩ := at_L1 (Kd.S_reads' HO_46.out).2.2 x48_3 p260 q260
                 cases e260
                 obtain ⟨ce260, hce260, hMe260, hcc260⟩ := Kd.S_get HO_46.out [] x48_3 p260 (by first | exact q260 | exact of_decide_eq_true (by first | (with_reducible assumption) | assumption) | (have e_ := (Kd.S_reads' HO_46.out).1; omega))
                 obtain ⟨ve260_0, rfl, ge260_0⟩ := hMe260
                 have hv260_0 := hcc260 0 _ rfl
                 rw [Nat.add_zero, show ((Kd.slice 3 (Kd.int .i64))).sz = 1 from rfl, Nat.mul_one] at hv260_0
                 replace hv260_0 := Option.some.inj (hv260_0.symm.trans hx260_0)
                 rw [hv260_0] at ge260_0
                 have HL260_0 := Aside0.mk (show Kd.R (Kd.int .i64) 3 _ _ _ _ (rd_L1 t257 x48_3) from ge260_0)
                 clear hv260_0 ge260_0
                 clear hcc260 hce260
                 have HR260_0 := Aside0.mk hi260_0
                 have HC260_0 := Aside0.mk hl260_0
                 clear hi260_0 hl260_0
                 replace p260 := eq_true p260
                 replace q260 := eq_true q260
                 have p261 : 0 ≤ (0 : Int) := (by omega)
                 have q261 : 0 < ((rd_L1 t257 x48_3).length : Int) := of_decide_eq_true (by first | (with_reducible assumption) | assumption)
                 obtain ⟨ad261, e261, hx261_0⟩ := Kd.at_int (by repeat (first | (with_reducible exact HR260_0.out) | (with_reducible refine Kd.C_alloc ?_ _) | (with_reducible refine Kd.C_drewN ?_ _) | (with_reducible refine Kd.C_drew ?_) | exact HR260_0.out)) 0 p261 q261
                 cases e261
                 have qi261 : (0 < (rd_L1 t257 x48_3).length) = True := eq_true (by omega)
                 (try rw [show ((0 : Int)).toNat = 0 from rfl] at hx261_0)
                 (try rw [Addr.add_zero'] at hx261_0)
                 replace p261 := eq_true p261
                 replace q261 := eq_true q261
                 have p262 : 0 ≤ (0 : Int) := (by omega)
                 have q262 : 0 < (t257.length : Int) := of_decide_eq_true (by first | (with_reducible assumption) | assumption)
                 obtain ⟨ad262, A262_0, c262_0, e262, hx262_0, hl262_0, hi262_0⟩ := at_L1 (Kd.S_reads' HO_8.out).2.2 0 p262 q262
                 obtain rfl : ad260 = ad262 := (by injection e262)
                 obtain ⟨ce262, hce262, hMe262, hcc262⟩ := Kd.S_get HO_8.out [] 0 p262 (by first | exact q262 | exact of_decide_eq_true (by first | (with_reducible assumption) | assumption) | (have e_ := (Kd.S_reads' HO_8.out).1; omega))
                 obtain ⟨ve262_0, rfl, ge262_0⟩ := hMe262
                 have hv262_0 := hcc262 0 _ rfl
                 rw [Nat.add_zero, show ((Kd.slice 3 (Kd.int .i64))).sz = 1 from rfl, Nat.mul_one] at hv262_0
                 replace hv262_0 := Option.some.inj (hv262_0.symm.trans hx262_0)
                 rw [hv262_0] at ge262_0
                 have HL262_0 := Aside0.mk (show Kd.R (Kd.int .i64) 3 _ _ _ _ (rd_L1 t257 0) from ge262_0)
                 clear hv262_0 ge262_0
                 clear hcc262 hce262
                 have qi262 : (0 < t257.length) = True := eq_true (by omega)
                 (try rw [show ((0 : Int)).toNat = 0 from rfl] at hx262_0)
                 (try rw [Addr.add_zero'] at hx262_0)
                 have HR262_0 := Aside0.mk hi262_0
                 have HC262_0 := Aside0.mk hl262_0
                 clear hi262_0 hl262_0
                 replace p262 := eq_true p262
                 replace q262 := eq_true q262
                 have p263 : 0 ≤ (0 : Int) := (by omega)
                 have q263 : 0 < ((rd_L1 t257 0).length : Int) := of_decide_eq_true (by first | (with_reducible assumption) | assumption)
                 obtain ⟨ad263, e263, hx263_0⟩ := Kd.at_int (by repeat (first | (with_reducible exact HR262_0.out) | (with_reducible refine Kd.C_alloc ?_ _) | (with_reducible refine Kd.C_drewN ?_ _) | (with_reducible refine Kd.C_drew ?_) | exact HR262_0.out)) 0 p263 q263
                 cases e263
                 have qi263 : (0 < (rd_L1 t257 0).length) = True := eq_true (by omega)
                 (try rw [show ((0 : Int)).toNat = 0 from rfl] at hx263_0)
                 (try rw [Addr.add_zero'] at hx263_0)
                 replace p263 := eq_true p263
                 replace q263 := eq_true q263
                 go_wp2
                 repeat (go_quiet (fail); try go_wp2)
                 go_roundg k3
                 case measure => have := HK1.out; have := HK2.out; have := HK3.out; omega
                 case rel => exact ⟨(wrap64 (x48_3 + 1)), (by first | rfl | (simp; done) | (simp [*]; done)), H', ⟨by have := HK1.out; have := HK2.out; have := HK3.out; omega⟩, ⟨by (with_reducible repeat (first | apply Kd.S_alloc | apply Kd.S_drewN | apply Kd.S_drew)); exact HO_8.out⟩, ⟨by (with_reducible repeat (first | apply Kd.S_alloc | apply Kd.S_drewN | apply Kd.S_drew)); exact HO_46.out⟩, ⟨by (with_reducible repeat (first | refine blk_drewN ?_ _ | refine blk_drew ?_ | refine blk_alloc ?_ _)); exact BK254.out⟩, ⟨hb_⟩⟩
                ·rw [if_neg c26] at H
                 have c26b0 : ((rd (rd_L1 t257 x48_3) 0) == (rd (rd_L1 t257 0) 0)) = false := beq_eq_false_iff_ne.mpr c26
                 have c26b1 : ((rd (rd_L1 t257 x48_3) 0) != (rd (rd_L1 t257 0) 0)) = true := bne_iff_ne.mpr c26
                 replace H := Option.bind_eq_some_iff.mp H
                 obtain ⟨t264, A270, H⟩ := H
                 replace H : (if t264 = true then (spec_trState.l2 k3 l1 x7_2 t257 t257 (t257.length : Int) (wrap64 (x48_3 + 1)) a0_0 a0_1 a0_2 l0_3 l0_4) else (some false)) = some r := H
                 have A27 := Aside0.mk A270
                 clear A270
                 by_cases c28 : t264 = true
                 ·subst c28
                  have H1 : (spec_trState.l2 k3 l1 x7_2 t257 t257 (t257.length : Int) (wrap64 (x48_3 + 1)) a0_0 a0_1 a0_2 l0_3 l0_4) = some r := by rw [if_pos rfl] at H; exact H
                  clear H
                  have H := H1
                  clear H1
                  have H' := Aside0.mk H
                  clear H
                  have p260 : 0 ≤ (x48_3 : Int) := of_decide_eq_true (by first | (with_reducible assumption) | assumption)
                  have q260 : x48_3 < (t257.length : Int) := of_decide_eq_true (by first | (with_reducible assumption) | assumption)
                  obtain ⟨ad260, A260_0, c260_0, e260, hx260_0, hl260_0, hi260_0⟩ := at_L1 (Kd.S_reads' HO_46.out).2.2 x48_3 p260 q260
                  cases e260
                  obtain ⟨ce260, hce260, hMe260, hcc260⟩ := Kd.S_get HO_46.out [] x48_3 p260 (by first | exact q260 | exact of_decide_eq_true (by first | (with_reducible assumption) | assumption) | (have e_ := (Kd.S_reads' HO_46.out).1; omega))
                  obtain ⟨ve260_0, rfl, ge260_0⟩ := hMe260
                  have hv260_0 := hcc260 0 _ rfl
                  rw [Nat.add_zero, show ((Kd.slice 3 (Kd.int .i64))).sz = 1 from rfl, Nat.mul_one] at hv260_0
                  replace hv260_0 := Option.some.inj (hv260_0.symm.trans hx260_0)
                  rw [hv260_0] at ge260_0
                  have HL260_0 := Aside0.mk (show Kd.R (Kd.int .i64) 3 _ _ _ _ (rd_L1 t257 x48_3) from ge260_0)
                  clear hv260_0 ge260_0
                  clear hcc260 hce260
                  have HR260_0 := Aside0.mk hi260_0
                  have HC260_0 := Aside0.mk hl260_0
                  clear hi260_0 hl260_0
                  replace p260 := eq_true p260
                  replace q260 := eq_true q260
                  have p261 : 0 ≤ (0 : Int) := (by omega)
                  have q261 : 0 < ((rd_L1 t257 x48_3).length : Int) := of_decide_eq_true (by first | (with_reducible assumption) | assumption)
                  obtain ⟨ad261, e261, hx261_0⟩ := Kd.at_int (by repeat (first | (with_reducible exact HR260_0.out) | (with_reducible refine Kd.C_alloc ?_ _) | (with_reducible refine Kd.C_drewN ?_ _) | (with_reducible refine Kd.C_drew ?_) | exact HR260_0.out)) 0 p261 q261
                  cases e261
                  have qi261 : (0 < (rd_L1 t257 x48_3).length) = True := eq_true (by omega)
                  (try rw [show ((0 : Int)).toNat = 0 from rfl] at hx261_0)
                  (try rw [Addr.add_zero'] at hx261_0)
                  replace p261 := eq_true p261
                  replace q261 := eq_true q261
                  have p262 : 0 ≤ (0 : Int) := (by omega)
                  have q262 : 0 < (t257.length : Int) := of_decide_eq_true (by first | (with_reducible assumption) | assumption)
                  obtain ⟨ad262, A262_0, c262_0, e262, hx262_0, hl262_0, hi262_0⟩ := at_L1 (Kd.S_reads' HO_8.out).2.2 0 p262 q262
                  obtain rfl : ad260 = ad262 := (by injection e262)
                  obtain ⟨ce262, hce262, hMe262, hcc262⟩ := Kd.S_get HO_8.out [] 0 p262 (by first | exact q262 | exact of_decide_eq_true (by first | (with_reducible assumption) | assumption) | (have e_ := (Kd.S_reads' HO_8.out).1; omega))
                  obtain ⟨ve262_0, rfl, ge262_0⟩ := hMe262
                  have hv262_0 := hcc262 0 _ rfl
                  rw [Nat.add_zero, show ((Kd.slice 3 (Kd.int .i64))).sz = 1 from rfl, Nat.mul_one] at hv262_0
                  replace hv262_0 := Option.some.inj (hv262_0.symm.trans hx262_0)
                  rw [hv262_0] at ge262_0
                  have HL262_0 := Aside0.mk (show Kd.R (Kd.int .i64) 3 _ _ _ _ (rd_L1 t257 0) from ge262_0)
                  clear hv262_0 ge262_0
                  clear hcc262 hce262
                  have qi262 : (0 < t257.length) = True := eq_true (by omega)
                  (try rw [show ((0 : Int)).toNat = 0 from rfl] at hx262_0)
                  (try rw [Addr.add_zero'] at hx262_0)
                  have HR262_0 := Aside0.mk hi262_0
                  have HC262_0 := Aside0.mk hl262_0
                  clear hi262_0 hl262_0
                  replace p262 := eq_true p262
                  replace q262 := eq_true q262
                  have p263 : 0 ≤ (0 : Int) := (by omega)
                  have q263 : 0 < ((rd_L1 t257 0).length : Int) := of_decide_eq_true (by first | (with_reducible assumption) | assumption)
                  obtain ⟨ad263, e263, hx263_0⟩ := Kd.at_int (by repeat (first | (with_reducible exact HR262_0.out) | (with_reducible refine Kd.C_alloc ?_ _) | (with_reducible refine Kd.C_drewN ?_ _) | (with_reducible refine Kd.C_drew ?_) | exact HR262_0.out)) 0 p263 q263
                  cases e263
                  have qi263 : (0 < (rd_L1 t257 0).length) = True := eq_true (by omega)
                  (try rw [show ((0 : Int)).toNat = 0 from rfl] at hx263_0)
                  (try rw [Addr.add_zero'] at hx263_0)
                  replace p263 := eq_true p263
                  replace q263 := eq_true q263
                  have hcz29_0 : wr.cell? ⟨gb254, 0, none⟩ = some (.int .i64 a0_0) := (blk_cell BK254.out 0).trans rfl
                  have hcz29_1 : wr.cell? ⟨gb254, 1, none⟩ = some (.int .i64 a0_1) := (blk_cell BK254.out 1).trans rfl
                  have hcz29_2 : wr.cell? ⟨gb254, 2, none⟩ = some (.int .i64 a0_2) := (blk_cell BK254.out 2).trans rfl
                  have hcz29_3 : wr.cell? ⟨gb254, 3, none⟩ = some (.slice A0_3 l0_3.length c0_3) := (blk_cell BK254.out 3).trans rfl
                  have hcz29_4 : wr.cell? ⟨gb254, 4, none⟩ = some (.slice A0_4 l0_4.length c0_4) := (blk_cell BK254.out 4).trans rfl
                  have hfz29_0 := blk_frozen BK254.out 0
                  have hfz29_1 := blk_frozen BK254.out 1
                  have hfz29_2 := blk_frozen BK254.out 2
                  have hfz29_3 := blk_frozen BK254.out 3
                  have hfz29_4 := blk_frozen BK254.out 4
                  go_wp2_with (first | (go_at_call 100; (with_reducible refine (spec_l1Has.calls k3 _ _ l0_4 x7_2 true _ ?side1 ?side2 A27.out).mono ?_); (case side1 => exact Kd.C_below HR0_4.out hb_); (case side2 => exact HC0_4.out); rintro e w' ⟨rfl, ⟨nd, rfl⟩⟩; (try first | exact ⟨rfl, _, World.drewN_drewN _ _ _⟩ | exact ⟨rfl, _, Eq.trans (World.drewN_drewN _ _ _) (congrArg (World.drewN _) (Nat.add_assoc _ _ _))⟩)))
                  repeat (go_quiet (first | (go_at_call 100; (with_reducible refine (spec_l1Has.calls k3 _ _ l0_4 x7_2 true _ ?side1 ?side2 A27.out).mono ?_); (case side1 => exact Kd.C_below HR0_4.out hb_); (case side2 => exact HC0_4.out); rintro e w' ⟨rfl, ⟨nd, rfl⟩⟩; (try first | exact ⟨rfl, _, World.drewN_drewN _ _ _⟩ | exact ⟨rfl, _, Eq.trans (World.drewN_drewN _ _ _) (congrArg (World.drewN _) (Nat.add_assoc _ _ _))⟩))); try go_wp2_with (first | (go_at_call 100; (with_reducible refine (spec_l1Has.calls k3 _ _ l0_4 x7_2 true _ ?side1 ?side2 A27.out).mono ?_); (case side1 => exact Kd.C_below HR0_4.out hb_); (case side2 => exact HC0_4.out); rintro e w' ⟨rfl, ⟨nd, rfl⟩⟩; (try first | exact ⟨rfl, _, World.drewN_drewN _ _ _⟩ | exact ⟨rfl, _, Eq.trans (World.drewN_drewN _ _ _) (congrArg (World.drewN _) (Nat.add_assoc _ _ _))⟩))))
                  go_roundg k3
                  case measure => have := HK1.out; have := HK2.out; have := HK3.out; omega
                  case rel => exact ⟨(wrap64 (x48_3 + 1)), (by first | rfl | (simp; done) | (simp [*]; done)), H', ⟨by have := HK1.out; have := HK2.out; have := HK3.out; omega⟩, ⟨by (with_reducible repeat (first | apply Kd.S_alloc | apply Kd.S_drewN | apply Kd.S_drew)); exact HO_8.out⟩, ⟨by (with_reducible repeat (first | apply Kd.S_alloc | apply Kd.S_drewN | apply Kd.S_drew)); exact HO_46.out⟩, ⟨by (with_reducible repeat (first | refine blk_drewN ?_ _ | refine blk_drew ?_ | refine blk_alloc ?_ _)); exact BK254.out⟩, ⟨hb_⟩⟩
                 ·replace c28 := Bool.eq_false_iff.mpr c28
                  subst c28
                  have H1 : (some false) = some r := by rw [if_neg (show ¬ (false = true) by decide)] at H; exact H
                  clear H
                  have H := H1
                  clear H1
                  obtain rfl := Option.some.inj H
                  have p260 : 0 ≤ (x48_3 : Int) := of_decide_eq_true (by first | (with_reducible assumption) | assumption)
                  have q260 : x48_3 < (t257.length : Int) := of_decide_eq_true (by first | (with_reducible assumption) | assumption)
                  obtain ⟨ad260, A260_0, c260_0, e260, hx260_0, hl260_0, hi260_0⟩ := at_L1 (Kd.S_reads' HO_46.out).2.2 x48_3 p260 q260
                  cases e260
                  obtain ⟨ce260, hce260, hMe260, hcc260⟩ := Kd.S_get HO_46.out [] x48_3 p260 (by first | exact q260 | exact of_decide_eq_true (by first | (with_reducible assumption) | assumption) | (have e_ := (Kd.S_reads' HO_46.out).1; omega))
                  obtain ⟨ve260_0, rfl, ge260_0⟩ := hMe260
                  have hv260_0 := hcc260 0 _ rfl
                  rw [Nat.add_zero, show ((Kd.slice 3 (Kd.int .i64))).sz = 1 from rfl, Nat.mul_one] at hv260_0
                  replace hv260_0 := Option.some.inj (hv260_0.symm.trans hx260_0)
                  rw [hv260_0] at ge260_0
                  have HL260_0 := Aside0.mk (show Kd.R (Kd.int .i64) 3 _ _ _ _ (rd_L1 t257 x48_3) from ge260_0)
                  clear hv260_0 ge260_0
                  clear hcc260 hce260
                  have HR260_0 := Aside0.mk hi260_0
                  have HC260_0 := Aside0.mk hl260_0
                  clear hi260_0 hl260_0
                  replace p260 := eq_true p260
                  replace q260 := eq_true q260
                  have p261 : 0 ≤ (0 : Int) := (by omega)
                  have q261 : 0 < ((rd_L1 t257 x48_3).length : Int) := of_decide_eq_true (by first | (with_reducible assumption) | assumption)
                  obtain ⟨ad261, e261, hx261_0⟩ := Kd.at_int (by repeat (first | (with_reducible exact HR260_0.out) | (with_reducible refine Kd.C_alloc ?_ _) | (with_reducible refine Kd.C_drewN ?_ _) | (with_reducible refine Kd.C_drew ?_) | exact HR260_0.out)) 0 p261 q261
                  cases e261
                  have qi261 : (0 < (rd_L1 t257 x48_3).length) = True := eq_true (by omega)
                  (try rw [show ((0 : Int)).toNat = 0 from rfl] at hx261_0)
                  (try rw [Addr.add_zero'] at hx261_0)
                  replace p261 := eq_true p261
                  replace q261 := eq_true q261
                  have p262 : 0 ≤ (0 : Int) := (by omega)
                  have q262 : 0 < (t257.length : Int) := of_decide_eq_true (by first | (with_reducible assumption) | assumption)
                  obtain ⟨ad262, A262_0, c262_0, e262, hx262_0, hl262_0, hi262_0⟩ := at_L1 (Kd.S_reads' HO_8.out).2.2 0 p262 q262
                  obtain rfl : ad260 = ad262 := (by injection e262)
                  obtain ⟨ce262, hce262, hMe262, hcc262⟩ := Kd.S_get HO_8.out [] 0 p262 (by first | exact q262 | exact of_decide_eq_true (by first | (with_reducible assumption) | assumption) | (have e_ := (Kd.S_reads' HO_8.out).1; omega))
                  obtain ⟨ve262_0, rfl, ge262_0⟩ := hMe262
                  have hv262_0 := hcc262 0 _ rfl
                  rw [Nat.add_zero, show ((Kd.slice 3 (Kd.int .i64))).sz = 1 from rfl, Nat.mul_one] at hv262_0
                  replace hv262_0 := Option.some.inj (hv262_0.symm.trans hx262_0)
                  rw [hv262_0] at ge262_0
                  have HL262_0 := Aside0.mk (show Kd.R (Kd.int .i64) 3 _ _ _ _ (rd_L1 t257 0) from ge262_0)
                  clear hv262_0 ge262_0
                  clear hcc262 hce262
                  have qi262 : (0 < t257.length) = True := eq_true (by omega)
                  (try rw [show ((0 : Int)).toNat = 0 from rfl] at hx262_0)
                  (try rw [Addr.add_zero'] at hx262_0)
                  have HR262_0 := Aside0.mk hi262_0
                  have HC262_0 := Aside0.mk hl262_0
                  clear hi262_0 hl262_0
                  replace p262 := eq_true p262
                  replace q262 := eq_true q262
                  have p263 : 0 ≤ (0 : Int) := (by omega)
                  have q263 : 0 < ((rd_L1 t257 0).length : Int) := of_decide_eq_true (by first | (with_reducible assumption) | assumption)
                  obtain ⟨ad263, e263, hx263_0⟩ := Kd.at_int (by repeat (first | (with_reducible exact HR262_0.out) | (with_reducible refine Kd.C_alloc ?_ _) | (with_reducible refine Kd.C_drewN ?_ _) | (with_reducible refine Kd.C_drew ?_) | exact HR262_0.out)) 0 p263 q263
                  cases e263
                  have qi263 : (0 < (rd_L1 t257 0).length) = True := eq_true (by omega)
                  (try rw [show ((0 : Int)).toNat = 0 from rfl] at hx263_0)
                  (try rw [Addr.add_zero'] at hx263_0)
                  replace p263 := eq_true p263
                  replace q263 := eq_true q263
                  have hcz30_0 : wr.cell? ⟨gb254, 0, none⟩ = some (.int .i64 a0_0) := (blk_cell BK254.out 0).trans rfl
                  have hcz30_1 : wr.cell? ⟨gb254, 1, none⟩ = some (.int .i64 a0_1) := (blk_cell BK254.out 1).trans rfl
                  have hcz30_2 : wr.cell? ⟨gb254, 2, none⟩ = some (.int .i64 a0_2) := (blk_cell BK254.out 2).trans rfl
                  have hcz30_3 : wr.cell? ⟨gb254, 3, none⟩ = some (.slice A0_3 l0_3.length c0_3) := (blk_cell BK254.out 3).trans rfl
                  have hcz30_4 : wr.cell? ⟨gb254, 4, none⟩ = some (.slice A0_4 l0_4.length c0_4) := (blk_cell BK254.out 4).trans rfl
                  have hfz30_0 := blk_frozen BK254.out 0
                  have hfz30_1 := blk_frozen BK254.out 1
                  have hfz30_2 := blk_frozen BK254.out 2
                  have hfz30_3 := blk_frozen BK254.out 3
                  have hfz30_4 := blk_frozen BK254.out 4
                  go_wp2_with (first | (go_at_call 100; (with_reducible refine (spec_l1Has.calls k3 _ _ l0_4 x7_2 false _ ?side1 ?side2 A27.out).mono ?_); (case side1 => exact Kd.C_below HR0_4.out hb_); (case side2 => exact HC0_4.out); rintro e w' ⟨rfl, ⟨nd, rfl⟩⟩; (try first | exact ⟨rfl, _, World.drewN_drewN _ _ _⟩ | exact ⟨rfl, _, Eq.trans (World.drewN_drewN _ _ _) (congrArg (World.drewN _) (Nat.add_assoc _ _ _))⟩)))
                  repeat (go_quiet (first | (go_at_call 100; (with_reducible refine (spec_l1Has.calls k3 _ _ l0_4 x7_2 false _ ?side1 ?side2 A27.out).mono ?_); (case side1 => exact Kd.C_below HR0_4.out hb_); (case side2 => exact HC0_4.out); rintro e w' ⟨rfl, ⟨nd, rfl⟩⟩; (try first | exact ⟨rfl, _, World.drewN_drewN _ _ _⟩ | exact ⟨rfl, _, Eq.trans (World.drewN_drewN _ _ _) (congrArg (World.drewN _) (Nat.add_assoc _ _ _))⟩))); try go_wp2_with (first | (go_at_call 100; (with_reducible refine (spec_l1Has.calls k3 _ _ l0_4 x7_2 false _ ?side1 ?side2 A27.out).mono ?_); (case side1 => exact Kd.C_below HR0_4.out hb_); (case side2 => exact HC0_4.out); rintro e w' ⟨rfl, ⟨nd, rfl⟩⟩; (try first | exact ⟨rfl, _, World.drewN_drewN _ _ _⟩ | exact ⟨rfl, _, Eq.trans (World.drewN_drewN _ _ _) (congrArg (World.drewN _) (Nat.add_assoc _ _ _))⟩))))
                  go_ret
                  exact ⟨by first | rfl | (simp [errW_none, errW_some] <;> rfl) | (simp [*, errW_none, errW_some] <;> rfl), hb_⟩
               ·rw [if_neg c25] at H
                exact absurd H (by simp)
              ·rw [if_neg c24] at H
               exact absurd H (by simp)
             ·rw [if_neg c23] at H
              exact absurd H (by simp)
            ·rw [if_neg c22] at H
             exact absurd H (by simp)
           ·rw [if_neg c21] at H
            exact absurd H (by simp)
          ·rw [if_neg c20] at H
           have c20b0 : decide (x48_3 < (t257.length : Int)) = false := decide_eq_false c20
           clear c20
           have H' := Aside0.mk H
           clear H
           go_wp2
           repeat (go_quiet (fail); try go_wp2)
           go_roundg k3
           case measure => have := HK1.out; have := HK2.out; have := HK3.out; omega
           case rel => exact ⟨(wrap64 (x7_2 + 1)), (by first | rfl | (simp; done) | (simp [*]; done)), H', ⟨by have := HK1.out; have := HK2.out; have := HK3.out; omega⟩, ⟨by (with_reducible repeat (first | refine blk_drewN ?_ _ | refine blk_drew ?_ | refine blk_alloc ?_ _)); exact BK254.out⟩, ⟨hb_⟩⟩
       ·rw [if_neg c15] at H
        have c15b0 : decide (x7_2 < a0_0) = false := decide_eq_false c15
        clear c15
        obtain rfl := Option.some.inj H
        have hcz31_0 : wr.cell? ⟨gb254, 0, none⟩ = some (.int .i64 a0_0) := (blk_cell BK254.out 0).trans rfl
        have hcz31_1 : wr.cell? ⟨gb254, 1, none⟩ = some (.int .i64 a0_1) := (blk_cell BK254.out 1).trans rfl
        have hcz31_2 : wr.cell? ⟨gb254, 2, none⟩ = some (.int .i64 a0_2) := (blk_cell BK254.out 2).trans rfl
        have hcz31_3 : wr.cell? ⟨gb254, 3, none⟩ = some (.slice A0_3 l0_3.length c0_3) := (blk_cell BK254.out 3).trans rfl
        have hcz31_4 : wr.cell? ⟨gb254, 4, none⟩ = some (.slice A0_4 l0_4.length c0_4) := (blk_cell BK254.out 4).trans rfl
        have hfz31_0 := blk_frozen BK254.out 0
        have hfz31_1 := blk_frozen BK254.out 1
        have hfz31_2 := blk_frozen BK254.out 2
        have hfz31_3 := blk_frozen BK254.out 3
        have hfz31_4 := blk_frozen BK254.out 4
        go_wp2
        repeat (go_quiet (fail); try go_wp2)
        go_ret
        exact ⟨by first | rfl | (simp [errW_none, errW_some] <;> rfl) | (simp [*, errW_none, errW_some] <;> rfl), hb_⟩
 ·rw [if_neg c3] at H
  have c3b0 : ((l1.length : Int) == (l0_3.length : Int)) = false := beq_eq_false_iff_ne.mpr c3
  have c3b1 : ((l1.length : Int) != (l0_3.length : Int)) = true := bne_iff_ne.mpr c3
  have c3b2 : (l1.length == l0_3.length) = false := by first | simpa using c3 | (simp at c3 ⊢; omega)
  obtain rfl := Option.some.inj H
  go_enter Try.func73, Try.ntmps73
  go_wp2_with (first | ((with_reducible refine gate_dst (N := 2) rfl ?_); refine box_event ?hg (N := 2) ?hd (cs := #[.int .i64 a0_0, .int .i64 a0_1, .int .i64 a0_2, .slice A0_3 l0_3.length c0_3, .slice A0_4 l0_4.length c0_4]) (t := 27) ?hr ?_; (case hd => rfl); (case hg => rfl); (case hr => first | (go_simp; done) | (go_simp; rfl)); intro gb254 hg w32 hbox hb; have n0_ := Aside0.mk (below_step hb_ hb); have n1_ := Aside0.mk (hbox); have n2_ := Aside0.mk ((by rw [hg]; exact (below_size hb_) : w.heap.size ≤ gb254)); have n3_ := Aside0.mk ((by rw [hg]; exact (below_size hb_) : w.heap.size ≤ gb254)); clear HB; have HB := n0_; have BK254 := n1_; have GW254 := n2_; have GE254 := n3_; clear n0_ n1_ n2_ n3_; clear hb hbox hg; have hcz33_0 : w32.cell? ⟨gb254, 0, none⟩ = some (.int .i64 a0_0) := (blk_cell BK254.out 0).trans rfl; have hcz33_1 : w32.cell? ⟨gb254, 1, none⟩ = some (.int .i64 a0_1) := (blk_cell BK254.out 1).trans rfl; have hcz33_2 : w32.cell? ⟨gb254, 2, none⟩ = some (.int .i64 a0_2) := (blk_cell BK254.out 2).trans rfl; have hcz33_3 : w32.cell? ⟨gb254, 3, none⟩ = some (.slice A0_3 l0_3.length c0_3) := (blk_cell BK254.out 3).trans rfl; have hcz33_4 : w32.cell? ⟨gb254, 4, none⟩ = some (.slice A0_4 l0_4.length c0_4) := (blk_cell BK254.out 4).trans rfl; have hfz33_0 := blk_frozen BK254.out 0; have hfz33_1 := blk_frozen BK254.out 1; have hfz33_2 := blk_frozen BK254.out 2; have hfz33_3 := blk_frozen BK254.out 3; have hfz33_4 := blk_frozen BK254.out 4))
  repeat (go_quiet (first | ((with_reducible refine gate_dst (N := 2) rfl ?_); refine box_event ?hg (N := 2) ?hd (cs := #[.int .i64 a0_0, .int .i64 a0_1, .int .i64 a0_2, .slice A0_3 l0_3.length c0_3, .slice A0_4 l0_4.length c0_4]) (t := 27) ?hr ?_; (case hd => rfl); (case hg => rfl); (case hr => first | (go_simp; done) | (go_simp; rfl)); intro gb254 hg w32 hbox hb; have n0_ := Aside0.mk (below_step hb_ hb); have n1_ := Aside0.mk (hbox); have n2_ := Aside0.mk ((by rw [hg]; exact (below_size hb_) : w.heap.size ≤ gb254)); have n3_ := Aside0.mk ((by rw [hg]; exact (below_size hb_) : w.heap.size ≤ gb254)); clear HB; have HB := n0_; have BK254 := n1_; have GW254 := n2_; have GE254 := n3_; clear n0_ n1_ n2_ n3_; clear hb hbox hg; have hcz33_0 : w32.cell? ⟨gb254, 0, none⟩ = some (.int .i64 a0_0) := (blk_cell BK254.out 0).trans rfl; have hcz33_1 : w32.cell? ⟨gb254, 1, none⟩ = some (.int .i64 a0_1) := (blk_cell BK254.out 1).trans rfl; have hcz33_2 : w32.cell? ⟨gb254, 2, none⟩ = some (.int .i64 a0_2) := (blk_cell BK254.out 2).trans rfl; have hcz33_3 : w32.cell? ⟨gb254, 3, none⟩ = some (.slice A0_3 l0_3.length c0_3) := (blk_cell BK254.out 3).trans rfl; have hcz33_4 : w32.cell? ⟨gb254, 4, none⟩ = some (.slice A0_4 l0_4.length c0_4) := (blk_cell BK254.out 4).trans rfl; have hfz33_0 := blk_frozen BK254.out 0; have hfz33_1 := blk_frozen BK254.out 1; have hfz33_2 := blk_frozen BK254.out 2; have hfz33_3 := blk_frozen BK254.out 3; have hfz33_4 := blk_frozen BK254.out 4)); try go_wp2_with (first | ((with_reducible refine gate_dst (N := 2) rfl ?_); refine box_event ?hg (N := 2) ?hd (cs := #[.int .i64 a0_0, .int .i64 a0_1, .int .i64 a0_2, .slice A0_3 l0_3.length c0_3, .slice A0_4 l0_4.length c0_4]) (t := 27) ?hr ?_; (case hd => rfl); (case hg => rfl); (case hr => first | (go_simp; done) | (go_simp; rfl)); intro gb254 hg w32 hbox hb; have n0_ := Aside0.mk (below_step hb_ hb); have n1_ := Aside0.mk (hbox); have n2_ := Aside0.mk ((by rw [hg]; exact (below_size hb_) : w.heap.size ≤ gb254)); have n3_ := Aside0.mk ((by rw [hg]; exact (below_size hb_) : w.heap.size ≤ gb254)); clear HB; have HB := n0_; have BK254 := n1_; have GW254 := n2_; have GE254 := n3_; clear n0_ n1_ n2_ n3_; clear hb hbox hg; have hcz33_0 : w32.cell? ⟨gb254, 0, none⟩ = some (.int .i64 a0_0) := (blk_cell BK254.out 0).trans rfl; have hcz33_1 : w32.cell? ⟨gb254, 1, none⟩ = some (.int .i64 a0_1) := (blk_cell BK254.out 1).trans rfl; have hcz33_2 : w32.cell? ⟨gb254, 2, none⟩ = some (.int .i64 a0_2) := (blk_cell BK254.out 2).trans rfl; have hcz33_3 : w32.cell? ⟨gb254, 3, none⟩ = some (.slice A0_3 l0_3.length c0_3) := (blk_cell BK254.out 3).trans rfl; have hcz33_4 : w32.cell? ⟨gb254, 4, none⟩ = some (.slice A0_4 l0_4.length c0_4) := (blk_cell BK254.out 4).trans rfl; have hfz33_0 := blk_frozen BK254.out 0; have hfz33_1 := blk_frozen BK254.out 1; have hfz33_2 := blk_frozen BK254.out 2; have hfz33_3 := blk_frozen BK254.out 3; have hfz33_4 := blk_frozen BK254.out 4)))
  go_ret
  exact ⟨by first | rfl | (simp [errW_none, errW_some] <;> rfl) | (simp [*, errW_none, errW_some] <;> rfl), hb_⟩

end Go.Proofs.Ytcppahkdfajcaaa.P
