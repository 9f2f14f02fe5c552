-- written for this claim by a program of this session (wip/tools/xprint.py), which runs the kit's print with other cuts
import Derived.Test.YtcppahkdfajcaaaP
import Derived.Test.YtcppahkdfajcaaaP81
import Derived.Test.YtcppahkdfajcaaaP82
namespace Go.Proofs.Ytcppahkdfajcaaa.P
open Go.RowKit Go.Proofs.YtcppahkdfajcaaaW.PrintWords Go.Proofs.YtcppahkdfajcaaaW.PrintLast Go.Proofs.YtcppahkdfajcaaaW.PrintMore
attribute [local go_sem] max2_int min2_int max_two min_two max_three min_three max_four min_four   -- for this text's walks alone
set_option linter.unusedVariables false
set_option linter.unusedSimpArgs false

/-! ### spec_TokensToGo: function 49 -/
def spec_TokensToGo.l0 : Nat → Int → List Int → List Int → Int → Int → Int → Int → Int → List Int → List Int → Option (List Int × Bool)
 | 0, _, _, _, _, _, _, _, _, _, _ => none
 | k + 1, x3, x10, x22, x23, x24, x601000, x601001, x601002, x601003, x601004 => if x24 < x23 then (if 0 ≤ x24 then (if x24 < (x22.length : Int) then ((spec_trCan.f x601000 x601001 x601002 x601003 x601004 (rd x22 x24) x3).bind fun t604 => (if t604 = true then (if x10.length < 17592186044416 then (spec_TokensToGo.l0 k x3 (x10 ++ [x24]) x22 x23 (wrap64 (x24 + 1)) x601000 x601001 x601002 x601003 x601004) else (none)) else (spec_TokensToGo.l0 k x3 x10 x22 x23 (wrap64 (x24 + 1)) x601000 x601001 x601002 x601003 x601004))) else (none)) else (none)) else (some (x10, true))
def spec_TokensToGo.f (k : Nat) (a0_0 : Int) (a0_1 : Int) (a0_2 : Int) (l0_3 : List Int) (l0_4 : List Int) (l1 : List (List Int)) (a2 : Int) (a3 : Int) : Option (List Int × Bool) := (spec_trAsked.f k a0_0 a0_1 a0_2 l0_3 l0_4 l1 a2 0 a3).bind fun t601 => (if t601 = true then (if 0 ≤ a2 then (if a2 < (l1.length : Int) then (spec_TokensToGo.l0 k a3 ([] : List Int) (rd_L1 l1 a2) ((rd_L1 l1 a2).length : Int) 0 a0_0 a0_1 a0_2 l0_3 l0_4) else (none)) else (none)) else (some (([] : List Int), false)))
theorem spec_TokensToGo.mono_l : ∀ k, (∀ y0 y1 y2 y3 y4 y5 y6 y7 y8 y9, LeO (spec_TokensToGo.l0 k y0 y1 y2 y3 y4 y5 y6 y7 y8 y9) (spec_TokensToGo.l0 (k + 1) y0 y1 y2 y3 y4 y5 y6 y7 y8 y9))
 | 0 => fun _ _ _ _ _ _ _ _ _ _ r h => by simp [spec_TokensToGo.l0] at h
 | k + 1 => by
  have ih0 := spec_TokensToGo.mono_l k
  ·intro y0 y1 y2 y3 y4 y5 y6 y7 y8 y9
   unfold spec_TokensToGo.l0
   repeat' first
   | (with_reducible exact ih0 _ _ _ _ _ _ _ _ _ _)
   | (with_reducible exact spec_trAsked.mono _ _ _ _ _ _ _ _ _ _)
   | (with_reducible exact LeO.refl _)
   | (with_reducible exact LeO.none _)
   | (with_reducible refine LeO.ite ?_ ?_)
   | (with_reducible refine LeO.bind ?_ (fun _ => ?_))
   | exact ih0 _ _ _ _ _ _ _ _ _ _
   | exact spec_trAsked.mono _ _ _ _ _ _ _ _ _ _
   | exact LeO.none _
   | refine LeO.ite ?_ ?_
   | refine LeO.bind ?_ (fun _ => ?_)
theorem spec_TokensToGo.mono : ∀ a0 a1 a2 a3 a4 a5 a6 a7 k, LeO (spec_TokensToGo.f k a0 a1 a2 a3 a4 a5 a6 a7) (spec_TokensToGo.f (k + 1) a0 a1 a2 a3 a4 a5 a6 a7) := by
 intro a0 a1 a2 a3 a4 a5 a6 a7 k
 have ih0 := spec_TokensToGo.mono_l k
 unfold spec_TokensToGo.f
 repeat' first
   | (with_reducible exact ih0 _ _ _ _ _ _ _ _ _ _)
   | (with_reducible exact spec_trAsked.mono _ _ _ _ _ _ _ _ _ _)
   | (with_reducible exact LeO.refl _)
   | (with_reducible exact LeO.none _)
   | (with_reducible refine LeO.ite ?_ ?_)
   | (with_reducible refine LeO.bind ?_ (fun _ => ?_))
   | exact ih0 _ _ _ _ _ _ _ _ _ _
   | exact spec_trAsked.mono _ _ _ _ _ _ _ _ _ _
   | exact LeO.none _
   | refine LeO.ite ?_ ?_
   | refine LeO.bind ?_ (fun _ => ?_)
set_option maxHeartbeats 8000000 in
set_option maxRecDepth 100000 in
theorem spec_TokensToGo.calls (k : Nat) (a0_0 : Int) (a0_1 : Int) (a0_2 : Int) (A0_3 : Option Addr) (c0_3 : Nat) (l0_3 : List Int) (A0_4 : Option Addr) (c0_4 : Nat) (l0_4 : List Int) (A1 : Option Addr) (c1 : Nat) (l1 : List (List Int)) (a2 : Int) (a3 : Int) (r1 : List Int) (r2 : Bool) (w : World) (hr0_3 : Kd.C (Kd.int .i64) w A0_3 l0_3.length l0_3) (hc0_3 : l0_3.length ≤ c0_3) (hr0_4 : Kd.C (Kd.int .i64) w A0_4 l0_4.length l0_4) (hc0_4 : l0_4.length ≤ c0_4) (hr1 : Kd.C (Kd.slice 3 (Kd.int .i64)) w A1 l1.length l1) (hc1 : l1.length ≤ c1) (h : spec_TokensToGo.f k a0_0 a0_1 a0_2 l0_3 l0_4 l1 a2 a3 = some (r1, r2)) :
  Calls Try.prog 49 #[.agg #[.int .i64 a0_0, .int .i64 a0_1, .int .i64 a0_2, .slice A0_3 l0_3.length c0_3, .slice A0_4 l0_4.length c0_4], .slice A1 l1.length c1, .int .i64 a2, .int .i64 a3] w fun e w' => ∃ v0_ : Value, e = .returned (.tuple #[v0_, .bool r2]) ∧ Kd.R (Kd.int .i64) 3 w' w.heap.size (fun _ => True) v0_ r1 ∧ Below w.heap.size w w' := by
 have hu27 := Try.underlying27
 have HR0_3 := Aside0.mk hr0_3
 have HC0_3 := Aside0.mk hc0_3
 clear hr0_3 hc0_3
 have HR0_4 := Aside0.mk hr0_4
 have HC0_4 := Aside0.mk hc0_4
 clear hr0_4 hc0_4
 have HR1 := Aside0.mk hr1
 have HC1 := Aside0.mk hc1
 clear hr1 hc1
 have HB := Aside0.mk (Below.refl w.heap.size w)
 have H : ((spec_trAsked.f k a0_0 a0_1 a0_2 l0_3 l0_4 l1 a2 0 a3).bind fun t601 => (if t601 = true then (if 0 ≤ a2 then (if a2 < (l1.length : Int) then (spec_TokensToGo.l0 k a3 ([] : List Int) (rd_L1 l1 a2) ((rd_L1 l1 a2).length : Int) 0 a0_0 a0_1 a0_2 l0_3 l0_4) else (none)) else (none)) else (some (([] : List Int), false)))) = some (r1, r2) := h
 clear h
 replace H := Option.bind_eq_some_iff.mp H
 obtain ⟨t601, A50, H⟩ := H
 replace H : (if t601 = true then (if 0 ≤ a2 then (if a2 < (l1.length : Int) then (spec_TokensToGo.l0 k a3 ([] : List Int) (rd_L1 l1 a2) ((rd_L1 l1 a2).length : Int) 0 a0_0 a0_1 a0_2 l0_3 l0_4) else (none)) else (none)) else (some (([] : List Int), false))) = some (r1, r2) := H
 have A5 := Aside0.mk A50
 clear A50
 by_cases c6 : t601 = true
 ·subst c6
  have H1 : (if 0 ≤ a2 then (if a2 < (l1.length : Int) then (spec_TokensToGo.l0 k a3 ([] : List Int) (rd_L1 l1 a2) ((rd_L1 l1 a2).length : Int) 0 a0_0 a0_1 a0_2 l0_3 l0_4) else (none)) else (none)) = some (r1, r2) := by rw [if_pos rfl] at H; exact H
  clear H
  have H := H1
  clear H1
  by_cases c7 : 0 ≤ a2
  ·rw [if_pos c7] at H
   have c7b0 : decide (0 ≤ a2) = true := decide_eq_true c7
   clear c7
   by_cases c8 : a2 < (l1.length : Int)
   ·rw [if_pos c8] at H
    have c8b0 : decide (a2 < (l1.length : Int)) = true := decide_eq_true c8
    clear c8
    have H' := Aside0.mk H
    clear H
    go_enter Try.func49, Try.ntmps49
    go_wp2_with (first | ((with_reducible refine gate_dst (N := 4) rfl ?_); refine box_event ?hg (N := 4) ?hd (cs := #[.int .i64 a0_0, .int .i64 a0_1, .int .i64 a0_2, .slice A0_3 l0_3.length c0_3, .slice A0_4 l0_4.length c0_4]) (t := 27) ?hr ?_; (case hd => rfl); (case hg => rfl); (case hr => first | (go_simp; done) | (go_simp; rfl)); intro gb600 hg w9 hbox hb; have n0_ := Aside0.mk (below_step hb_ hb); have n1_ := Aside0.mk (hbox); have n2_ := Aside0.mk ((by rw [hg]; exact (below_size hb_) : w.heap.size ≤ gb600)); have n3_ := Aside0.mk ((by rw [hg]; exact (below_size hb_) : w.heap.size ≤ gb600)); clear HB; have HB := n0_; have BK600 := n1_; have GW600 := n2_; have GE600 := n3_; clear n0_ n1_ n2_ n3_; clear hb hbox hg; have hcz10_0 : w9.cell? ⟨gb600, 0, none⟩ = some (.int .i64 a0_0) := (blk_cell BK600.out 0).trans rfl; have hcz10_1 : w9.cell? ⟨gb600, 1, none⟩ = some (.int .i64 a0_1) := (blk_cell BK600.out 1).trans rfl; have hcz10_2 : w9.cell? ⟨gb600, 2, none⟩ = some (.int .i64 a0_2) := (blk_cell BK600.out 2).trans rfl; have hcz10_3 : w9.cell? ⟨gb600, 3, none⟩ = some (.slice A0_3 l0_3.length c0_3) := (blk_cell BK600.out 3).trans rfl; have hcz10_4 : w9.cell? ⟨gb600, 4, none⟩ = some (.slice A0_4 l0_4.length c0_4) := (blk_cell BK600.out 4).trans rfl; have hfz10_0 := blk_frozen BK600.out 0; have hfz10_1 := blk_frozen BK600.out 1; have hfz10_2 := blk_frozen BK600.out 2; have hfz10_3 := blk_frozen BK600.out 3; have hfz10_4 := blk_frozen BK600.out 4) | ((with_reducible refine gate_callee (f := 81) rfl ?_); refine goesL_ (some 17) rfl rfl Try.func81 (by kernel_rfl) rfl #[.agg #[.int .i64 a0_0, .int .i64 a0_1, .int .i64 a0_2, .slice A0_3 l0_3.length c0_3, .slice A0_4 l0_4.length c0_4], .slice A1 l1.length c1, .int .i64 a2, .int .i64 0, .int .i64 a3] rfl (by (try simp only [List.map_toArray, List.map_cons, List.map_nil]); first | done | rfl | (simp only [List.length_drop, List.length_take]; rfl)) ?_; (with_reducible refine (spec_trAsked.calls k a0_0 a0_1 a0_2 _ _ l0_3 _ _ l0_4 _ _ l1 a2 0 a3 true _ ?side1 ?side2 ?side3 ?side4 ?side5 ?side6 A5.out).mono ?_); (case side1 => exact Kd.C_below HR0_3.out hb_); (case side2 => exact HC0_3.out); (case side3 => exact Kd.C_below HR0_4.out hb_); (case side4 => exact HC0_4.out); (case side5 => exact Kd.C_below HR1.out hb_); (case side6 => exact HC1.out); rintro e w11 ⟨rfl, hb⟩; refine ⟨_, rfl, ?_⟩; have n0_ := Aside0.mk (blk_below (g := gb600) (o := .cells #[.int .i64 a0_0, .int .i64 a0_1, .int .i64 a0_2, .slice A0_3 l0_3.length c0_3, .slice A0_4 l0_4.length c0_4] 27 (0, 0)) (by (with_reducible repeat (first | refine blk_drewN ?_ _ | refine blk_drew ?_ | refine blk_alloc ?_ _)); exact BK600.out) hb); have n1_ := Aside0.mk (below_step hb_ hb); clear BK600; clear HB; have BK600 := n0_; have HB := n1_; clear n0_ n1_; (try clear hb); (try clear hb2); (try clear hk); (try clear hi); have p602 : 0 ≤ (a2 : Int) := of_decide_eq_true (by first | (with_reducible assumption) | assumption); have q602 : a2 < (l1.length : Int) := of_decide_eq_true (by first | (with_reducible assumption) | assumption); obtain ⟨ad602, A602_0, c602_0, e602, hx602_0, hl602_0, hi602_0⟩ := at_L1 HR1.out a2 p602 q602; cases e602; replace hx602_0 := (HB.out.cell (World.block_lt_of_cell? w _ hx602_0)).trans hx602_0; have HR602_0 := Aside0.mk hi602_0; have HC602_0 := Aside0.mk hl602_0; clear hi602_0 hl602_0; replace p602 := eq_true p602; replace q602 := eq_true q602))
    go_loopg [10, 24] k (fun kq v10 v24 w' => ∃ (x10_1 : List Int) (x24_1 : Int), v24 = .int .i64 x24_1 ∧ Aside0 (spec_TokensToGo.l0 kq a3 x10_1 (rd_L1 l1 a2) ((rd_L1 l1 a2).length : Int) x24_1 a0_0 a0_1 a0_2 l0_3 l0_4 = some (r1, r2)) ∧ Aside0 (kq ≤ k) ∧ Aside0 (Kd.R (Kd.int .i64) 3 w' w.heap.size (fun _ => True) v10 x10_1) ∧ Aside0 (w'.heap[gb600]? = some (.cells #[.int .i64 a0_0, .int .i64 a0_1, .int .i64 a0_2, (.slice A0_3 l0_3.length c0_3), (.slice A0_4 l0_4.length c0_4)] 27 (0, 0))) ∧ Aside0 (Below w.heap.size w w'))
    case atStart => exact ⟨(([] : List Int)), (0), (by first | rfl | (simp; done) | (simp [*]; done)), H', ⟨Nat.le_refl _⟩, ⟨by first | exact Kd.R_nil _ _ _ _ _ | exact Kd.N_nil _ _ _ _ _ | exact Kd.V_nil _ _ _ _ _ | exact Kd.Q_nil _ _ _ _ _ | exact Kd.S_nil _ _ _ _ _⟩, ⟨by (with_reducible repeat (first | refine blk_drewN ?_ _ | refine blk_drew ?_ | refine blk_alloc ?_ _)); exact BK600.out⟩, ⟨hb_⟩⟩
    case round =>
     clear H'
     try clear c1
     try clear p2
     try clear c4
     try clear c6
     try clear p6
     try clear q6
     try clear hx6
     try clear c7
     try clear c7b0
     try clear c8
     try clear c8b0
     try clear hcz10_0
     try clear hcz10_1
     try clear hcz10_2
     try clear hcz10_3
     try clear hcz10_4
     try clear hfz10_0
     try clear hfz10_1
     try clear hfz10_2
     try clear hfz10_3
     try clear hfz10_4
     try clear hx602_0
     try clear p602
     try clear q602
     obtain ⟨x10_1, x24_1, rfl, HA, HK1, HO_10, BK600, HB⟩ := hrel
     cases gk with
     | zero => exact absurd HA.out (by simp [spec_TokensToGo.l0])
     | succ k1 =>
      have H := HA.out
      clear HA
      simp only [spec_TokensToGo.l0] at H
      by_cases c12 : x24_1 < ((rd_L1 l1 a2).length : Int)
      ·rw [if_pos c12] at H
       have c12b0 : decide (x24_1 < ((rd_L1 l1 a2).length : Int)) = true := decide_eq_true c12
       clear c12
       by_cases c13 : 0 ≤ x24_1
       ·rw [if_pos c13] at H
        have c13b0 : decide (0 ≤ x24_1) = true := decide_eq_true c13
        clear c13
        by_cases c14 : x24_1 < ((rd_L1 l1 a2).length : Int)
        ·rw [if_pos c14] at H
         have c14b0 : decide (x24_1 < ((rd_L1 l1 a2).length : Int)) = true := decide_eq_true c14
         clear c14
         replace H := Option.bind_eq_some_iff.mp H
         obtain ⟨t604, A150, H⟩ := H
         replace H : (if t604 = true then (if x10_1.length < 17592186044416 then (spec_TokensToGo.l0 k1 a3 (x10_1 ++ [x24_1]) (rd_L1 l1 a2) ((rd_L1 l1 a2).length : Int) (wrap64 (x24_1 + 1)) a0_0 a0_1 a0_2 l0_3 l0_4) else (none)) else (spec_TokensToGo.l0 k1 a3 x10_1 (rd_L1 l1 a2) ((rd_L1 l1 a2).length : Int) (wrap64 (x24_1 + 1)) a0_0 a0_1 a0_2 l0_3 l0_4)) = some (r1, r2) := H
         have A15 := Aside0.mk A150
         clear A150
         by_cases c16 : t604 = true
         ·subst c16
          have H1 : (if x10_1.length < 17592186044416 then (spec_TokensToGo.l0 k1 a3 (x10_1 ++ [x24_1]) (rd_L1 l1 a2) ((rd_L1 l1 a2).length : Int) (wrap64 (x24_1 + 1)) a0_0 a0_1 a0_2 l0_3 l0_4) else (none)) = some (r1, r2) := by rw [if_pos rfl] at H; exact H
          clear H
          have H := H1
          clear H1
          by_cases c17 : x10_1.length < 17592186044416
          ·rw [if_pos c17] at H
           have LMc17 := Aside0.mk c17
           clear c17
           obtain ⟨y605, hy605⟩ : ∃ y_ : List Int, y_ = (x10_1 ++ [x24_1]) := ⟨_, rfl⟩
           replace H : (spec_TokensToGo.l0 k1 a3 y605 (rd_L1 l1 a2) ((rd_L1 l1 a2).length : Int) (wrap64 (x24_1 + 1)) a0_0 a0_1 a0_2 l0_3 l0_4) = some (r1, r2) := by first | (rw [hy605]; with_reducible exact H) | (have H2_ := (Option.bind_some _ _).symm.trans H; rw [hy605]; with_reducible exact H2_) | (have H2_ := (Option.bind_some _ _).symm.trans H; with_reducible exact H2_) | with_reducible exact H | (rw [hy605]; exact H) | exact H
           have Ny605 := Aside0.mk hy605
           clear hy605
           have H' := Aside0.mk H
           clear H
           have p603 : 0 ≤ (x24_1 : Int) := of_decide_eq_true (by first | (with_reducible assumption) | assumption)
           have q603 : x24_1 < ((rd_L1 l1 a2).length : Int) := of_decide_eq_true (by first | (with_reducible assumption) | assumption)
           obtain ⟨ad603, e603, hx603_0⟩ := Kd.at_int HR602_0.out x24_1 p603 q603
           cases e603
           replace hx603_0 := (HB.out.cell (World.block_lt_of_cell? w _ hx603_0)).trans hx603_0
           replace p603 := eq_true p603
           replace q603 := eq_true q603
           have hcz18_0 : wr.cell? ⟨gb600, 0, none⟩ = some (.int .i64 a0_0) := (blk_cell BK600.out 0).trans rfl
           have hcz18_1 : wr.cell? ⟨gb600, 1, none⟩ = some (.int .i64 a0_1) := (blk_cell BK600.out 1).trans rfl
           have hcz18_2 : wr.cell? ⟨gb600, 2, none⟩ = some (.int .i64 a0_2) := (blk_cell BK600.out 2).trans rfl
           have hcz18_3 : wr.cell? ⟨gb600, 3, none⟩ = some (.slice A0_3 l0_3.length c0_3) := (blk_cell BK600.out 3).trans rfl
           have hcz18_4 : wr.cell? ⟨gb600, 4, none⟩ = some (.slice A0_4 l0_4.length c0_4) := (blk_cell BK600.out 4).trans rfl
           have hfz18_0 := blk_frozen BK600.out 0
           have hfz18_1 := blk_frozen BK600.out 1
           have hfz18_2 := blk_frozen BK600.out 2
           have hfz18_3 := blk_frozen BK600.out 3
           have hfz18_4 := blk_frozen BK600.out 4
           go_wp2_with (first | ((with_reducible refine gate_callee (f := 82) rfl ?_); refine goesL_ (some 32) rfl rfl Try.func82 (by kernel_rfl) rfl #[.agg #[.int .i64 a0_0, .int .i64 a0_1, .int .i64 a0_2, .slice A0_3 l0_3.length c0_3, .slice A0_4 l0_4.length c0_4], .int .i64 (rd (rd_L1 l1 a2) x24_1), .int .i64 a3] rfl (by (try simp only [List.map_toArray, List.map_cons, List.map_nil]); first | done | rfl | (simp only [List.length_drop, List.length_take]; rfl)) ?_; (with_reducible refine (spec_trCan.calls a0_0 a0_1 a0_2 _ _ l0_3 _ _ l0_4 (rd (rd_L1 l1 a2) x24_1) a3 true _ ?side1 ?side2 ?side3 ?side4 A15.out).mono ?_); (case side1 => exact Kd.C_below HR0_3.out hb_); (case side2 => exact HC0_3.out); (case side3 => exact Kd.C_below HR0_4.out hb_); (case side4 => exact HC0_4.out); rintro e w19 ⟨rfl, hb⟩; refine ⟨_, rfl, ?_⟩; have n0_ := Aside0.mk (Kd.R_below (by (with_reducible repeat (first | apply Kd.R_alloc | apply Kd.R_drewN | apply Kd.R_drew)); exact HO_10.out) hb); have n1_ := Aside0.mk (blk_below (g := gb600) (o := .cells #[.int .i64 a0_0, .int .i64 a0_1, .int .i64 a0_2, .slice A0_3 l0_3.length c0_3, .slice A0_4 l0_4.length c0_4] 27 (0, 0)) (by (with_reducible repeat (first | refine blk_drewN ?_ _ | refine blk_drew ?_ | refine blk_alloc ?_ _)); exact BK600.out) hb); have n2_ := Aside0.mk (below_step hb_ hb); clear HO_10; clear BK600; clear HB; have HO_10 := n0_; have BK600 := n1_; have HB := n2_; clear n0_ n1_ n2_; (try clear hb); (try clear hb2); (try clear hk); (try clear hi)) | ((with_reducible refine gate_builtin (b := .append) (xs := #[.tmp 33, .tmp 35]) rfl ?_); at_builtin; refine Kd.R_append (Kd.int .i64) (w0 := w) w.heap.size rfl (.tmp 33) (.tmp 35) 22 3 (.int .i64 0) 8 rfl Try.underlying22 info3 rfl (by decide) (by omega) u10 x10_1 x24_1 [.int .i64 x24_1] (fun _ => True) (fun _ => False) rfl rfl ?aP (fun _ hk => hk.elim) ?aF ?aO ?aB ?aS ?aL ?_; (case aP => exact rfl); (case aB => exact hb_); (case aF => exact (fun _ _ => trivial)); (case aO => exact (by (with_reducible repeat (first | apply Kd.R_alloc | apply Kd.R_drewN | apply Kd.R_drew)); exact HO_10.out)); (case aS => exact (below_size hb_)); (case aL => have := LMc17.out; omega); intro v606 w20 ho hb hg hat; rw [← Ny605.out] at ho; have n0_ := Aside0.mk (blk_grown (g := gb600) (o := .cells #[.int .i64 a0_0, .int .i64 a0_1, .int .i64 a0_2, .slice A0_3 l0_3.length c0_3, .slice A0_4 l0_4.length c0_4] 27 (0, 0)) (by (with_reducible repeat (first | refine blk_drewN ?_ _ | refine blk_drew ?_ | refine blk_alloc ?_ _)); exact BK600.out) hg (Kd.R_ne HO_10.out BK600.out (by decide))); have n1_ := Aside0.mk (hb); have n2_ := Aside0.mk (ho); clear BK600; clear HB; clear HO_10; have BK600 := n0_; have HB := n1_; have HO607 := n2_; clear n0_ n1_ n2_; clear ho hb hg hat))
           go_roundg k1
           case measure => have := HK1.out; omega
           case rel => exact ⟨(y605), (wrap64 (x24_1 + 1)), (by first | rfl | (simp; done) | (simp [*]; done)), H', ⟨by have := HK1.out; omega⟩, ⟨by (with_reducible repeat (first | apply Kd.R_alloc | apply Kd.R_drewN | apply Kd.R_drew)); exact HO607.out⟩, ⟨by (with_reducible repeat (first | refine blk_drewN ?_ _ | refine blk_drew ?_ | refine blk_alloc ?_ _)); exact BK600.out⟩, ⟨hb_⟩⟩
          ·rw [if_neg c17] at H
           exact absurd H (by simp)
         ·replace c16 := Bool.eq_false_iff.mpr c16
          subst c16
          have H1 : (spec_TokensToGo.l0 k1 a3 x10_1 (rd_L1 l1 a2) ((rd_L1 l1 a2).length : Int) (wrap64 (x24_1 + 1)) a0_0 a0_1 a0_2 l0_3 l0_4) = some (r1, r2) := by rw [if_neg (show ¬ (false = true) by decide)] at H; exact H
          clear H
          have H := H1
          clear H1
          have H' := Aside0.mk H
          clear H
          have p603 : 0 ≤ (x24_1 : Int) := of_decide_eq_true (by first | (with_reducible assumption) | assumption)
          have q603 : x24_1 < ((rd_L1 l1 a2).length : Int) := of_decide_eq_true (by first | (with_reducible assumption) | assumption)
          obtain ⟨ad603, e603, hx603_0⟩ := Kd.at_int HR602_0.out x24_1 p603 q603
          cases e603
          replace hx603_0 := (HB.out.cell (World.block_lt_of_cell? w _ hx603_0)).trans hx603_0
          replace p603 := eq_true p603
          replace q603 := eq_true q603
          have hcz21_0 : wr.cell? ⟨gb600, 0, none⟩ = some (.int .i64 a0_0) := (blk_cell BK600.out 0).trans rfl
          have hcz21_1 : wr.cell? ⟨gb600, 1, none⟩ = some (.int .i64 a0_1) := (blk_cell BK600.out 1).trans rfl
          have hcz21_2 : wr.cell? ⟨gb600, 2, none⟩ = some (.int .i64 a0_2) := (blk_cell BK600.out 2).trans rfl
          have hcz21_3 : wr.cell? ⟨gb600, 3, none⟩ = some (.slice A0_3 l0_3.length c0_3) := (blk_cell BK600.out 3).trans rfl
          have hcz21_4 : wr.cell? ⟨gb600, 4, none⟩ = some (.slice A0_4 l0_4.length c0_4) := (blk_cell BK600.out 4).trans rfl
          have hfz21_0 := blk_frozen BK600.out 0
          have hfz21_1 := blk_frozen BK600.out 1
          have hfz21_2 := blk_frozen BK600.out 2
          have hfz21_3 := blk_frozen BK600.out 3
          have hfz21_4 := blk_frozen BK600.out 4
          go_wp2_with (first | ((with_reducible refine gate_callee (f := 82) rfl ?_); refine goesL_ (some 32) rfl rfl Try.func82 (by kernel_rfl) rfl #[.agg #[.int .i64 a0_0, .int .i64 a0_1, .int .i64 a0_2, .slice A0_3 l0_3.length c0_3, .slice A0_4 l0_4.length c0_4], .int .i64 (rd (rd_L1 l1 a2) x24_1), .int .i64 a3] rfl (by (try simp only [List.map_toArray, List.map_cons, List.map_nil]); first | done | rfl | (simp only [List.length_drop, List.length_take]; rfl)) ?_; (with_reducible refine (spec_trCan.calls a0_0 a0_1 a0_2 _ _ l0_3 _ _ l0_4 (rd (rd_L1 l1 a2) x24_1) a3 false _ ?side1 ?side2 ?side3 ?side4 A15.out).mono ?_); (case side1 => exact Kd.C_below HR0_3.out hb_); (case side2 => exact HC0_3.out); (case side3 => exact Kd.C_below HR0_4.out hb_); (case side4 => exact HC0_4.out); rintro e w22 ⟨rfl, hb⟩; refine ⟨_, rfl, ?_⟩; have n0_ := Aside0.mk (Kd.R_below (by (with_reducible repeat (first | apply Kd.R_alloc | apply Kd.R_drewN | apply Kd.R_drew)); exact HO_10.out) hb); have n1_ := Aside0.mk (blk_below (g := gb600) (o := .cells #[.int .i64 a0_0, .int .i64 a0_1, .int .i64 a0_2, .slice A0_3 l0_3.length c0_3, .slice A0_4 l0_4.length c0_4] 27 (0, 0)) (by (with_reducible repeat (first | refine blk_drewN ?_ _ | refine blk_drew ?_ | refine blk_alloc ?_ _)); exact BK600.out) hb); have n2_ := Aside0.mk (below_step hb_ hb); clear HO_10; clear BK600; clear HB; have HO_10 := n0_; have BK600 := n1_; have HB := n2_; clear n0_ n1_ n2_; (try clear hb); (try clear hb2); (try clear hk); (try clear hi)))
          go_roundg k1
          case measure => have := HK1.out; omega
          case rel => exact ⟨(x10_1), (wrap64 (x24_1 + 1)), (by first | rfl | (simp; done) | (simp [*]; done)), H', ⟨by have := HK1.out; omega⟩, ⟨by (with_reducible repeat (first | apply Kd.R_alloc | apply Kd.R_drewN | apply Kd.R_drew)); exact HO_10.out⟩, ⟨by (with_reducible repeat (first | refine blk_drewN ?_ _ | refine blk_drew ?_ | refine blk_alloc ?_ _)); exact BK600.out⟩, ⟨hb_⟩⟩
        ·rw [if_neg c14] at H
         exact absurd H (by simp)
       ·rw [if_neg c13] at H
        exact absurd H (by simp)
      ·rw [if_neg c12] at H
       have c12b0 : decide (x24_1 < ((rd_L1 l1 a2).length : Int)) = false := decide_eq_false c12
       clear c12
       simp only [Option.some.injEq, Prod.mk.injEq] at H
       obtain ⟨rfl, rfl⟩ := H
       go_wp2
       go_ret2
       exact ⟨_, by first | rfl | (simp [errW_none, errW_some] <;> rfl) | (simp [*, errW_none, errW_some] <;> rfl), by (with_reducible repeat (first | apply Kd.R_alloc | apply Kd.R_drewN | apply Kd.R_drew)); exact HO_10.out, hb_⟩
   ·rw [if_neg c8] at H
    exact absurd H (by simp)
  ·rw [if_neg c7] at H
   exact absurd H (by simp)
 ·replace c6 := Bool.eq_false_iff.mpr c6
  subst c6
  have H1 : (some (([] : List Int), false)) = some (r1, r2) := by rw [if_neg (show ¬ (false = true) by decide)] at H; exact H
  clear H
  have H := H1
  clear H1
  simp only [Option.some.injEq, Prod.mk.injEq] at H
  obtain ⟨rfl, rfl⟩ := H
  go_enter Try.func49, Try.ntmps49
  go_wp2_with (first | ((with_reducible refine gate_dst (N := 4) rfl ?_); refine box_event ?hg (N := 4) ?hd (cs := #[.int .i64 a0_0, .int .i64 a0_1, .int .i64 a0_2, .slice A0_3 l0_3.length c0_3, .slice A0_4 l0_4.length c0_4]) (t := 27) ?hr ?_; (case hd => rfl); (case hg => rfl); (case hr => first | (go_simp; done) | (go_simp; rfl)); intro gb600 hg w23 hbox hb; have n0_ := Aside0.mk (below_step hb_ hb); have n1_ := Aside0.mk (hbox); have n2_ := Aside0.mk ((by rw [hg]; exact (below_size hb_) : w.heap.size ≤ gb600)); have n3_ := Aside0.mk ((by rw [hg]; exact (below_size hb_) : w.heap.size ≤ gb600)); clear HB; have HB := n0_; have BK600 := n1_; have GW600 := n2_; have GE600 := n3_; clear n0_ n1_ n2_ n3_; clear hb hbox hg; have hcz24_0 : w23.cell? ⟨gb600, 0, none⟩ = some (.int .i64 a0_0) := (blk_cell BK600.out 0).trans rfl; have hcz24_1 : w23.cell? ⟨gb600, 1, none⟩ = some (.int .i64 a0_1) := (blk_cell BK600.out 1).trans rfl; have hcz24_2 : w23.cell? ⟨gb600, 2, none⟩ = some (.int .i64 a0_2) := (blk_cell BK600.out 2).trans rfl; have hcz24_3 : w23.cell? ⟨gb600, 3, none⟩ = some (.slice A0_3 l0_3.length c0_3) := (blk_cell BK600.out 3).trans rfl; have hcz24_4 : w23.cell? ⟨gb600, 4, none⟩ = some (.slice A0_4 l0_4.length c0_4) := (blk_cell BK600.out 4).trans rfl; have hfz24_0 := blk_frozen BK600.out 0; have hfz24_1 := blk_frozen BK600.out 1; have hfz24_2 := blk_frozen BK600.out 2; have hfz24_3 := blk_frozen BK600.out 3; have hfz24_4 := blk_frozen BK600.out 4) | ((with_reducible refine gate_callee (f := 81) rfl ?_); refine goesL_ (some 17) rfl rfl Try.func81 (by kernel_rfl) rfl #[.agg #[.int .i64 a0_0, .int .i64 a0_1, .int .i64 a0_2, .slice A0_3 l0_3.length c0_3, .slice A0_4 l0_4.length c0_4], .slice A1 l1.length c1, .int .i64 a2, .int .i64 0, .int .i64 a3] rfl (by (try simp only [List.map_toArray, List.map_cons, List.map_nil]); first | done | rfl | (simp only [List.length_drop, List.length_take]; rfl)) ?_; (with_reducible refine (spec_trAsked.calls k a0_0 a0_1 a0_2 _ _ l0_3 _ _ l0_4 _ _ l1 a2 0 a3 false _ ?side1 ?side2 ?side3 ?side4 ?side5 ?side6 A5.out).mono ?_); (case side1 => exact Kd.C_below HR0_3.out hb_); (case side2 => exact HC0_3.out); (case side3 => exact Kd.C_below HR0_4.out hb_); (case side4 => exact HC0_4.out); (case side5 => exact Kd.C_below HR1.out hb_); (case side6 => exact HC1.out); rintro e w25 ⟨rfl, hb⟩; refine ⟨_, rfl, ?_⟩; have n0_ := Aside0.mk (blk_below (g := gb600) (o := .cells #[.int .i64 a0_0, .int .i64 a0_1, .int .i64 a0_2, .slice A0_3 l0_3.length c0_3, .slice A0_4 l0_4.length c0_4] 27 (0, 0)) (by (with_reducible repeat (first | refine blk_drewN ?_ _ | refine blk_drew ?_ | refine blk_alloc ?_ _)); exact BK600.out) hb); have n1_ := Aside0.mk (below_step hb_ hb); clear BK600; clear HB; have BK600 := n0_; have HB := n1_; clear n0_ n1_; (try clear hb); (try clear hb2); (try clear hk); (try clear hi)))
  go_ret2
  exact ⟨_, by first | rfl | (simp [errW_none, errW_some] <;> rfl) | (simp [*, errW_none, errW_some] <;> rfl), by first | exact Kd.R_nil _ _ _ _ _ | exact Kd.N_nil _ _ _ _ _ | exact Kd.V_nil _ _ _ _ _ | exact Kd.Q_nil _ _ _ _ _ | exact Kd.S_nil _ _ _ _ _, hb_⟩

end Go.Proofs.Ytcppahkdfajcaaa.P
