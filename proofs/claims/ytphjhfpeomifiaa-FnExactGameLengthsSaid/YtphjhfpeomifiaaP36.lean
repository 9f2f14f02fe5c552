-- written for this claim by a program of this session (wip/tools/xprint.py), which runs the kit's print with other cuts
import Derived.Test.YtphjhfpeomifiaaP
import Derived.Test.YtphjhfpeomifiaaP44
import Derived.Test.YtphjhfpeomifiaaP46
namespace Go.Proofs.Ytphjhfpeomifiaa.P
open Go.RowKit Go.Proofs.YtphjhfpeomifiaaW.PrintWords Go.Proofs.YtphjhfpeomifiaaW.PrintLast Go.Proofs.YtphjhfpeomifiaaW.PrintMore
attribute [local go_sem] max2_int min2_int max_two min_two max_three min_three max_four min_four   -- for this text's walks alone
set_option linter.unusedVariables false
set_option linter.unusedSimpArgs false

/-! ### spec_GameLengths: function 36 -/
def spec_GameLengths.l0 : Nat → List Int → Int → Int → Int → Int → List (S70) → Option (List Int × Bool)
 | 0, _, _, _, _, _, _ => none
 | k + 1, x4, x5, x525000, x525001, x525002, x525003 => if x5 ≤ 16 then ((spec_gaCounts.f k x525000 x525001 x525002 x525003 x5).bind fun t526 => (if 0 < (t526.length : Int) then (if (rd t526 0) > 0 then (if x4.length < 17592186044416 then (spec_GameLengths.l0 k (x4 ++ [x5]) (wrap64 (x5 + 1)) x525000 x525001 x525002 x525003) else (none)) else (spec_GameLengths.l0 k x4 (wrap64 (x5 + 1)) x525000 x525001 x525002 x525003)) else (none))) else (some (x4, true))
def spec_GameLengths.f (k : Nat) (a0_0 : Int) (a0_1 : Int) (a0_2 : Int) (l0_3 : List (S70)) : Option (List Int × Bool) := (spec_sqGood.f k a0_0 a0_1 a0_2 l0_3).bind fun t525 => (if t525 = true then (spec_GameLengths.l0 k ([] : List Int) 0 a0_0 a0_1 a0_2 l0_3) else (some (([] : List Int), false)))
theorem spec_GameLengths.mono_l : ∀ k, (∀ y0 y1 y2 y3 y4 y5, LeO (spec_GameLengths.l0 k y0 y1 y2 y3 y4 y5) (spec_GameLengths.l0 (k + 1) y0 y1 y2 y3 y4 y5))
 | 0 => fun _ _ _ _ _ _ r h => by simp [spec_GameLengths.l0] at h
 | k + 1 => by
  have ih0 := spec_GameLengths.mono_l k
  ·intro y0 y1 y2 y3 y4 y5
   unfold spec_GameLengths.l0
   repeat' first
   | (with_reducible exact ih0 _ _ _ _ _ _)
   | (with_reducible exact spec_gaCounts.mono _ _ _ _ _ _)
   | (with_reducible exact spec_sqGood.mono _ _ _ _ _)
   | (with_reducible exact LeO.refl _)
   | (with_reducible exact LeO.none _)
   | (with_reducible refine LeO.ite ?_ ?_)
   | (with_reducible refine LeO.bind ?_ (fun _ => ?_))
   | exact ih0 _ _ _ _ _ _
   | exact spec_gaCounts.mono _ _ _ _ _ _
   | exact spec_sqGood.mono _ _ _ _ _
   | exact LeO.none _
   | refine LeO.ite ?_ ?_
   | refine LeO.bind ?_ (fun _ => ?_)
theorem spec_GameLengths.mono : ∀ a0 a1 a2 a3 k, LeO (spec_GameLengths.f k a0 a1 a2 a3) (spec_GameLengths.f (k + 1) a0 a1 a2 a3) := by
 intro a0 a1 a2 a3 k
 have ih0 := spec_GameLengths.mono_l k
 unfold spec_GameLengths.f
 repeat' first
   | (with_reducible exact ih0 _ _ _ _ _ _)
   | (with_reducible exact spec_gaCounts.mono _ _ _ _ _ _)
   | (with_reducible exact spec_sqGood.mono _ _ _ _ _)
   | (with_reducible exact LeO.refl _)
   | (with_reducible exact LeO.none _)
   | (with_reducible refine LeO.ite ?_ ?_)
   | (with_reducible refine LeO.bind ?_ (fun _ => ?_))
   | exact ih0 _ _ _ _ _ _
   | exact spec_gaCounts.mono _ _ _ _ _ _
   | exact spec_sqGood.mono _ _ _ _ _
   | exact LeO.none _
   | refine LeO.ite ?_ ?_
   | refine LeO.bind ?_ (fun _ => ?_)
set_option maxHeartbeats 8000000 in
set_option maxRecDepth 100000 in
theorem spec_GameLengths.calls (k : Nat) (a0_0 : Int) (a0_1 : Int) (a0_2 : Int) (A0_3 : Option Addr) (c0_3 : Nat) (l0_3 : List (S70)) (r1 : List Int) (r2 : Bool) (w : World) (hr0_3 : Kd.C k70 w A0_3 l0_3.length l0_3) (hc0_3 : l0_3.length ≤ c0_3) (h : spec_GameLengths.f k a0_0 a0_1 a0_2 l0_3 = some (r1, r2)) :
  Calls Try.prog 36 #[.agg #[.int .i64 a0_0, .int .i64 a0_1, .int .i64 a0_2, .slice A0_3 l0_3.length c0_3]] w fun e w' => ∃ v0_ : Value, e = .returned (.tuple #[v0_, .bool r2]) ∧ Kd.R (Kd.int .i64) 3 w' w.heap.size (fun _ => True) v0_ r1 ∧ Below w.heap.size w w' := by
 have hu30 := Try.underlying30
 have HR0_3 := Aside0.mk hr0_3
 have HC0_3 := Aside0.mk hc0_3
 clear hr0_3 hc0_3
 have HB := Aside0.mk (Below.refl w.heap.size w)
 have H : ((spec_sqGood.f k a0_0 a0_1 a0_2 l0_3).bind fun t525 => (if t525 = true then (spec_GameLengths.l0 k ([] : List Int) 0 a0_0 a0_1 a0_2 l0_3) else (some (([] : List Int), false)))) = some (r1, r2) := h
 clear h
 replace H := Option.bind_eq_some_iff.mp H
 obtain ⟨t525, A20, H⟩ := H
 replace H : (if t525 = true then (spec_GameLengths.l0 k ([] : List Int) 0 a0_0 a0_1 a0_2 l0_3) else (some (([] : List Int), false))) = some (r1, r2) := H
 have A2 := Aside0.mk A20
 clear A20
 by_cases c3 : t525 = true
 ·subst c3
  have H1 : (spec_GameLengths.l0 k ([] : List Int) 0 a0_0 a0_1 a0_2 l0_3) = some (r1, r2) := by rw [if_pos rfl] at H; exact H
  clear H
  have H := H1
  clear H1
  have H' := Aside0.mk H
  clear H
  go_enter Try.func36, Try.ntmps36
  go_wp2_with (first | ((with_reducible refine gate_dst (N := 1) rfl ?_); refine box_event ?hg (N := 1) ?hd (cs := #[.int .i64 a0_0, .int .i64 a0_1, .int .i64 a0_2, .slice A0_3 l0_3.length c0_3]) (t := 30) ?hr ?_; (case hd => rfl); (case hg => rfl); (case hr => first | (go_simp; done) | (go_simp; rfl)); intro gb524 hg w4 hbox hb; have n0_ := Aside0.mk (below_step hb_ hb); have n1_ := Aside0.mk (hbox); have n2_ := Aside0.mk ((by rw [hg]; exact (below_size hb_) : w.heap.size ≤ gb524)); have n3_ := Aside0.mk ((by rw [hg]; exact (below_size hb_) : w.heap.size ≤ gb524)); clear HB; have HB := n0_; have BK524 := n1_; have GW524 := n2_; have GE524 := n3_; clear n0_ n1_ n2_ n3_; clear hb hbox hg; have hcz5_0 : w4.cell? ⟨gb524, 0, none⟩ = some (.int .i64 a0_0) := (blk_cell BK524.out 0).trans rfl; have hcz5_1 : w4.cell? ⟨gb524, 1, none⟩ = some (.int .i64 a0_1) := (blk_cell BK524.out 1).trans rfl; have hcz5_2 : w4.cell? ⟨gb524, 2, none⟩ = some (.int .i64 a0_2) := (blk_cell BK524.out 2).trans rfl; have hcz5_3 : w4.cell? ⟨gb524, 3, none⟩ = some (.slice A0_3 l0_3.length c0_3) := (blk_cell BK524.out 3).trans rfl; have hfz5_0 := blk_frozen BK524.out 0; have hfz5_1 := blk_frozen BK524.out 1; have hfz5_2 := blk_frozen BK524.out 2; have hfz5_3 := blk_frozen BK524.out 3) | ((with_reducible refine gate_callee (f := 65) rfl ?_); refine goesL_ (some 7) rfl rfl Try.func65 (by kernel_rfl) rfl #[.agg #[.int .i64 a0_0, .int .i64 a0_1, .int .i64 a0_2, .slice A0_3 l0_3.length c0_3]] rfl (by (try simp only [List.map_toArray, List.map_cons, List.map_nil]); first | done | rfl | (simp only [List.length_drop, List.length_take]; rfl)) ?_; (with_reducible refine (spec_sqGood.calls k a0_0 a0_1 a0_2 _ _ l0_3 true _ ?side1 ?side2 A2.out).mono ?_); (case side1 => exact Kd.C_below HR0_3.out hb_); (case side2 => exact HC0_3.out); rintro e w6 ⟨rfl, hb⟩; refine ⟨_, rfl, ?_⟩; have n0_ := Aside0.mk (blk_below (g := gb524) (o := .cells #[.int .i64 a0_0, .int .i64 a0_1, .int .i64 a0_2, .slice A0_3 l0_3.length c0_3] 30 (0, 0)) (by (with_reducible repeat (first | refine blk_drewN ?_ _ | refine blk_drew ?_ | refine blk_alloc ?_ _)); exact BK524.out) hb); have n1_ := Aside0.mk (below_step hb_ hb); clear BK524; clear HB; have BK524 := n0_; have HB := n1_; clear n0_ n1_; (try clear hb); (try clear hb2); (try clear hk); (try clear hi)))
  go_loopg [4, 5] k (fun kq v4 v5 w' => ∃ (x4_1 : List Int) (x5_1 : Int), v5 = .int .i64 x5_1 ∧ Aside0 (spec_GameLengths.l0 kq x4_1 x5_1 a0_0 a0_1 a0_2 l0_3 = some (r1, r2)) ∧ Aside0 (kq ≤ k) ∧ Aside0 (Kd.R (Kd.int .i64) 3 w' w.heap.size (fun _ => True) v4 x4_1) ∧ Aside0 (w'.heap[gb524]? = some (.cells #[.int .i64 a0_0, .int .i64 a0_1, .int .i64 a0_2, (.slice A0_3 l0_3.length c0_3)] 30 (0, 0))) ∧ Aside0 (Below w.heap.size w w'))
  case atStart => exact ⟨(([] : List Int)), (0), (by first | rfl | (simp; done) | (simp [*]; done)), H', ⟨Nat.le_refl _⟩, ⟨by first | exact Kd.R_nil _ _ _ _ _ | exact Kd.N_nil _ _ _ _ _ | exact Kd.V_nil _ _ _ _ _ | exact Kd.Q_nil _ _ _ _ _ | exact Kd.S_nil _ _ _ _ _⟩, ⟨by (with_reducible repeat (first | refine blk_drewN ?_ _ | refine blk_drew ?_ | refine blk_alloc ?_ _)); exact BK524.out⟩, ⟨hb_⟩⟩
  case round =>
   clear H'
   try clear p2
   try clear c3
   try clear c6
   try clear hcz5_0
   try clear hcz5_1
   try clear hcz5_2
   try clear hcz5_3
   try clear hfz5_0
   try clear hfz5_1
   try clear hfz5_2
   try clear hfz5_3
   obtain ⟨x4_1, x5_1, rfl, HA, HK1, HO_4, BK524, HB⟩ := hrel
   cases gk with
   | zero => exact absurd HA.out (by simp [spec_GameLengths.l0])
   | succ k1 =>
    have H := HA.out
    clear HA
    simp only [spec_GameLengths.l0] at H
    by_cases c7 : x5_1 ≤ 16
    ·rw [if_pos c7] at H
     have c7b0 : decide (x5_1 ≤ 16) = true := decide_eq_true c7
     clear c7
     replace H := Option.bind_eq_some_iff.mp H
     obtain ⟨t526, A80, H⟩ := H
     replace H : (if 0 < (t526.length : Int) then (if (rd t526 0) > 0 then (if x4_1.length < 17592186044416 then (spec_GameLengths.l0 k1 (x4_1 ++ [x5_1]) (wrap64 (x5_1 + 1)) a0_0 a0_1 a0_2 l0_3) else (none)) else (spec_GameLengths.l0 k1 x4_1 (wrap64 (x5_1 + 1)) a0_0 a0_1 a0_2 l0_3)) else (none)) = some (r1, r2) := H
     have A8 := Aside0.mk A80
     clear A80
     by_cases c9 : 0 < (t526.length : Int)
     ·rw [if_pos c9] at H
      have c9b0 : decide (0 < (t526.length : Int)) = true := decide_eq_true c9
      have c9b1 : decide (0 < t526.length) = true := decide_eq_true (by omega)
      clear c9
      by_cases c10 : (rd t526 0) > 0
      ·rw [if_pos c10] at H
       have c10b0 : decide (0 < (rd t526 0)) = true := decide_eq_true c10
       clear c10
       by_cases c11 : x4_1.length < 17592186044416
       ·rw [if_pos c11] at H
        have LMc11 := Aside0.mk c11
        clear c11
        obtain ⟨y530, hy530⟩ : ∃ y_ : List Int, y_ = (x4_1 ++ [x5_1]) := ⟨_, rfl⟩
        replace H : (spec_GameLengths.l0 k1 y530 (wrap64 (x5_1 + 1)) a0_0 a0_1 a0_2 l0_3) = some (r1, r2) := by first | (rw [hy530]; with_reducible exact H) | (have H2_ := (Option.bind_some _ _).symm.trans H; rw [hy530]; with_reducible exact H2_) | (have H2_ := (Option.bind_some _ _).symm.trans H; with_reducible exact H2_) | with_reducible exact H | (rw [hy530]; exact H) | exact H
        have Ny530 := Aside0.mk hy530
        clear hy530
        have H' := Aside0.mk H
        clear H
        have hcz12_0 : wr.cell? ⟨gb524, 0, none⟩ = some (.int .i64 a0_0) := (blk_cell BK524.out 0).trans rfl
        have hcz12_1 : wr.cell? ⟨gb524, 1, none⟩ = some (.int .i64 a0_1) := (blk_cell BK524.out 1).trans rfl
        have hcz12_2 : wr.cell? ⟨gb524, 2, none⟩ = some (.int .i64 a0_2) := (blk_cell BK524.out 2).trans rfl
        have hcz12_3 : wr.cell? ⟨gb524, 3, none⟩ = some (.slice A0_3 l0_3.length c0_3) := (blk_cell BK524.out 3).trans rfl
        have hfz12_0 := blk_frozen BK524.out 0
        have hfz12_1 := blk_frozen BK524.out 1
        have hfz12_2 := blk_frozen BK524.out 2
        have hfz12_3 := blk_frozen BK524.out 3
        go_wp2_with (first | ((with_reducible refine gate_callee (f := 46) rfl ?_); refine goesL_ (some 15) rfl rfl Try.func46 (by kernel_rfl) rfl #[.agg #[.int .i64 a0_0, .int .i64 a0_1, .int .i64 a0_2, .slice A0_3 l0_3.length c0_3], .int .i64 x5_1] rfl (by (try simp only [List.map_toArray, List.map_cons, List.map_nil]); first | done | rfl | (simp only [List.length_drop, List.length_take]; rfl)) ?_; (with_reducible refine (spec_gaCounts.calls k1 a0_0 a0_1 a0_2 _ _ l0_3 x5_1 t526 _ ?side1 ?side2 A8.out).mono ?_); (case side1 => exact Kd.C_below HR0_3.out hb_); (case side2 => exact HC0_3.out); rintro e w13 ⟨v527, rfl, ho0, hb⟩; refine ⟨_, rfl, ?_⟩; have n0_ := Aside0.mk (Kd.R_elder' (by (with_reducible repeat (first | apply Kd.R_alloc | apply Kd.R_drewN | apply Kd.R_drew)); exact HO_4.out) (Kd.R_base ho0) hb); have n1_ := Aside0.mk (Kd.R_lower (Kd.R_new' ho0 (Kd.R_lt (by (with_reducible repeat (first | apply Kd.R_alloc | apply Kd.R_drewN | apply Kd.R_drew)); exact HO_4.out))) (below_size hb_)); have n2_ := Aside0.mk (blk_below (g := gb524) (o := .cells #[.int .i64 a0_0, .int .i64 a0_1, .int .i64 a0_2, .slice A0_3 l0_3.length c0_3] 30 (0, 0)) (by (with_reducible repeat (first | refine blk_drewN ?_ _ | refine blk_drew ?_ | refine blk_alloc ?_ _)); exact BK524.out) hb); have n3_ := Aside0.mk (below_step hb_ hb); clear HO_4; clear BK524; clear HB; have HO_4 := n0_; have HO528 := n1_; have BK524 := n2_; have HB := n3_; clear n0_ n1_ n2_ n3_; (try clear hb); (try clear hb2); (try clear hk); (try clear hi); (try clear ho0); obtain ⟨Ao14, co14, eo14⟩ := Kd.R_slice HO528.out; subst eo14; have p529 : 0 ≤ (0 : Int) := (by omega); have q529 : 0 < (t526.length : Int) := of_decide_eq_true (by first | (with_reducible assumption) | assumption); obtain ⟨ad529, e529, hx529_0⟩ := Kd.at_int (Kd.R_reads' HO528.out).2.2 0 p529 q529; cases e529; have qi529 : (0 < t526.length) = True := eq_true (by omega); (try rw [show ((0 : Int)).toNat = 0 from rfl] at hx529_0); (try rw [Addr.add_zero'] at hx529_0); replace p529 := eq_true p529; replace q529 := eq_true q529) | ((with_reducible refine gate_builtin (b := .append) (xs := #[.tmp 19, .tmp 21]) rfl ?_); at_builtin; refine Kd.R_append (Kd.int .i64) (w0 := w) w.heap.size rfl (.tmp 19) (.tmp 21) 36 3 (.int .i64 0) 8 rfl Try.underlying36 info3 rfl (by decide) (by omega) u4 x4_1 x5_1 [.int .i64 x5_1] (fun k_ => some k_ ≠ (.slice (some ad529) t526.length co14 : Value).ownBlock) (fun _ => False) rfl rfl ?aP (fun _ hk => hk.elim) ?aF ?aO ?aB ?aS ?aL ?_; (case aP => exact rfl); (case aB => exact hb_); (case aF => exact (fun k_ hk => Kd.fresh' (Kd.R_lt (by (with_reducible repeat (first | apply Kd.R_alloc | apply Kd.R_drewN | apply Kd.R_drew)); exact HO528.out)) k_ hk)); (case aO => exact (by (with_reducible repeat (first | apply Kd.R_alloc | apply Kd.R_drewN | apply Kd.R_drew)); exact Kd.R_mono HO_4.out (fun _ hk => hk.2))); (case aS => exact (below_size hb_)); (case aL => have := LMc11.out; omega); intro v531 w15 ho hb hg hat; rw [← Ny530.out] at ho; have n0_ := Aside0.mk (blk_grown (g := gb524) (o := .cells #[.int .i64 a0_0, .int .i64 a0_1, .int .i64 a0_2, .slice A0_3 l0_3.length c0_3] 30 (0, 0)) (by (with_reducible repeat (first | refine blk_drewN ?_ _ | refine blk_drew ?_ | refine blk_alloc ?_ _)); exact BK524.out) hg (Kd.R_ne HO_4.out BK524.out (by decide))); have n1_ := Aside0.mk (Kd.R_after (ok := (fun _ => True)) (by (with_reducible repeat (first | apply Kd.R_alloc | apply Kd.R_drewN | apply Kd.R_drew)); exact HO528.out) hg hat); have n2_ := Aside0.mk (hb); have n3_ := Aside0.mk (ho); clear BK524; clear HO528; clear HB; clear HO_4; have BK524 := n0_; have HO528 := n1_; have HB := n2_; have HO532 := n3_; clear n0_ n1_ n2_ n3_; clear ho hb hg hat))
        go_roundg k1
        case measure => have := HK1.out; omega
        case rel => exact ⟨(y530), (wrap64 (x5_1 + 1)), (by first | rfl | (simp; done) | (simp [*]; done)), H', ⟨by have := HK1.out; omega⟩, ⟨by (with_reducible repeat (first | apply Kd.R_alloc | apply Kd.R_drewN | apply Kd.R_drew)); exact Kd.R_mono HO532.out (fun _ hk => trivial)⟩, ⟨by (with_reducible repeat (first | refine blk_drewN ?_ _ | refine blk_drew ?_ | refine blk_alloc ?_ _)); exact BK524.out⟩, ⟨hb_⟩⟩
       ·rw [if_neg c11] at H
        exact absurd H (by simp)
      ·rw [if_neg c10] at H
       have c10b0 : decide (0 < (rd t526 0)) = false := decide_eq_false c10
       clear c10
       have H' := Aside0.mk H
       clear H
       have hcz16_0 : wr.cell? ⟨gb524, 0, none⟩ = some (.int .i64 a0_0) := (blk_cell BK524.out 0).trans rfl
       have hcz16_1 : wr.cell? ⟨gb524, 1, none⟩ = some (.int .i64 a0_1) := (blk_cell BK524.out 1).trans rfl
       have hcz16_2 : wr.cell? ⟨gb524, 2, none⟩ = some (.int .i64 a0_2) := (blk_cell BK524.out 2).trans rfl
       have hcz16_3 : wr.cell? ⟨gb524, 3, none⟩ = some (.slice A0_3 l0_3.length c0_3) := (blk_cell BK524.out 3).trans rfl
       have hfz16_0 := blk_frozen BK524.out 0
       have hfz16_1 := blk_frozen BK524.out 1
       have hfz16_2 := blk_frozen BK524.out 2
       have hfz16_3 := blk_frozen BK524.out 3
       go_wp2_with (first | ((with_reducible refine gate_callee (f := 46) rfl ?_); refine goesL_ (some 15) rfl rfl Try.func46 (by kernel_rfl) rfl #[.agg #[.int .i64 a0_0, .int .i64 a0_1, .int .i64 a0_2, .slice A0_3 l0_3.length c0_3], .int .i64 x5_1] rfl (by (try simp only [List.map_toArray, List.map_cons, List.map_nil]); first | done | rfl | (simp only [List.length_drop, List.length_take]; rfl)) ?_; (with_reducible refine (spec_gaCounts.calls k1 a0_0 a0_1 a0_2 _ _ l0_3 x5_1 t526 _ ?side1 ?side2 A8.out).mono ?_); (case side1 => exact Kd.C_below HR0_3.out hb_); (case side2 => exact HC0_3.out); rintro e w17 ⟨v527, rfl, ho0, hb⟩; refine ⟨_, rfl, ?_⟩; have n0_ := Aside0.mk (Kd.R_elder' (by (with_reducible repeat (first | apply Kd.R_alloc | apply Kd.R_drewN | apply Kd.R_drew)); exact HO_4.out) (Kd.R_base ho0) hb); have n1_ := Aside0.mk (Kd.R_lower (Kd.R_new' ho0 (Kd.R_lt (by (with_reducible repeat (first | apply Kd.R_alloc | apply Kd.R_drewN | apply Kd.R_drew)); exact HO_4.out))) (below_size hb_)); have n2_ := Aside0.mk (blk_below (g := gb524) (o := .cells #[.int .i64 a0_0, .int .i64 a0_1, .int .i64 a0_2, .slice A0_3 l0_3.length c0_3] 30 (0, 0)) (by (with_reducible repeat (first | refine blk_drewN ?_ _ | refine blk_drew ?_ | refine blk_alloc ?_ _)); exact BK524.out) hb); have n3_ := Aside0.mk (below_step hb_ hb); clear HO_4; clear BK524; clear HB; have HO_4 := n0_; have HO528 := n1_; have BK524 := n2_; have HB := n3_; clear n0_ n1_ n2_ n3_; (try clear hb); (try clear hb2); (try clear hk); (try clear hi); (try clear ho0); obtain ⟨Ao18, co18, eo18⟩ := Kd.R_slice HO528.out; subst eo18; have p529 : 0 ≤ (0 : Int) := (by omega); have q529 : 0 < (t526.length : Int) := of_decide_eq_true (by first | (with_reducible assumption) | assumption); obtain ⟨ad529, e529, hx529_0⟩ := Kd.at_int (Kd.R_reads' HO528.out).2.2 0 p529 q529; cases e529; have qi529 : (0 < t526.length) = True := eq_true (by omega); (try rw [show ((0 : Int)).toNat = 0 from rfl] at hx529_0); (try rw [Addr.add_zero'] at hx529_0); replace p529 := eq_true p529; replace q529 := eq_true q529))
       go_roundg k1
       case measure => have := HK1.out; omega
       case rel => exact ⟨(x4_1), (wrap64 (x5_1 + 1)), (by first | rfl | (simp; done) | (simp [*]; done)), H', ⟨by have := HK1.out; omega⟩, ⟨by (with_reducible repeat (first | apply Kd.R_alloc | apply Kd.R_drewN | apply Kd.R_drew)); exact Kd.R_mono HO_4.out (fun _ hk => trivial)⟩, ⟨by (with_reducible repeat (first | refine blk_drewN ?_ _ | refine blk_drew ?_ | refine blk_alloc ?_ _)); exact BK524.out⟩, ⟨hb_⟩⟩
     ·rw [if_neg c9] at H
      exact absurd H (by simp)
    ·rw [if_neg c7] at H
     have c7b0 : decide (x5_1 ≤ 16) = false := decide_eq_false c7
     clear c7
     simp only [Option.some.injEq, Prod.mk.injEq] at H
     obtain ⟨rfl, rfl⟩ := H
     go_wp2
     go_ret2
     exact ⟨_, by first | rfl | (simp [errW_none, errW_some] <;> rfl) | (simp [*, errW_none, errW_some] <;> rfl), by (with_reducible repeat (first | apply Kd.R_alloc | apply Kd.R_drewN | apply Kd.R_drew)); exact HO_4.out, hb_⟩
 ·replace c3 := Bool.eq_false_iff.mpr c3
  subst c3
  have H1 : (some (([] : List Int), false)) = some (r1, r2) := by rw [if_neg (show ¬ (false = true) by decide)] at H; exact H
  clear H
  have H := H1
  clear H1
  simp only [Option.some.injEq, Prod.mk.injEq] at H
  obtain ⟨rfl, rfl⟩ := H
  go_enter Try.func36, Try.ntmps36
  go_wp2_with (first | ((with_reducible refine gate_dst (N := 1) rfl ?_); refine box_event ?hg (N := 1) ?hd (cs := #[.int .i64 a0_0, .int .i64 a0_1, .int .i64 a0_2, .slice A0_3 l0_3.length c0_3]) (t := 30) ?hr ?_; (case hd => rfl); (case hg => rfl); (case hr => first | (go_simp; done) | (go_simp; rfl)); intro gb524 hg w19 hbox hb; have n0_ := Aside0.mk (below_step hb_ hb); have n1_ := Aside0.mk (hbox); have n2_ := Aside0.mk ((by rw [hg]; exact (below_size hb_) : w.heap.size ≤ gb524)); have n3_ := Aside0.mk ((by rw [hg]; exact (below_size hb_) : w.heap.size ≤ gb524)); clear HB; have HB := n0_; have BK524 := n1_; have GW524 := n2_; have GE524 := n3_; clear n0_ n1_ n2_ n3_; clear hb hbox hg; have hcz20_0 : w19.cell? ⟨gb524, 0, none⟩ = some (.int .i64 a0_0) := (blk_cell BK524.out 0).trans rfl; have hcz20_1 : w19.cell? ⟨gb524, 1, none⟩ = some (.int .i64 a0_1) := (blk_cell BK524.out 1).trans rfl; have hcz20_2 : w19.cell? ⟨gb524, 2, none⟩ = some (.int .i64 a0_2) := (blk_cell BK524.out 2).trans rfl; have hcz20_3 : w19.cell? ⟨gb524, 3, none⟩ = some (.slice A0_3 l0_3.length c0_3) := (blk_cell BK524.out 3).trans rfl; have hfz20_0 := blk_frozen BK524.out 0; have hfz20_1 := blk_frozen BK524.out 1; have hfz20_2 := blk_frozen BK524.out 2; have hfz20_3 := blk_frozen BK524.out 3) | ((with_reducible refine gate_callee (f := 65) rfl ?_); refine goesL_ (some 7) rfl rfl Try.func65 (by kernel_rfl) rfl #[.agg #[.int .i64 a0_0, .int .i64 a0_1, .int .i64 a0_2, .slice A0_3 l0_3.length c0_3]] rfl (by (try simp only [List.map_toArray, List.map_cons, List.map_nil]); first | done | rfl | (simp only [List.length_drop, List.length_take]; rfl)) ?_; (with_reducible refine (spec_sqGood.calls k a0_0 a0_1 a0_2 _ _ l0_3 false _ ?side1 ?side2 A2.out).mono ?_); (case side1 => exact Kd.C_below HR0_3.out hb_); (case side2 => exact HC0_3.out); rintro e w21 ⟨rfl, hb⟩; refine ⟨_, rfl, ?_⟩; have n0_ := Aside0.mk (blk_below (g := gb524) (o := .cells #[.int .i64 a0_0, .int .i64 a0_1, .int .i64 a0_2, .slice A0_3 l0_3.length c0_3] 30 (0, 0)) (by (with_reducible repeat (first | refine blk_drewN ?_ _ | refine blk_drew ?_ | refine blk_alloc ?_ _)); exact BK524.out) hb); have n1_ := Aside0.mk (below_step hb_ hb); clear BK524; clear HB; have BK524 := n0_; have HB := n1_; clear n0_ n1_; (try clear hb); (try clear hb2); (try clear hk); (try clear hi)))
  go_ret2
  exact ⟨_, by first | rfl | (simp [errW_none, errW_some] <;> rfl) | (simp [*, errW_none, errW_some] <;> rfl), by first | exact Kd.R_nil _ _ _ _ _ | exact Kd.N_nil _ _ _ _ _ | exact Kd.V_nil _ _ _ _ _ | exact Kd.Q_nil _ _ _ _ _ | exact Kd.S_nil _ _ _ _ _, hb_⟩

end Go.Proofs.Ytphjhfpeomifiaa.P
