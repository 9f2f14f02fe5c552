-- written for this claim by a program of this session (wip/tools/xprint.py), which runs the kit's print with other cuts
import Derived.Test.YtphjhfpeomifiaaP
import Derived.Test.YtphjhfpeomifiaaP24
import Derived.Test.YtphjhfpeomifiaaP28
import Derived.Test.YtphjhfpeomifiaaP36
import Derived.Test.YtphjhfpeomifiaaP44
import Derived.Test.YtphjhfpeomifiaaP57
import Derived.Test.YtphjhfpeomifiaaP64
import Derived.Test.YtphjhfpeomifiaaP79
namespace Go.Proofs.Ytphjhfpeomifiaa.P
open Go.RowKit Go.Proofs.YtphjhfpeomifiaaW.PrintWords Go.Proofs.YtphjhfpeomifiaaW.PrintLast Go.Proofs.YtphjhfpeomifiaaW.PrintMore
attribute [local go_sem] max2_int min2_int max_two min_two max_three min_three max_four min_four   -- for this text's walks alone
set_option linter.unusedVariables false
set_option linter.unusedSimpArgs false

/-! ### impl_GameLengths: function 37 -/
def impl_GameLengths.l0 : Nat → List Int → List Int → Int → Int → Option (List Int × Bool)
 | 0, _, _, _, _ => none
 | k + 1, x6, x17, x18, x19 => if x19 < x18 then (if 0 ≤ x19 then (if x19 < (x17.length : Int) then (if (rd x17 x19) > 0 then (if x6.length < 17592186044416 then (impl_GameLengths.l0 k (x6 ++ [x19]) x17 x18 (wrap64 (x19 + 1))) else (none)) else (impl_GameLengths.l0 k x6 x17 x18 (wrap64 (x19 + 1)))) else (none)) else (none)) else (some (x6, true))
def impl_GameLengths.f (k : Nat) (a0_0 : Int) (a0_1 : Int) (a0_2 : Int) (l0_3 : List (S70)) : Option (List Int × Bool) := (impl_GameTable.f k a0_0 a0_1 a0_2 l0_3 16).bind fun bt534 => (if bt534.2 = true then (impl_GameLengths.l0 k (([] : List Int)) bt534.1 (bt534.1.length : Int) 0) else (some (([] : List Int), false)))
theorem impl_GameLengths.mono_l : ∀ k, (∀ y0 y1 y2 y3, LeO (impl_GameLengths.l0 k y0 y1 y2 y3) (impl_GameLengths.l0 (k + 1) y0 y1 y2 y3))
 | 0 => fun _ _ _ _ r h => by simp [impl_GameLengths.l0] at h
 | k + 1 => by
  have ih0 := impl_GameLengths.mono_l k
  ·intro y0 y1 y2 y3
   unfold impl_GameLengths.l0
   repeat' first
   | (with_reducible exact ih0 _ _ _ _)
   | (with_reducible exact impl_GameTable.mono _ _ _ _ _ _)
   | (with_reducible exact LeO.refl _)
   | (with_reducible exact LeO.none _)
   | (with_reducible refine LeO.ite ?_ ?_)
   | (with_reducible refine LeO.bind ?_ (fun _ => ?_))
   | exact ih0 _ _ _ _
   | exact impl_GameTable.mono _ _ _ _ _ _
   | exact LeO.none _
   | refine LeO.ite ?_ ?_
   | refine LeO.bind ?_ (fun _ => ?_)
theorem impl_GameLengths.mono : ∀ a0 a1 a2 a3 k, LeO (impl_GameLengths.f k a0 a1 a2 a3) (impl_GameLengths.f (k + 1) a0 a1 a2 a3) := by
 intro a0 a1 a2 a3 k
 have ih0 := impl_GameLengths.mono_l k
 unfold impl_GameLengths.f
 repeat' first
   | (with_reducible exact ih0 _ _ _ _)
   | (with_reducible exact impl_GameTable.mono _ _ _ _ _ _)
   | (with_reducible exact LeO.refl _)
   | (with_reducible exact LeO.none _)
   | (with_reducible refine LeO.ite ?_ ?_)
   | (with_reducible refine LeO.bind ?_ (fun _ => ?_))
   | exact ih0 _ _ _ _
   | exact impl_GameTable.mono _ _ _ _ _ _
   | exact LeO.none _
   | refine LeO.ite ?_ ?_
   | refine LeO.bind ?_ (fun _ => ?_)
set_option maxHeartbeats 8000000 in
set_option maxRecDepth 100000 in
theorem impl_GameLengths.calls (k : Nat) (a0_0 : Int) (a0_1 : Int) (a0_2 : Int) (A0_3 : Option Addr) (c0_3 : Nat) (l0_3 : List (S70)) (r1 : List Int) (r2 : Bool) (w : World) (hr0_3 : Kd.C k70 w A0_3 l0_3.length l0_3) (hc0_3 : l0_3.length ≤ c0_3) (h : impl_GameLengths.f k a0_0 a0_1 a0_2 l0_3 = some (r1, r2)) :
  Calls Try.prog 37 #[.agg #[.int .i64 a0_0, .int .i64 a0_1, .int .i64 a0_2, .slice A0_3 l0_3.length c0_3]] w fun e w' => ∃ v0_ : Value, e = .returned (.tuple #[v0_, .bool r2]) ∧ Kd.R (Kd.int .i64) 3 w' w.heap.size (fun _ => True) v0_ r1 ∧ Below w.heap.size w w' := by
 have hu30 := Try.underlying30
 have HR0_3 := Aside0.mk hr0_3
 have HC0_3 := Aside0.mk hc0_3
 clear hr0_3 hc0_3
 have HB := Aside0.mk (Below.refl w.heap.size w)
 have H : ((impl_GameTable.f k a0_0 a0_1 a0_2 l0_3 16).bind fun bt534 => (if bt534.2 = true then (impl_GameLengths.l0 k (([] : List Int)) bt534.1 (bt534.1.length : Int) 0) else (some (([] : List Int), false)))) = some (r1, r2) := h
 clear h
 replace H := Option.bind_eq_some_iff.mp H
 obtain ⟨⟨t534, t537⟩, A20, H⟩ := H
 replace H : (if t537 = true then (impl_GameLengths.l0 k (([] : List Int)) t534 (t534.length : Int) 0) else (some (([] : List Int), false))) = some (r1, r2) := H
 have A2 := Aside0.mk A20
 clear A20
 by_cases c3 : t537 = true
 ·subst c3
  have H1 : (impl_GameLengths.l0 k (([] : List Int)) t534 (t534.length : Int) 0) = some (r1, r2) := by rw [if_pos rfl] at H; exact H
  clear H
  have H := H1
  clear H1
  obtain ⟨y538, hy538⟩ : ∃ y_ : List Int, y_ = (([] : List Int)) := ⟨_, rfl⟩
  replace H : (impl_GameLengths.l0 k y538 t534 (t534.length : Int) 0) = some (r1, r2) := by first | (rw [hy538]; with_reducible exact H) | (have H2_ := (Option.bind_some _ _).symm.trans H; rw [hy538]; with_reducible exact H2_) | (have H2_ := (Option.bind_some _ _).symm.trans H; with_reducible exact H2_) | with_reducible exact H | (rw [hy538]; exact H) | exact H
  have Ny538 := Aside0.mk hy538
  clear hy538
  have H' := Aside0.mk H
  clear H
  go_enter Try.func37, Try.ntmps37
  go_wp2_with (first | ((with_reducible refine gate_dst (N := 1) rfl ?_); refine box_event ?hg (N := 1) ?hd (cs := #[.int .i64 a0_0, .int .i64 a0_1, .int .i64 a0_2, .slice A0_3 l0_3.length c0_3]) (t := 30) ?hr ?_; (case hd => rfl); (case hg => rfl); (case hr => first | (go_simp; done) | (go_simp; rfl)); intro gb533 hg w4 hbox hb; have n0_ := Aside0.mk (below_step hb_ hb); have n1_ := Aside0.mk (hbox); have n2_ := Aside0.mk ((by rw [hg]; exact (below_size hb_) : w.heap.size ≤ gb533)); have n3_ := Aside0.mk ((by rw [hg]; exact (below_size hb_) : w.heap.size ≤ gb533)); clear HB; have HB := n0_; have BK533 := n1_; have GW533 := n2_; have GE533 := n3_; clear n0_ n1_ n2_ n3_; clear hb hbox hg; have hcz5_0 : w4.cell? ⟨gb533, 0, none⟩ = some (.int .i64 a0_0) := (blk_cell BK533.out 0).trans rfl; have hcz5_1 : w4.cell? ⟨gb533, 1, none⟩ = some (.int .i64 a0_1) := (blk_cell BK533.out 1).trans rfl; have hcz5_2 : w4.cell? ⟨gb533, 2, none⟩ = some (.int .i64 a0_2) := (blk_cell BK533.out 2).trans rfl; have hcz5_3 : w4.cell? ⟨gb533, 3, none⟩ = some (.slice A0_3 l0_3.length c0_3) := (blk_cell BK533.out 3).trans rfl; have hfz5_0 := blk_frozen BK533.out 0; have hfz5_1 := blk_frozen BK533.out 1; have hfz5_2 := blk_frozen BK533.out 2; have hfz5_3 := blk_frozen BK533.out 3) | ((with_reducible refine gate_callee (f := 28) rfl ?_); refine goesL_ (some 11) rfl rfl Try.func28 (by kernel_rfl) rfl #[.agg #[.int .i64 a0_0, .int .i64 a0_1, .int .i64 a0_2, .slice A0_3 l0_3.length c0_3], .int .i64 16] rfl (by (try simp only [List.map_toArray, List.map_cons, List.map_nil]); first | done | rfl | (simp only [List.length_drop, List.length_take]; rfl)) ?_; (with_reducible refine (impl_GameTable.calls k a0_0 a0_1 a0_2 _ _ l0_3 16 t534 true _ ?side1 ?side2 A2.out).mono ?_); (case side1 => exact Kd.C_below HR0_3.out hb_); (case side2 => exact HC0_3.out); rintro e w6 ⟨v535, rfl, ho0, hb⟩; refine ⟨_, rfl, ?_⟩; have n0_ := Aside0.mk (Kd.R_lower ho0 (below_size hb_)); have n1_ := Aside0.mk (blk_below (g := gb533) (o := .cells #[.int .i64 a0_0, .int .i64 a0_1, .int .i64 a0_2, .slice A0_3 l0_3.length c0_3] 30 (0, 0)) (by (with_reducible repeat (first | refine blk_drewN ?_ _ | refine blk_drew ?_ | refine blk_alloc ?_ _)); exact BK533.out) hb); have n2_ := Aside0.mk (below_step hb_ hb); clear BK533; clear HB; have HO536 := n0_; have BK533 := n1_; have HB := n2_; clear n0_ n1_ n2_; (try clear hb); (try clear hb2); (try clear hk); (try clear hi); (try clear ho0)) | ((with_reducible refine gate_dst (N := 16) rfl ?_); refine Kd.R_lit (Kd.int .i64) _ 3 ?hg (N := 16) ?hd (xs := ([] : List Int)) (inner := []) (ok := fun _ => True) (okp := fun _ => True) ?hr ?hp (fun _ hk => hk) trivial (Below.refl _ _) (Nat.le_refl _) (by simp) ?_; (case hd => rfl); (case hg => rfl); (case hr => first | (go_simp; done) | (go_simp; rfl)); (case hp => exact (Reps.none _ _)); intro v539 w7 ho8 hb hg_ hnew_; clear hg_ hnew_; (first | rw [← Ny538.out] at ho8 | (simp only [Int.reduceToNat] at ho8; rw [← Ny538.out] at ho8)); have n0_ := Aside0.mk (Kd.R_elder' (by (with_reducible repeat (first | apply Kd.R_alloc | apply Kd.R_drewN | apply Kd.R_drew)); exact HO536.out) (Kd.R_base ho8) hb); have n1_ := Aside0.mk (Kd.R_lower (Kd.R_new' ho8 (Kd.R_lt (by (with_reducible repeat (first | apply Kd.R_alloc | apply Kd.R_drewN | apply Kd.R_drew)); exact HO536.out))) (below_size hb_)); have n2_ := Aside0.mk (blk_below (g := gb533) (o := .cells #[.int .i64 a0_0, .int .i64 a0_1, .int .i64 a0_2, .slice A0_3 l0_3.length c0_3] 30 (0, 0)) (by (with_reducible repeat (first | refine blk_drewN ?_ _ | refine blk_drew ?_ | refine blk_alloc ?_ _)); exact BK533.out) hb); have n3_ := Aside0.mk (below_step hb_ hb); clear HO536; clear BK533; clear HB; have HO536 := n0_; have HO540 := n1_; have BK533 := n2_; have HB := n3_; clear n0_ n1_ n2_ n3_; clear hb ho8; obtain ⟨Ao9, co9, eo9⟩ := Kd.R_slice HO536.out; subst eo9))
  go_loopg [6, 19] k (fun kq v6 v19 w' => ∃ (x6_1 : List Int) (x19_1 : Int), v19 = .int .i64 x19_1 ∧ Aside0 (impl_GameLengths.l0 kq x6_1 t534 (t534.length : Int) x19_1 = some (r1, r2)) ∧ Aside0 (kq ≤ k) ∧ Aside0 (Kd.R (Kd.int .i64) 3 w' w.heap.size (fun k_ => some k_ ≠ ((.slice Ao9 t534.length co9) : Value).ownBlock) v6 x6_1) ∧ Aside0 (Kd.R (Kd.int .i64) 3 w' w.heap.size (fun k_ => some k_ ≠ (v6 : Value).ownBlock) (.slice Ao9 t534.length co9) t534) ∧ Aside0 (w'.heap[gb533]? = some (.cells #[.int .i64 a0_0, .int .i64 a0_1, .int .i64 a0_2, (.slice A0_3 l0_3.length c0_3)] 30 (0, 0))) ∧ Aside0 (Below w.heap.size w w'))
  case atStart => exact ⟨(y538), (0), (by first | rfl | (simp; done) | (simp [*]; done)), H', ⟨Nat.le_refl _⟩, ⟨by (with_reducible repeat (first | apply Kd.R_alloc | apply Kd.R_drewN | apply Kd.R_drew)); exact Kd.R_mono HO540.out (fun _ hk => hk.2)⟩, ⟨by (with_reducible repeat (first | apply Kd.R_alloc | apply Kd.R_drewN | apply Kd.R_drew)); exact Kd.R_mono HO536.out (fun _ hk => hk.2)⟩, ⟨by (with_reducible repeat (first | refine blk_drewN ?_ _ | refine blk_drew ?_ | refine blk_alloc ?_ _)); exact BK533.out⟩, ⟨hb_⟩⟩
  case round =>
   clear H'
   try clear c2
   try clear p2
   try clear c3
   try clear hcz5_0
   try clear hcz5_1
   try clear hcz5_2
   try clear hcz5_3
   try clear hfz5_0
   try clear hfz5_1
   try clear hfz5_2
   try clear hfz5_3
   obtain ⟨x6_1, x19_1, rfl, HA, HK1, HO_6, HO_17, BK533, HB⟩ := hrel
   cases gk with
   | zero => exact absurd HA.out (by simp [impl_GameLengths.l0])
   | succ k1 =>
    have H := HA.out
    clear HA
    simp only [impl_GameLengths.l0] at H
    by_cases c10 : x19_1 < (t534.length : Int)
    ·rw [if_pos c10] at H
     have c10b0 : decide (x19_1 < (t534.length : Int)) = true := decide_eq_true c10
     clear c10
     by_cases c11 : 0 ≤ x19_1
     ·rw [if_pos c11] at H
      have c11b0 : decide (0 ≤ x19_1) = true := decide_eq_true c11
      clear c11
      by_cases c12 : x19_1 < (t534.length : Int)
      ·rw [if_pos c12] at H
       have c12b0 : decide (x19_1 < (t534.length : Int)) = true := decide_eq_true c12
       clear c12
       by_cases c13 : (rd t534 x19_1) > 0
       ·rw [if_pos c13] at H
        have c13b0 : decide (0 < (rd t534 x19_1)) = true := decide_eq_true c13
        clear c13
        by_cases c14 : x6_1.length < 17592186044416
        ·rw [if_pos c14] at H
         have LMc14 := Aside0.mk c14
         clear c14
         obtain ⟨y542, hy542⟩ : ∃ y_ : List Int, y_ = (x6_1 ++ [x19_1]) := ⟨_, rfl⟩
         replace H : (impl_GameLengths.l0 k1 y542 t534 (t534.length : Int) (wrap64 (x19_1 + 1))) = some (r1, r2) := by first | (rw [hy542]; with_reducible exact H) | (have H2_ := (Option.bind_some _ _).symm.trans H; rw [hy542]; with_reducible exact H2_) | (have H2_ := (Option.bind_some _ _).symm.trans H; with_reducible exact H2_) | with_reducible exact H | (rw [hy542]; exact H) | exact H
         have Ny542 := Aside0.mk hy542
         clear hy542
         have H' := Aside0.mk H
         clear H
         have p541 : 0 ≤ (x19_1 : Int) := of_decide_eq_true (by first | (with_reducible assumption) | assumption)
         have q541 : x19_1 < (t534.length : Int) := of_decide_eq_true (by first | (with_reducible assumption) | assumption)
         obtain ⟨ad541, e541, hx541_0⟩ := Kd.at_int (Kd.R_reads' HO_17.out).2.2 x19_1 p541 q541
         cases e541
         replace p541 := eq_true p541
         replace q541 := eq_true q541
         go_wp2_with (first | ((with_reducible refine gate_builtin (b := .append) (xs := #[.tmp 26, .tmp 28]) rfl ?_); at_builtin; refine Kd.R_append (Kd.int .i64) (w0 := w) w.heap.size rfl (.tmp 26) (.tmp 28) 36 3 (.int .i64 0) 8 rfl Try.underlying36 info3 rfl (by decide) (by omega) u6 x6_1 x19_1 [.int .i64 x19_1] (fun k_ => some k_ ≠ (.slice (some ad541) t534.length co9 : Value).ownBlock) (fun _ => False) rfl rfl ?aP (fun _ hk => hk.elim) ?aF ?aO ?aB ?aS ?aL ?_; (case aP => exact rfl); (case aB => exact hb_); (case aF => exact (fun k_ hk => Kd.fresh' (Kd.R_lt (by (with_reducible repeat (first | apply Kd.R_alloc | apply Kd.R_drewN | apply Kd.R_drew)); exact HO_17.out)) k_ hk)); (case aO => exact (by (with_reducible repeat (first | apply Kd.R_alloc | apply Kd.R_drewN | apply Kd.R_drew)); exact HO_6.out)); (case aS => exact (below_size hb_)); (case aL => have := LMc14.out; omega); intro v543 w15 ho hb hg hat; rw [← Ny542.out] at ho; have n0_ := Aside0.mk (Kd.R_after (ok := (fun _ => True)) (by (with_reducible repeat (first | apply Kd.R_alloc | apply Kd.R_drewN | apply Kd.R_drew)); exact Kd.R_mono HO_17.out (fun _ hk => ⟨trivial, hk⟩)) hg hat); have n1_ := Aside0.mk (blk_grown (g := gb533) (o := .cells #[.int .i64 a0_0, .int .i64 a0_1, .int .i64 a0_2, .slice A0_3 l0_3.length c0_3] 30 (0, 0)) (by (with_reducible repeat (first | refine blk_drewN ?_ _ | refine blk_drew ?_ | refine blk_alloc ?_ _)); exact BK533.out) hg (Kd.R_ne HO_6.out BK533.out (by decide))); have n2_ := Aside0.mk (hb); have n3_ := Aside0.mk (ho); clear HO_17; clear BK533; clear HB; clear HO_6; have HO_17 := n0_; have BK533 := n1_; have HB := n2_; have HO544 := n3_; clear n0_ n1_ n2_ n3_; clear ho hb hg hat))
         go_roundg k1
         case measure => have := HK1.out; omega
         case rel => exact ⟨(y542), (wrap64 (x19_1 + 1)), (by first | rfl | (simp; done) | (simp [*]; done)), H', ⟨by have := HK1.out; omega⟩, ⟨by (with_reducible repeat (first | apply Kd.R_alloc | apply Kd.R_drewN | apply Kd.R_drew)); exact HO544.out⟩, ⟨by (with_reducible repeat (first | apply Kd.R_alloc | apply Kd.R_drewN | apply Kd.R_drew)); exact Kd.R_mono HO_17.out (fun _ hk => hk.2)⟩, ⟨by (with_reducible repeat (first | refine blk_drewN ?_ _ | refine blk_drew ?_ | refine blk_alloc ?_ _)); exact BK533.out⟩, ⟨hb_⟩⟩
        ·rw [if_neg c14] at H
         exact absurd H (by simp)
       ·rw [if_neg c13] at H
        have c13b0 : decide (0 < (rd t534 x19_1)) = false := decide_eq_false c13
        clear c13
        have H' := Aside0.mk H
        clear H
        have p541 : 0 ≤ (x19_1 : Int) := of_decide_eq_true (by first | (with_reducible assumption) | assumption)
        have q541 : x19_1 < (t534.length : Int) := of_decide_eq_true (by first | (with_reducible assumption) | assumption)
        obtain ⟨ad541, e541, hx541_0⟩ := Kd.at_int (Kd.R_reads' HO_17.out).2.2 x19_1 p541 q541
        cases e541
        replace p541 := eq_true p541
        replace q541 := eq_true q541
        go_wp2
        go_roundg k1
        case measure => have := HK1.out; omega
        case rel => exact ⟨(x6_1), (wrap64 (x19_1 + 1)), (by first | rfl | (simp; done) | (simp [*]; done)), H', ⟨by have := HK1.out; omega⟩, ⟨by (with_reducible repeat (first | apply Kd.R_alloc | apply Kd.R_drewN | apply Kd.R_drew)); exact HO_6.out⟩, ⟨by (with_reducible repeat (first | apply Kd.R_alloc | apply Kd.R_drewN | apply Kd.R_drew)); exact HO_17.out⟩, ⟨by (with_reducible repeat (first | refine blk_drewN ?_ _ | refine blk_drew ?_ | refine blk_alloc ?_ _)); exact BK533.out⟩, ⟨hb_⟩⟩
      ·rw [if_neg c12] at H
       exact absurd H (by simp)
     ·rw [if_neg c11] at H
      exact absurd H (by simp)
    ·rw [if_neg c10] at H
     have c10b0 : decide (x19_1 < (t534.length : Int)) = false := decide_eq_false c10
     clear c10
     simp only [Option.some.injEq, Prod.mk.injEq] at H
     obtain ⟨rfl, rfl⟩ := H
     go_wp2
     go_ret2
     exact ⟨_, by first | rfl | (simp [errW_none, errW_some] <;> rfl) | (simp [*, errW_none, errW_some] <;> rfl), by (with_reducible repeat (first | apply Kd.R_alloc | apply Kd.R_drewN | apply Kd.R_drew)); exact Kd.R_mono HO_6.out (fun _ hk => trivial), hb_⟩
 ·replace c3 := Bool.eq_false_iff.mpr c3
  subst c3
  have H1 : (some (([] : List Int), false)) = some (r1, r2) := by rw [if_neg (show ¬ (false = true) by decide)] at H; exact H
  clear H
  have H := H1
  clear H1
  simp only [Option.some.injEq, Prod.mk.injEq] at H
  obtain ⟨rfl, rfl⟩ := H
  go_enter Try.func37, Try.ntmps37
  go_wp2_with (first | ((with_reducible refine gate_dst (N := 1) rfl ?_); refine box_event ?hg (N := 1) ?hd (cs := #[.int .i64 a0_0, .int .i64 a0_1, .int .i64 a0_2, .slice A0_3 l0_3.length c0_3]) (t := 30) ?hr ?_; (case hd => rfl); (case hg => rfl); (case hr => first | (go_simp; done) | (go_simp; rfl)); intro gb533 hg w16 hbox hb; have n0_ := Aside0.mk (below_step hb_ hb); have n1_ := Aside0.mk (hbox); have n2_ := Aside0.mk ((by rw [hg]; exact (below_size hb_) : w.heap.size ≤ gb533)); have n3_ := Aside0.mk ((by rw [hg]; exact (below_size hb_) : w.heap.size ≤ gb533)); clear HB; have HB := n0_; have BK533 := n1_; have GW533 := n2_; have GE533 := n3_; clear n0_ n1_ n2_ n3_; clear hb hbox hg; have hcz17_0 : w16.cell? ⟨gb533, 0, none⟩ = some (.int .i64 a0_0) := (blk_cell BK533.out 0).trans rfl; have hcz17_1 : w16.cell? ⟨gb533, 1, none⟩ = some (.int .i64 a0_1) := (blk_cell BK533.out 1).trans rfl; have hcz17_2 : w16.cell? ⟨gb533, 2, none⟩ = some (.int .i64 a0_2) := (blk_cell BK533.out 2).trans rfl; have hcz17_3 : w16.cell? ⟨gb533, 3, none⟩ = some (.slice A0_3 l0_3.length c0_3) := (blk_cell BK533.out 3).trans rfl; have hfz17_0 := blk_frozen BK533.out 0; have hfz17_1 := blk_frozen BK533.out 1; have hfz17_2 := blk_frozen BK533.out 2; have hfz17_3 := blk_frozen BK533.out 3) | ((with_reducible refine gate_callee (f := 28) rfl ?_); refine goesL_ (some 11) rfl rfl Try.func28 (by kernel_rfl) rfl #[.agg #[.int .i64 a0_0, .int .i64 a0_1, .int .i64 a0_2, .slice A0_3 l0_3.length c0_3], .int .i64 16] rfl (by (try simp only [List.map_toArray, List.map_cons, List.map_nil]); first | done | rfl | (simp only [List.length_drop, List.length_take]; rfl)) ?_; (with_reducible refine (impl_GameTable.calls k a0_0 a0_1 a0_2 _ _ l0_3 16 t534 false _ ?side1 ?side2 A2.out).mono ?_); (case side1 => exact Kd.C_below HR0_3.out hb_); (case side2 => exact HC0_3.out); rintro e w18 ⟨v535, rfl, ho0, hb⟩; refine ⟨_, rfl, ?_⟩; have n0_ := Aside0.mk (Kd.R_lower ho0 (below_size hb_)); have n1_ := Aside0.mk (blk_below (g := gb533) (o := .cells #[.int .i64 a0_0, .int .i64 a0_1, .int .i64 a0_2, .slice A0_3 l0_3.length c0_3] 30 (0, 0)) (by (with_reducible repeat (first | refine blk_drewN ?_ _ | refine blk_drew ?_ | refine blk_alloc ?_ _)); exact BK533.out) hb); have n2_ := Aside0.mk (below_step hb_ hb); clear BK533; clear HB; have HO536 := n0_; have BK533 := n1_; have HB := n2_; clear n0_ n1_ n2_; (try clear hb); (try clear hb2); (try clear hk); (try clear hi); (try clear ho0)))
  go_ret2
  exact ⟨_, by first | rfl | (simp [errW_none, errW_some] <;> rfl) | (simp [*, errW_none, errW_some] <;> rfl), by first | exact Kd.R_nil _ _ _ _ _ | exact Kd.N_nil _ _ _ _ _ | exact Kd.V_nil _ _ _ _ _ | exact Kd.Q_nil _ _ _ _ _ | exact Kd.S_nil _ _ _ _ _, hb_⟩

/-! ### laws_FnExactGameLengths: function 10 -/
mutual
def laws_FnExactGameLengths.j0 : Nat → List Int → Bool → List Int → Bool → Bool → Int → Int → Int → List (S72) → Int → Int → Int → List (S70) → Option (Bool)
 | 0, _, _, _, _, _, _, _, _, _, _, _, _, _ => none
 | k + 1, x4, x5, x7, x8, x40, x546000, x546001, x546002, x546003, x564000, x564001, x564002, x564003 => if x40 = true then (some false) else ((laws_toBoard.f k x546000 x546001 x546002 x546003).bind fun bt569 => ((laws_eqBoard.f k x564000 x564001 x564002 x564003 bt569.1 bt569.2.1 bt569.2.2.1 bt569.2.2.2).bind fun t575 => (if t575 = true then ((laws_markBoard.f k x564000 x564001 x564002 x564003 1).bind fun bt576 => (if bt576.1 < 0 then (laws_FnExactGameLengths.j1 k x4 x5 x7 true x546000 x546001 x546002 x546003) else ((laws_eqIntS.f k x7 x4).bind fun t578 => (if t578 = true then (laws_FnExactGameLengths.j1 k x4 x5 x7 (x8 != x5) x546000 x546001 x546002 x546003) else (laws_FnExactGameLengths.j1 k x4 x5 x7 true x546000 x546001 x546002 x546003))))) else (some false))))
def laws_FnExactGameLengths.j1 : Nat → List Int → Bool → List Int → Bool → Int → Int → Int → List (S72) → Option (Bool)
 | 0, _, _, _, _, _, _, _, _ => none
 | k + 1, x4, x5, x7, x61, x546000, x546001, x546002, x546003 => if x61 = true then (some false) else ((laws_markIntS.f k x7 1).bind fun bt579 => ((laws_heldIntS.f k bt579.2 1).bind fun t581 => (if t581 < 0 then (some false) else (if t581 = bt579.1 then ((laws_toBoard.f k x546000 x546001 x546002 x546003).bind fun bt582 => ((impl_GameLengths.f k bt582.1 bt582.2.1 bt582.2.2.1 bt582.2.2.2).bind fun bt588 => ((laws_eqIntS.f k bt588.1 x4).bind fun t592 => (if t592 = true then (laws_FnExactGameLengths.j2 k bt579.2 bt579.1 (bt588.2 != x5)) else (laws_FnExactGameLengths.j2 k bt579.2 bt579.1 true))))) else (some false)))))
def laws_FnExactGameLengths.j2 : Nat → List Int → Int → Bool → Option (Bool)
 | 0, _, _, _ => none
 | k + 1, x7, x10, x87 => if x87 = true then (some false) else ((laws_heldIntS.f k x7 1).bind fun t593 => (if t593 < 0 then (some false) else (if t593 = x10 then (some true) else (some false))))
end
def laws_FnExactGameLengths.f (k : Nat) (a0_0 : Int) (a0_1 : Int) (a0_2 : Int) (l0_3 : List (S72)) : Option (Bool) := (laws_szBoard.f a0_0 a0_1 a0_2 l0_3 1048576).bind fun t546 => (if t546 < 0 then (some true) else ((laws_toBoard.f k a0_0 a0_1 a0_2 l0_3).bind fun bt547 => ((spec_GameLengths.f k bt547.1 bt547.2.1 bt547.2.2.1 bt547.2.2.2).bind fun bt553 => ((laws_toBoard.f k a0_0 a0_1 a0_2 l0_3).bind fun bt557 => ((impl_GameLengths.f k bt557.1 bt557.2.1 bt557.2.2.1 bt557.2.2.2).bind fun bt564 => ((laws_eqIntS.f k bt564.1 bt553.1).bind fun t568 => (if t568 = true then (laws_FnExactGameLengths.j0 k bt553.1 bt553.2 bt564.1 bt564.2 (bt564.2 != bt553.2) a0_0 a0_1 a0_2 l0_3 bt557.1 bt557.2.1 bt557.2.2.1 bt557.2.2.2) else (laws_FnExactGameLengths.j0 k bt553.1 bt553.2 bt564.1 bt564.2 true a0_0 a0_1 a0_2 l0_3 bt557.1 bt557.2.1 bt557.2.2.1 bt557.2.2.2))))))))
theorem laws_FnExactGameLengths.mono_l : ∀ k, (∀ y0 y1 y2 y3 y4 y5 y6 y7 y8 y9 y10 y11 y12, LeO (laws_FnExactGameLengths.j0 k y0 y1 y2 y3 y4 y5 y6 y7 y8 y9 y10 y11 y12) (laws_FnExactGameLengths.j0 (k + 1) y0 y1 y2 y3 y4 y5 y6 y7 y8 y9 y10 y11 y12)) ∧ (∀ y0 y1 y2 y3 y4 y5 y6 y7, LeO (laws_FnExactGameLengths.j1 k y0 y1 y2 y3 y4 y5 y6 y7) (laws_FnExactGameLengths.j1 (k + 1) y0 y1 y2 y3 y4 y5 y6 y7)) ∧ (∀ y0 y1 y2, LeO (laws_FnExactGameLengths.j2 k y0 y1 y2) (laws_FnExactGameLengths.j2 (k + 1) y0 y1 y2))
 | 0 => ⟨fun _ _ _ _ _ _ _ _ _ _ _ _ _ r h => by simp [laws_FnExactGameLengths.j0] at h, fun _ _ _ _ _ _ _ _ r h => by simp [laws_FnExactGameLengths.j1] at h, fun _ _ _ r h => by simp [laws_FnExactGameLengths.j2] at h⟩
 | k + 1 => by
  obtain ⟨ih0, ih1, ih2⟩ := laws_FnExactGameLengths.mono_l k
  refine ⟨?_, ?_, ?_⟩
  ·intro y0 y1 y2 y3 y4 y5 y6 y7 y8 y9 y10 y11 y12
   unfold laws_FnExactGameLengths.j0
   repeat' first
   | (with_reducible exact ih0 _ _ _ _ _ _ _ _ _ _ _ _ _)
   | (with_reducible exact ih1 _ _ _ _ _ _ _ _)
   | (with_reducible exact ih2 _ _ _)
   | (with_reducible exact impl_GameLengths.mono _ _ _ _ _)
   | (with_reducible exact laws_eqBoard.mono _ _ _ _ _ _ _ _ _)
   | (with_reducible exact laws_eqIntS.mono _ _ _)
   | (with_reducible exact laws_heldIntS.mono _ _ _)
   | (with_reducible exact laws_markBoard.mono _ _ _ _ _ _)
   | (with_reducible exact laws_markIntS.mono _ _ _)
   | (with_reducible exact laws_toBoard.mono _ _ _ _ _)
   | (with_reducible exact spec_GameLengths.mono _ _ _ _ _)
   | (with_reducible exact LeO.refl _)
   | (with_reducible exact LeO.none _)
   | (with_reducible refine LeO.ite ?_ ?_)
   | (with_reducible refine LeO.bind ?_ (fun _ => ?_))
   | exact ih0 _ _ _ _ _ _ _ _ _ _ _ _ _
   | exact ih1 _ _ _ _ _ _ _ _
   | exact ih2 _ _ _
   | exact impl_GameLengths.mono _ _ _ _ _
   | exact laws_eqBoard.mono _ _ _ _ _ _ _ _ _
   | exact laws_eqIntS.mono _ _ _
   | exact laws_heldIntS.mono _ _ _
   | exact laws_markBoard.mono _ _ _ _ _ _
   | exact laws_markIntS.mono _ _ _
   | exact laws_toBoard.mono _ _ _ _ _
   | exact spec_GameLengths.mono _ _ _ _ _
   | exact LeO.none _
   | refine LeO.ite ?_ ?_
   | refine LeO.bind ?_ (fun _ => ?_)
  ·intro y0 y1 y2 y3 y4 y5 y6 y7
   unfold laws_FnExactGameLengths.j1
   repeat' first
   | (with_reducible exact ih0 _ _ _ _ _ _ _ _ _ _ _ _ _)
   | (with_reducible exact ih1 _ _ _ _ _ _ _ _)
   | (with_reducible exact ih2 _ _ _)
   | (with_reducible exact impl_GameLengths.mono _ _ _ _ _)
   | (with_reducible exact laws_eqBoard.mono _ _ _ _ _ _ _ _ _)
   | (with_reducible exact laws_eqIntS.mono _ _ _)
   | (with_reducible exact laws_heldIntS.mono _ _ _)
   | (with_reducible exact laws_markBoard.mono _ _ _ _ _ _)
   | (with_reducible exact laws_markIntS.mono _ _ _)
   | (with_reducible exact laws_toBoard.mono _ _ _ _ _)
   | (with_reducible exact spec_GameLengths.mono _ _ _ _ _)
   | (with_reducible exact LeO.refl _)
   | (with_reducible exact LeO.none _)
   | (with_reducible refine LeO.ite ?_ ?_)
   | (with_reducible refine LeO.bind ?_ (fun _ => ?_))
   | exact ih0 _ _ _ _ _ _ _ _ _ _ _ _ _
   | exact ih1 _ _ _ _ _ _ _ _
   | exact ih2 _ _ _
   | exact impl_GameLengths.mono _ _ _ _ _
   | exact laws_eqBoard.mono _ _ _ _ _ _ _ _ _
   | exact laws_eqIntS.mono _ _ _
   | exact laws_heldIntS.mono _ _ _
   | exact laws_markBoard.mono _ _ _ _ _ _
   | exact laws_markIntS.mono _ _ _
   | exact laws_toBoard.mono _ _ _ _ _
   | exact spec_GameLengths.mono _ _ _ _ _
   | exact LeO.none _
   | refine LeO.ite ?_ ?_
   | refine LeO.bind ?_ (fun _ => ?_)
  ·intro y0 y1 y2
   unfold laws_FnExactGameLengths.j2
   repeat' first
   | (with_reducible exact ih0 _ _ _ _ _ _ _ _ _ _ _ _ _)
   | (with_reducible exact ih1 _ _ _ _ _ _ _ _)
   | (with_reducible exact ih2 _ _ _)
   | (with_reducible exact impl_GameLengths.mono _ _ _ _ _)
   | (with_reducible exact laws_eqBoard.mono _ _ _ _ _ _ _ _ _)
   | (with_reducible exact laws_eqIntS.mono _ _ _)
   | (with_reducible exact laws_heldIntS.mono _ _ _)
   | (with_reducible exact laws_markBoard.mono _ _ _ _ _ _)
   | (with_reducible exact laws_markIntS.mono _ _ _)
   | (with_reducible exact laws_toBoard.mono _ _ _ _ _)
   | (with_reducible exact spec_GameLengths.mono _ _ _ _ _)
   | (with_reducible exact LeO.refl _)
   | (with_reducible exact LeO.none _)
   | (with_reducible refine LeO.ite ?_ ?_)
   | (with_reducible refine LeO.bind ?_ (fun _ => ?_))
   | exact ih0 _ _ _ _ _ _ _ _ _ _ _ _ _
   | exact ih1 _ _ _ _ _ _ _ _
   | exact ih2 _ _ _
   | exact impl_GameLengths.mono _ _ _ _ _
   | exact laws_eqBoard.mono _ _ _ _ _ _ _ _ _
   | exact laws_eqIntS.mono _ _ _
   | exact laws_heldIntS.mono _ _ _
   | exact laws_markBoard.mono _ _ _ _ _ _
   | exact laws_markIntS.mono _ _ _
   | exact laws_toBoard.mono _ _ _ _ _
   | exact spec_GameLengths.mono _ _ _ _ _
   | exact LeO.none _
   | refine LeO.ite ?_ ?_
   | refine LeO.bind ?_ (fun _ => ?_)
theorem laws_FnExactGameLengths.mono : ∀ a0 a1 a2 a3 k, LeO (laws_FnExactGameLengths.f k a0 a1 a2 a3) (laws_FnExactGameLengths.f (k + 1) a0 a1 a2 a3) := by
 intro a0 a1 a2 a3 k
 obtain ⟨ih0, ih1, ih2⟩ := laws_FnExactGameLengths.mono_l k
 unfold laws_FnExactGameLengths.f
 repeat' first
   | (with_reducible exact ih0 _ _ _ _ _ _ _ _ _ _ _ _ _)
   | (with_reducible exact ih1 _ _ _ _ _ _ _ _)
   | (with_reducible exact ih2 _ _ _)
   | (with_reducible exact impl_GameLengths.mono _ _ _ _ _)
   | (with_reducible exact laws_eqBoard.mono _ _ _ _ _ _ _ _ _)
   | (with_reducible exact laws_eqIntS.mono _ _ _)
   | (with_reducible exact laws_heldIntS.mono _ _ _)
   | (with_reducible exact laws_markBoard.mono _ _ _ _ _ _)
   | (with_reducible exact laws_markIntS.mono _ _ _)
   | (with_reducible exact laws_toBoard.mono _ _ _ _ _)
   | (with_reducible exact spec_GameLengths.mono _ _ _ _ _)
   | (with_reducible exact LeO.refl _)
   | (with_reducible exact LeO.none _)
   | (with_reducible refine LeO.ite ?_ ?_)
   | (with_reducible refine LeO.bind ?_ (fun _ => ?_))
   | exact ih0 _ _ _ _ _ _ _ _ _ _ _ _ _
   | exact ih1 _ _ _ _ _ _ _ _
   | exact ih2 _ _ _
   | exact impl_GameLengths.mono _ _ _ _ _
   | exact laws_eqBoard.mono _ _ _ _ _ _ _ _ _
   | exact laws_eqIntS.mono _ _ _
   | exact laws_heldIntS.mono _ _ _
   | exact laws_markBoard.mono _ _ _ _ _ _
   | exact laws_markIntS.mono _ _ _
   | exact laws_toBoard.mono _ _ _ _ _
   | exact spec_GameLengths.mono _ _ _ _ _
   | exact LeO.none _
   | refine LeO.ite ?_ ?_
   | refine LeO.bind ?_ (fun _ => ?_)
set_option maxHeartbeats 8000000 in
set_option maxRecDepth 100000 in
theorem laws_FnExactGameLengths.calls (k : Nat) (a0_0 : Int) (a0_1 : Int) (a0_2 : Int) (A0_3 : Option Addr) (c0_3 : Nat) (l0_3 : List (S72)) (r : Bool) (w : World) (hr0_3 : Kd.C k72 w A0_3 l0_3.length l0_3) (hc0_3 : l0_3.length ≤ c0_3) (h : laws_FnExactGameLengths.f k a0_0 a0_1 a0_2 l0_3 = some r) :
  Calls Try.prog 10 #[.agg #[.int .i64 a0_0, .int .i64 a0_1, .int .i64 a0_2, .slice A0_3 l0_3.length c0_3]] w fun e w' => e = .returned (.bool r) ∧ Below w.heap.size w w' := by
 have hu24 := Try.underlying24
 have hu30 := Try.underlying30
 have HR0_3 := Aside0.mk hr0_3
 have HC0_3 := Aside0.mk hc0_3
 clear hr0_3 hc0_3
 have HB := Aside0.mk (Below.refl w.heap.size w)
 have H : ((laws_szBoard.f a0_0 a0_1 a0_2 l0_3 1048576).bind fun t546 => (if t546 < 0 then (some true) else ((laws_toBoard.f k a0_0 a0_1 a0_2 l0_3).bind fun bt547 => ((spec_GameLengths.f k bt547.1 bt547.2.1 bt547.2.2.1 bt547.2.2.2).bind fun bt553 => ((laws_toBoard.f k a0_0 a0_1 a0_2 l0_3).bind fun bt557 => ((impl_GameLengths.f k bt557.1 bt557.2.1 bt557.2.2.1 bt557.2.2.2).bind fun bt564 => ((laws_eqIntS.f k bt564.1 bt553.1).bind fun t568 => (if t568 = true then (laws_FnExactGameLengths.j0 k bt553.1 bt553.2 bt564.1 bt564.2 (bt564.2 != bt553.2) a0_0 a0_1 a0_2 l0_3 bt557.1 bt557.2.1 bt557.2.2.1 bt557.2.2.2) else (laws_FnExactGameLengths.j0 k bt553.1 bt553.2 bt564.1 bt564.2 true a0_0 a0_1 a0_2 l0_3 bt557.1 bt557.2.1 bt557.2.2.1 bt557.2.2.2))))))))) = some r := h
 clear h
 replace H := Option.bind_eq_some_iff.mp H
 obtain ⟨t546, A20, H⟩ := H
 replace H : (if t546 < 0 then (some true) else ((laws_toBoard.f k a0_0 a0_1 a0_2 l0_3).bind fun bt547 => ((spec_GameLengths.f k bt547.1 bt547.2.1 bt547.2.2.1 bt547.2.2.2).bind fun bt553 => ((laws_toBoard.f k a0_0 a0_1 a0_2 l0_3).bind fun bt557 => ((impl_GameLengths.f k bt557.1 bt557.2.1 bt557.2.2.1 bt557.2.2.2).bind fun bt564 => ((laws_eqIntS.f k bt564.1 bt553.1).bind fun t568 => (if t568 = true then (laws_FnExactGameLengths.j0 k bt553.1 bt553.2 bt564.1 bt564.2 (bt564.2 != bt553.2) a0_0 a0_1 a0_2 l0_3 bt557.1 bt557.2.1 bt557.2.2.1 bt557.2.2.2) else (laws_FnExactGameLengths.j0 k bt553.1 bt553.2 bt564.1 bt564.2 true a0_0 a0_1 a0_2 l0_3 bt557.1 bt557.2.1 bt557.2.2.1 bt557.2.2.2)))))))) = some r := H
 have A2 := Aside0.mk A20
 clear A20
 by_cases c3 : t546 < 0
 ·rw [if_pos c3] at H
  have c3b0 : decide (t546 < 0) = true := decide_eq_true c3
  clear c3
  obtain rfl := Option.some.inj H
  go_enter Try.func10, Try.ntmps10
  go_wp2_with (first | ((with_reducible refine gate_dst (N := 1) rfl ?_); refine box_event ?hg (N := 1) ?hd (cs := #[.int .i64 a0_0, .int .i64 a0_1, .int .i64 a0_2, .slice A0_3 l0_3.length c0_3]) (t := 24) ?hr ?_; (case hd => rfl); (case hg => rfl); (case hr => first | (go_simp; done) | (go_simp; rfl)); intro gb545 hg w4 hbox hb; have n0_ := Aside0.mk (below_step hb_ hb); have n1_ := Aside0.mk (hbox); have n2_ := Aside0.mk ((by rw [hg]; exact (below_size hb_) : w.heap.size ≤ gb545)); have n3_ := Aside0.mk ((by rw [hg]; exact (below_size hb_) : w.heap.size ≤ gb545)); clear HB; have HB := n0_; have BK545 := n1_; have GW545 := n2_; have GE545 := n3_; clear n0_ n1_ n2_ n3_; clear hb hbox hg; have hcz5_0 : w4.cell? ⟨gb545, 0, none⟩ = some (.int .i64 a0_0) := (blk_cell BK545.out 0).trans rfl; have hcz5_1 : w4.cell? ⟨gb545, 1, none⟩ = some (.int .i64 a0_1) := (blk_cell BK545.out 1).trans rfl; have hcz5_2 : w4.cell? ⟨gb545, 2, none⟩ = some (.int .i64 a0_2) := (blk_cell BK545.out 2).trans rfl; have hcz5_3 : w4.cell? ⟨gb545, 3, none⟩ = some (.slice A0_3 l0_3.length c0_3) := (blk_cell BK545.out 3).trans rfl; have hfz5_0 := blk_frozen BK545.out 0; have hfz5_1 := blk_frozen BK545.out 1; have hfz5_2 := blk_frozen BK545.out 2; have hfz5_3 := blk_frozen BK545.out 3) | ((with_reducible refine gate_callee (f := 14) rfl ?_); refine goesL_ (some 16) rfl rfl Try.func14 (by kernel_rfl) rfl #[.agg #[.int .i64 a0_0, .int .i64 a0_1, .int .i64 a0_2, .slice A0_3 l0_3.length c0_3], .int .i64 1048576] rfl (by (try simp only [List.map_toArray, List.map_cons, List.map_nil]); first | done | rfl | (simp only [List.length_drop, List.length_take]; rfl)) ?_; (with_reducible refine (laws_szBoard.calls a0_0 a0_1 a0_2 _ _ l0_3 1048576 t546 _ ?side1 ?side2 A2.out).mono ?_); (case side1 => exact Kd.C_below HR0_3.out hb_); (case side2 => exact HC0_3.out); rintro e w6 ⟨rfl, hb⟩; refine ⟨_, rfl, ?_⟩; have n0_ := Aside0.mk (blk_below (g := gb545) (o := .cells #[.int .i64 a0_0, .int .i64 a0_1, .int .i64 a0_2, .slice A0_3 l0_3.length c0_3] 24 (0, 0)) (by (with_reducible repeat (first | refine blk_drewN ?_ _ | refine blk_drew ?_ | refine blk_alloc ?_ _)); exact BK545.out) hb); have n1_ := Aside0.mk (below_step hb_ hb); clear BK545; clear HB; have BK545 := n0_; have HB := n1_; clear n0_ n1_; (try clear hb); (try clear hb2); (try clear hk); (try clear hi)))
  go_ret
  exact ⟨by first | rfl | (simp [errW_none, errW_some] <;> rfl) | (simp [*, errW_none, errW_some] <;> rfl), hb_⟩
 ·rw [if_neg c3] at H
  have c3b0 : decide (t546 < 0) = false := decide_eq_false c3
  clear c3
  replace H := Option.bind_eq_some_iff.mp H
  obtain ⟨⟨t547, t548, t549, t550⟩, A70, H⟩ := H
  replace H : ((spec_GameLengths.f k t547 t548 t549 t550).bind fun bt553 => ((laws_toBoard.f k a0_0 a0_1 a0_2 l0_3).bind fun bt557 => ((impl_GameLengths.f k bt557.1 bt557.2.1 bt557.2.2.1 bt557.2.2.2).bind fun bt564 => ((laws_eqIntS.f k bt564.1 bt553.1).bind fun t568 => (if t568 = true then (laws_FnExactGameLengths.j0 k bt553.1 bt553.2 bt564.1 bt564.2 (bt564.2 != bt553.2) a0_0 a0_1 a0_2 l0_3 bt557.1 bt557.2.1 bt557.2.2.1 bt557.2.2.2) else (laws_FnExactGameLengths.j0 k bt553.1 bt553.2 bt564.1 bt564.2 true a0_0 a0_1 a0_2 l0_3 bt557.1 bt557.2.1 bt557.2.2.1 bt557.2.2.2)))))) = some r := H
  have A7 := Aside0.mk A70
  clear A70
  replace H := Option.bind_eq_some_iff.mp H
  obtain ⟨⟨t553, t556⟩, A80, H⟩ := H
  replace H : ((laws_toBoard.f k a0_0 a0_1 a0_2 l0_3).bind fun bt557 => ((impl_GameLengths.f k bt557.1 bt557.2.1 bt557.2.2.1 bt557.2.2.2).bind fun bt564 => ((laws_eqIntS.f k bt564.1 t553).bind fun t568 => (if t568 = true then (laws_FnExactGameLengths.j0 k t553 t556 bt564.1 bt564.2 (bt564.2 != t556) a0_0 a0_1 a0_2 l0_3 bt557.1 bt557.2.1 bt557.2.2.1 bt557.2.2.2) else (laws_FnExactGameLengths.j0 k t553 t556 bt564.1 bt564.2 true a0_0 a0_1 a0_2 l0_3 bt557.1 bt557.2.1 bt557.2.2.1 bt557.2.2.2))))) = some r := H
  have A8 := Aside0.mk A80
  clear A80
  replace H := Option.bind_eq_some_iff.mp H
  obtain ⟨⟨t557, t558, t559, t560⟩, A90, H⟩ := H
  replace H : ((impl_GameLengths.f k t557 t558 t559 t560).bind fun bt564 => ((laws_eqIntS.f k bt564.1 t553).bind fun t568 => (if t568 = true then (laws_FnExactGameLengths.j0 k t553 t556 bt564.1 bt564.2 (bt564.2 != t556) a0_0 a0_1 a0_2 l0_3 t557 t558 t559 t560) else (laws_FnExactGameLengths.j0 k t553 t556 bt564.1 bt564.2 true a0_0 a0_1 a0_2 l0_3 t557 t558 t559 t560)))) = some r := H
  have A9 := Aside0.mk A90
  clear A90
  replace H := Option.bind_eq_some_iff.mp H
  obtain ⟨⟨t564, t567⟩, A100, H⟩ := H
  replace H : ((laws_eqIntS.f k t564 t553).bind fun t568 => (if t568 = true then (laws_FnExactGameLengths.j0 k t553 t556 t564 t567 (t567 != t556) a0_0 a0_1 a0_2 l0_3 t557 t558 t559 t560) else (laws_FnExactGameLengths.j0 k t553 t556 t564 t567 true a0_0 a0_1 a0_2 l0_3 t557 t558 t559 t560))) = some r := H
  have A10 := Aside0.mk A100
  clear A100
  have HC11 := Aside0.mk H
  clear H
  go_enter Try.func10, Try.ntmps10
  go_upto_region 8 with (first | ((with_reducible refine gate_dst (N := 1) rfl ?_); refine box_event ?hg (N := 1) ?hd (cs := #[.int .i64 a0_0, .int .i64 a0_1, .int .i64 a0_2, .slice A0_3 l0_3.length c0_3]) (t := 24) ?hr ?_; (case hd => rfl); (case hg => rfl); (case hr => first | (go_simp; done) | (go_simp; rfl)); intro gb545 hg w12 hbox hb; have n0_ := Aside0.mk (below_step hb_ hb); have n1_ := Aside0.mk (hbox); have n2_ := Aside0.mk ((by rw [hg]; exact (below_size hb_) : w.heap.size ≤ gb545)); have n3_ := Aside0.mk ((by rw [hg]; exact (below_size hb_) : w.heap.size ≤ gb545)); clear HB; have HB := n0_; have BK545 := n1_; have GW545 := n2_; have GE545 := n3_; clear n0_ n1_ n2_ n3_; clear hb hbox hg; have hcz13_0 : w12.cell? ⟨gb545, 0, none⟩ = some (.int .i64 a0_0) := (blk_cell BK545.out 0).trans rfl; have hcz13_1 : w12.cell? ⟨gb545, 1, none⟩ = some (.int .i64 a0_1) := (blk_cell BK545.out 1).trans rfl; have hcz13_2 : w12.cell? ⟨gb545, 2, none⟩ = some (.int .i64 a0_2) := (blk_cell BK545.out 2).trans rfl; have hcz13_3 : w12.cell? ⟨gb545, 3, none⟩ = some (.slice A0_3 l0_3.length c0_3) := (blk_cell BK545.out 3).trans rfl; have hfz13_0 := blk_frozen BK545.out 0; have hfz13_1 := blk_frozen BK545.out 1; have hfz13_2 := blk_frozen BK545.out 2; have hfz13_3 := blk_frozen BK545.out 3) | ((with_reducible refine gate_callee (f := 14) rfl ?_); refine goesL_ (some 16) rfl rfl Try.func14 (by kernel_rfl) rfl #[.agg #[.int .i64 a0_0, .int .i64 a0_1, .int .i64 a0_2, .slice A0_3 l0_3.length c0_3], .int .i64 1048576] rfl (by (try simp only [List.map_toArray, List.map_cons, List.map_nil]); first | done | rfl | (simp only [List.length_drop, List.length_take]; rfl)) ?_; (with_reducible refine (laws_szBoard.calls a0_0 a0_1 a0_2 _ _ l0_3 1048576 t546 _ ?side1 ?side2 A2.out).mono ?_); (case side1 => exact Kd.C_below HR0_3.out hb_); (case side2 => exact HC0_3.out); rintro e w14 ⟨rfl, hb⟩; refine ⟨_, rfl, ?_⟩; have n0_ := Aside0.mk (blk_below (g := gb545) (o := .cells #[.int .i64 a0_0, .int .i64 a0_1, .int .i64 a0_2, .slice A0_3 l0_3.length c0_3] 24 (0, 0)) (by (with_reducible repeat (first | refine blk_drewN ?_ _ | refine blk_drew ?_ | refine blk_alloc ?_ _)); exact BK545.out) hb); have n1_ := Aside0.mk (below_step hb_ hb); clear BK545; clear HB; have BK545 := n0_; have HB := n1_; clear n0_ n1_; (try clear hb); (try clear hb2); (try clear hk); (try clear hi); have hcz15_0 : w14.cell? ⟨gb545, 0, none⟩ = some (.int .i64 a0_0) := (blk_cell BK545.out 0).trans rfl; have hcz15_1 : w14.cell? ⟨gb545, 1, none⟩ = some (.int .i64 a0_1) := (blk_cell BK545.out 1).trans rfl; have hcz15_2 : w14.cell? ⟨gb545, 2, none⟩ = some (.int .i64 a0_2) := (blk_cell BK545.out 2).trans rfl; have hcz15_3 : w14.cell? ⟨gb545, 3, none⟩ = some (.slice A0_3 l0_3.length c0_3) := (blk_cell BK545.out 3).trans rfl; have hfz15_0 := blk_frozen BK545.out 0; have hfz15_1 := blk_frozen BK545.out 1; have hfz15_2 := blk_frozen BK545.out 2; have hfz15_3 := blk_frozen BK545.out 3) | ((with_reducible refine gate_callee (f := 16) rfl ?_); refine goesL_ (some 21) rfl rfl Try.func16 (by kernel_rfl) rfl #[.agg #[.int .i64 a0_0, .int .i64 a0_1, .int .i64 a0_2, .slice A0_3 l0_3.length c0_3]] rfl (by (try simp only [List.map_toArray, List.map_cons, List.map_nil]); first | done | rfl | (simp only [List.length_drop, List.length_take]; rfl)) ?_; (with_reducible refine (laws_toBoard.calls k a0_0 a0_1 a0_2 _ _ l0_3 t547 t548 t549 t550 _ ?side1 ?side2 A7.out).mono ?_); (case side1 => exact Kd.C_below HR0_3.out hb_); (case side2 => exact HC0_3.out); rintro e w16 ⟨v551, rfl, ho0, hb⟩; refine ⟨_, rfl, ?_⟩; have n0_ := Aside0.mk (Kd.R_lower ho0 (below_size hb_)); have n1_ := Aside0.mk (blk_below (g := gb545) (o := .cells #[.int .i64 a0_0, .int .i64 a0_1, .int .i64 a0_2, .slice A0_3 l0_3.length c0_3] 24 (0, 0)) (by (with_reducible repeat (first | refine blk_drewN ?_ _ | refine blk_drew ?_ | refine blk_alloc ?_ _)); exact BK545.out) hb); have n2_ := Aside0.mk (below_step hb_ hb); clear BK545; clear HB; have HO552 := n0_; have BK545 := n1_; have HB := n2_; clear n0_ n1_ n2_; (try clear hb); (try clear hb2); (try clear hk); (try clear hi); (try clear ho0); obtain ⟨Ao17, co17, eo17⟩ := Kd.R_slice HO552.out; subst eo17) | ((with_reducible refine gate_callee (f := 36) rfl ?_); refine goesL_ (some 22) rfl rfl Try.func36 (by kernel_rfl) rfl #[.agg #[.int .i64 t547, .int .i64 t548, .int .i64 t549, .slice Ao17 t550.length co17]] rfl (by (try simp only [List.map_toArray, List.map_cons, List.map_nil]); first | done | rfl | (simp only [List.length_drop, List.length_take]; rfl)) ?_; (with_reducible refine (spec_GameLengths.calls k t547 t548 t549 _ _ t550 t553 t556 _ ?side1 ?side2 A8.out).mono ?_); (case side1 => repeat (first | exact (Kd.R_reads' HO552.out).2.2 | (with_reducible refine Kd.C_alloc ?_ _) | (with_reducible refine Kd.C_drewN ?_ _) | (with_reducible refine Kd.C_drew ?_))); (case side2 => exact (Kd.R_reads' HO552.out).2.1); rintro e w18 ⟨v554, rfl, ho0, hb⟩; refine ⟨_, rfl, ?_⟩; have n0_ := Aside0.mk (Kd.R_below (by (with_reducible repeat (first | apply Kd.R_alloc | apply Kd.R_drewN | apply Kd.R_drew)); exact HO552.out) hb); have n1_ := Aside0.mk (Kd.R_lower ho0 (below_size hb_)); have n2_ := Aside0.mk (blk_below (g := gb545) (o := .cells #[.int .i64 a0_0, .int .i64 a0_1, .int .i64 a0_2, .slice A0_3 l0_3.length c0_3] 24 (0, 0)) (by (with_reducible repeat (first | refine blk_drewN ?_ _ | refine blk_drew ?_ | refine blk_alloc ?_ _)); exact BK545.out) hb); have n3_ := Aside0.mk (below_step hb_ hb); clear HO552; clear BK545; clear HB; have HO552 := n0_; have HO555 := n1_; have BK545 := n2_; have HB := n3_; clear n0_ n1_ n2_ n3_; (try clear hb); (try clear hb2); (try clear hk); (try clear hi); (try clear ho0); have hcz19_0 : w18.cell? ⟨gb545, 0, none⟩ = some (.int .i64 a0_0) := (blk_cell BK545.out 0).trans rfl; have hcz19_1 : w18.cell? ⟨gb545, 1, none⟩ = some (.int .i64 a0_1) := (blk_cell BK545.out 1).trans rfl; have hcz19_2 : w18.cell? ⟨gb545, 2, none⟩ = some (.int .i64 a0_2) := (blk_cell BK545.out 2).trans rfl; have hcz19_3 : w18.cell? ⟨gb545, 3, none⟩ = some (.slice A0_3 l0_3.length c0_3) := (blk_cell BK545.out 3).trans rfl; have hfz19_0 := blk_frozen BK545.out 0; have hfz19_1 := blk_frozen BK545.out 1; have hfz19_2 := blk_frozen BK545.out 2; have hfz19_3 := blk_frozen BK545.out 3) | ((with_reducible refine gate_callee (f := 16) rfl ?_); refine goesL_ (some 26) rfl rfl Try.func16 (by kernel_rfl) rfl #[.agg #[.int .i64 a0_0, .int .i64 a0_1, .int .i64 a0_2, .slice A0_3 l0_3.length c0_3]] rfl (by (try simp only [List.map_toArray, List.map_cons, List.map_nil]); first | done | rfl | (simp only [List.length_drop, List.length_take]; rfl)) ?_; (with_reducible refine (laws_toBoard.calls k a0_0 a0_1 a0_2 _ _ l0_3 t557 t558 t559 t560 _ ?side1 ?side2 A9.out).mono ?_); (case side1 => exact Kd.C_below HR0_3.out hb_); (case side2 => exact HC0_3.out); rintro e w20 ⟨v561, rfl, ho0, hb⟩; refine ⟨_, rfl, ?_⟩; have n0_ := Aside0.mk (Kd.R_elder' (by (with_reducible repeat (first | apply Kd.R_alloc | apply Kd.R_drewN | apply Kd.R_drew)); exact HO552.out) (Kd.R_base ho0) hb); have n1_ := Aside0.mk (Kd.R_below (by (with_reducible repeat (first | apply Kd.R_alloc | apply Kd.R_drewN | apply Kd.R_drew)); exact HO555.out) hb); have n2_ := Aside0.mk (Kd.R_lower (Kd.R_new' ho0 (Kd.R_lt (by (with_reducible repeat (first | apply Kd.R_alloc | apply Kd.R_drewN | apply Kd.R_drew)); exact HO552.out))) (below_size hb_)); have n3_ := Aside0.mk (blk_below (g := gb545) (o := .cells #[.int .i64 a0_0, .int .i64 a0_1, .int .i64 a0_2, .slice A0_3 l0_3.length c0_3] 24 (0, 0)) (by (with_reducible repeat (first | refine blk_drewN ?_ _ | refine blk_drew ?_ | refine blk_alloc ?_ _)); exact BK545.out) hb); have n4_ := Aside0.mk (below_step hb_ hb); clear HO552; clear HO555; clear BK545; clear HB; have HO552 := n0_; have HO555 := n1_; have HO562 := n2_; have BK545 := n3_; have HB := n4_; clear n0_ n1_ n2_ n3_ n4_; (try clear hb); (try clear hb2); (try clear hk); (try clear hi); (try clear ho0)) | ((with_reducible refine gate_dst (N := 6) rfl ?_); refine box_event ?hg (N := 6) ?hd (cs := #[.int .i64 0, .int .i64 0, .int .i64 0, .slice none 0 0]) (t := 30) ?hr ?_; (case hd => rfl); (case hg => rfl); (case hr => first | (go_simp; done) | (go_simp; rfl)); intro gb563 hg w21 hbox hb; have n0_ := Aside0.mk (Kd.R_below (by (with_reducible repeat (first | apply Kd.R_alloc | apply Kd.R_drewN | apply Kd.R_drew)); exact HO552.out) hb); have n1_ := Aside0.mk (Kd.R_below (by (with_reducible repeat (first | apply Kd.R_alloc | apply Kd.R_drewN | apply Kd.R_drew)); exact HO555.out) hb); have n2_ := Aside0.mk (Kd.R_below (by (with_reducible repeat (first | apply Kd.R_alloc | apply Kd.R_drewN | apply Kd.R_drew)); exact HO562.out) hb); have n3_ := Aside0.mk (blk_below (g := gb545) (o := .cells #[.int .i64 a0_0, .int .i64 a0_1, .int .i64 a0_2, .slice A0_3 l0_3.length c0_3] 24 (0, 0)) (by (with_reducible repeat (first | refine blk_drewN ?_ _ | refine blk_drew ?_ | refine blk_alloc ?_ _)); exact BK545.out) hb); have n4_ := Aside0.mk (below_step hb_ hb); have n5_ := Aside0.mk (hbox); have n6_ := Aside0.mk ((by rw [hg]; exact (below_size hb_) : w.heap.size ≤ gb563)); have n7_ := Aside0.mk ((by rw [hg]; exact (below_size hb_) : w.heap.size ≤ gb563)); have n8_ := Aside0.mk ((by rw [hg]; exact Nat.ne_of_lt (blk_lt (g := gb545) (o := .cells #[.int .i64 a0_0, .int .i64 a0_1, .int .i64 a0_2, .slice A0_3 l0_3.length c0_3] 24 (0, 0)) (by (with_reducible repeat (first | refine blk_drewN ?_ _ | refine blk_drew ?_ | refine blk_alloc ?_ _)); exact BK545.out)) : gb545 ≠ gb563)); have n9_ := Aside0.mk ((by rw [hg]; exact Nat.ne_of_gt (blk_lt (g := gb545) (o := .cells #[.int .i64 a0_0, .int .i64 a0_1, .int .i64 a0_2, .slice A0_3 l0_3.length c0_3] 24 (0, 0)) (by (with_reducible repeat (first | refine blk_drewN ?_ _ | refine blk_drew ?_ | refine blk_alloc ?_ _)); exact BK545.out)) : gb563 ≠ gb545)); clear HO552; clear HO555; clear HO562; clear BK545; clear HB; have HO552 := n0_; have HO555 := n1_; have HO562 := n2_; have BK545 := n3_; have HB := n4_; have BK563 := n5_; have GW563 := n6_; have GE563 := n7_; have NB545_563 := n8_; have NB563_545 := n9_; clear n0_ n1_ n2_ n3_ n4_ n5_ n6_ n7_ n8_ n9_; clear hb hbox hg; have hnb22 := NB563_545.out; have hnc22 := NB545_563.out; have hcz23_0 : w21.cell? ⟨gb563, 0, none⟩ = some (.int .i64 0) := (blk_cell BK563.out 0).trans rfl; have hcz23_1 : w21.cell? ⟨gb563, 1, none⟩ = some (.int .i64 0) := (blk_cell BK563.out 1).trans rfl; have hcz23_2 : w21.cell? ⟨gb563, 2, none⟩ = some (.int .i64 0) := (blk_cell BK563.out 2).trans rfl; have hcz23_3 : w21.cell? ⟨gb563, 3, none⟩ = some (.slice none 0 0) := (blk_cell BK563.out 3).trans rfl; have hfz23_0 := blk_frozen BK563.out 0; have hfz23_1 := blk_frozen BK563.out 1; have hfz23_2 := blk_frozen BK563.out 2; have hfz23_3 := blk_frozen BK563.out 3; obtain ⟨Ao24, co24, eo24⟩ := Kd.R_slice HO562.out; subst eo24) | ((with_reducible refine gate_callee (f := 37) rfl ?_); refine goesL_ (some 29) rfl rfl Try.func37 (by kernel_rfl) rfl #[.agg #[.int .i64 t557, .int .i64 t558, .int .i64 t559, .slice Ao24 t560.length co24]] rfl (by (try simp only [List.map_toArray, List.map_cons, List.map_nil]); first | done | rfl | (simp only [List.length_drop, List.length_take]; rfl)) ?_; (with_reducible refine (impl_GameLengths.calls k t557 t558 t559 _ _ t560 t564 t567 _ ?side1 ?side2 A10.out).mono ?_); (case side1 => refine (Kd.R_reads' (e := 70) (base := w.heap.size) (ok := fun k_ => (True ∧ some k_ ≠ (.slice Ao17 t550.length co17 : Value).ownBlock)) (n := t560.length) (c := co24) ?_).2.2; exact (by (with_reducible repeat (first | apply Kd.R_alloc | apply Kd.R_drewN | apply Kd.R_drew)); exact (Kd.R_mono (Kd.R_far (p := ⟨gb563, 3, none⟩) (Kd.R_far (p := ⟨gb563, 2, none⟩) (Kd.R_far (p := ⟨gb563, 1, none⟩) (Kd.R_far (p := ⟨gb563, 0, none⟩) (Kd.R_types HO562.out BK563.out (by decide)) (fun _ hk => hk.2) (.int .i64 t557)) (fun _ hk => hk.2) (.int .i64 t558)) (fun _ hk => hk.2) (.int .i64 t559)) (fun _ hk => hk.2) (.slice Ao24 t560.length co24)) (fun _ h_ => h_.1)))); (case side2 => exact (Kd.R_reads' HO562.out).2.1); rintro e w25 ⟨v565, rfl, ho0, hb⟩; refine ⟨_, rfl, ?_⟩; have n0_ := Aside0.mk (Kd.R_below (by (with_reducible repeat (first | apply Kd.R_alloc | apply Kd.R_drewN | apply Kd.R_drew)); exact (Kd.R_mono (Kd.R_far (p := ⟨gb563, 3, none⟩) (Kd.R_far (p := ⟨gb563, 2, none⟩) (Kd.R_far (p := ⟨gb563, 1, none⟩) (Kd.R_far (p := ⟨gb563, 0, none⟩) (Kd.R_types HO552.out BK563.out (by decide)) (fun _ hk => hk.2) (.int .i64 t557)) (fun _ hk => hk.2) (.int .i64 t558)) (fun _ hk => hk.2) (.int .i64 t559)) (fun _ hk => hk.2) (.slice Ao24 t560.length co24)) (fun _ h_ => h_.1))) hb); have n1_ := Aside0.mk (Kd.R_elder' (by (with_reducible repeat (first | apply Kd.R_alloc | apply Kd.R_drewN | apply Kd.R_drew)); exact (Kd.R_mono (Kd.R_far (p := ⟨gb563, 3, none⟩) (Kd.R_far (p := ⟨gb563, 2, none⟩) (Kd.R_far (p := ⟨gb563, 1, none⟩) (Kd.R_far (p := ⟨gb563, 0, none⟩) (Kd.R_types HO555.out BK563.out (by decide)) (fun _ hk => hk.2) (.int .i64 t557)) (fun _ hk => hk.2) (.int .i64 t558)) (fun _ hk => hk.2) (.int .i64 t559)) (fun _ hk => hk.2) (.slice Ao24 t560.length co24)) (fun _ h_ => h_.1))) (Kd.R_base ho0) hb); have n2_ := Aside0.mk (Kd.R_below (by (with_reducible repeat (first | apply Kd.R_alloc | apply Kd.R_drewN | apply Kd.R_drew)); exact (Kd.R_mono (Kd.R_far (p := ⟨gb563, 3, none⟩) (Kd.R_far (p := ⟨gb563, 2, none⟩) (Kd.R_far (p := ⟨gb563, 1, none⟩) (Kd.R_far (p := ⟨gb563, 0, none⟩) (Kd.R_types HO562.out BK563.out (by decide)) (fun _ hk => hk.2) (.int .i64 t557)) (fun _ hk => hk.2) (.int .i64 t558)) (fun _ hk => hk.2) (.int .i64 t559)) (fun _ hk => hk.2) (.slice Ao24 t560.length co24)) (fun _ h_ => h_.1))) hb); have n3_ := Aside0.mk (Kd.R_lower (Kd.R_new' ho0 (Kd.R_lt (by (with_reducible repeat (first | apply Kd.R_alloc | apply Kd.R_drewN | apply Kd.R_drew)); exact (Kd.R_mono (Kd.R_far (p := ⟨gb563, 3, none⟩) (Kd.R_far (p := ⟨gb563, 2, none⟩) (Kd.R_far (p := ⟨gb563, 1, none⟩) (Kd.R_far (p := ⟨gb563, 0, none⟩) (Kd.R_types HO555.out BK563.out (by decide)) (fun _ hk => hk.2) (.int .i64 t557)) (fun _ hk => hk.2) (.int .i64 t558)) (fun _ hk => hk.2) (.int .i64 t559)) (fun _ hk => hk.2) (.slice Ao24 t560.length co24)) (fun _ h_ => h_.1))))) (below_size hb_)); have n4_ := Aside0.mk (blk_below (g := gb545) (o := .cells #[.int .i64 a0_0, .int .i64 a0_1, .int .i64 a0_2, .slice A0_3 l0_3.length c0_3] 24 (0, 0)) (by (with_reducible repeat (first | refine blk_drewN ?_ _ | refine blk_drew ?_ | refine blk_alloc ?_ _)); refine blk_far ?_ NB545_563.out _; (with_reducible repeat (first | refine blk_drewN ?_ _ | refine blk_drew ?_ | refine blk_alloc ?_ _)); refine blk_far ?_ NB545_563.out _; (with_reducible repeat (first | refine blk_drewN ?_ _ | refine blk_drew ?_ | refine blk_alloc ?_ _)); refine blk_far ?_ NB545_563.out _; (with_reducible repeat (first | refine blk_drewN ?_ _ | refine blk_drew ?_ | refine blk_alloc ?_ _)); refine blk_far ?_ NB545_563.out _; (with_reducible repeat (first | refine blk_drewN ?_ _ | refine blk_drew ?_ | refine blk_alloc ?_ _)); exact BK545.out) hb); have n5_ := Aside0.mk (blk_below (g := gb563) (o := .cells #[.int .i64 t557, .int .i64 t558, .int .i64 t559, .slice Ao24 t560.length co24] 30 (0, 0)) (by (with_reducible repeat (first | refine blk_drewN ?_ _ | refine blk_drew ?_ | refine blk_alloc ?_ _)); refine blk_put (cs := #[.int .i64 t557, .int .i64 t558, .int .i64 t559, .slice none 0 0]) ?_ 3 _ rfl; (with_reducible repeat (first | refine blk_drewN ?_ _ | refine blk_drew ?_ | refine blk_alloc ?_ _)); refine blk_put (cs := #[.int .i64 t557, .int .i64 t558, .int .i64 0, .slice none 0 0]) ?_ 2 _ rfl; (with_reducible repeat (first | refine blk_drewN ?_ _ | refine blk_drew ?_ | refine blk_alloc ?_ _)); refine blk_put (cs := #[.int .i64 t557, .int .i64 0, .int .i64 0, .slice none 0 0]) ?_ 1 _ rfl; (with_reducible repeat (first | refine blk_drewN ?_ _ | refine blk_drew ?_ | refine blk_alloc ?_ _)); refine blk_put (cs := #[.int .i64 0, .int .i64 0, .int .i64 0, .slice none 0 0]) ?_ 0 _ rfl; (with_reducible repeat (first | refine blk_drewN ?_ _ | refine blk_drew ?_ | refine blk_alloc ?_ _)); exact BK563.out) hb); have n6_ := Aside0.mk (below_step hb_ hb); clear HO552; clear HO555; clear HO562; clear BK545; clear BK563; clear HB; have HO552 := n0_; have HO555 := n1_; have HO562 := n2_; have HO566 := n3_; have BK545 := n4_; have BK563 := n5_; have HB := n6_; clear n0_ n1_ n2_ n3_ n4_ n5_ n6_; (try clear hb); (try clear hb2); (try clear hk); (try clear hi); (try clear ho0)))
  (try simp only [Act.put, List.setIfInBounds_toArray, List.set_cons_zero, List.set_cons_succ])
  go_cut [40] (fun v40 wc => ∃ (kq : Nat) (x40_10 : Bool), v40 = .bool x40_10 ∧ Aside0 (laws_FnExactGameLengths.j0 kq t553 t556 t564 t567 x40_10 a0_0 a0_1 a0_2 l0_3 t557 t558 t559 t560 = some r) ∧ Aside0 (kq ≤ k) ∧ Aside0 (Kd.R (Kd.int .i64) 3 wc w.heap.size (fun k_ => some k_ ≠ (v565 : Value).ownBlock) v554 t553) ∧ Aside0 (Kd.R (Kd.int .i64) 3 wc w.heap.size (fun k_ => some k_ ≠ (v554 : Value).ownBlock) v565 t564) ∧ Aside0 (Kd.R k70 70 wc w.heap.size (fun _ => True) (.slice Ao24 t560.length co24) t560) ∧ Aside0 (wc.heap[gb545]? = some (.cells #[.int .i64 a0_0, .int .i64 a0_1, .int .i64 a0_2, (.slice A0_3 l0_3.length c0_3)] 24 (0, 0))) ∧ Aside0 (wc.heap[gb563]? = some (.cells #[.int .i64 t557, .int .i64 t558, .int .i64 t559, (.slice Ao24 t560.length co24)] 30 (0, 0))) ∧ Aside0 (Below w.heap.size w wc))
  case first =>
   have H := HC11.out
   clear HC11
   replace H := Option.bind_eq_some_iff.mp H
   obtain ⟨t568, A260, H⟩ := H
   replace H : (if t568 = true then (laws_FnExactGameLengths.j0 k t553 t556 t564 t567 (t567 != t556) a0_0 a0_1 a0_2 l0_3 t557 t558 t559 t560) else (laws_FnExactGameLengths.j0 k t553 t556 t564 t567 true a0_0 a0_1 a0_2 l0_3 t557 t558 t559 t560)) = some r := H
   have A26 := Aside0.mk A260
   clear A260
   by_cases c27 : t568 = true
   ·subst c27
    have H1 : (laws_FnExactGameLengths.j0 k t553 t556 t564 t567 (t567 != t556) a0_0 a0_1 a0_2 l0_3 t557 t558 t559 t560) = some r := by rw [if_pos rfl] at H; exact H
    clear H
    have H := H1
    clear H1
    have H' := Aside0.mk H
    clear H
    obtain ⟨Ao28, co28, eo28⟩ := Kd.R_slice HO566.out
    subst eo28
    obtain ⟨Ao29, co29, eo29⟩ := Kd.R_slice HO555.out
    subst eo29
    go_wp2_with (first | ((with_reducible refine gate_callee (f := 24) rfl ?_); refine goesL_ (some 34) rfl rfl Try.func24 (by kernel_rfl) rfl #[.slice Ao28 t564.length co28, .slice Ao29 t553.length co29] rfl (by (try simp only [List.map_toArray, List.map_cons, List.map_nil]); first | done | rfl | (simp only [List.length_drop, List.length_take]; rfl)) ?_; (with_reducible refine (laws_eqIntS.calls k _ _ t564 _ _ t553 true _ ?side1 ?side2 ?side3 ?side4 A26.out).mono ?_); (case side1 => repeat (first | exact (Kd.R_reads' HO566.out).2.2 | (with_reducible refine Kd.C_alloc ?_ _) | (with_reducible refine Kd.C_drewN ?_ _) | (with_reducible refine Kd.C_drew ?_))); (case side2 => exact (Kd.R_reads' HO566.out).2.1); (case side3 => repeat (first | exact (Kd.R_reads' HO555.out).2.2 | (with_reducible refine Kd.C_alloc ?_ _) | (with_reducible refine Kd.C_drewN ?_ _) | (with_reducible refine Kd.C_drew ?_))); (case side4 => exact (Kd.R_reads' HO555.out).2.1); rintro e w' ⟨rfl, ⟨nd, rfl⟩⟩; refine ⟨_, rfl, ?_⟩))
    go_meet
    case rel => exact ⟨_, ((t567 != t556)), (by first | rfl | (simp; done) | (simp [*]; done)), H', ⟨by first | omega | exact Nat.le_refl _⟩, ⟨by (with_reducible repeat (first | apply Kd.R_alloc | apply Kd.R_drewN | apply Kd.R_drew)); exact Kd.R_mono HO555.out (fun _ hk => hk.2)⟩, ⟨by (with_reducible repeat (first | apply Kd.R_alloc | apply Kd.R_drewN | apply Kd.R_drew)); exact Kd.R_mono HO566.out (fun _ hk => hk.2)⟩, ⟨by (with_reducible repeat (first | apply Kd.R_alloc | apply Kd.R_drewN | apply Kd.R_drew)); exact Kd.R_mono HO562.out (fun _ hk => trivial)⟩, ⟨by (with_reducible repeat (first | refine blk_drewN ?_ _ | refine blk_drew ?_ | refine blk_alloc ?_ _)); exact BK545.out⟩, ⟨by (with_reducible repeat (first | refine blk_drewN ?_ _ | refine blk_drew ?_ | refine blk_alloc ?_ _)); exact BK563.out⟩, ⟨hb_⟩⟩
   ·replace c27 := Bool.eq_false_iff.mpr c27
    subst c27
    have H1 : (laws_FnExactGameLengths.j0 k t553 t556 t564 t567 true a0_0 a0_1 a0_2 l0_3 t557 t558 t559 t560) = some r := by rw [if_neg (show ¬ (false = true) by decide)] at H; exact H
    clear H
    have H := H1
    clear H1
    have H' := Aside0.mk H
    clear H
    obtain ⟨Ao30, co30, eo30⟩ := Kd.R_slice HO566.out
    subst eo30
    obtain ⟨Ao31, co31, eo31⟩ := Kd.R_slice HO555.out
    subst eo31
    go_wp2_with (first | ((with_reducible refine gate_callee (f := 24) rfl ?_); refine goesL_ (some 34) rfl rfl Try.func24 (by kernel_rfl) rfl #[.slice Ao30 t564.length co30, .slice Ao31 t553.length co31] rfl (by (try simp only [List.map_toArray, List.map_cons, List.map_nil]); first | done | rfl | (simp only [List.length_drop, List.length_take]; rfl)) ?_; (with_reducible refine (laws_eqIntS.calls k _ _ t564 _ _ t553 false _ ?side1 ?side2 ?side3 ?side4 A26.out).mono ?_); (case side1 => repeat (first | exact (Kd.R_reads' HO566.out).2.2 | (with_reducible refine Kd.C_alloc ?_ _) | (with_reducible refine Kd.C_drewN ?_ _) | (with_reducible refine Kd.C_drew ?_))); (case side2 => exact (Kd.R_reads' HO566.out).2.1); (case side3 => repeat (first | exact (Kd.R_reads' HO555.out).2.2 | (with_reducible refine Kd.C_alloc ?_ _) | (with_reducible refine Kd.C_drewN ?_ _) | (with_reducible refine Kd.C_drew ?_))); (case side4 => exact (Kd.R_reads' HO555.out).2.1); rintro e w' ⟨rfl, ⟨nd, rfl⟩⟩; refine ⟨_, rfl, ?_⟩))
    go_meet
    case rel => exact ⟨_, (true), (by first | rfl | (simp; done) | (simp [*]; done)), H', ⟨by first | omega | exact Nat.le_refl _⟩, ⟨by (with_reducible repeat (first | apply Kd.R_alloc | apply Kd.R_drewN | apply Kd.R_drew)); exact Kd.R_mono HO555.out (fun _ hk => hk.2)⟩, ⟨by (with_reducible repeat (first | apply Kd.R_alloc | apply Kd.R_drewN | apply Kd.R_drew)); exact Kd.R_mono HO566.out (fun _ hk => hk.2)⟩, ⟨by (with_reducible repeat (first | apply Kd.R_alloc | apply Kd.R_drewN | apply Kd.R_drew)); exact Kd.R_mono HO562.out (fun _ hk => trivial)⟩, ⟨by (with_reducible repeat (first | refine blk_drewN ?_ _ | refine blk_drew ?_ | refine blk_alloc ?_ _)); exact BK545.out⟩, ⟨by (with_reducible repeat (first | refine blk_drewN ?_ _ | refine blk_drew ?_ | refine blk_alloc ?_ _)); exact BK563.out⟩, ⟨hb_⟩⟩
  case rest =>
   clear HC11
   try clear c1
   try clear c2
   try clear p2
   try clear c3
   try clear c3b0
   try clear c10
   try clear c14
   try clear c16
   try clear c22
   try clear c24
   try clear c27
   try clear hcz13_0
   try clear hcz13_1
   try clear hcz13_2
   try clear hcz13_3
   try clear hcz15_0
   try clear hcz15_1
   try clear hcz15_2
   try clear hcz15_3
   try clear hcz19_0
   try clear hcz19_1
   try clear hcz19_2
   try clear hcz19_3
   try clear hcz23_0
   try clear hcz23_1
   try clear hcz23_2
   try clear hcz23_3
   try clear hcz5_0
   try clear hcz5_1
   try clear hcz5_2
   try clear hcz5_3
   try clear hfz13_0
   try clear hfz13_1
   try clear hfz13_2
   try clear hfz13_3
   try clear hfz15_0
   try clear hfz15_1
   try clear hfz15_2
   try clear hfz15_3
   try clear hfz19_0
   try clear hfz19_1
   try clear hfz19_2
   try clear hfz19_3
   try clear hfz23_0
   try clear hfz23_1
   try clear hfz23_2
   try clear hfz23_3
   try clear hfz5_0
   try clear hfz5_1
   try clear hfz5_2
   try clear hfz5_3
   obtain ⟨kq, x40_10, rfl, HA, HJ10, HO_4, HO_7, HO_564003, BK545, BK563, HB⟩ := hcut
   cases kq with
   | zero => exact absurd HA.out (by simp [laws_FnExactGameLengths.j0])
   | succ kj10 =>
    have H := HA.out
    clear HA
    simp only [laws_FnExactGameLengths.j0] at H
    by_cases c32 : x40_10 = true
    ·subst c32
     have H1 : (some false) = some r := by rw [if_pos rfl] at H; exact H
     clear H
     have H := H1
     clear H1
     obtain rfl := Option.some.inj H
     go_wp2
     go_ret
     exact ⟨by first | rfl | (simp [errW_none, errW_some] <;> rfl) | (simp [*, errW_none, errW_some] <;> rfl), hb_⟩
    ·replace c32 := Bool.eq_false_iff.mpr c32
     subst c32
     have H1 : ((laws_toBoard.f kj10 a0_0 a0_1 a0_2 l0_3).bind fun bt569 => ((laws_eqBoard.f kj10 t557 t558 t559 t560 bt569.1 bt569.2.1 bt569.2.2.1 bt569.2.2.2).bind fun t575 => (if t575 = true then ((laws_markBoard.f kj10 t557 t558 t559 t560 1).bind fun bt576 => (if bt576.1 < 0 then (laws_FnExactGameLengths.j1 kj10 t553 t556 t564 true a0_0 a0_1 a0_2 l0_3) else ((laws_eqIntS.f kj10 t564 t553).bind fun t578 => (if t578 = true then (laws_FnExactGameLengths.j1 kj10 t553 t556 t564 (t567 != t556) a0_0 a0_1 a0_2 l0_3) else (laws_FnExactGameLengths.j1 kj10 t553 t556 t564 true a0_0 a0_1 a0_2 l0_3))))) else (some false)))) = some r := by rw [if_neg (show ¬ (false = true) by decide)] at H; exact H
     clear H
     have H := H1
     clear H1
     replace H := Option.bind_eq_some_iff.mp H
     obtain ⟨⟨t569, t570, t571, t572⟩, A330, H⟩ := H
     replace H : ((laws_eqBoard.f kj10 t557 t558 t559 t560 t569 t570 t571 t572).bind fun t575 => (if t575 = true then ((laws_markBoard.f kj10 t557 t558 t559 t560 1).bind fun bt576 => (if bt576.1 < 0 then (laws_FnExactGameLengths.j1 kj10 t553 t556 t564 true a0_0 a0_1 a0_2 l0_3) else ((laws_eqIntS.f kj10 t564 t553).bind fun t578 => (if t578 = true then (laws_FnExactGameLengths.j1 kj10 t553 t556 t564 (t567 != t556) a0_0 a0_1 a0_2 l0_3) else (laws_FnExactGameLengths.j1 kj10 t553 t556 t564 true a0_0 a0_1 a0_2 l0_3))))) else (some false))) = some r := H
     have A33 := Aside0.mk A330
     clear A330
     replace H := Option.bind_eq_some_iff.mp H
     obtain ⟨t575, A340, H⟩ := H
     replace H : (if t575 = true then ((laws_markBoard.f kj10 t557 t558 t559 t560 1).bind fun bt576 => (if bt576.1 < 0 then (laws_FnExactGameLengths.j1 kj10 t553 t556 t564 true a0_0 a0_1 a0_2 l0_3) else ((laws_eqIntS.f kj10 t564 t553).bind fun t578 => (if t578 = true then (laws_FnExactGameLengths.j1 kj10 t553 t556 t564 (t567 != t556) a0_0 a0_1 a0_2 l0_3) else (laws_FnExactGameLengths.j1 kj10 t553 t556 t564 true a0_0 a0_1 a0_2 l0_3))))) else (some false)) = some r := H
     have A34 := Aside0.mk A340
     clear A340
     by_cases c35 : t575 = true
     ·subst c35
      have H1 : ((laws_markBoard.f kj10 t557 t558 t559 t560 1).bind fun bt576 => (if bt576.1 < 0 then (laws_FnExactGameLengths.j1 kj10 t553 t556 t564 true a0_0 a0_1 a0_2 l0_3) else ((laws_eqIntS.f kj10 t564 t553).bind fun t578 => (if t578 = true then (laws_FnExactGameLengths.j1 kj10 t553 t556 t564 (t567 != t556) a0_0 a0_1 a0_2 l0_3) else (laws_FnExactGameLengths.j1 kj10 t553 t556 t564 true a0_0 a0_1 a0_2 l0_3))))) = some r := by rw [if_pos rfl] at H; exact H
      clear H
      have H := H1
      clear H1
      replace H := Option.bind_eq_some_iff.mp H
      obtain ⟨⟨t576, t577⟩, A360, H⟩ := H
      replace H : (if t576 < 0 then (laws_FnExactGameLengths.j1 kj10 t553 t556 t564 true a0_0 a0_1 a0_2 l0_3) else ((laws_eqIntS.f kj10 t564 t553).bind fun t578 => (if t578 = true then (laws_FnExactGameLengths.j1 kj10 t553 t556 t564 (t567 != t556) a0_0 a0_1 a0_2 l0_3) else (laws_FnExactGameLengths.j1 kj10 t553 t556 t564 true a0_0 a0_1 a0_2 l0_3)))) = some r := H
      have A36 := Aside0.mk A360
      clear A360
      have HC37 := Aside0.mk H
      clear H
      try go_wp2
      have n0_ := Aside0.mk (Kd.R_drew HO_4.out)
      have n1_ := Aside0.mk (Kd.R_drew HO_7.out)
      have n2_ := Aside0.mk (Kd.R_drew HO_564003.out)
      have n3_ := Aside0.mk (blk_drew BK545.out)
      have n4_ := Aside0.mk (blk_drew BK563.out)
      have n5_ := Aside0.mk (below_drew1 HB.out)
      clear HO_4
      clear HO_7
      clear HO_564003
      clear BK545
      clear BK563
      clear HB
      have HO_4 := n0_
      have HO_7 := n1_
      have HO_564003 := n2_
      have BK545 := n3_
      have BK563 := n4_
      have HB := n5_
      clear n0_ n1_ n2_ n3_ n4_ n5_
      refine start_ (n := 5) (S := fun w' => w'.cell? ⟨gb563, 0, none⟩ = some (.int .i64 t557) ∧ w'.cell? ⟨gb563, 1, none⟩ = some (.int .i64 t558) ∧ w'.cell? ⟨gb563, 2, none⟩ = some (.int .i64 t559) ∧ w'.cell? ⟨gb563, 3, none⟩ = some (.slice Ao24 t560.length co24) ∧ w'.cell? ⟨gb545, 0, none⟩ = some (.int .i64 a0_0) ∧ w'.cell? ⟨gb545, 1, none⟩ = some (.int .i64 a0_1) ∧ w'.cell? ⟨gb545, 2, none⟩ = some (.int .i64 a0_2) ∧ w'.cell? ⟨gb545, 3, none⟩ = some (.slice A0_3 l0_3.length c0_3)) (ds := []) #[false, false, false, false, false] (by kernel_rfl) rfl rfl ⟨(blk_cell BK563.out 0).trans rfl, (blk_cell BK563.out 1).trans rfl, (blk_cell BK563.out 2).trans rfl, (blk_cell BK563.out 3).trans rfl, (blk_cell BK545.out 0).trans rfl, (blk_cell BK545.out 1).trans rfl, (blk_cell BK545.out 2).trans rfl, (blk_cell BK545.out 3).trans rfl⟩ (fun hHeld => ?_)
      generalize wc.drew = w38 at HO_4 HO_7 HO_564003 BK545 BK563 HB hHeld ⊢
      refine take_ (i := 0) (N := some 41) (v := ?_) (a' := ?_) #[true, false, false, false, false] rfl rfl (by kernel_rfl) (fun _ _ _ h => h) (Or.inl ⟨by rfl, ?_⟩) hHeld ?_ ?_
      rotate_left
      ·rintro w' ⟨s0, s1, s2, s3, s4, s5, s6, s7⟩
       go_simp
       with_reducible rfl
      rotate_left
      ·simp only [Act.put, List.setIfInBounds_toArray, List.set_cons_zero, List.set_cons_succ, i64_w, i32_w]
       rfl
      refine take_ (i := 1) (N := some 42) (v := ?_) (a' := ?_) #[true, true, false, false, false] rfl rfl (by kernel_rfl) (fun _ _ _ h => h) (Or.inl ⟨by rfl, ?_⟩) hHeld ?_ ?_
      rotate_left
      ·rintro w' ⟨s0, s1, s2, s3, s4, s5, s6, s7⟩
       go_simp
       with_reducible rfl
      rotate_left
      ·simp only [Act.put, List.setIfInBounds_toArray, List.set_cons_zero, List.set_cons_succ, i64_w, i32_w]
       rfl
      refine one_ (i := 2) (N := some 43) #[true, true, true, false, false] rfl rfl (by kernel_rfl) (by decide) (fun K hK => ?_)
      refine goes_ Try.func16 (by kernel_rfl) rfl #[.agg #[.int .i64 a0_0, .int .i64 a0_1, .int .i64 a0_2, .slice A0_3 l0_3.length c0_3]] (by rfl) rfl rfl (by (try simp only [List.map_toArray, List.map_cons, List.map_nil]); first | done | rfl | (simp only [List.length_drop, List.length_take]; rfl)) ?_
      with_reducible refine (laws_toBoard.calls kj10 a0_0 a0_1 a0_2 _ _ l0_3 t569 t570 t571 t572 _ ?side1 ?side2 A33.out).mono ?_
      (case side1 => exact Kd.C_below HR0_3.out hb_)
      (case side2 => exact HC0_3.out)
      rintro e w39 ⟨v573, rfl, ho0, hb⟩
      refine ⟨_, rfl, ?_⟩
      have n0_ := Aside0.mk (Kd.R_below (by (with_reducible repeat (first | apply Kd.R_alloc | apply Kd.R_drewN | apply Kd.R_drew)); exact HO_4.out) hb)
      have n1_ := Aside0.mk (Kd.R_below (by (with_reducible repeat (first | apply Kd.R_alloc | apply Kd.R_drewN | apply Kd.R_drew)); exact HO_7.out) hb)
      have n2_ := Aside0.mk (Kd.R_elder' (by (with_reducible repeat (first | apply Kd.R_alloc | apply Kd.R_drewN | apply Kd.R_drew)); exact HO_564003.out) (Kd.R_base ho0) hb)
      have n3_ := Aside0.mk (Kd.R_lower (Kd.R_new' ho0 (Kd.R_lt (by (with_reducible repeat (first | apply Kd.R_alloc | apply Kd.R_drewN | apply Kd.R_drew)); exact HO_564003.out))) (below_size hb_))
      have n4_ := Aside0.mk (blk_below (g := gb545) (o := .cells #[.int .i64 a0_0, .int .i64 a0_1, .int .i64 a0_2, .slice A0_3 l0_3.length c0_3] 24 (0, 0)) (by (with_reducible repeat (first | refine blk_drewN ?_ _ | refine blk_drew ?_ | refine blk_alloc ?_ _)); exact BK545.out) hb)
      have n5_ := Aside0.mk (blk_below (g := gb563) (o := .cells #[.int .i64 t557, .int .i64 t558, .int .i64 t559, .slice Ao24 t560.length co24] 30 (0, 0)) (by (with_reducible repeat (first | refine blk_drewN ?_ _ | refine blk_drew ?_ | refine blk_alloc ?_ _)); exact BK563.out) hb)
      have n6_ := Aside0.mk (below_step hb_ hb)
      clear HO_4
      clear HO_7
      clear HO_564003
      clear BK545
      clear BK563
      clear HB
      have HO_4 := n0_
      have HO_7 := n1_
      have HO_564003 := n2_
      have HO574 := n3_
      have BK545 := n4_
      have BK563 := n5_
      have HB := n6_
      clear n0_ n1_ n2_ n3_ n4_ n5_ n6_
      (try clear hb)
      (try clear hb2)
      (try clear hk)
      (try clear hi)
      (try clear ho0)
      obtain ⟨Ao40, co40, eo40⟩ := Kd.R_slice HO574.out
      (first | subst eo40 | (injection eo40 with f1_ f2_ f3_; have f4_ := f1_.symm; have f5_ := f3_.symm; clear f1_ f2_ f3_; subst f4_; subst f5_))
      refine hK.out _ _ ⟨(blk_cell BK563.out 0).trans rfl, (blk_cell BK563.out 1).trans rfl, (blk_cell BK563.out 2).trans rfl, (blk_cell BK563.out 3).trans rfl, (blk_cell BK545.out 0).trans rfl, (blk_cell BK545.out 1).trans rfl, (blk_cell BK545.out 2).trans rfl, (blk_cell BK545.out 3).trans rfl⟩ (fun hHeld => ?_)
      clear hK K
      refine norm_ (a' := ?_) ?_ ?_
      rotate_left
      ·show Act.put _ (some 43) _ = _
       simp only [Act.put, List.setIfInBounds_toArray, List.set_cons_zero, List.set_cons_succ, i64_w, i32_w]
       rfl
      refine one_ (i := 3) (N := some 44) #[true, true, true, true, false] rfl rfl (by kernel_rfl) (by decide) (fun K hK => ?_)
      refine goes_ Try.func18 (by kernel_rfl) rfl #[.agg #[.int .i64 t557, .int .i64 t558, .int .i64 t559, .slice Ao24 t560.length co24], .agg #[.int .i64 t569, .int .i64 t570, .int .i64 t571, .slice Ao40 t572.length co40]] (by rfl) rfl rfl (by (try simp only [List.map_toArray, List.map_cons, List.map_nil]); first | done | rfl | (simp only [List.length_drop, List.length_take]; rfl)) ?_
      with_reducible refine (laws_eqBoard.calls kj10 t557 t558 t559 _ _ t560 t569 t570 t571 _ _ t572 true _ ?side1 ?side2 ?side3 ?side4 A34.out).mono ?_
      (case side1 => repeat (first | exact (Kd.R_reads' HO_564003.out).2.2 | (with_reducible refine Kd.C_alloc ?_ _) | (with_reducible refine Kd.C_drewN ?_ _) | (with_reducible refine Kd.C_drew ?_)))
      (case side2 => exact (Kd.R_reads' HO_564003.out).2.1)
      (case side3 => repeat (first | exact (Kd.R_reads' HO574.out).2.2 | (with_reducible refine Kd.C_alloc ?_ _) | (with_reducible refine Kd.C_drewN ?_ _) | (with_reducible refine Kd.C_drew ?_)))
      (case side4 => exact (Kd.R_reads' HO574.out).2.1)
      rintro e w41 ⟨rfl, hb⟩
      refine ⟨_, rfl, ?_⟩
      have n0_ := Aside0.mk (Kd.R_below (by (with_reducible repeat (first | apply Kd.R_alloc | apply Kd.R_drewN | apply Kd.R_drew)); exact HO_4.out) hb)
      have n1_ := Aside0.mk (Kd.R_below (by (with_reducible repeat (first | apply Kd.R_alloc | apply Kd.R_drewN | apply Kd.R_drew)); exact HO_7.out) hb)
      have n2_ := Aside0.mk (Kd.R_below (by (with_reducible repeat (first | apply Kd.R_alloc | apply Kd.R_drewN | apply Kd.R_drew)); exact HO_564003.out) hb)
      have n3_ := Aside0.mk (Kd.R_below (by (with_reducible repeat (first | apply Kd.R_alloc | apply Kd.R_drewN | apply Kd.R_drew)); exact HO574.out) hb)
      have n4_ := Aside0.mk (blk_below (g := gb545) (o := .cells #[.int .i64 a0_0, .int .i64 a0_1, .int .i64 a0_2, .slice A0_3 l0_3.length c0_3] 24 (0, 0)) (by (with_reducible repeat (first | refine blk_drewN ?_ _ | refine blk_drew ?_ | refine blk_alloc ?_ _)); exact BK545.out) hb)
      have n5_ := Aside0.mk (blk_below (g := gb563) (o := .cells #[.int .i64 t557, .int .i64 t558, .int .i64 t559, .slice Ao24 t560.length co24] 30 (0, 0)) (by (with_reducible repeat (first | refine blk_drewN ?_ _ | refine blk_drew ?_ | refine blk_alloc ?_ _)); exact BK563.out) hb)
      have n6_ := Aside0.mk (below_step hb_ hb)
      clear HO_4
      clear HO_7
      clear HO_564003
      clear HO574
      clear BK545
      clear BK563
      clear HB
      have HO_4 := n0_
      have HO_7 := n1_
      have HO_564003 := n2_
      have HO574 := n3_
      have BK545 := n4_
      have BK563 := n5_
      have HB := n6_
      clear n0_ n1_ n2_ n3_ n4_ n5_ n6_
      (try clear hb)
      (try clear hb2)
      (try clear hk)
      (try clear hi)
      refine hK.out _ _ ⟨(blk_cell BK563.out 0).trans rfl, (blk_cell BK563.out 1).trans rfl, (blk_cell BK563.out 2).trans rfl, (blk_cell BK563.out 3).trans rfl, (blk_cell BK545.out 0).trans rfl, (blk_cell BK545.out 1).trans rfl, (blk_cell BK545.out 2).trans rfl, (blk_cell BK545.out 3).trans rfl⟩ (fun hHeld => ?_)
      clear hK K
      refine norm_ (a' := ?_) ?_ ?_
      rotate_left
      ·show Act.put _ (some 44) _ = _
       simp only [Act.put, List.setIfInBounds_toArray, List.set_cons_zero, List.set_cons_succ, i64_w, i32_w]
       rfl
      refine pure_ (i := 4) (N := some 45) (v := ?_) (a' := ?_) #[true, true, true, true, true] rfl rfl (by kernel_rfl) (fun _ _ _ h => h) (Or.inl ⟨by rfl, ?_⟩) ?_ ?_
      rotate_left
      ·intro w'
       go_simp
       with_reducible rfl
      rotate_left
      ·simp only [Act.put, List.setIfInBounds_toArray, List.set_cons_zero, List.set_cons_succ, i64_w, i32_w]
       rfl
      refine done_ (by kernel_rfl) ?_
      have hnb42 := NB563_545.out
      have hnc42 := NB545_563.out
      have hcz43_0 : w41.cell? ⟨gb563, 0, none⟩ = some (.int .i64 t557) := (blk_cell BK563.out 0).trans rfl
      have hcz43_1 : w41.cell? ⟨gb563, 1, none⟩ = some (.int .i64 t558) := (blk_cell BK563.out 1).trans rfl
      have hcz43_2 : w41.cell? ⟨gb563, 2, none⟩ = some (.int .i64 t559) := (blk_cell BK563.out 2).trans rfl
      have hcz43_3 : w41.cell? ⟨gb563, 3, none⟩ = some (.slice Ao24 t560.length co24) := (blk_cell BK563.out 3).trans rfl
      have hfz43_0 := blk_frozen BK563.out 0
      have hfz43_1 := blk_frozen BK563.out 1
      have hfz43_2 := blk_frozen BK563.out 2
      have hfz43_3 := blk_frozen BK563.out 3
      go_upto_region 14 with (first | ((with_reducible refine gate_callee (f := 29) rfl ?_); refine goesL_ (some 48) rfl rfl Try.func29 (by kernel_rfl) rfl #[.agg #[.int .i64 t557, .int .i64 t558, .int .i64 t559, .slice Ao24 t560.length co24], .int .i64 1] rfl (by (try simp only [List.map_toArray, List.map_cons, List.map_nil]); first | done | rfl | (simp only [List.length_drop, List.length_take]; rfl)) ?_; (with_reducible refine (laws_markBoard.calls kj10 t557 t558 t559 (fun k_ => some k_ = (.slice Ao24 t560.length co24 : Value).ownBlock) (.slice Ao24 t560.length co24) t560 1 t576 t577 w _ ?side1 ?side2 A36.out).mono ?_); (case side1 => repeat (first | (with_reducible first | exact HB.out | apply below_alloc | apply pw_below_drewN | apply below_drew1 | refine below_set ?_ GE545.out | refine below_set ?_ GE563.out) | exact HB.out)); (case side2 => exact Kd.R_tight rfl HO_564003.out); rintro e w44 ⟨rfl, hy0, hb, hkp⟩; refine ⟨_, rfl, ?_⟩; have n0_ := Aside0.mk (Kd.R_mono (ok' := fun k_ => some k_ ≠ (v565 : Value).ownBlock) (Kd.R_keptB ((Kd.R_apart' HO_4.out (Kd.R_typed HO_564003.out) (by decide))) hkp (fun k_ hk_ hs_ => (hk_.2) hs_)) (fun k_ hk_ => hk_.1.1)); have n1_ := Aside0.mk (Kd.R_mono (ok' := fun k_ => some k_ ≠ (v554 : Value).ownBlock) (Kd.R_keptB ((Kd.R_apart' HO_7.out (Kd.R_typed HO_564003.out) (by decide))) hkp (fun k_ hk_ hs_ => (hk_.2) hs_)) (fun k_ hk_ => hk_.1.1)); have n2_ := Aside0.mk (Kd.R_reok rfl hy0 (fun k_ e_ => HO_564003.out.1 k_ e_)); have n3_ := Aside0.mk (blk_kept (by (with_reducible repeat (first | refine blk_drewN ?_ _ | refine blk_drew ?_ | refine blk_alloc ?_ _)); exact BK545.out) hkp (fun hs_ => (fun e_ => (Kd.R_ne HO_564003.out BK545.out (by decide)) e_) hs_)); have n4_ := Aside0.mk (blk_kept (by (with_reducible repeat (first | refine blk_drewN ?_ _ | refine blk_drew ?_ | refine blk_alloc ?_ _)); exact BK563.out) hkp (fun hs_ => (fun e_ => (Kd.R_ne HO_564003.out BK563.out (by decide)) e_) hs_)); have n5_ := Aside0.mk (Kd.R_mono (ok' := fun k_ => some k_ ≠ (.slice Ao24 t560.length co24 : Value).ownBlock) (Kd.R_keptB (HO574.out) hkp (fun k_ hk_ hs_ => (hk_.2) hs_)) (fun k_ hk_ => hk_.1.2)); have n6_ := Aside0.mk (hb); clear HO_4; clear HO_7; clear HO_564003; clear BK545; clear BK563; clear HO574; clear HB; have HO_4 := n0_; have HO_7 := n1_; have HO_564003 := n2_; have BK545 := n3_; have BK563 := n4_; have HO574 := n5_; have HB := n6_; clear n0_ n1_ n2_ n3_ n4_ n5_ n6_; (try clear hb); (try clear hkp); (try clear hy0)))
      (try simp only [Act.put, List.setIfInBounds_toArray, List.set_cons_zero, List.set_cons_succ])
      go_cut [61] (fun v61 wc => ∃ (kq : Nat) (x61_36 : Bool), v61 = .bool x61_36 ∧ Aside0 (laws_FnExactGameLengths.j1 kq t553 t556 t564 x61_36 a0_0 a0_1 a0_2 l0_3 = some r) ∧ Aside0 (kq ≤ kj10) ∧ Aside0 (Kd.R (Kd.int .i64) 3 wc w.heap.size (fun k_ => some k_ ≠ (v565 : Value).ownBlock) v554 t553) ∧ Aside0 (Kd.R (Kd.int .i64) 3 wc w.heap.size (fun k_ => some k_ ≠ (v554 : Value).ownBlock) v565 t564) ∧ Aside0 (Kd.R k70 70 wc w.heap.size (fun _ => True) (.slice Ao24 t560.length co24) t577) ∧ Aside0 (wc.heap[gb545]? = some (.cells #[.int .i64 a0_0, .int .i64 a0_1, .int .i64 a0_2, (.slice A0_3 l0_3.length c0_3)] 24 (0, 0))) ∧ Aside0 (wc.heap[gb563]? = some (.cells #[.int .i64 t557, .int .i64 t558, .int .i64 t559, (.slice Ao24 t560.length co24)] 30 (0, 0))) ∧ Aside0 (Below w.heap.size w wc))
      case first =>
       have H := HC37.out
       clear HC37
       by_cases c45 : t576 < 0
       ·rw [if_pos c45] at H
        have c45b0 : decide (t576 < 0) = true := decide_eq_true c45
        clear c45
        (first | rw [c45b0] | (simp only [i64_w, i32_w]; rw [c45b0]) | skip)
        have H' := Aside0.mk H
        clear H
        go_wp2
        go_meet
        case rel => exact ⟨_, (true), (by first | rfl | (simp; done) | (simp [*]; done)), H', ⟨by have := HJ10.out; first | omega | exact Nat.le_refl _⟩, ⟨by (with_reducible repeat (first | apply Kd.R_alloc | apply Kd.R_drewN | apply Kd.R_drew)); exact HO_4.out⟩, ⟨by (with_reducible repeat (first | apply Kd.R_alloc | apply Kd.R_drewN | apply Kd.R_drew)); exact HO_7.out⟩, ⟨by (with_reducible repeat (first | apply Kd.R_alloc | apply Kd.R_drewN | apply Kd.R_drew)); exact Kd.R_mono HO_564003.out (fun _ hk => trivial)⟩, ⟨by (with_reducible repeat (first | refine blk_drewN ?_ _ | refine blk_drew ?_ | refine blk_alloc ?_ _)); exact BK545.out⟩, ⟨by (with_reducible repeat (first | refine blk_drewN ?_ _ | refine blk_drew ?_ | refine blk_alloc ?_ _)); exact BK563.out⟩, ⟨hb_⟩⟩
       ·rw [if_neg c45] at H
        have c45b0 : decide (t576 < 0) = false := decide_eq_false c45
        clear c45
        (first | rw [c45b0] | (simp only [i64_w, i32_w]; rw [c45b0]) | skip)
        replace H := Option.bind_eq_some_iff.mp H
        obtain ⟨t578, A460, H⟩ := H
        replace H : (if t578 = true then (laws_FnExactGameLengths.j1 kj10 t553 t556 t564 (t567 != t556) a0_0 a0_1 a0_2 l0_3) else (laws_FnExactGameLengths.j1 kj10 t553 t556 t564 true a0_0 a0_1 a0_2 l0_3)) = some r := H
        have A46 := Aside0.mk A460
        clear A460
        by_cases c47 : t578 = true
        ·subst c47
         have H1 : (laws_FnExactGameLengths.j1 kj10 t553 t556 t564 (t567 != t556) a0_0 a0_1 a0_2 l0_3) = some r := by rw [if_pos rfl] at H; exact H
         clear H
         have H := H1
         clear H1
         have H' := Aside0.mk H
         clear H
         obtain ⟨Ao48, co48, eo48⟩ := Kd.R_slice HO_7.out
         subst eo48
         obtain ⟨Ao49, co49, eo49⟩ := Kd.R_slice HO_4.out
         subst eo49
         go_wp2_with (first | (go_at_call 24; (with_reducible refine (laws_eqIntS.calls kj10 _ _ t564 _ _ t553 true _ ?side1 ?side2 ?side3 ?side4 A46.out).mono ?_); (case side1 => repeat (first | exact (Kd.R_reads' HO_7.out).2.2 | (with_reducible refine Kd.C_alloc ?_ _) | (with_reducible refine Kd.C_drewN ?_ _) | (with_reducible refine Kd.C_drew ?_))); (case side2 => exact (Kd.R_reads' HO_7.out).2.1); (case side3 => repeat (first | exact (Kd.R_reads' HO_4.out).2.2 | (with_reducible refine Kd.C_alloc ?_ _) | (with_reducible refine Kd.C_drewN ?_ _) | (with_reducible refine Kd.C_drew ?_))); (case side4 => exact (Kd.R_reads' HO_4.out).2.1); rintro e w' ⟨rfl, ⟨nd, rfl⟩⟩))
         go_meet
         case rel => exact ⟨_, ((t567 != t556)), (by first | rfl | (simp; done) | (simp [*]; done)), H', ⟨by have := HJ10.out; first | omega | exact Nat.le_refl _⟩, ⟨by (with_reducible repeat (first | apply Kd.R_alloc | apply Kd.R_drewN | apply Kd.R_drew)); exact HO_4.out⟩, ⟨by (with_reducible repeat (first | apply Kd.R_alloc | apply Kd.R_drewN | apply Kd.R_drew)); exact HO_7.out⟩, ⟨by (with_reducible repeat (first | apply Kd.R_alloc | apply Kd.R_drewN | apply Kd.R_drew)); exact Kd.R_mono HO_564003.out (fun _ hk => trivial)⟩, ⟨by (with_reducible repeat (first | refine blk_drewN ?_ _ | refine blk_drew ?_ | refine blk_alloc ?_ _)); exact BK545.out⟩, ⟨by (with_reducible repeat (first | refine blk_drewN ?_ _ | refine blk_drew ?_ | refine blk_alloc ?_ _)); exact BK563.out⟩, ⟨hb_⟩⟩
        ·replace c47 := Bool.eq_false_iff.mpr c47
         subst c47
         have H1 : (laws_FnExactGameLengths.j1 kj10 t553 t556 t564 true a0_0 a0_1 a0_2 l0_3) = some r := by rw [if_neg (show ¬ (false = true) by decide)] at H; exact H
         clear H
         have H := H1
         clear H1
         have H' := Aside0.mk H
         clear H
         obtain ⟨Ao50, co50, eo50⟩ := Kd.R_slice HO_7.out
         subst eo50
         obtain ⟨Ao51, co51, eo51⟩ := Kd.R_slice HO_4.out
         subst eo51
         go_wp2_with (first | (go_at_call 24; (with_reducible refine (laws_eqIntS.calls kj10 _ _ t564 _ _ t553 false _ ?side1 ?side2 ?side3 ?side4 A46.out).mono ?_); (case side1 => repeat (first | exact (Kd.R_reads' HO_7.out).2.2 | (with_reducible refine Kd.C_alloc ?_ _) | (with_reducible refine Kd.C_drewN ?_ _) | (with_reducible refine Kd.C_drew ?_))); (case side2 => exact (Kd.R_reads' HO_7.out).2.1); (case side3 => repeat (first | exact (Kd.R_reads' HO_4.out).2.2 | (with_reducible refine Kd.C_alloc ?_ _) | (with_reducible refine Kd.C_drewN ?_ _) | (with_reducible refine Kd.C_drew ?_))); (case side4 => exact (Kd.R_reads' HO_4.out).2.1); rintro e w' ⟨rfl, ⟨nd, rfl⟩⟩))
         go_meet
         case rel => exact ⟨_, (true), (by first | rfl | (simp; done) | (simp [*]; done)), H', ⟨by have := HJ10.out; first | omega | exact Nat.le_refl _⟩, ⟨by (with_reducible repeat (first | apply Kd.R_alloc | apply Kd.R_drewN | apply Kd.R_drew)); exact HO_4.out⟩, ⟨by (with_reducible repeat (first | apply Kd.R_alloc | apply Kd.R_drewN | apply Kd.R_drew)); exact HO_7.out⟩, ⟨by (with_reducible repeat (first | apply Kd.R_alloc | apply Kd.R_drewN | apply Kd.R_drew)); exact Kd.R_mono HO_564003.out (fun _ hk => trivial)⟩, ⟨by (with_reducible repeat (first | refine blk_drewN ?_ _ | refine blk_drew ?_ | refine blk_alloc ?_ _)); exact BK545.out⟩, ⟨by (with_reducible repeat (first | refine blk_drewN ?_ _ | refine blk_drew ?_ | refine blk_alloc ?_ _)); exact BK563.out⟩, ⟨hb_⟩⟩
      case rest =>
       clear HC37
       try clear c1
       try clear c2
       try clear p2
       try clear c3
       try clear c3b0
       try clear c4
       try clear c10
       try clear c14
       try clear c16
       try clear c18
       try clear c22
       try clear c24
       try clear c27
       try clear c29
       try clear c32
       try clear c35
       try clear c36
       try clear c37
       try clear c42
       try clear c45
       try clear c45b0
       try clear c47
       try clear hcz13_0
       try clear hcz13_1
       try clear hcz13_2
       try clear hcz13_3
       try clear hcz15_0
       try clear hcz15_1
       try clear hcz15_2
       try clear hcz15_3
       try clear hcz19_0
       try clear hcz19_1
       try clear hcz19_2
       try clear hcz19_3
       try clear hcz23_0
       try clear hcz23_1
       try clear hcz23_2
       try clear hcz23_3
       try clear hcz43_0
       try clear hcz43_1
       try clear hcz43_2
       try clear hcz43_3
       try clear hcz5_0
       try clear hcz5_1
       try clear hcz5_2
       try clear hcz5_3
       try clear hfz13_0
       try clear hfz13_1
       try clear hfz13_2
       try clear hfz13_3
       try clear hfz15_0
       try clear hfz15_1
       try clear hfz15_2
       try clear hfz15_3
       try clear hfz19_0
       try clear hfz19_1
       try clear hfz19_2
       try clear hfz19_3
       try clear hfz23_0
       try clear hfz23_1
       try clear hfz23_2
       try clear hfz23_3
       try clear hfz43_0
       try clear hfz43_1
       try clear hfz43_2
       try clear hfz43_3
       try clear hfz5_0
       try clear hfz5_1
       try clear hfz5_2
       try clear hfz5_3
       try clear p2
       obtain ⟨kq, x61_36, rfl, HA, HJ36, HO_4, HO_7, HO_564003, BK545, BK563, HB⟩ := hcut
       have hl564003_36 := (Kd.R_reads' HO_564003.out).1
       rw [hl564003_36] at HO_564003
       (try simp only [hl564003_36])
       (try simp only [hl564003_36] at BK545)
       (try simp only [hl564003_36] at BK563)
       (try simp only [hl564003_36] at HO_4)
       (try simp only [hl564003_36] at HO_7)
       cases kq with
       | zero => exact absurd HA.out (by simp [laws_FnExactGameLengths.j1])
       | succ kj36 =>
        have H := HA.out
        clear HA
        simp only [laws_FnExactGameLengths.j1] at H
        by_cases c52 : x61_36 = true
        ·subst c52
         have H1 : (some false) = some r := by rw [if_pos rfl] at H; exact H
         clear H
         have H := H1
         clear H1
         obtain rfl := Option.some.inj H
         go_wp2
         go_ret
         exact ⟨by first | rfl | (simp [errW_none, errW_some] <;> rfl) | (simp [*, errW_none, errW_some] <;> rfl), hb_⟩
        ·replace c52 := Bool.eq_false_iff.mpr c52
         subst c52
         have H1 : ((laws_markIntS.f kj36 t564 1).bind fun bt579 => ((laws_heldIntS.f kj36 bt579.2 1).bind fun t581 => (if t581 < 0 then (some false) else (if t581 = bt579.1 then ((laws_toBoard.f kj36 a0_0 a0_1 a0_2 l0_3).bind fun bt582 => ((impl_GameLengths.f kj36 bt582.1 bt582.2.1 bt582.2.2.1 bt582.2.2.2).bind fun bt588 => ((laws_eqIntS.f kj36 bt588.1 t553).bind fun t592 => (if t592 = true then (laws_FnExactGameLengths.j2 kj36 bt579.2 bt579.1 (bt588.2 != t556)) else (laws_FnExactGameLengths.j2 kj36 bt579.2 bt579.1 true))))) else (some false))))) = some r := by rw [if_neg (show ¬ (false = true) by decide)] at H; exact H
         clear H
         have H := H1
         clear H1
         replace H := Option.bind_eq_some_iff.mp H
         obtain ⟨⟨t579, t580⟩, A530, H⟩ := H
         replace H : ((laws_heldIntS.f kj36 t580 1).bind fun t581 => (if t581 < 0 then (some false) else (if t581 = t579 then ((laws_toBoard.f kj36 a0_0 a0_1 a0_2 l0_3).bind fun bt582 => ((impl_GameLengths.f kj36 bt582.1 bt582.2.1 bt582.2.2.1 bt582.2.2.2).bind fun bt588 => ((laws_eqIntS.f kj36 bt588.1 t553).bind fun t592 => (if t592 = true then (laws_FnExactGameLengths.j2 kj36 t580 t579 (bt588.2 != t556)) else (laws_FnExactGameLengths.j2 kj36 t580 t579 true))))) else (some false)))) = some r := H
         have A53 := Aside0.mk A530
         clear A530
         replace H := Option.bind_eq_some_iff.mp H
         obtain ⟨t581, A540, H⟩ := H
         replace H : (if t581 < 0 then (some false) else (if t581 = t579 then ((laws_toBoard.f kj36 a0_0 a0_1 a0_2 l0_3).bind fun bt582 => ((impl_GameLengths.f kj36 bt582.1 bt582.2.1 bt582.2.2.1 bt582.2.2.2).bind fun bt588 => ((laws_eqIntS.f kj36 bt588.1 t553).bind fun t592 => (if t592 = true then (laws_FnExactGameLengths.j2 kj36 t580 t579 (bt588.2 != t556)) else (laws_FnExactGameLengths.j2 kj36 t580 t579 true))))) else (some false))) = some r := H
         have A54 := Aside0.mk A540
         clear A540
         by_cases c55 : t581 < 0
         ·rw [if_pos c55] at H
          have c55b0 : decide (t581 < 0) = true := decide_eq_true c55
          clear c55
          obtain rfl := Option.some.inj H
          obtain ⟨Ao56, co56, eo56⟩ := Kd.R_slice HO_7.out
          subst eo56
          go_wp2_with (first | ((with_reducible refine gate_callee (f := 30) rfl ?_); refine goesL_ (some 64) rfl rfl Try.func30 (by kernel_rfl) rfl #[.slice Ao56 t564.length co56, .int .i64 1] rfl (by (try simp only [List.map_toArray, List.map_cons, List.map_nil]); first | done | rfl | (simp only [List.length_drop, List.length_take]; rfl)) ?_; (with_reducible refine (laws_markIntS.calls kj36 (fun k_ => some k_ = (.slice Ao56 t564.length co56 : Value).ownBlock) (.slice Ao56 t564.length co56) t564 1 t579 t580 w _ ?side1 ?side2 A53.out).mono ?_); (case side1 => repeat (first | (with_reducible first | exact HB.out | apply below_alloc | apply pw_below_drewN | apply below_drew1 | refine below_set ?_ GE545.out | refine below_set ?_ GE563.out) | exact HB.out)); (case side2 => exact Kd.R_tight rfl HO_7.out); rintro e w57 ⟨rfl, hy0, hb, hkp⟩; refine ⟨_, rfl, ?_⟩; have n0_ := Aside0.mk (Kd.R_mono (ok' := fun k_ => some k_ ≠ (.slice Ao56 t564.length co56 : Value).ownBlock) (Kd.R_keptB (HO_4.out) hkp (fun k_ hk_ hs_ => (hk_) hs_)) (fun k_ hk_ => hk_.1)); have n1_ := Aside0.mk (Kd.R_reok rfl hy0 (fun k_ e_ => HO_7.out.1 k_ e_)); have n2_ := Aside0.mk (Kd.R_mono (ok' := fun k_ => True) (Kd.R_keptB ((Kd.R_apart' HO_564003.out (Kd.R_typed HO_7.out) (by decide))) hkp (fun k_ hk_ hs_ => (hk_.2) hs_)) (fun k_ hk_ => trivial)); have n3_ := Aside0.mk (blk_kept (by (with_reducible repeat (first | refine blk_drewN ?_ _ | refine blk_drew ?_ | refine blk_alloc ?_ _)); exact BK545.out) hkp (fun hs_ => (fun e_ => (Kd.R_ne HO_7.out BK545.out (by decide)) e_) hs_)); have n4_ := Aside0.mk (blk_kept (by (with_reducible repeat (first | refine blk_drewN ?_ _ | refine blk_drew ?_ | refine blk_alloc ?_ _)); exact BK563.out) hkp (fun hs_ => (fun e_ => (Kd.R_ne HO_7.out BK563.out (by decide)) e_) hs_)); have n5_ := Aside0.mk (hb); clear HO_4; clear HO_7; clear HO_564003; clear BK545; clear BK563; clear HB; have HO_4 := n0_; have HO_7 := n1_; have HO_564003 := n2_; have BK545 := n3_; have BK563 := n4_; have HB := n5_; clear n0_ n1_ n2_ n3_ n4_ n5_; (try clear hb); (try clear hkp); (try clear hy0)) | ((with_reducible refine gate_callee (f := 31) rfl ?_); refine goesL_ (some 67) rfl rfl Try.func31 (by kernel_rfl) rfl #[.slice Ao56 t580.length co56, .int .i64 1] rfl (by (try simp only [List.map_toArray, List.map_cons, List.map_nil]); first | done | (rw [show t580.length = t564.length from (Kd.R_reads' HO_7.out).1.symm] <;> rfl) | rfl | (simp only [List.length_drop, List.length_take]; rfl)) ?_; (with_reducible refine (laws_heldIntS.calls kj36 _ _ t580 1 t581 _ ?side1 ?side2 A54.out).mono ?_); (case side1 => repeat (first | exact (Kd.R_reads' HO_7.out).2.2 | (with_reducible refine Kd.C_alloc ?_ _) | (with_reducible refine Kd.C_drewN ?_ _) | (with_reducible refine Kd.C_drew ?_))); (case side2 => rw [show t580.length = t564.length from (Kd.R_reads' HO_7.out).1.symm]; exact (Kd.R_reads' HO_7.out).2.1); rintro e w' ⟨rfl, ⟨nd, rfl⟩⟩; refine ⟨_, rfl, ?_⟩))
          go_ret
          exact ⟨by first | rfl | (simp [errW_none, errW_some] <;> rfl) | (simp [*, errW_none, errW_some] <;> rfl), hb_⟩
         ·rw [if_neg c55] at H
          have c55b0 : decide (t581 < 0) = false := decide_eq_false c55
          clear c55
          by_cases c58 : t581 = t579
          ·rw [if_pos c58] at H
           have c58b0 : (t581 == t579) = true := beq_iff_eq.mpr c58
           have c58b1 : (t581 != t579) = false := bne_eq_false_iff_eq.mpr c58
           clear c58
           replace H := Option.bind_eq_some_iff.mp H
           obtain ⟨⟨t582, t583, t584, t585⟩, A590, H⟩ := H
           replace H : ((impl_GameLengths.f kj36 t582 t583 t584 t585).bind fun bt588 => ((laws_eqIntS.f kj36 bt588.1 t553).bind fun t592 => (if t592 = true then (laws_FnExactGameLengths.j2 kj36 t580 t579 (bt588.2 != t556)) else (laws_FnExactGameLengths.j2 kj36 t580 t579 true)))) = some r := H
           have A59 := Aside0.mk A590
           clear A590
           replace H := Option.bind_eq_some_iff.mp H
           obtain ⟨⟨t588, t591⟩, A600, H⟩ := H
           replace H : ((laws_eqIntS.f kj36 t588 t553).bind fun t592 => (if t592 = true then (laws_FnExactGameLengths.j2 kj36 t580 t579 (t591 != t556)) else (laws_FnExactGameLengths.j2 kj36 t580 t579 true))) = some r := H
           have A60 := Aside0.mk A600
           clear A600
           have HC61 := Aside0.mk H
           clear H
           obtain ⟨Ao62, co62, eo62⟩ := Kd.R_slice HO_7.out
           subst eo62
           go_upto_region 25 with (first | ((with_reducible refine gate_callee (f := 30) rfl ?_); refine goesL_ (some 64) rfl rfl Try.func30 (by kernel_rfl) rfl #[.slice Ao62 t564.length co62, .int .i64 1] rfl (by (try simp only [List.map_toArray, List.map_cons, List.map_nil]); first | done | rfl | (simp only [List.length_drop, List.length_take]; rfl)) ?_; (with_reducible refine (laws_markIntS.calls kj36 (fun k_ => some k_ = (.slice Ao62 t564.length co62 : Value).ownBlock) (.slice Ao62 t564.length co62) t564 1 t579 t580 w _ ?side1 ?side2 A53.out).mono ?_); (case side1 => repeat (first | (with_reducible first | exact HB.out | apply below_alloc | apply pw_below_drewN | apply below_drew1 | refine below_set ?_ GE545.out | refine below_set ?_ GE563.out) | exact HB.out)); (case side2 => exact Kd.R_tight rfl HO_7.out); rintro e w63 ⟨rfl, hy0, hb, hkp⟩; refine ⟨_, rfl, ?_⟩; have n0_ := Aside0.mk (Kd.R_mono (ok' := fun k_ => some k_ ≠ (.slice Ao62 t564.length co62 : Value).ownBlock) (Kd.R_keptB (HO_4.out) hkp (fun k_ hk_ hs_ => (hk_) hs_)) (fun k_ hk_ => hk_.1)); have n1_ := Aside0.mk (Kd.R_reok rfl hy0 (fun k_ e_ => HO_7.out.1 k_ e_)); have n2_ := Aside0.mk (Kd.R_mono (ok' := fun k_ => True) (Kd.R_keptB ((Kd.R_apart' HO_564003.out (Kd.R_typed HO_7.out) (by decide))) hkp (fun k_ hk_ hs_ => (hk_.2) hs_)) (fun k_ hk_ => trivial)); have n3_ := Aside0.mk (blk_kept (by (with_reducible repeat (first | refine blk_drewN ?_ _ | refine blk_drew ?_ | refine blk_alloc ?_ _)); exact BK545.out) hkp (fun hs_ => (fun e_ => (Kd.R_ne HO_7.out BK545.out (by decide)) e_) hs_)); have n4_ := Aside0.mk (blk_kept (by (with_reducible repeat (first | refine blk_drewN ?_ _ | refine blk_drew ?_ | refine blk_alloc ?_ _)); exact BK563.out) hkp (fun hs_ => (fun e_ => (Kd.R_ne HO_7.out BK563.out (by decide)) e_) hs_)); have n5_ := Aside0.mk (hb); clear HO_4; clear HO_7; clear HO_564003; clear BK545; clear BK563; clear HB; have HO_4 := n0_; have HO_7 := n1_; have HO_564003 := n2_; have BK545 := n3_; have BK563 := n4_; have HB := n5_; clear n0_ n1_ n2_ n3_ n4_ n5_; (try clear hb); (try clear hkp); (try clear hy0)) | ((with_reducible refine gate_callee (f := 31) rfl ?_); refine goesL_ (some 67) rfl rfl Try.func31 (by kernel_rfl) rfl #[.slice Ao62 t580.length co62, .int .i64 1] rfl (by (try simp only [List.map_toArray, List.map_cons, List.map_nil]); first | done | (rw [show t580.length = t564.length from (Kd.R_reads' HO_7.out).1.symm] <;> rfl) | rfl | (simp only [List.length_drop, List.length_take]; rfl)) ?_; (with_reducible refine (laws_heldIntS.calls kj36 _ _ t580 1 t581 _ ?side1 ?side2 A54.out).mono ?_); (case side1 => repeat (first | exact (Kd.R_reads' HO_7.out).2.2 | (with_reducible refine Kd.C_alloc ?_ _) | (with_reducible refine Kd.C_drewN ?_ _) | (with_reducible refine Kd.C_drew ?_))); (case side2 => rw [show t580.length = t564.length from (Kd.R_reads' HO_7.out).1.symm]; exact (Kd.R_reads' HO_7.out).2.1); rintro e w' ⟨rfl, ⟨nd, rfl⟩⟩; refine ⟨_, rfl, ?_⟩; have hnb64 := NB545_563.out; have hnc64 := NB563_545.out; have hcz65_0 : w63.cell? ⟨gb545, 0, none⟩ = some (.int .i64 a0_0) := (blk_cell BK545.out 0).trans rfl; have hcz65_1 : w63.cell? ⟨gb545, 1, none⟩ = some (.int .i64 a0_1) := (blk_cell BK545.out 1).trans rfl; have hcz65_2 : w63.cell? ⟨gb545, 2, none⟩ = some (.int .i64 a0_2) := (blk_cell BK545.out 2).trans rfl; have hcz65_3 : w63.cell? ⟨gb545, 3, none⟩ = some (.slice A0_3 l0_3.length c0_3) := (blk_cell BK545.out 3).trans rfl; have hfz65_0 := blk_frozen BK545.out 0; have hfz65_1 := blk_frozen BK545.out 1; have hfz65_2 := blk_frozen BK545.out 2; have hfz65_3 := blk_frozen BK545.out 3) | ((with_reducible refine gate_callee (f := 16) rfl ?_); refine goesL_ (some 75) rfl rfl Try.func16 (by kernel_rfl) rfl #[.agg #[.int .i64 a0_0, .int .i64 a0_1, .int .i64 a0_2, .slice A0_3 l0_3.length c0_3]] rfl (by (try simp only [List.map_toArray, List.map_cons, List.map_nil]); first | done | rfl | (simp only [List.length_drop, List.length_take]; rfl)) ?_; (with_reducible refine (laws_toBoard.calls kj36 a0_0 a0_1 a0_2 _ _ l0_3 t582 t583 t584 t585 _ ?side1 ?side2 A59.out).mono ?_); (case side1 => repeat (first | exact (Kd.C_below HR0_3.out hb_) | (with_reducible refine Kd.C_alloc ?_ _) | (with_reducible refine Kd.C_drewN ?_ _) | (with_reducible refine Kd.C_drew ?_))); (case side2 => exact HC0_3.out); rintro e w66 ⟨v586, rfl, ho0, hb⟩; refine ⟨_, rfl, ?_⟩; have n0_ := Aside0.mk (Kd.R_below (by (with_reducible repeat (first | apply Kd.R_alloc | apply Kd.R_drewN | apply Kd.R_drew)); exact HO_4.out) hb); have n1_ := Aside0.mk (Kd.R_below (by (with_reducible repeat (first | apply Kd.R_alloc | apply Kd.R_drewN | apply Kd.R_drew)); exact HO_7.out) hb); have n2_ := Aside0.mk (Kd.R_elder' (by (with_reducible repeat (first | apply Kd.R_alloc | apply Kd.R_drewN | apply Kd.R_drew)); exact HO_564003.out) (Kd.R_base ho0) hb); have n3_ := Aside0.mk (Kd.R_lower (Kd.R_new' ho0 (Kd.R_lt (by (with_reducible repeat (first | apply Kd.R_alloc | apply Kd.R_drewN | apply Kd.R_drew)); exact HO_564003.out))) (below_size hb_)); have n4_ := Aside0.mk (blk_below (g := gb545) (o := .cells #[.int .i64 a0_0, .int .i64 a0_1, .int .i64 a0_2, .slice A0_3 l0_3.length c0_3] 24 (0, 0)) (by (with_reducible repeat (first | refine blk_drewN ?_ _ | refine blk_drew ?_ | refine blk_alloc ?_ _)); exact BK545.out) hb); have n5_ := Aside0.mk (blk_below (g := gb563) (o := .cells #[.int .i64 t557, .int .i64 t558, .int .i64 t559, .slice Ao24 t577.length co24] 30 (0, 0)) (by (with_reducible repeat (first | refine blk_drewN ?_ _ | refine blk_drew ?_ | refine blk_alloc ?_ _)); exact BK563.out) hb); have n6_ := Aside0.mk (below_step hb_ hb); clear HO_4; clear HO_7; clear HO_564003; clear BK545; clear BK563; clear HB; have HO_4 := n0_; have HO_7 := n1_; have HO_564003 := n2_; have HO587 := n3_; have BK545 := n4_; have BK563 := n5_; have HB := n6_; clear n0_ n1_ n2_ n3_ n4_ n5_ n6_; (try clear hb); (try clear hb2); (try clear hk); (try clear hi); (try clear ho0); obtain ⟨Ao67, co67, eo67⟩ := Kd.R_slice HO587.out; subst eo67) | ((with_reducible refine gate_callee (f := 37) rfl ?_); refine goesL_ (some 76) rfl rfl Try.func37 (by kernel_rfl) rfl #[.agg #[.int .i64 t582, .int .i64 t583, .int .i64 t584, .slice Ao67 t585.length co67]] rfl (by (try simp only [List.map_toArray, List.map_cons, List.map_nil]); first | done | rfl | (simp only [List.length_drop, List.length_take]; rfl)) ?_; (with_reducible refine (impl_GameLengths.calls kj36 t582 t583 t584 _ _ t585 t588 t591 _ ?side1 ?side2 A60.out).mono ?_); (case side1 => repeat (first | exact (Kd.R_reads' HO587.out).2.2 | (with_reducible refine Kd.C_alloc ?_ _) | (with_reducible refine Kd.C_drewN ?_ _) | (with_reducible refine Kd.C_drew ?_))); (case side2 => exact (Kd.R_reads' HO587.out).2.1); rintro e w68 ⟨v589, rfl, ho0, hb⟩; refine ⟨_, rfl, ?_⟩; have n0_ := Aside0.mk (Kd.R_elder' (by (with_reducible repeat (first | apply Kd.R_alloc | apply Kd.R_drewN | apply Kd.R_drew)); exact HO_4.out) (Kd.R_base ho0) hb); have n1_ := Aside0.mk (Kd.R_elder' (by (with_reducible repeat (first | apply Kd.R_alloc | apply Kd.R_drewN | apply Kd.R_drew)); exact HO_7.out) (Kd.R_base ho0) hb); have n2_ := Aside0.mk (Kd.R_below (by (with_reducible repeat (first | apply Kd.R_alloc | apply Kd.R_drewN | apply Kd.R_drew)); exact HO_564003.out) hb); have n3_ := Aside0.mk (Kd.R_below (by (with_reducible repeat (first | apply Kd.R_alloc | apply Kd.R_drewN | apply Kd.R_drew)); exact HO587.out) hb); have n4_ := Aside0.mk (Kd.R_lower (Kd.R_new' (Kd.R_new' ho0 (Kd.R_lt (by (with_reducible repeat (first | apply Kd.R_alloc | apply Kd.R_drewN | apply Kd.R_drew)); exact HO_4.out))) (Kd.R_lt (by (with_reducible repeat (first | apply Kd.R_alloc | apply Kd.R_drewN | apply Kd.R_drew)); exact HO_7.out))) (below_size hb_)); have n5_ := Aside0.mk (blk_below (g := gb545) (o := .cells #[.int .i64 a0_0, .int .i64 a0_1, .int .i64 a0_2, .slice A0_3 l0_3.length c0_3] 24 (0, 0)) (by (with_reducible repeat (first | refine blk_drewN ?_ _ | refine blk_drew ?_ | refine blk_alloc ?_ _)); exact BK545.out) hb); have n6_ := Aside0.mk (blk_below (g := gb563) (o := .cells #[.int .i64 t557, .int .i64 t558, .int .i64 t559, .slice Ao24 t577.length co24] 30 (0, 0)) (by (with_reducible repeat (first | refine blk_drewN ?_ _ | refine blk_drew ?_ | refine blk_alloc ?_ _)); exact BK563.out) hb); have n7_ := Aside0.mk (below_step hb_ hb); clear HO_4; clear HO_7; clear HO_564003; clear HO587; clear BK545; clear BK563; clear HB; have HO_4 := n0_; have HO_7 := n1_; have HO_564003 := n2_; have HO587 := n3_; have HO590 := n4_; have BK545 := n5_; have BK563 := n6_; have HB := n7_; clear n0_ n1_ n2_ n3_ n4_ n5_ n6_ n7_; (try clear hb); (try clear hb2); (try clear hk); (try clear hi); (try clear ho0)))
           (try simp only [Act.put, List.setIfInBounds_toArray, List.set_cons_zero, List.set_cons_succ])
           go_cut [87] (fun v87 wc => ∃ (kq : Nat) (x87_60 : Bool), v87 = .bool x87_60 ∧ Aside0 (laws_FnExactGameLengths.j2 kq t580 t579 x87_60 = some r) ∧ Aside0 (kq ≤ kj36) ∧ Aside0 (Kd.R (Kd.int .i64) 3 wc w.heap.size (fun _ => True) (.slice Ao62 t564.length co62) t580) ∧ Aside0 (Kd.R k70 70 wc w.heap.size (fun _ => True) (.slice Ao24 t577.length co24) t577) ∧ Aside0 (wc.heap[gb545]? = some (.cells #[.int .i64 a0_0, .int .i64 a0_1, .int .i64 a0_2, (.slice A0_3 l0_3.length c0_3)] 24 (0, 0))) ∧ Aside0 (wc.heap[gb563]? = some (.cells #[.int .i64 t557, .int .i64 t558, .int .i64 t559, (.slice Ao24 t577.length co24)] 30 (0, 0))) ∧ Aside0 (Below w.heap.size w wc))
           case first =>
            have H := HC61.out
            clear HC61
            replace H := Option.bind_eq_some_iff.mp H
            obtain ⟨t592, A690, H⟩ := H
            replace H : (if t592 = true then (laws_FnExactGameLengths.j2 kj36 t580 t579 (t591 != t556)) else (laws_FnExactGameLengths.j2 kj36 t580 t579 true)) = some r := H
            have A69 := Aside0.mk A690
            clear A690
            by_cases c70 : t592 = true
            ·subst c70
             have H1 : (laws_FnExactGameLengths.j2 kj36 t580 t579 (t591 != t556)) = some r := by rw [if_pos rfl] at H; exact H
             clear H
             have H := H1
             clear H1
             have H' := Aside0.mk H
             clear H
             obtain ⟨Ao71, co71, eo71⟩ := Kd.R_slice HO590.out
             subst eo71
             obtain ⟨Ao72, co72, eo72⟩ := Kd.R_slice HO_4.out
             subst eo72
             go_wp2_with (first | ((with_reducible refine gate_callee (f := 24) rfl ?_); refine goesL_ (some 81) rfl rfl Try.func24 (by kernel_rfl) rfl #[.slice Ao71 t588.length co71, .slice Ao72 t553.length co72] rfl (by (try simp only [List.map_toArray, List.map_cons, List.map_nil]); first | done | rfl | (simp only [List.length_drop, List.length_take]; rfl)) ?_; (with_reducible refine (laws_eqIntS.calls kj36 _ _ t588 _ _ t553 true _ ?side1 ?side2 ?side3 ?side4 A69.out).mono ?_); (case side1 => repeat (first | exact (Kd.R_reads' HO590.out).2.2 | (with_reducible refine Kd.C_alloc ?_ _) | (with_reducible refine Kd.C_drewN ?_ _) | (with_reducible refine Kd.C_drew ?_))); (case side2 => exact (Kd.R_reads' HO590.out).2.1); (case side3 => repeat (first | exact (Kd.R_reads' HO_4.out).2.2 | (with_reducible refine Kd.C_alloc ?_ _) | (with_reducible refine Kd.C_drewN ?_ _) | (with_reducible refine Kd.C_drew ?_))); (case side4 => exact (Kd.R_reads' HO_4.out).2.1); rintro e w' ⟨rfl, ⟨nd, rfl⟩⟩; refine ⟨_, rfl, ?_⟩))
             go_meet
             case rel => exact ⟨_, ((t591 != t556)), (by first | rfl | (simp; done) | (simp [*]; done)), H', ⟨by have := HJ10.out; have := HJ36.out; first | omega | exact Nat.le_refl _⟩, ⟨by (try simp only [hl564003_36]); (with_reducible repeat (first | apply Kd.R_alloc | apply Kd.R_drewN | apply Kd.R_drew)); exact Kd.R_mono HO_7.out (fun _ hk => trivial)⟩, ⟨by (try simp only [hl564003_36]); (with_reducible repeat (first | apply Kd.R_alloc | apply Kd.R_drewN | apply Kd.R_drew)); exact Kd.R_mono HO_564003.out (fun _ hk => trivial)⟩, ⟨by (try simp only [hl564003_36]); (with_reducible repeat (first | refine blk_drewN ?_ _ | refine blk_drew ?_ | refine blk_alloc ?_ _)); exact BK545.out⟩, ⟨by (try simp only [hl564003_36]); (with_reducible repeat (first | refine blk_drewN ?_ _ | refine blk_drew ?_ | refine blk_alloc ?_ _)); exact BK563.out⟩, ⟨hb_⟩⟩
            ·replace c70 := Bool.eq_false_iff.mpr c70
             subst c70
             have H1 : (laws_FnExactGameLengths.j2 kj36 t580 t579 true) = some r := by rw [if_neg (show ¬ (false = true) by decide)] at H; exact H
             clear H
             have H := H1
             clear H1
             have H' := Aside0.mk H
             clear H
             obtain ⟨Ao73, co73, eo73⟩ := Kd.R_slice HO590.out
             subst eo73
             obtain ⟨Ao74, co74, eo74⟩ := Kd.R_slice HO_4.out
             subst eo74
             go_wp2_with (first | ((with_reducible refine gate_callee (f := 24) rfl ?_); refine goesL_ (some 81) rfl rfl Try.func24 (by kernel_rfl) rfl #[.slice Ao73 t588.length co73, .slice Ao74 t553.length co74] rfl (by (try simp only [List.map_toArray, List.map_cons, List.map_nil]); first | done | rfl | (simp only [List.length_drop, List.length_take]; rfl)) ?_; (with_reducible refine (laws_eqIntS.calls kj36 _ _ t588 _ _ t553 false _ ?side1 ?side2 ?side3 ?side4 A69.out).mono ?_); (case side1 => repeat (first | exact (Kd.R_reads' HO590.out).2.2 | (with_reducible refine Kd.C_alloc ?_ _) | (with_reducible refine Kd.C_drewN ?_ _) | (with_reducible refine Kd.C_drew ?_))); (case side2 => exact (Kd.R_reads' HO590.out).2.1); (case side3 => repeat (first | exact (Kd.R_reads' HO_4.out).2.2 | (with_reducible refine Kd.C_alloc ?_ _) | (with_reducible refine Kd.C_drewN ?_ _) | (with_reducible refine Kd.C_drew ?_))); (case side4 => exact (Kd.R_reads' HO_4.out).2.1); rintro e w' ⟨rfl, ⟨nd, rfl⟩⟩; refine ⟨_, rfl, ?_⟩))
             go_meet
             case rel => exact ⟨_, (true), (by first | rfl | (simp; done) | (simp [*]; done)), H', ⟨by have := HJ10.out; have := HJ36.out; first | omega | exact Nat.le_refl _⟩, ⟨by (try simp only [hl564003_36]); (with_reducible repeat (first | apply Kd.R_alloc | apply Kd.R_drewN | apply Kd.R_drew)); exact Kd.R_mono HO_7.out (fun _ hk => trivial)⟩, ⟨by (try simp only [hl564003_36]); (with_reducible repeat (first | apply Kd.R_alloc | apply Kd.R_drewN | apply Kd.R_drew)); exact Kd.R_mono HO_564003.out (fun _ hk => trivial)⟩, ⟨by (try simp only [hl564003_36]); (with_reducible repeat (first | refine blk_drewN ?_ _ | refine blk_drew ?_ | refine blk_alloc ?_ _)); exact BK545.out⟩, ⟨by (try simp only [hl564003_36]); (with_reducible repeat (first | refine blk_drewN ?_ _ | refine blk_drew ?_ | refine blk_alloc ?_ _)); exact BK563.out⟩, ⟨hb_⟩⟩
           case rest =>
            clear HC61
            try clear c1
            try clear c2
            try clear p2
            try clear c3
            try clear c3b0
            try clear c4
            try clear c5
            try clear c6
            try clear c7
            try clear c10
            try clear c14
            try clear c16
            try clear c18
            try clear c22
            try clear c24
            try clear c27
            try clear c29
            try clear c30
            try clear c31
            try clear c32
            try clear c35
            try clear c36
            try clear c37
            try clear c42
            try clear c45
            try clear c45b0
            try clear c47
            try clear c52
            try clear c55
            try clear c55b0
            try clear c58
            try clear c58b0
            try clear c58b1
            try clear c64
            try clear c70
            try clear hcz13_0
            try clear hcz13_1
            try clear hcz13_2
            try clear hcz13_3
            try clear hcz15_0
            try clear hcz15_1
            try clear hcz15_2
            try clear hcz15_3
            try clear hcz19_0
            try clear hcz19_1
            try clear hcz19_2
            try clear hcz19_3
            try clear hcz23_0
            try clear hcz23_1
            try clear hcz23_2
            try clear hcz23_3
            try clear hcz43_0
            try clear hcz43_1
            try clear hcz43_2
            try clear hcz43_3
            try clear hcz5_0
            try clear hcz5_1
            try clear hcz5_2
            try clear hcz5_3
            try clear hcz65_0
            try clear hcz65_1
            try clear hcz65_2
            try clear hcz65_3
            try clear hfz13_0
            try clear hfz13_1
            try clear hfz13_2
            try clear hfz13_3
            try clear hfz15_0
            try clear hfz15_1
            try clear hfz15_2
            try clear hfz15_3
            try clear hfz19_0
            try clear hfz19_1
            try clear hfz19_2
            try clear hfz19_3
            try clear hfz23_0
            try clear hfz23_1
            try clear hfz23_2
            try clear hfz23_3
            try clear hfz43_0
            try clear hfz43_1
            try clear hfz43_2
            try clear hfz43_3
            try clear hfz5_0
            try clear hfz5_1
            try clear hfz5_2
            try clear hfz5_3
            try clear hfz65_0
            try clear hfz65_1
            try clear hfz65_2
            try clear hfz65_3
            try clear p2
            obtain ⟨kq, x87_60, rfl, HA, HJ60, HO_7, HO_564003, BK545, BK563, HB⟩ := hcut
            have hl7_60 := (Kd.R_reads' HO_7.out).1
            rw [hl7_60] at HO_7
            (try simp only [hl7_60])
            (try simp only [hl7_60] at BK545)
            (try simp only [hl7_60] at BK563)
            (try simp only [hl7_60] at HO_564003)
            cases kq with
            | zero => exact absurd HA.out (by simp [laws_FnExactGameLengths.j2])
            | succ kj60 =>
             have H := HA.out
             clear HA
             simp only [laws_FnExactGameLengths.j2] at H
             by_cases c75 : x87_60 = true
             ·subst c75
              have H1 : (some false) = some r := by rw [if_pos rfl] at H; exact H
              clear H
              have H := H1
              clear H1
              obtain rfl := Option.some.inj H
              go_wp2
              go_ret
              exact ⟨by first | rfl | (simp [errW_none, errW_some] <;> rfl) | (simp [*, errW_none, errW_some] <;> rfl), hb_⟩
             ·replace c75 := Bool.eq_false_iff.mpr c75
              subst c75
              have H1 : ((laws_heldIntS.f kj60 t580 1).bind fun t593 => (if t593 < 0 then (some false) else (if t593 = t579 then (some true) else (some false)))) = some r := by rw [if_neg (show ¬ (false = true) by decide)] at H; exact H
              clear H
              have H := H1
              clear H1
              replace H := Option.bind_eq_some_iff.mp H
              obtain ⟨t593, A760, H⟩ := H
              replace H : (if t593 < 0 then (some false) else (if t593 = t579 then (some true) else (some false))) = some r := H
              have A76 := Aside0.mk A760
              clear A760
              by_cases c77 : t593 < 0
              ·rw [if_pos c77] at H
               have c77b0 : decide (t593 < 0) = true := decide_eq_true c77
               clear c77
               obtain rfl := Option.some.inj H
               go_wp2_with (first | ((with_reducible refine gate_callee (f := 31) rfl ?_); refine goesL_ (some 90) rfl rfl Try.func31 (by kernel_rfl) rfl #[.slice Ao62 t580.length co62, .int .i64 1] rfl (by (try simp only [List.map_toArray, List.map_cons, List.map_nil]); first | done | rfl | (simp only [List.length_drop, List.length_take]; rfl)) ?_; (with_reducible refine (laws_heldIntS.calls kj60 _ _ t580 1 t593 _ ?side1 ?side2 A76.out).mono ?_); (case side1 => repeat (first | exact (Kd.R_reads' HO_7.out).2.2 | (with_reducible refine Kd.C_alloc ?_ _) | (with_reducible refine Kd.C_drewN ?_ _) | (with_reducible refine Kd.C_drew ?_))); (case side2 => exact (Kd.R_reads' HO_7.out).2.1); rintro e w' ⟨rfl, ⟨nd, rfl⟩⟩; refine ⟨_, rfl, ?_⟩))
               go_ret
               exact ⟨by first | rfl | (simp [errW_none, errW_some] <;> rfl) | (simp [*, errW_none, errW_some] <;> rfl), hb_⟩
              ·rw [if_neg c77] at H
               have c77b0 : decide (t593 < 0) = false := decide_eq_false c77
               clear c77
               by_cases c78 : t593 = t579
               ·rw [if_pos c78] at H
                have c78b0 : (t593 == t579) = true := beq_iff_eq.mpr c78
                have c78b1 : (t593 != t579) = false := bne_eq_false_iff_eq.mpr c78
                clear c78
                obtain rfl := Option.some.inj H
                go_wp2_with (first | ((with_reducible refine gate_callee (f := 31) rfl ?_); refine goesL_ (some 90) rfl rfl Try.func31 (by kernel_rfl) rfl #[.slice Ao62 t580.length co62, .int .i64 1] rfl (by (try simp only [List.map_toArray, List.map_cons, List.map_nil]); first | done | rfl | (simp only [List.length_drop, List.length_take]; rfl)) ?_; (with_reducible refine (laws_heldIntS.calls kj60 _ _ t580 1 t593 _ ?side1 ?side2 A76.out).mono ?_); (case side1 => repeat (first | exact (Kd.R_reads' HO_7.out).2.2 | (with_reducible refine Kd.C_alloc ?_ _) | (with_reducible refine Kd.C_drewN ?_ _) | (with_reducible refine Kd.C_drew ?_))); (case side2 => exact (Kd.R_reads' HO_7.out).2.1); rintro e w' ⟨rfl, ⟨nd, rfl⟩⟩; refine ⟨_, rfl, ?_⟩))
                go_ret
                exact ⟨by first | rfl | (simp [errW_none, errW_some] <;> rfl) | (simp [*, errW_none, errW_some] <;> rfl), hb_⟩
               ·rw [if_neg c78] at H
                have c78b0 : (t593 == t579) = false := beq_eq_false_iff_ne.mpr c78
                have c78b1 : (t593 != t579) = true := bne_iff_ne.mpr c78
                obtain rfl := Option.some.inj H
                go_wp2_with (first | ((with_reducible refine gate_callee (f := 31) rfl ?_); refine goesL_ (some 90) rfl rfl Try.func31 (by kernel_rfl) rfl #[.slice Ao62 t580.length co62, .int .i64 1] rfl (by (try simp only [List.map_toArray, List.map_cons, List.map_nil]); first | done | rfl | (simp only [List.length_drop, List.length_take]; rfl)) ?_; (with_reducible refine (laws_heldIntS.calls kj60 _ _ t580 1 t593 _ ?side1 ?side2 A76.out).mono ?_); (case side1 => repeat (first | exact (Kd.R_reads' HO_7.out).2.2 | (with_reducible refine Kd.C_alloc ?_ _) | (with_reducible refine Kd.C_drewN ?_ _) | (with_reducible refine Kd.C_drew ?_))); (case side2 => exact (Kd.R_reads' HO_7.out).2.1); rintro e w' ⟨rfl, ⟨nd, rfl⟩⟩; refine ⟨_, rfl, ?_⟩))
                go_ret
                exact ⟨by first | rfl | (simp [errW_none, errW_some] <;> rfl) | (simp [*, errW_none, errW_some] <;> rfl), hb_⟩
          ·rw [if_neg c58] at H
           have c58b0 : (t581 == t579) = false := beq_eq_false_iff_ne.mpr c58
           have c58b1 : (t581 != t579) = true := bne_iff_ne.mpr c58
           obtain rfl := Option.some.inj H
           obtain ⟨Ao79, co79, eo79⟩ := Kd.R_slice HO_7.out
           subst eo79
           go_wp2_with (first | ((with_reducible refine gate_callee (f := 30) rfl ?_); refine goesL_ (some 64) rfl rfl Try.func30 (by kernel_rfl) rfl #[.slice Ao79 t564.length co79, .int .i64 1] rfl (by (try simp only [List.map_toArray, List.map_cons, List.map_nil]); first | done | rfl | (simp only [List.length_drop, List.length_take]; rfl)) ?_; (with_reducible refine (laws_markIntS.calls kj36 (fun k_ => some k_ = (.slice Ao79 t564.length co79 : Value).ownBlock) (.slice Ao79 t564.length co79) t564 1 t579 t580 w _ ?side1 ?side2 A53.out).mono ?_); (case side1 => repeat (first | (with_reducible first | exact HB.out | apply below_alloc | apply pw_below_drewN | apply below_drew1 | refine below_set ?_ GE545.out | refine below_set ?_ GE563.out) | exact HB.out)); (case side2 => exact Kd.R_tight rfl HO_7.out); rintro e w80 ⟨rfl, hy0, hb, hkp⟩; refine ⟨_, rfl, ?_⟩; have n0_ := Aside0.mk (Kd.R_mono (ok' := fun k_ => some k_ ≠ (.slice Ao79 t564.length co79 : Value).ownBlock) (Kd.R_keptB (HO_4.out) hkp (fun k_ hk_ hs_ => (hk_) hs_)) (fun k_ hk_ => hk_.1)); have n1_ := Aside0.mk (Kd.R_reok rfl hy0 (fun k_ e_ => HO_7.out.1 k_ e_)); have n2_ := Aside0.mk (Kd.R_mono (ok' := fun k_ => True) (Kd.R_keptB ((Kd.R_apart' HO_564003.out (Kd.R_typed HO_7.out) (by decide))) hkp (fun k_ hk_ hs_ => (hk_.2) hs_)) (fun k_ hk_ => trivial)); have n3_ := Aside0.mk (blk_kept (by (with_reducible repeat (first | refine blk_drewN ?_ _ | refine blk_drew ?_ | refine blk_alloc ?_ _)); exact BK545.out) hkp (fun hs_ => (fun e_ => (Kd.R_ne HO_7.out BK545.out (by decide)) e_) hs_)); have n4_ := Aside0.mk (blk_kept (by (with_reducible repeat (first | refine blk_drewN ?_ _ | refine blk_drew ?_ | refine blk_alloc ?_ _)); exact BK563.out) hkp (fun hs_ => (fun e_ => (Kd.R_ne HO_7.out BK563.out (by decide)) e_) hs_)); have n5_ := Aside0.mk (hb); clear HO_4; clear HO_7; clear HO_564003; clear BK545; clear BK563; clear HB; have HO_4 := n0_; have HO_7 := n1_; have HO_564003 := n2_; have BK545 := n3_; have BK563 := n4_; have HB := n5_; clear n0_ n1_ n2_ n3_ n4_ n5_; (try clear hb); (try clear hkp); (try clear hy0)) | ((with_reducible refine gate_callee (f := 31) rfl ?_); refine goesL_ (some 67) rfl rfl Try.func31 (by kernel_rfl) rfl #[.slice Ao79 t580.length co79, .int .i64 1] rfl (by (try simp only [List.map_toArray, List.map_cons, List.map_nil]); first | done | (rw [show t580.length = t564.length from (Kd.R_reads' HO_7.out).1.symm] <;> rfl) | rfl | (simp only [List.length_drop, List.length_take]; rfl)) ?_; (with_reducible refine (laws_heldIntS.calls kj36 _ _ t580 1 t581 _ ?side1 ?side2 A54.out).mono ?_); (case side1 => repeat (first | exact (Kd.R_reads' HO_7.out).2.2 | (with_reducible refine Kd.C_alloc ?_ _) | (with_reducible refine Kd.C_drewN ?_ _) | (with_reducible refine Kd.C_drew ?_))); (case side2 => rw [show t580.length = t564.length from (Kd.R_reads' HO_7.out).1.symm]; exact (Kd.R_reads' HO_7.out).2.1); rintro e w' ⟨rfl, ⟨nd, rfl⟩⟩; refine ⟨_, rfl, ?_⟩))
           go_ret
           exact ⟨by first | rfl | (simp [errW_none, errW_some] <;> rfl) | (simp [*, errW_none, errW_some] <;> rfl), hb_⟩
     ·replace c35 := Bool.eq_false_iff.mpr c35
      subst c35
      have H1 : (some false) = some r := by rw [if_neg (show ¬ (false = true) by decide)] at H; exact H
      clear H
      have H := H1
      clear H1
      obtain rfl := Option.some.inj H
      try go_wp2
      have n0_ := Aside0.mk (Kd.R_drew HO_4.out)
      have n1_ := Aside0.mk (Kd.R_drew HO_7.out)
      have n2_ := Aside0.mk (Kd.R_drew HO_564003.out)
      have n3_ := Aside0.mk (blk_drew BK545.out)
      have n4_ := Aside0.mk (blk_drew BK563.out)
      have n5_ := Aside0.mk (below_drew1 HB.out)
      clear HO_4
      clear HO_7
      clear HO_564003
      clear BK545
      clear BK563
      clear HB
      have HO_4 := n0_
      have HO_7 := n1_
      have HO_564003 := n2_
      have BK545 := n3_
      have BK563 := n4_
      have HB := n5_
      clear n0_ n1_ n2_ n3_ n4_ n5_
      refine start_ (n := 5) (S := fun w' => w'.cell? ⟨gb563, 0, none⟩ = some (.int .i64 t557) ∧ w'.cell? ⟨gb563, 1, none⟩ = some (.int .i64 t558) ∧ w'.cell? ⟨gb563, 2, none⟩ = some (.int .i64 t559) ∧ w'.cell? ⟨gb563, 3, none⟩ = some (.slice Ao24 t560.length co24) ∧ w'.cell? ⟨gb545, 0, none⟩ = some (.int .i64 a0_0) ∧ w'.cell? ⟨gb545, 1, none⟩ = some (.int .i64 a0_1) ∧ w'.cell? ⟨gb545, 2, none⟩ = some (.int .i64 a0_2) ∧ w'.cell? ⟨gb545, 3, none⟩ = some (.slice A0_3 l0_3.length c0_3)) (ds := []) #[false, false, false, false, false] (by kernel_rfl) rfl rfl ⟨(blk_cell BK563.out 0).trans rfl, (blk_cell BK563.out 1).trans rfl, (blk_cell BK563.out 2).trans rfl, (blk_cell BK563.out 3).trans rfl, (blk_cell BK545.out 0).trans rfl, (blk_cell BK545.out 1).trans rfl, (blk_cell BK545.out 2).trans rfl, (blk_cell BK545.out 3).trans rfl⟩ (fun hHeld => ?_)
      generalize wc.drew = w81 at HO_4 HO_7 HO_564003 BK545 BK563 HB hHeld ⊢
      refine take_ (i := 0) (N := some 41) (v := ?_) (a' := ?_) #[true, false, false, false, false] rfl rfl (by kernel_rfl) (fun _ _ _ h => h) (Or.inl ⟨by rfl, ?_⟩) hHeld ?_ ?_
      rotate_left
      ·rintro w' ⟨s0, s1, s2, s3, s4, s5, s6, s7⟩
       go_simp
       with_reducible rfl
      rotate_left
      ·simp only [Act.put, List.setIfInBounds_toArray, List.set_cons_zero, List.set_cons_succ, i64_w, i32_w]
       rfl
      refine take_ (i := 1) (N := some 42) (v := ?_) (a' := ?_) #[true, true, false, false, false] rfl rfl (by kernel_rfl) (fun _ _ _ h => h) (Or.inl ⟨by rfl, ?_⟩) hHeld ?_ ?_
      rotate_left
      ·rintro w' ⟨s0, s1, s2, s3, s4, s5, s6, s7⟩
       go_simp
       with_reducible rfl
      rotate_left
      ·simp only [Act.put, List.setIfInBounds_toArray, List.set_cons_zero, List.set_cons_succ, i64_w, i32_w]
       rfl
      refine one_ (i := 2) (N := some 43) #[true, true, true, false, false] rfl rfl (by kernel_rfl) (by decide) (fun K hK => ?_)
      refine goes_ Try.func16 (by kernel_rfl) rfl #[.agg #[.int .i64 a0_0, .int .i64 a0_1, .int .i64 a0_2, .slice A0_3 l0_3.length c0_3]] (by rfl) rfl rfl (by (try simp only [List.map_toArray, List.map_cons, List.map_nil]); first | done | rfl | (simp only [List.length_drop, List.length_take]; rfl)) ?_
      with_reducible refine (laws_toBoard.calls kj10 a0_0 a0_1 a0_2 _ _ l0_3 t569 t570 t571 t572 _ ?side1 ?side2 A33.out).mono ?_
      (case side1 => exact Kd.C_below HR0_3.out hb_)
      (case side2 => exact HC0_3.out)
      rintro e w82 ⟨v573, rfl, ho0, hb⟩
      refine ⟨_, rfl, ?_⟩
      have n0_ := Aside0.mk (Kd.R_below (by (with_reducible repeat (first | apply Kd.R_alloc | apply Kd.R_drewN | apply Kd.R_drew)); exact HO_4.out) hb)
      have n1_ := Aside0.mk (Kd.R_below (by (with_reducible repeat (first | apply Kd.R_alloc | apply Kd.R_drewN | apply Kd.R_drew)); exact HO_7.out) hb)
      have n2_ := Aside0.mk (Kd.R_elder' (by (with_reducible repeat (first | apply Kd.R_alloc | apply Kd.R_drewN | apply Kd.R_drew)); exact HO_564003.out) (Kd.R_base ho0) hb)
      have n3_ := Aside0.mk (Kd.R_lower (Kd.R_new' ho0 (Kd.R_lt (by (with_reducible repeat (first | apply Kd.R_alloc | apply Kd.R_drewN | apply Kd.R_drew)); exact HO_564003.out))) (below_size hb_))
      have n4_ := Aside0.mk (blk_below (g := gb545) (o := .cells #[.int .i64 a0_0, .int .i64 a0_1, .int .i64 a0_2, .slice A0_3 l0_3.length c0_3] 24 (0, 0)) (by (with_reducible repeat (first | refine blk_drewN ?_ _ | refine blk_drew ?_ | refine blk_alloc ?_ _)); exact BK545.out) hb)
      have n5_ := Aside0.mk (blk_below (g := gb563) (o := .cells #[.int .i64 t557, .int .i64 t558, .int .i64 t559, .slice Ao24 t560.length co24] 30 (0, 0)) (by (with_reducible repeat (first | refine blk_drewN ?_ _ | refine blk_drew ?_ | refine blk_alloc ?_ _)); exact BK563.out) hb)
      have n6_ := Aside0.mk (below_step hb_ hb)
      clear HO_4
      clear HO_7
      clear HO_564003
      clear BK545
      clear BK563
      clear HB
      have HO_4 := n0_
      have HO_7 := n1_
      have HO_564003 := n2_
      have HO574 := n3_
      have BK545 := n4_
      have BK563 := n5_
      have HB := n6_
      clear n0_ n1_ n2_ n3_ n4_ n5_ n6_
      (try clear hb)
      (try clear hb2)
      (try clear hk)
      (try clear hi)
      (try clear ho0)
      obtain ⟨Ao83, co83, eo83⟩ := Kd.R_slice HO574.out
      (first | subst eo83 | (injection eo83 with f1_ f2_ f3_; have f4_ := f1_.symm; have f5_ := f3_.symm; clear f1_ f2_ f3_; subst f4_; subst f5_))
      refine hK.out _ _ ⟨(blk_cell BK563.out 0).trans rfl, (blk_cell BK563.out 1).trans rfl, (blk_cell BK563.out 2).trans rfl, (blk_cell BK563.out 3).trans rfl, (blk_cell BK545.out 0).trans rfl, (blk_cell BK545.out 1).trans rfl, (blk_cell BK545.out 2).trans rfl, (blk_cell BK545.out 3).trans rfl⟩ (fun hHeld => ?_)
      clear hK K
      refine norm_ (a' := ?_) ?_ ?_
      rotate_left
      ·show Act.put _ (some 43) _ = _
       simp only [Act.put, List.setIfInBounds_toArray, List.set_cons_zero, List.set_cons_succ, i64_w, i32_w]
       rfl
      refine one_ (i := 3) (N := some 44) #[true, true, true, true, false] rfl rfl (by kernel_rfl) (by decide) (fun K hK => ?_)
      refine goes_ Try.func18 (by kernel_rfl) rfl #[.agg #[.int .i64 t557, .int .i64 t558, .int .i64 t559, .slice Ao24 t560.length co24], .agg #[.int .i64 t569, .int .i64 t570, .int .i64 t571, .slice Ao83 t572.length co83]] (by rfl) rfl rfl (by (try simp only [List.map_toArray, List.map_cons, List.map_nil]); first | done | rfl | (simp only [List.length_drop, List.length_take]; rfl)) ?_
      with_reducible refine (laws_eqBoard.calls kj10 t557 t558 t559 _ _ t560 t569 t570 t571 _ _ t572 false _ ?side1 ?side2 ?side3 ?side4 A34.out).mono ?_
      (case side1 => repeat (first | exact (Kd.R_reads' HO_564003.out).2.2 | (with_reducible refine Kd.C_alloc ?_ _) | (with_reducible refine Kd.C_drewN ?_ _) | (with_reducible refine Kd.C_drew ?_)))
      (case side2 => exact (Kd.R_reads' HO_564003.out).2.1)
      (case side3 => repeat (first | exact (Kd.R_reads' HO574.out).2.2 | (with_reducible refine Kd.C_alloc ?_ _) | (with_reducible refine Kd.C_drewN ?_ _) | (with_reducible refine Kd.C_drew ?_)))
      (case side4 => exact (Kd.R_reads' HO574.out).2.1)
      rintro e w84 ⟨rfl, hb⟩
      refine ⟨_, rfl, ?_⟩
      have n0_ := Aside0.mk (Kd.R_below (by (with_reducible repeat (first | apply Kd.R_alloc | apply Kd.R_drewN | apply Kd.R_drew)); exact HO_4.out) hb)
      have n1_ := Aside0.mk (Kd.R_below (by (with_reducible repeat (first | apply Kd.R_alloc | apply Kd.R_drewN | apply Kd.R_drew)); exact HO_7.out) hb)
      have n2_ := Aside0.mk (Kd.R_below (by (with_reducible repeat (first | apply Kd.R_alloc | apply Kd.R_drewN | apply Kd.R_drew)); exact HO_564003.out) hb)
      have n3_ := Aside0.mk (Kd.R_below (by (with_reducible repeat (first | apply Kd.R_alloc | apply Kd.R_drewN | apply Kd.R_drew)); exact HO574.out) hb)
      have n4_ := Aside0.mk (blk_below (g := gb545) (o := .cells #[.int .i64 a0_0, .int .i64 a0_1, .int .i64 a0_2, .slice A0_3 l0_3.length c0_3] 24 (0, 0)) (by (with_reducible repeat (first | refine blk_drewN ?_ _ | refine blk_drew ?_ | refine blk_alloc ?_ _)); exact BK545.out) hb)
      have n5_ := Aside0.mk (blk_below (g := gb563) (o := .cells #[.int .i64 t557, .int .i64 t558, .int .i64 t559, .slice Ao24 t560.length co24] 30 (0, 0)) (by (with_reducible repeat (first | refine blk_drewN ?_ _ | refine blk_drew ?_ | refine blk_alloc ?_ _)); exact BK563.out) hb)
      have n6_ := Aside0.mk (below_step hb_ hb)
      clear HO_4
      clear HO_7
      clear HO_564003
      clear HO574
      clear BK545
      clear BK563
      clear HB
      have HO_4 := n0_
      have HO_7 := n1_
      have HO_564003 := n2_
      have HO574 := n3_
      have BK545 := n4_
      have BK563 := n5_
      have HB := n6_
      clear n0_ n1_ n2_ n3_ n4_ n5_ n6_
      (try clear hb)
      (try clear hb2)
      (try clear hk)
      (try clear hi)
      refine hK.out _ _ ⟨(blk_cell BK563.out 0).trans rfl, (blk_cell BK563.out 1).trans rfl, (blk_cell BK563.out 2).trans rfl, (blk_cell BK563.out 3).trans rfl, (blk_cell BK545.out 0).trans rfl, (blk_cell BK545.out 1).trans rfl, (blk_cell BK545.out 2).trans rfl, (blk_cell BK545.out 3).trans rfl⟩ (fun hHeld => ?_)
      clear hK K
      refine norm_ (a' := ?_) ?_ ?_
      rotate_left
      ·show Act.put _ (some 44) _ = _
       simp only [Act.put, List.setIfInBounds_toArray, List.set_cons_zero, List.set_cons_succ, i64_w, i32_w]
       rfl
      refine pure_ (i := 4) (N := some 45) (v := ?_) (a' := ?_) #[true, true, true, true, true] rfl rfl (by kernel_rfl) (fun _ _ _ h => h) (Or.inl ⟨by rfl, ?_⟩) ?_ ?_
      rotate_left
      ·intro w'
       go_simp
       with_reducible rfl
      rotate_left
      ·simp only [Act.put, List.setIfInBounds_toArray, List.set_cons_zero, List.set_cons_succ, i64_w, i32_w]
       rfl
      refine done_ (by kernel_rfl) ?_
      try go_wp2
      go_ret
      exact ⟨by first | rfl | (simp [errW_none, errW_some] <;> rfl) | (simp [*, errW_none, errW_some] <;> rfl), hb_⟩

end Go.Proofs.Ytphjhfpeomifiaa.P
