-- written for this claim by a program of this session (wip/tools/xprint.py), which runs the kit's print with other cuts
import Derived.Test.YtphjhfpeomifiaaP
import Derived.Test.YtphjhfpeomifiaaECount
import Derived.Test.YtphjhfpeomifiaaEThrows
import Derived.Test.YtphjhfpeomifiaaP24
import Derived.Test.YtphjhfpeomifiaaP42
import Derived.Test.YtphjhfpeomifiaaP44
import Derived.Test.YtphjhfpeomifiaaP57
import Derived.Test.YtphjhfpeomifiaaP58
import Derived.Test.YtphjhfpeomifiaaP79
import Derived.Test.YtphjhfpeomifiaaP80
import Derived.Test.YtphjhfpeomifiaaP83
namespace Go.Proofs.Ytphjhfpeomifiaa.P
open Go.RowKit Go.Proofs.YtphjhfpeomifiaaW.PrintWords Go.Proofs.YtphjhfpeomifiaaW.PrintLast Go.Proofs.YtphjhfpeomifiaaW.PrintMore
attribute [local go_sem] max2_int min2_int max_two min_two max_three min_three max_four min_four   -- for this text's walks alone
set_option linter.unusedVariables false
set_option linter.unusedSimpArgs false

/-! ### impl_RankOfGame: function 43 -/
mutual
def impl_RankOfGame.j0 : Nat → List Int → Bool → Int → Int → Int → List (S70) → Option (Int × Bool)
 | 0, _, _, _, _, _, _ => none
 | k + 1, x1, x30, x701000, x701001, x701002, x701003 => if x30 = true then (some (0, false)) else (impl_RankOfGame.l0 k x1 0 0 x1 (x1.length : Int) 0 x701000 x701001 x701002 x701003)
def impl_RankOfGame.l0 : Nat → List Int → Int → Int → List Int → Int → Int → Int → Int → Int → List (S70) → Option (Int × Bool)
 | 0, _, _, _, _, _, _, _, _, _, _ => none
 | k + 1, x1, x6, x7, x31, x32, x33, x701000, x701001, x701002, x701003 => if x33 < x32 then (if 0 ≤ x33 then (if x33 < (x31.length : Int) then (impl_RankOfGame.l1 k x1 x6 x7 x33 (rd x31 x33) 1 x31 x32 x33 x701000 x701001 x701002 x701003) else (none)) else (none)) else (some (x6, true))
def impl_RankOfGame.l1 : Nat → List Int → Int → Int → Int → Int → Int → List Int → Int → Int → Int → Int → Int → List (S70) → Option (Int × Bool)
 | 0, _, _, _, _, _, _, _, _, _, _, _, _, _ => none
 | k + 1, x1, x6, x7, x8, x9, x10, x31, x32, x33, x701000, x701001, x701002, x701003 => if x10 < x9 then ((impl_Board_throw.f k x701000 x701001 x701002 x701003 x7 x10).bind fun t705 => ((impl_Board_countGames.f k x701000 x701001 x701002 x701003 t705 (wrap64 ((wrap64 ((x1.length : Int) - 1)) - x8))).bind fun t706 => (impl_RankOfGame.l1 k x1 (wrap64 (x6 + t706)) x7 x8 x9 (wrap64 (x10 + 1)) x31 x32 x33 x701000 x701001 x701002 x701003))) else ((impl_Board_throw.f k x701000 x701001 x701002 x701003 x7 x9).bind fun t707 => (impl_RankOfGame.l0 k x1 x6 t707 x31 x32 (wrap64 (x33 + 1)) x701000 x701001 x701002 x701003))
end
def impl_RankOfGame.f (k : Nat) (a0_0 : Int) (a0_1 : Int) (a0_2 : Int) (l0_3 : List (S70)) (l1 : List Int) : Option (Int × Bool) := (impl_IsBoard.f k a0_0 a0_1 a0_2 l0_3).bind fun t701 => (if t701 = true then ((impl_Board_areThrows.f a0_0 a0_1 a0_2 l0_3 l1).bind fun t702 => (if t702 = true then (if (l1.length : Int) > 16 then (impl_RankOfGame.j0 k l1 true a0_0 a0_1 a0_2 l0_3) else ((impl_isGame.f k a0_0 a0_1 a0_2 l0_3 l1).bind fun t703 => (impl_RankOfGame.j0 k l1 (!t703) a0_0 a0_1 a0_2 l0_3))) else (impl_RankOfGame.j0 k l1 true a0_0 a0_1 a0_2 l0_3))) else (impl_RankOfGame.j0 k l1 true a0_0 a0_1 a0_2 l0_3))
theorem impl_RankOfGame.mono_l : ∀ k, (∀ y0 y1 y2 y3 y4 y5, LeO (impl_RankOfGame.j0 k y0 y1 y2 y3 y4 y5) (impl_RankOfGame.j0 (k + 1) y0 y1 y2 y3 y4 y5)) ∧ (∀ y0 y1 y2 y3 y4 y5 y6 y7 y8 y9, LeO (impl_RankOfGame.l0 k y0 y1 y2 y3 y4 y5 y6 y7 y8 y9) (impl_RankOfGame.l0 (k + 1) y0 y1 y2 y3 y4 y5 y6 y7 y8 y9)) ∧ (∀ y0 y1 y2 y3 y4 y5 y6 y7 y8 y9 y10 y11 y12, LeO (impl_RankOfGame.l1 k y0 y1 y2 y3 y4 y5 y6 y7 y8 y9 y10 y11 y12) (impl_RankOfGame.l1 (k + 1) y0 y1 y2 y3 y4 y5 y6 y7 y8 y9 y10 y11 y12))
 | 0 => ⟨fun _ _ _ _ _ _ r h => by simp [impl_RankOfGame.j0] at h, fun _ _ _ _ _ _ _ _ _ _ r h => by simp [impl_RankOfGame.l0] at h, fun _ _ _ _ _ _ _ _ _ _ _ _ _ r h => by simp [impl_RankOfGame.l1] at h⟩
 | k + 1 => by
  obtain ⟨ih0, ih1, ih2⟩ := impl_RankOfGame.mono_l k
  refine ⟨?_, ?_, ?_⟩
  ·intro y0 y1 y2 y3 y4 y5
   unfold impl_RankOfGame.j0
   repeat' first
   | (with_reducible exact ih0 _ _ _ _ _ _)
   | (with_reducible exact ih1 _ _ _ _ _ _ _ _ _ _)
   | (with_reducible exact ih2 _ _ _ _ _ _ _ _ _ _ _ _ _)
   | (with_reducible exact impl_Board_countGames.mono _ _ _ _ _ _ _)
   | (with_reducible exact impl_Board_throw.mono _ _ _ _ _ _ _)
   | (with_reducible exact impl_IsBoard.mono _ _ _ _ _)
   | (with_reducible exact impl_isGame.mono _ _ _ _ _ _)
   | (with_reducible exact LeO.refl _)
   | (with_reducible exact LeO.none _)
   | (with_reducible refine LeO.ite ?_ ?_)
   | (with_reducible refine LeO.bind ?_ (fun _ => ?_))
   | exact ih0 _ _ _ _ _ _
   | exact ih1 _ _ _ _ _ _ _ _ _ _
   | exact ih2 _ _ _ _ _ _ _ _ _ _ _ _ _
   | exact impl_Board_countGames.mono _ _ _ _ _ _ _
   | exact impl_Board_throw.mono _ _ _ _ _ _ _
   | exact impl_IsBoard.mono _ _ _ _ _
   | exact impl_isGame.mono _ _ _ _ _ _
   | exact LeO.none _
   | refine LeO.ite ?_ ?_
   | refine LeO.bind ?_ (fun _ => ?_)
  ·intro y0 y1 y2 y3 y4 y5 y6 y7 y8 y9
   unfold impl_RankOfGame.l0
   repeat' first
   | (with_reducible exact ih0 _ _ _ _ _ _)
   | (with_reducible exact ih1 _ _ _ _ _ _ _ _ _ _)
   | (with_reducible exact ih2 _ _ _ _ _ _ _ _ _ _ _ _ _)
   | (with_reducible exact impl_Board_countGames.mono _ _ _ _ _ _ _)
   | (with_reducible exact impl_Board_throw.mono _ _ _ _ _ _ _)
   | (with_reducible exact impl_IsBoard.mono _ _ _ _ _)
   | (with_reducible exact impl_isGame.mono _ _ _ _ _ _)
   | (with_reducible exact LeO.refl _)
   | (with_reducible exact LeO.none _)
   | (with_reducible refine LeO.ite ?_ ?_)
   | (with_reducible refine LeO.bind ?_ (fun _ => ?_))
   | exact ih0 _ _ _ _ _ _
   | exact ih1 _ _ _ _ _ _ _ _ _ _
   | exact ih2 _ _ _ _ _ _ _ _ _ _ _ _ _
   | exact impl_Board_countGames.mono _ _ _ _ _ _ _
   | exact impl_Board_throw.mono _ _ _ _ _ _ _
   | exact impl_IsBoard.mono _ _ _ _ _
   | exact impl_isGame.mono _ _ _ _ _ _
   | exact LeO.none _
   | refine LeO.ite ?_ ?_
   | refine LeO.bind ?_ (fun _ => ?_)
  ·intro y0 y1 y2 y3 y4 y5 y6 y7 y8 y9 y10 y11 y12
   unfold impl_RankOfGame.l1
   repeat' first
   | (with_reducible exact ih0 _ _ _ _ _ _)
   | (with_reducible exact ih1 _ _ _ _ _ _ _ _ _ _)
   | (with_reducible exact ih2 _ _ _ _ _ _ _ _ _ _ _ _ _)
   | (with_reducible exact impl_Board_countGames.mono _ _ _ _ _ _ _)
   | (with_reducible exact impl_Board_throw.mono _ _ _ _ _ _ _)
   | (with_reducible exact impl_IsBoard.mono _ _ _ _ _)
   | (with_reducible exact impl_isGame.mono _ _ _ _ _ _)
   | (with_reducible exact LeO.refl _)
   | (with_reducible exact LeO.none _)
   | (with_reducible refine LeO.ite ?_ ?_)
   | (with_reducible refine LeO.bind ?_ (fun _ => ?_))
   | exact ih0 _ _ _ _ _ _
   | exact ih1 _ _ _ _ _ _ _ _ _ _
   | exact ih2 _ _ _ _ _ _ _ _ _ _ _ _ _
   | exact impl_Board_countGames.mono _ _ _ _ _ _ _
   | exact impl_Board_throw.mono _ _ _ _ _ _ _
   | exact impl_IsBoard.mono _ _ _ _ _
   | exact impl_isGame.mono _ _ _ _ _ _
   | exact LeO.none _
   | refine LeO.ite ?_ ?_
   | refine LeO.bind ?_ (fun _ => ?_)
theorem impl_RankOfGame.mono : ∀ a0 a1 a2 a3 a4 k, LeO (impl_RankOfGame.f k a0 a1 a2 a3 a4) (impl_RankOfGame.f (k + 1) a0 a1 a2 a3 a4) := by
 intro a0 a1 a2 a3 a4 k
 obtain ⟨ih0, ih1, ih2⟩ := impl_RankOfGame.mono_l k
 unfold impl_RankOfGame.f
 repeat' first
   | (with_reducible exact ih0 _ _ _ _ _ _)
   | (with_reducible exact ih1 _ _ _ _ _ _ _ _ _ _)
   | (with_reducible exact ih2 _ _ _ _ _ _ _ _ _ _ _ _ _)
   | (with_reducible exact impl_Board_countGames.mono _ _ _ _ _ _ _)
   | (with_reducible exact impl_Board_throw.mono _ _ _ _ _ _ _)
   | (with_reducible exact impl_IsBoard.mono _ _ _ _ _)
   | (with_reducible exact impl_isGame.mono _ _ _ _ _ _)
   | (with_reducible exact LeO.refl _)
   | (with_reducible exact LeO.none _)
   | (with_reducible refine LeO.ite ?_ ?_)
   | (with_reducible refine LeO.bind ?_ (fun _ => ?_))
   | exact ih0 _ _ _ _ _ _
   | exact ih1 _ _ _ _ _ _ _ _ _ _
   | exact ih2 _ _ _ _ _ _ _ _ _ _ _ _ _
   | exact impl_Board_countGames.mono _ _ _ _ _ _ _
   | exact impl_Board_throw.mono _ _ _ _ _ _ _
   | exact impl_IsBoard.mono _ _ _ _ _
   | exact impl_isGame.mono _ _ _ _ _ _
   | exact LeO.none _
   | refine LeO.ite ?_ ?_
   | refine LeO.bind ?_ (fun _ => ?_)
def impl_RankOfGame.T10 : Bool × List (List Nat × List Nat) := (true, [([], []), ([], []), ([], []), ([], []), ([], []), ([2, 3, 4], [2, 3, 4]), ([], []), ([6], [6]), ([7], [7]), ([], []), ([8, 9], [8, 9]), ([1, 5, 10, 5], [1, 5, 10]), ([0, 11], [0, 11]), ([12, 11, 0, 1, 2, 3, 4, 5, 6, 7, 8, 9, 10, 11, 12], [0, 12])])
def impl_RankOfGame.B10 : List Nat := [0, 0, 0, 0, 0, 28, 0, 64, 192, 0, 960, 2046, 4095, 8191]
theorem impl_RankOfGame.tab10 : rtab .any (opsOf Try.f43 10) = impl_RankOfGame.T10 := by kernel_rfl
theorem impl_RankOfGame.bits10 : waitsOk impl_RankOfGame.T10.2 impl_RankOfGame.B10 = true := by kernel_rfl
set_option maxHeartbeats 8000000 in
set_option maxRecDepth 100000 in
theorem impl_RankOfGame.calls (k : Nat) (a0_0 : Int) (a0_1 : Int) (a0_2 : Int) (A0_3 : Option Addr) (c0_3 : Nat) (l0_3 : List (S70)) (A1 : Option Addr) (c1 : Nat) (l1 : List Int) (r1 : Int) (r2 : Bool) (w : World) (hr0_3 : Kd.C k70 w A0_3 l0_3.length l0_3) (hc0_3 : l0_3.length ≤ c0_3) (hr1 : Kd.C (Kd.int .i64) w A1 l1.length l1) (hc1 : l1.length ≤ c1) (h : impl_RankOfGame.f k a0_0 a0_1 a0_2 l0_3 l1 = some (r1, r2)) :
  Calls Try.prog 43 #[.agg #[.int .i64 a0_0, .int .i64 a0_1, .int .i64 a0_2, .slice A0_3 l0_3.length c0_3], .slice A1 l1.length c1] w fun e w' => e = .returned (.tuple #[.int .i64 r1, .bool r2]) ∧ Below w.heap.size w w' := by
 have hu30 := Try.underlying30
 have HR0_3 := Aside0.mk hr0_3
 have HC0_3 := Aside0.mk hc0_3
 clear hr0_3 hc0_3
 have HR1 := Aside0.mk hr1
 have HC1 := Aside0.mk hc1
 clear hr1 hc1
 have HB := Aside0.mk (Below.refl w.heap.size w)
 have H : ((impl_IsBoard.f k a0_0 a0_1 a0_2 l0_3).bind fun t701 => (if t701 = true then ((impl_Board_areThrows.f a0_0 a0_1 a0_2 l0_3 l1).bind fun t702 => (if t702 = true then (if (l1.length : Int) > 16 then (impl_RankOfGame.j0 k l1 true a0_0 a0_1 a0_2 l0_3) else ((impl_isGame.f k a0_0 a0_1 a0_2 l0_3 l1).bind fun t703 => (impl_RankOfGame.j0 k l1 (!t703) a0_0 a0_1 a0_2 l0_3))) else (impl_RankOfGame.j0 k l1 true a0_0 a0_1 a0_2 l0_3))) else (impl_RankOfGame.j0 k l1 true a0_0 a0_1 a0_2 l0_3))) = some (r1, r2) := h
 clear h
 have HC3 := Aside0.mk H
 clear H
 go_enter Try.func43, Try.ntmps43
 go_upto_region 1 with (first | ((with_reducible refine gate_dst (N := 2) rfl ?_); (try (refine gate_guard (by rfl) ?_; dsimp only)); refine box_event ?hg (N := 2) ?hd (cs := #[.int .i64 a0_0, .int .i64 a0_1, .int .i64 a0_2, .slice A0_3 l0_3.length c0_3]) (t := 30) ?hr ?_; (case hd => rfl); (case hg => rfl); (case hr => first | (go_simp; done) | (go_simp; rfl)); intro gb700 hg w4 hbox hb; have n0_ := Aside0.mk (below_step hb_ hb); have n1_ := Aside0.mk (hbox); have n2_ := Aside0.mk ((by rw [hg]; exact (below_size hb_) : w.heap.size ≤ gb700)); have n3_ := Aside0.mk ((by rw [hg]; exact (below_size hb_) : w.heap.size ≤ gb700)); clear HB; have HB := n0_; have BK700 := n1_; have GW700 := n2_; have GE700 := n3_; clear n0_ n1_ n2_ n3_; clear hb hbox hg))
 (try simp only [Act.put, List.setIfInBounds_toArray, List.set_cons_zero, List.set_cons_succ])
 go_cut [30] (fun v30 wc => ∃ (kq : Nat) (x30_2 : Bool), v30 = .bool x30_2 ∧ Aside0 (impl_RankOfGame.j0 kq l1 x30_2 a0_0 a0_1 a0_2 l0_3 = some (r1, r2)) ∧ Aside0 (kq ≤ k) ∧ Aside0 (wc.heap[gb700]? = some (.cells #[.int .i64 a0_0, .int .i64 a0_1, .int .i64 a0_2, (.slice A0_3 l0_3.length c0_3)] 30 (0, 0))) ∧ Aside0 (Below w.heap.size w wc))
 case first =>
  have H := HC3.out
  clear HC3
  replace H := Option.bind_eq_some_iff.mp H
  obtain ⟨t701, A50, H⟩ := H
  replace H : (if t701 = true then ((impl_Board_areThrows.f a0_0 a0_1 a0_2 l0_3 l1).bind fun t702 => (if t702 = true then (if (l1.length : Int) > 16 then (impl_RankOfGame.j0 k l1 true a0_0 a0_1 a0_2 l0_3) else ((impl_isGame.f k a0_0 a0_1 a0_2 l0_3 l1).bind fun t703 => (impl_RankOfGame.j0 k l1 (!t703) a0_0 a0_1 a0_2 l0_3))) else (impl_RankOfGame.j0 k l1 true a0_0 a0_1 a0_2 l0_3))) else (impl_RankOfGame.j0 k l1 true a0_0 a0_1 a0_2 l0_3)) = some (r1, r2) := H
  have A5 := Aside0.mk A50
  clear A50
  by_cases c6 : t701 = true
  ·subst c6
   have H1 : ((impl_Board_areThrows.f a0_0 a0_1 a0_2 l0_3 l1).bind fun t702 => (if t702 = true then (if (l1.length : Int) > 16 then (impl_RankOfGame.j0 k l1 true a0_0 a0_1 a0_2 l0_3) else ((impl_isGame.f k a0_0 a0_1 a0_2 l0_3 l1).bind fun t703 => (impl_RankOfGame.j0 k l1 (!t703) a0_0 a0_1 a0_2 l0_3))) else (impl_RankOfGame.j0 k l1 true a0_0 a0_1 a0_2 l0_3))) = some (r1, r2) := by rw [if_pos rfl] at H; exact H
   clear H
   have H := H1
   clear H1
   replace H := Option.bind_eq_some_iff.mp H
   obtain ⟨t702, A70, H⟩ := H
   replace H : (if t702 = true then (if (l1.length : Int) > 16 then (impl_RankOfGame.j0 k l1 true a0_0 a0_1 a0_2 l0_3) else ((impl_isGame.f k a0_0 a0_1 a0_2 l0_3 l1).bind fun t703 => (impl_RankOfGame.j0 k l1 (!t703) a0_0 a0_1 a0_2 l0_3))) else (impl_RankOfGame.j0 k l1 true a0_0 a0_1 a0_2 l0_3)) = some (r1, r2) := H
   have A7 := Aside0.mk A70
   clear A70
   by_cases c8 : t702 = true
   ·subst c8
    have H1 : (if (l1.length : Int) > 16 then (impl_RankOfGame.j0 k l1 true a0_0 a0_1 a0_2 l0_3) else ((impl_isGame.f k a0_0 a0_1 a0_2 l0_3 l1).bind fun t703 => (impl_RankOfGame.j0 k l1 (!t703) a0_0 a0_1 a0_2 l0_3))) = some (r1, r2) := by rw [if_pos rfl] at H; exact H
    clear H
    have H := H1
    clear H1
    by_cases c9 : (l1.length : Int) > 16
    ·rw [if_pos c9] at H
     have c9b0 : decide (16 < (l1.length : Int)) = true := decide_eq_true c9
     have c9b1 : decide (16 < l1.length) = true := decide_eq_true (by omega)
     clear c9
     (first | rw [c9b0] | (simp only [i64_w, i32_w]; rw [c9b0]) | skip)
     have H' := Aside0.mk H
     clear H
     have hcz10_0 : w4.cell? ⟨gb700, 0, none⟩ = some (.int .i64 a0_0) := (blk_cell BK700.out 0).trans rfl
     have hcz10_1 : w4.cell? ⟨gb700, 1, none⟩ = some (.int .i64 a0_1) := (blk_cell BK700.out 1).trans rfl
     have hcz10_2 : w4.cell? ⟨gb700, 2, none⟩ = some (.int .i64 a0_2) := (blk_cell BK700.out 2).trans rfl
     have hcz10_3 : w4.cell? ⟨gb700, 3, none⟩ = some (.slice A0_3 l0_3.length c0_3) := (blk_cell BK700.out 3).trans rfl
     have hfz10_0 := blk_frozen BK700.out 0
     have hfz10_1 := blk_frozen BK700.out 1
     have hfz10_2 := blk_frozen BK700.out 2
     have hfz10_3 := blk_frozen BK700.out 3
     go_wp2_with (first | ((with_reducible refine gate_callee (f := 58) rfl ?_); refine goesL_ (some 12) rfl rfl Try.func58 (by kernel_rfl) rfl #[.agg #[.int .i64 a0_0, .int .i64 a0_1, .int .i64 a0_2, .slice A0_3 l0_3.length c0_3]] rfl (by (try simp only [List.map_toArray, List.map_cons, List.map_nil]); first | done | rfl | (simp only [List.length_drop, List.length_take]; rfl)) ?_; (with_reducible refine (impl_IsBoard.calls k a0_0 a0_1 a0_2 _ _ l0_3 true _ ?side1 ?side2 A5.out).mono ?_); (case side1 => exact Kd.C_below HR0_3.out hb_); (case side2 => exact HC0_3.out); rintro e w11 ⟨rfl, hb⟩; refine ⟨_, rfl, ?_⟩; have n0_ := Aside0.mk (blk_below (g := gb700) (o := .cells #[.int .i64 a0_0, .int .i64 a0_1, .int .i64 a0_2, .slice A0_3 l0_3.length c0_3] 30 (0, 0)) (by (with_reducible repeat (first | refine blk_drewN ?_ _ | refine blk_drew ?_ | refine blk_alloc ?_ _)); exact BK700.out) hb); have n1_ := Aside0.mk (below_step hb_ hb); clear BK700; clear HB; have BK700 := n0_; have HB := n1_; clear n0_ n1_; (try clear hb); (try clear hb2); (try clear hk); (try clear hi); have hcz12_0 : w11.cell? ⟨gb700, 0, none⟩ = some (.int .i64 a0_0) := (blk_cell BK700.out 0).trans rfl; have hcz12_1 : w11.cell? ⟨gb700, 1, none⟩ = some (.int .i64 a0_1) := (blk_cell BK700.out 1).trans rfl; have hcz12_2 : w11.cell? ⟨gb700, 2, none⟩ = some (.int .i64 a0_2) := (blk_cell BK700.out 2).trans rfl; have hcz12_3 : w11.cell? ⟨gb700, 3, none⟩ = some (.slice A0_3 l0_3.length c0_3) := (blk_cell BK700.out 3).trans rfl; have hfz12_0 := blk_frozen BK700.out 0; have hfz12_1 := blk_frozen BK700.out 1; have hfz12_2 := blk_frozen BK700.out 2; have hfz12_3 := blk_frozen BK700.out 3) | (go_at_call 59; (with_reducible refine (impl_Board_areThrows.calls a0_0 a0_1 a0_2 _ _ l0_3 _ _ l1 true _ ?side1 ?side2 ?side3 ?side4 A7.out).mono ?_); (case side1 => exact Kd.C_below HR0_3.out hb_); (case side2 => exact HC0_3.out); (case side3 => exact Kd.C_below HR1.out hb_); (case side4 => exact HC1.out); rintro e w13 ⟨rfl, hb⟩; have n0_ := Aside0.mk (blk_below (g := gb700) (o := .cells #[.int .i64 a0_0, .int .i64 a0_1, .int .i64 a0_2, .slice A0_3 l0_3.length c0_3] 30 (0, 0)) (by (with_reducible repeat (first | refine blk_drewN ?_ _ | refine blk_drew ?_ | refine blk_alloc ?_ _)); exact BK700.out) hb); have n1_ := Aside0.mk (below_step hb_ hb); clear BK700; clear HB; have BK700 := n0_; have HB := n1_; clear n0_ n1_; (try clear hb); (try clear hb2); (try clear hk); (try clear hi)))
     go_meet
     case rel => exact ⟨_, (true), (by first | rfl | (simp; done) | (simp [*]; done)), H', ⟨by first | omega | exact Nat.le_refl _⟩, ⟨by (with_reducible repeat (first | refine blk_drewN ?_ _ | refine blk_drew ?_ | refine blk_alloc ?_ _)); exact BK700.out⟩, ⟨hb_⟩⟩
    ·rw [if_neg c9] at H
     have c9b0 : decide (16 < (l1.length : Int)) = false := decide_eq_false c9
     have c9b1 : decide (16 < l1.length) = false := decide_eq_false (by omega)
     clear c9
     (first | rw [c9b0] | (simp only [i64_w, i32_w]; rw [c9b0]) | skip)
     replace H := Option.bind_eq_some_iff.mp H
     obtain ⟨t703, A140, H⟩ := H
     replace H : (impl_RankOfGame.j0 k l1 (!t703) a0_0 a0_1 a0_2 l0_3) = some (r1, r2) := H
     have A14 := Aside0.mk A140
     clear A140
     have H' := Aside0.mk H
     clear H
     have hcz15_0 : w4.cell? ⟨gb700, 0, none⟩ = some (.int .i64 a0_0) := (blk_cell BK700.out 0).trans rfl
     have hcz15_1 : w4.cell? ⟨gb700, 1, none⟩ = some (.int .i64 a0_1) := (blk_cell BK700.out 1).trans rfl
     have hcz15_2 : w4.cell? ⟨gb700, 2, none⟩ = some (.int .i64 a0_2) := (blk_cell BK700.out 2).trans rfl
     have hcz15_3 : w4.cell? ⟨gb700, 3, none⟩ = some (.slice A0_3 l0_3.length c0_3) := (blk_cell BK700.out 3).trans rfl
     have hfz15_0 := blk_frozen BK700.out 0
     have hfz15_1 := blk_frozen BK700.out 1
     have hfz15_2 := blk_frozen BK700.out 2
     have hfz15_3 := blk_frozen BK700.out 3
     go_wp2_with (first | ((with_reducible refine gate_callee (f := 58) rfl ?_); refine goesL_ (some 12) rfl rfl Try.func58 (by kernel_rfl) rfl #[.agg #[.int .i64 a0_0, .int .i64 a0_1, .int .i64 a0_2, .slice A0_3 l0_3.length c0_3]] rfl (by (try simp only [List.map_toArray, List.map_cons, List.map_nil]); first | done | rfl | (simp only [List.length_drop, List.length_take]; rfl)) ?_; (with_reducible refine (impl_IsBoard.calls k a0_0 a0_1 a0_2 _ _ l0_3 true _ ?side1 ?side2 A5.out).mono ?_); (case side1 => exact Kd.C_below HR0_3.out hb_); (case side2 => exact HC0_3.out); rintro e w16 ⟨rfl, hb⟩; refine ⟨_, rfl, ?_⟩; have n0_ := Aside0.mk (blk_below (g := gb700) (o := .cells #[.int .i64 a0_0, .int .i64 a0_1, .int .i64 a0_2, .slice A0_3 l0_3.length c0_3] 30 (0, 0)) (by (with_reducible repeat (first | refine blk_drewN ?_ _ | refine blk_drew ?_ | refine blk_alloc ?_ _)); exact BK700.out) hb); have n1_ := Aside0.mk (below_step hb_ hb); clear BK700; clear HB; have BK700 := n0_; have HB := n1_; clear n0_ n1_; (try clear hb); (try clear hb2); (try clear hk); (try clear hi); have hcz17_0 : w16.cell? ⟨gb700, 0, none⟩ = some (.int .i64 a0_0) := (blk_cell BK700.out 0).trans rfl; have hcz17_1 : w16.cell? ⟨gb700, 1, none⟩ = some (.int .i64 a0_1) := (blk_cell BK700.out 1).trans rfl; have hcz17_2 : w16.cell? ⟨gb700, 2, none⟩ = some (.int .i64 a0_2) := (blk_cell BK700.out 2).trans rfl; have hcz17_3 : w16.cell? ⟨gb700, 3, none⟩ = some (.slice A0_3 l0_3.length c0_3) := (blk_cell BK700.out 3).trans rfl; have hfz17_0 := blk_frozen BK700.out 0; have hfz17_1 := blk_frozen BK700.out 1; have hfz17_2 := blk_frozen BK700.out 2; have hfz17_3 := blk_frozen BK700.out 3) | (go_at_call 59; (with_reducible refine (impl_Board_areThrows.calls a0_0 a0_1 a0_2 _ _ l0_3 _ _ l1 true _ ?side1 ?side2 ?side3 ?side4 A7.out).mono ?_); (case side1 => exact Kd.C_below HR0_3.out hb_); (case side2 => exact HC0_3.out); (case side3 => exact Kd.C_below HR1.out hb_); (case side4 => exact HC1.out); rintro e w18 ⟨rfl, hb⟩; have n0_ := Aside0.mk (blk_below (g := gb700) (o := .cells #[.int .i64 a0_0, .int .i64 a0_1, .int .i64 a0_2, .slice A0_3 l0_3.length c0_3] 30 (0, 0)) (by (with_reducible repeat (first | refine blk_drewN ?_ _ | refine blk_drew ?_ | refine blk_alloc ?_ _)); exact BK700.out) hb); have n1_ := Aside0.mk (below_step hb_ hb); clear BK700; clear HB; have BK700 := n0_; have HB := n1_; clear n0_ n1_; (try clear hb); (try clear hb2); (try clear hk); (try clear hi); have hcz19_0 : w18.cell? ⟨gb700, 0, none⟩ = some (.int .i64 a0_0) := (blk_cell BK700.out 0).trans rfl; have hcz19_1 : w18.cell? ⟨gb700, 1, none⟩ = some (.int .i64 a0_1) := (blk_cell BK700.out 1).trans rfl; have hcz19_2 : w18.cell? ⟨gb700, 2, none⟩ = some (.int .i64 a0_2) := (blk_cell BK700.out 2).trans rfl; have hcz19_3 : w18.cell? ⟨gb700, 3, none⟩ = some (.slice A0_3 l0_3.length c0_3) := (blk_cell BK700.out 3).trans rfl; have hfz19_0 := blk_frozen BK700.out 0; have hfz19_1 := blk_frozen BK700.out 1; have hfz19_2 := blk_frozen BK700.out 2; have hfz19_3 := blk_frozen BK700.out 3) | (go_at_call 63; (with_reducible refine (impl_isGame.calls k a0_0 a0_1 a0_2 _ _ l0_3 _ _ l1 t703 _ ?side1 ?side2 ?side3 ?side4 A14.out).mono ?_); (case side1 => exact Kd.C_below HR0_3.out hb_); (case side2 => exact HC0_3.out); (case side3 => exact Kd.C_below HR1.out hb_); (case side4 => exact HC1.out); rintro e w20 ⟨rfl, hb⟩; have n0_ := Aside0.mk (blk_below (g := gb700) (o := .cells #[.int .i64 a0_0, .int .i64 a0_1, .int .i64 a0_2, .slice A0_3 l0_3.length c0_3] 30 (0, 0)) (by (with_reducible repeat (first | refine blk_drewN ?_ _ | refine blk_drew ?_ | refine blk_alloc ?_ _)); exact BK700.out) hb); have n1_ := Aside0.mk (below_step hb_ hb); clear BK700; clear HB; have BK700 := n0_; have HB := n1_; clear n0_ n1_; (try clear hb); (try clear hb2); (try clear hk); (try clear hi)))
     go_meet
     case rel => exact ⟨_, (!t703), (by first | rfl | (simp; done) | (simp [*]; done)), H', ⟨by first | omega | exact Nat.le_refl _⟩, ⟨by (with_reducible repeat (first | refine blk_drewN ?_ _ | refine blk_drew ?_ | refine blk_alloc ?_ _)); exact BK700.out⟩, ⟨hb_⟩⟩
   ·replace c8 := Bool.eq_false_iff.mpr c8
    subst c8
    have H1 : (impl_RankOfGame.j0 k l1 true a0_0 a0_1 a0_2 l0_3) = some (r1, r2) := by rw [if_neg (show ¬ (false = true) by decide)] at H; exact H
    clear H
    have H := H1
    clear H1
    have H' := Aside0.mk H
    clear H
    have hcz21_0 : w4.cell? ⟨gb700, 0, none⟩ = some (.int .i64 a0_0) := (blk_cell BK700.out 0).trans rfl
    have hcz21_1 : w4.cell? ⟨gb700, 1, none⟩ = some (.int .i64 a0_1) := (blk_cell BK700.out 1).trans rfl
    have hcz21_2 : w4.cell? ⟨gb700, 2, none⟩ = some (.int .i64 a0_2) := (blk_cell BK700.out 2).trans rfl
    have hcz21_3 : w4.cell? ⟨gb700, 3, none⟩ = some (.slice A0_3 l0_3.length c0_3) := (blk_cell BK700.out 3).trans rfl
    have hfz21_0 := blk_frozen BK700.out 0
    have hfz21_1 := blk_frozen BK700.out 1
    have hfz21_2 := blk_frozen BK700.out 2
    have hfz21_3 := blk_frozen BK700.out 3
    go_wp2_with (first | ((with_reducible refine gate_callee (f := 58) rfl ?_); refine goesL_ (some 12) rfl rfl Try.func58 (by kernel_rfl) rfl #[.agg #[.int .i64 a0_0, .int .i64 a0_1, .int .i64 a0_2, .slice A0_3 l0_3.length c0_3]] rfl (by (try simp only [List.map_toArray, List.map_cons, List.map_nil]); first | done | rfl | (simp only [List.length_drop, List.length_take]; rfl)) ?_; (with_reducible refine (impl_IsBoard.calls k a0_0 a0_1 a0_2 _ _ l0_3 true _ ?side1 ?side2 A5.out).mono ?_); (case side1 => exact Kd.C_below HR0_3.out hb_); (case side2 => exact HC0_3.out); rintro e w22 ⟨rfl, hb⟩; refine ⟨_, rfl, ?_⟩; have n0_ := Aside0.mk (blk_below (g := gb700) (o := .cells #[.int .i64 a0_0, .int .i64 a0_1, .int .i64 a0_2, .slice A0_3 l0_3.length c0_3] 30 (0, 0)) (by (with_reducible repeat (first | refine blk_drewN ?_ _ | refine blk_drew ?_ | refine blk_alloc ?_ _)); exact BK700.out) hb); have n1_ := Aside0.mk (below_step hb_ hb); clear BK700; clear HB; have BK700 := n0_; have HB := n1_; clear n0_ n1_; (try clear hb); (try clear hb2); (try clear hk); (try clear hi); have hcz23_0 : w22.cell? ⟨gb700, 0, none⟩ = some (.int .i64 a0_0) := (blk_cell BK700.out 0).trans rfl; have hcz23_1 : w22.cell? ⟨gb700, 1, none⟩ = some (.int .i64 a0_1) := (blk_cell BK700.out 1).trans rfl; have hcz23_2 : w22.cell? ⟨gb700, 2, none⟩ = some (.int .i64 a0_2) := (blk_cell BK700.out 2).trans rfl; have hcz23_3 : w22.cell? ⟨gb700, 3, none⟩ = some (.slice A0_3 l0_3.length c0_3) := (blk_cell BK700.out 3).trans rfl; have hfz23_0 := blk_frozen BK700.out 0; have hfz23_1 := blk_frozen BK700.out 1; have hfz23_2 := blk_frozen BK700.out 2; have hfz23_3 := blk_frozen BK700.out 3) | (go_at_call 59; (with_reducible refine (impl_Board_areThrows.calls a0_0 a0_1 a0_2 _ _ l0_3 _ _ l1 false _ ?side1 ?side2 ?side3 ?side4 A7.out).mono ?_); (case side1 => exact Kd.C_below HR0_3.out hb_); (case side2 => exact HC0_3.out); (case side3 => exact Kd.C_below HR1.out hb_); (case side4 => exact HC1.out); rintro e w24 ⟨rfl, hb⟩; have n0_ := Aside0.mk (blk_below (g := gb700) (o := .cells #[.int .i64 a0_0, .int .i64 a0_1, .int .i64 a0_2, .slice A0_3 l0_3.length c0_3] 30 (0, 0)) (by (with_reducible repeat (first | refine blk_drewN ?_ _ | refine blk_drew ?_ | refine blk_alloc ?_ _)); exact BK700.out) hb); have n1_ := Aside0.mk (below_step hb_ hb); clear BK700; clear HB; have BK700 := n0_; have HB := n1_; clear n0_ n1_; (try clear hb); (try clear hb2); (try clear hk); (try clear hi)))
    go_meet
    case rel => exact ⟨_, (true), (by first | rfl | (simp; done) | (simp [*]; done)), H', ⟨by first | omega | exact Nat.le_refl _⟩, ⟨by (with_reducible repeat (first | refine blk_drewN ?_ _ | refine blk_drew ?_ | refine blk_alloc ?_ _)); exact BK700.out⟩, ⟨hb_⟩⟩
  ·replace c6 := Bool.eq_false_iff.mpr c6
   subst c6
   have H1 : (impl_RankOfGame.j0 k l1 true a0_0 a0_1 a0_2 l0_3) = some (r1, r2) := by rw [if_neg (show ¬ (false = true) by decide)] at H; exact H
   clear H
   have H := H1
   clear H1
   have H' := Aside0.mk H
   clear H
   have hcz25_0 : w4.cell? ⟨gb700, 0, none⟩ = some (.int .i64 a0_0) := (blk_cell BK700.out 0).trans rfl
   have hcz25_1 : w4.cell? ⟨gb700, 1, none⟩ = some (.int .i64 a0_1) := (blk_cell BK700.out 1).trans rfl
   have hcz25_2 : w4.cell? ⟨gb700, 2, none⟩ = some (.int .i64 a0_2) := (blk_cell BK700.out 2).trans rfl
   have hcz25_3 : w4.cell? ⟨gb700, 3, none⟩ = some (.slice A0_3 l0_3.length c0_3) := (blk_cell BK700.out 3).trans rfl
   have hfz25_0 := blk_frozen BK700.out 0
   have hfz25_1 := blk_frozen BK700.out 1
   have hfz25_2 := blk_frozen BK700.out 2
   have hfz25_3 := blk_frozen BK700.out 3
   go_wp2_with (first | ((with_reducible refine gate_callee (f := 58) rfl ?_); refine goesL_ (some 12) rfl rfl Try.func58 (by kernel_rfl) rfl #[.agg #[.int .i64 a0_0, .int .i64 a0_1, .int .i64 a0_2, .slice A0_3 l0_3.length c0_3]] rfl (by (try simp only [List.map_toArray, List.map_cons, List.map_nil]); first | done | rfl | (simp only [List.length_drop, List.length_take]; rfl)) ?_; (with_reducible refine (impl_IsBoard.calls k a0_0 a0_1 a0_2 _ _ l0_3 false _ ?side1 ?side2 A5.out).mono ?_); (case side1 => exact Kd.C_below HR0_3.out hb_); (case side2 => exact HC0_3.out); rintro e w26 ⟨rfl, hb⟩; refine ⟨_, rfl, ?_⟩; have n0_ := Aside0.mk (blk_below (g := gb700) (o := .cells #[.int .i64 a0_0, .int .i64 a0_1, .int .i64 a0_2, .slice A0_3 l0_3.length c0_3] 30 (0, 0)) (by (with_reducible repeat (first | refine blk_drewN ?_ _ | refine blk_drew ?_ | refine blk_alloc ?_ _)); exact BK700.out) hb); have n1_ := Aside0.mk (below_step hb_ hb); clear BK700; clear HB; have BK700 := n0_; have HB := n1_; clear n0_ n1_; (try clear hb); (try clear hb2); (try clear hk); (try clear hi)))
   go_meet
   case rel => exact ⟨_, (true), (by first | rfl | (simp; done) | (simp [*]; done)), H', ⟨by first | omega | exact Nat.le_refl _⟩, ⟨by (with_reducible repeat (first | refine blk_drewN ?_ _ | refine blk_drew ?_ | refine blk_alloc ?_ _)); exact BK700.out⟩, ⟨hb_⟩⟩
 case rest =>
  clear HC3
  try clear c1
  try clear p2
  try clear c4
  try clear c5
  try clear c6
  try clear c8
  try clear c9
  try clear c9b0
  try clear c9b1
  try clear hcz10_0
  try clear hcz10_1
  try clear hcz10_2
  try clear hcz10_3
  try clear hcz12_0
  try clear hcz12_1
  try clear hcz12_2
  try clear hcz12_3
  try clear hcz15_0
  try clear hcz15_1
  try clear hcz15_2
  try clear hcz15_3
  try clear hcz17_0
  try clear hcz17_1
  try clear hcz17_2
  try clear hcz17_3
  try clear hcz19_0
  try clear hcz19_1
  try clear hcz19_2
  try clear hcz19_3
  try clear hcz21_0
  try clear hcz21_1
  try clear hcz21_2
  try clear hcz21_3
  try clear hcz23_0
  try clear hcz23_1
  try clear hcz23_2
  try clear hcz23_3
  try clear hcz25_0
  try clear hcz25_1
  try clear hcz25_2
  try clear hcz25_3
  try clear hfz10_0
  try clear hfz10_1
  try clear hfz10_2
  try clear hfz10_3
  try clear hfz12_0
  try clear hfz12_1
  try clear hfz12_2
  try clear hfz12_3
  try clear hfz15_0
  try clear hfz15_1
  try clear hfz15_2
  try clear hfz15_3
  try clear hfz17_0
  try clear hfz17_1
  try clear hfz17_2
  try clear hfz17_3
  try clear hfz19_0
  try clear hfz19_1
  try clear hfz19_2
  try clear hfz19_3
  try clear hfz21_0
  try clear hfz21_1
  try clear hfz21_2
  try clear hfz21_3
  try clear hfz23_0
  try clear hfz23_1
  try clear hfz23_2
  try clear hfz23_3
  try clear hfz25_0
  try clear hfz25_1
  try clear hfz25_2
  try clear hfz25_3
  obtain ⟨kq, x30_2, rfl, HA, HJ2, BK700, HB⟩ := hcut
  cases kq with
  | zero => exact absurd HA.out (by simp [impl_RankOfGame.j0])
  | succ kj2 =>
   have H := HA.out
   clear HA
   simp only [impl_RankOfGame.j0] at H
   by_cases c27 : x30_2 = true
   ·subst c27
    have H1 : (some (0, false)) = some (r1, r2) := by rw [if_pos rfl] at H; exact H
    clear H
    have H := H1
    clear H1
    simp only [Option.some.injEq, Prod.mk.injEq] at H
    obtain ⟨rfl, rfl⟩ := H
    go_wp2
    go_ret2
    exact ⟨by first | rfl | (simp [errW_none, errW_some] <;> rfl) | (simp [*, errW_none, errW_some] <;> rfl), hb_⟩
   ·replace c27 := Bool.eq_false_iff.mpr c27
    subst c27
    have H1 : (impl_RankOfGame.l0 kj2 l1 0 0 l1 (l1.length : Int) 0 a0_0 a0_1 a0_2 l0_3) = some (r1, r2) := by rw [if_neg (show ¬ (false = true) by decide)] at H; exact H
    clear H
    have H := H1
    clear H1
    have H' := Aside0.mk H
    clear H
    go_wp2
    go_loopg [6, 7, 33] kj2 (fun kq v6 v7 v33 w' => ∃ (x6_2 : Int) (x7_2 : Int) (x33_2 : Int), v6 = .int .i64 x6_2 ∧ v7 = .int .i64 x7_2 ∧ v33 = .int .i64 x33_2 ∧ Aside0 (impl_RankOfGame.l0 kq l1 x6_2 x7_2 l1 (l1.length : Int) x33_2 a0_0 a0_1 a0_2 l0_3 = some (r1, r2)) ∧ Aside0 (kq ≤ kj2) ∧ Aside0 (w'.heap[gb700]? = some (.cells #[.int .i64 a0_0, .int .i64 a0_1, .int .i64 a0_2, (.slice A0_3 l0_3.length c0_3)] 30 (0, 0))) ∧ Aside0 (Below w.heap.size w w'))
    case atStart => exact ⟨(0), (0), (0), (by first | rfl | (simp; done) | (simp [*]; done)), (by first | rfl | (simp; done) | (simp [*]; done)), (by first | rfl | (simp; done) | (simp [*]; done)), H', ⟨Nat.le_refl _⟩, ⟨by (with_reducible repeat (first | refine blk_drewN ?_ _ | refine blk_drew ?_ | refine blk_alloc ?_ _)); exact BK700.out⟩, ⟨hb_⟩⟩
    case round =>
     clear H'
     try clear c1
     try clear c2
     try clear p2
     try clear c4
     try clear c5
     try clear c6
     try clear c8
     try clear c9
     try clear c9b0
     try clear c9b1
     try clear c27
     try clear hcz10_0
     try clear hcz10_1
     try clear hcz10_2
     try clear hcz10_3
     try clear hcz12_0
     try clear hcz12_1
     try clear hcz12_2
     try clear hcz12_3
     try clear hcz15_0
     try clear hcz15_1
     try clear hcz15_2
     try clear hcz15_3
     try clear hcz17_0
     try clear hcz17_1
     try clear hcz17_2
     try clear hcz17_3
     try clear hcz19_0
     try clear hcz19_1
     try clear hcz19_2
     try clear hcz19_3
     try clear hcz21_0
     try clear hcz21_1
     try clear hcz21_2
     try clear hcz21_3
     try clear hcz23_0
     try clear hcz23_1
     try clear hcz23_2
     try clear hcz23_3
     try clear hcz25_0
     try clear hcz25_1
     try clear hcz25_2
     try clear hcz25_3
     try clear hfz10_0
     try clear hfz10_1
     try clear hfz10_2
     try clear hfz10_3
     try clear hfz12_0
     try clear hfz12_1
     try clear hfz12_2
     try clear hfz12_3
     try clear hfz15_0
     try clear hfz15_1
     try clear hfz15_2
     try clear hfz15_3
     try clear hfz17_0
     try clear hfz17_1
     try clear hfz17_2
     try clear hfz17_3
     try clear hfz19_0
     try clear hfz19_1
     try clear hfz19_2
     try clear hfz19_3
     try clear hfz21_0
     try clear hfz21_1
     try clear hfz21_2
     try clear hfz21_3
     try clear hfz23_0
     try clear hfz23_1
     try clear hfz23_2
     try clear hfz23_3
     try clear hfz25_0
     try clear hfz25_1
     try clear hfz25_2
     try clear hfz25_3
     try clear p2
     obtain ⟨x6_2, x7_2, x33_2, rfl, rfl, rfl, HA, HK2, BK700, HB⟩ := hrel
     cases gk with
     | zero => exact absurd HA.out (by simp [impl_RankOfGame.l0])
     | succ k2 =>
      have H := HA.out
      clear HA
      simp only [impl_RankOfGame.l0] at H
      by_cases c28 : x33_2 < (l1.length : Int)
      ·rw [if_pos c28] at H
       have c28b0 : decide (x33_2 < (l1.length : Int)) = true := decide_eq_true c28
       clear c28
       by_cases c29 : 0 ≤ x33_2
       ·rw [if_pos c29] at H
        have c29b0 : decide (0 ≤ x33_2) = true := decide_eq_true c29
        clear c29
        by_cases c30 : x33_2 < (l1.length : Int)
        ·rw [if_pos c30] at H
         have c30b0 : decide (x33_2 < (l1.length : Int)) = true := decide_eq_true c30
         clear c30
         have H' := Aside0.mk H
         clear H
         have p704 : 0 ≤ (x33_2 : Int) := of_decide_eq_true (by first | (with_reducible assumption) | assumption)
         have q704 : x33_2 < (l1.length : Int) := of_decide_eq_true (by first | (with_reducible assumption) | assumption)
         obtain ⟨ad704, e704, hx704_0⟩ := Kd.at_int HR1.out x33_2 p704 q704
         cases e704
         replace hx704_0 := (HB.out.cell (World.block_lt_of_cell? w _ hx704_0)).trans hx704_0
         replace p704 := eq_true p704
         replace q704 := eq_true q704
         go_wp2
         go_loopg [6, 10] k2 (fun kq v6 v10 w' => ∃ (x6_3 : Int) (x10_3 : Int), v6 = .int .i64 x6_3 ∧ v10 = .int .i64 x10_3 ∧ Aside0 (impl_RankOfGame.l1 kq l1 x6_3 x7_2 x33_2 (rd l1 x33_2) x10_3 l1 (l1.length : Int) x33_2 a0_0 a0_1 a0_2 l0_3 = some (r1, r2)) ∧ Aside0 (kq ≤ k2) ∧ Aside0 (w'.heap[gb700]? = some (.cells #[.int .i64 a0_0, .int .i64 a0_1, .int .i64 a0_2, (.slice A0_3 l0_3.length c0_3)] 30 (0, 0))) ∧ Aside0 (Below w.heap.size w w'))
         case atStart => exact ⟨(x6_2), (1), (by first | rfl | (simp; done) | (simp [*]; done)), (by first | rfl | (simp; done) | (simp [*]; done)), H', ⟨Nat.le_refl _⟩, ⟨by (with_reducible repeat (first | refine blk_drewN ?_ _ | refine blk_drew ?_ | refine blk_alloc ?_ _)); exact BK700.out⟩, ⟨hb_⟩⟩
         case round =>
          clear H'
          try clear c1
          try clear c2
          try clear p2
          try clear c3
          try clear c4
          try clear c5
          try clear c6
          try clear p7
          try clear q7
          try clear hx7
          try clear c8
          try clear c9
          try clear c9b0
          try clear c9b1
          try clear c27
          try clear c28
          try clear c28b0
          try clear c29
          try clear c29b0
          try clear c30
          try clear c30b0
          try clear hcz10_0
          try clear hcz10_1
          try clear hcz10_2
          try clear hcz10_3
          try clear hcz12_0
          try clear hcz12_1
          try clear hcz12_2
          try clear hcz12_3
          try clear hcz15_0
          try clear hcz15_1
          try clear hcz15_2
          try clear hcz15_3
          try clear hcz17_0
          try clear hcz17_1
          try clear hcz17_2
          try clear hcz17_3
          try clear hcz19_0
          try clear hcz19_1
          try clear hcz19_2
          try clear hcz19_3
          try clear hcz21_0
          try clear hcz21_1
          try clear hcz21_2
          try clear hcz21_3
          try clear hcz23_0
          try clear hcz23_1
          try clear hcz23_2
          try clear hcz23_3
          try clear hcz25_0
          try clear hcz25_1
          try clear hcz25_2
          try clear hcz25_3
          try clear hfz10_0
          try clear hfz10_1
          try clear hfz10_2
          try clear hfz10_3
          try clear hfz12_0
          try clear hfz12_1
          try clear hfz12_2
          try clear hfz12_3
          try clear hfz15_0
          try clear hfz15_1
          try clear hfz15_2
          try clear hfz15_3
          try clear hfz17_0
          try clear hfz17_1
          try clear hfz17_2
          try clear hfz17_3
          try clear hfz19_0
          try clear hfz19_1
          try clear hfz19_2
          try clear hfz19_3
          try clear hfz21_0
          try clear hfz21_1
          try clear hfz21_2
          try clear hfz21_3
          try clear hfz23_0
          try clear hfz23_1
          try clear hfz23_2
          try clear hfz23_3
          try clear hfz25_0
          try clear hfz25_1
          try clear hfz25_2
          try clear hfz25_3
          try clear hx704_0
          try clear p2
          try clear p704
          try clear q704
          obtain ⟨x6_3, x10_3, rfl, rfl, HA, HK3, BK700, HB⟩ := hrel
          cases gk with
          | zero => exact absurd HA.out (by simp [impl_RankOfGame.l1])
          | succ k3 =>
           have H := HA.out
           clear HA
           simp only [impl_RankOfGame.l1] at H
           by_cases c31 : x10_3 < (rd l1 x33_2)
           ·rw [if_pos c31] at H
            have c31b0 : decide (x10_3 < (rd l1 x33_2)) = true := decide_eq_true c31
            clear c31
            replace H := Option.bind_eq_some_iff.mp H
            obtain ⟨t705, A320, H⟩ := H
            replace H : ((impl_Board_countGames.f k3 a0_0 a0_1 a0_2 l0_3 t705 (wrap64 ((wrap64 ((l1.length : Int) - 1)) - x33_2))).bind fun t706 => (impl_RankOfGame.l1 k3 l1 (wrap64 (x6_3 + t706)) x7_2 x33_2 (rd l1 x33_2) (wrap64 (x10_3 + 1)) l1 (l1.length : Int) x33_2 a0_0 a0_1 a0_2 l0_3)) = some (r1, r2) := H
            have A32 := Aside0.mk A320
            clear A320
            replace H := Option.bind_eq_some_iff.mp H
            obtain ⟨t706, A330, H⟩ := H
            replace H : (impl_RankOfGame.l1 k3 l1 (wrap64 (x6_3 + t706)) x7_2 x33_2 (rd l1 x33_2) (wrap64 (x10_3 + 1)) l1 (l1.length : Int) x33_2 a0_0 a0_1 a0_2 l0_3) = some (r1, r2) := H
            have A33 := Aside0.mk A330
            clear A330
            have H' := Aside0.mk H
            clear H
            try go_wp2
            have n0_ := Aside0.mk (blk_drew BK700.out)
            have n1_ := Aside0.mk (below_drew1 HB.out)
            clear BK700
            clear HB
            have BK700 := n0_
            have HB := n1_
            clear n0_ n1_
            refine start_ (n := 14) (S := fun w' => w'.cell? ⟨gb700, 0, none⟩ = some (.int .i64 a0_0) ∧ w'.cell? ⟨gb700, 1, none⟩ = some (.int .i64 a0_1) ∧ w'.cell? ⟨gb700, 2, none⟩ = some (.int .i64 a0_2) ∧ w'.cell? ⟨gb700, 3, none⟩ = some (.slice A0_3 l0_3.length c0_3)) (ds := []) #[false, false, false, false, false, false, false, false, false, false, false, false, false, false] (by kernel_rfl) rfl rfl ⟨(blk_cell BK700.out 0).trans rfl, (blk_cell BK700.out 1).trans rfl, (blk_cell BK700.out 2).trans rfl, (blk_cell BK700.out 3).trans rfl⟩ (fun hHeld => ?_); refine with_tabW impl_RankOfGame.tab10 impl_RankOfGame.bits10 (fun HT_ HW_ => ?_)
            generalize wr.drew = w34 at BK700 HB hHeld ⊢
            refine pure_ (i := 0) (N := some 43) (v := ?_) (a' := ?_) #[true, false, false, false, false, false, false, false, false, false, false, false, false, false] rfl rfl (any_of HT_.out (by kernel_rfl)) (fun _ _ _ h => h) (Or.inl ⟨by rfl, ?_⟩) ?_ ?_
            rotate_left
            ·intro w'
             go_simp
             with_reducible rfl
            rotate_left
            ·simp only [Act.put, List.setIfInBounds_toArray, List.set_cons_zero, List.set_cons_succ, i64_w, i32_w]
             rfl
            refine pure_ (i := 3) (N := some 46) (v := ?_) (a' := ?_) #[true, false, false, true, false, false, false, false, false, false, false, false, false, false] rfl rfl (any_of HT_.out (by kernel_rfl)) (fun _ _ _ h => h) (Or.inl ⟨by rfl, ?_⟩) ?_ ?_
            rotate_left
            ·intro w'
             go_simp
             with_reducible rfl
            rotate_left
            ·simp only [Act.put, List.setIfInBounds_toArray, List.set_cons_zero, List.set_cons_succ, i64_w, i32_w]
             rfl
            refine pure_ (i := 4) (N := some 47) (v := ?_) (a' := ?_) #[true, false, false, true, true, false, false, false, false, false, false, false, false, false] rfl rfl (any_of HT_.out (by kernel_rfl)) (fun _ _ _ h => h) (Or.inl ⟨by rfl, ?_⟩) ?_ ?_
            rotate_left
            ·intro w'
             go_simp
             with_reducible rfl
            rotate_left
            ·simp only [Act.put, List.setIfInBounds_toArray, List.set_cons_zero, List.set_cons_succ, i64_w, i32_w]
             rfl
            refine pure_ (i := 6) (N := some 49) (v := ?_) (a' := ?_) #[true, false, false, true, true, false, true, false, false, false, false, false, false, false] rfl rfl (any_of HT_.out (by kernel_rfl)) (fun _ _ _ h => h) (Or.inl ⟨by rfl, ?_⟩) ?_ ?_
            rotate_left
            ·intro w'
             go_simp
             with_reducible rfl
            rotate_left
            ·simp only [Act.put, List.setIfInBounds_toArray, List.set_cons_zero, List.set_cons_succ, i64_w, i32_w]
             rfl
            refine pure_ (i := 7) (N := some 50) (v := ?_) (a' := ?_) #[true, false, false, true, true, false, true, true, false, false, false, false, false, false] rfl rfl (any_of HT_.out (by kernel_rfl)) (fun _ _ _ h => h) (Or.inl ⟨by rfl, ?_⟩) ?_ ?_
            rotate_left
            ·intro w'
             go_simp
             with_reducible rfl
            rotate_left
            ·simp only [Act.put, List.setIfInBounds_toArray, List.set_cons_zero, List.set_cons_succ, i64_w, i32_w]
             rfl
            refine pure_ (i := 8) (N := some 51) (v := ?_) (a' := ?_) #[true, false, false, true, true, false, true, true, true, false, false, false, false, false] rfl rfl (any_of HT_.out (by kernel_rfl)) (fun _ _ _ h => h) (Or.inl ⟨by rfl, ?_⟩) ?_ ?_
            rotate_left
            ·intro w'
             go_simp
             with_reducible rfl
            rotate_left
            ·simp only [Act.put, List.setIfInBounds_toArray, List.set_cons_zero, List.set_cons_succ, i64_w, i32_w]
             rfl
            refine pure_ (i := 9) (N := some 52) (v := ?_) (a' := ?_) #[true, false, false, true, true, false, true, true, true, true, false, false, false, false] rfl rfl (any_of HT_.out (by kernel_rfl)) (fun _ _ _ h => h) (Or.inl ⟨by rfl, ?_⟩) ?_ ?_
            rotate_left
            ·intro w'
             go_simp
             with_reducible rfl
            rotate_left
            ·simp only [Act.put, List.setIfInBounds_toArray, List.set_cons_zero, List.set_cons_succ, i64_w, i32_w]
             rfl
            refine pure_ (i := 10) (N := some 53) (v := ?_) (a' := ?_) #[true, false, false, true, true, false, true, true, true, true, true, false, false, false] rfl rfl (any_of HT_.out (by kernel_rfl)) (fun _ _ _ h => h) (Or.inl ⟨by rfl, ?_⟩) ?_ ?_
            rotate_left
            ·intro w'
             go_simp
             with_reducible rfl
            rotate_left
            ·simp only [Act.put, List.setIfInBounds_toArray, List.set_cons_zero, List.set_cons_succ, i64_w, i32_w]
             rfl
            refine take_ (i := 1) (N := some 44) (v := ?_) (a' := ?_) #[true, true, false, true, true, false, true, true, true, true, true, false, false, false] rfl rfl (take_ofW HT_.out HW_.out (by kernel_rfl)) (fun _ _ _ h => h) (Or.inl ⟨by rfl, ?_⟩) hHeld ?_ ?_
            rotate_left
            ·rintro w' ⟨s0, s1, s2, s3⟩
             go_simp
             with_reducible rfl
            rotate_left
            ·simp only [Act.put, List.setIfInBounds_toArray, List.set_cons_zero, List.set_cons_succ, i64_w, i32_w]
             rfl
            refine take_ (i := 2) (N := some 45) (v := ?_) (a' := ?_) #[true, true, true, true, true, false, true, true, true, true, true, false, false, false] rfl rfl (take_ofW HT_.out HW_.out (by kernel_rfl)) (fun _ _ _ h => h) (Or.inl ⟨by rfl, ?_⟩) hHeld ?_ ?_
            rotate_left
            ·rintro w' ⟨s0, s1, s2, s3⟩
             go_simp
             with_reducible rfl
            rotate_left
            ·simp only [Act.put, List.setIfInBounds_toArray, List.set_cons_zero, List.set_cons_succ, i64_w, i32_w]
             rfl
            refine one_ (i := 5) (N := some 48) #[true, true, true, true, true, true, true, true, true, true, true, false, false, false] rfl rfl (one_of HT_.out (by kernel_rfl)) (by decide) (fun K hK => ?_)
            refine goes_ Try.func61 (by kernel_rfl) rfl #[.agg #[.int .i64 a0_0, .int .i64 a0_1, .int .i64 a0_2, .slice A0_3 l0_3.length c0_3], .int .i64 x7_2, .int .i64 x10_3] (by rfl) rfl rfl (by (try simp only [List.map_toArray, List.map_cons, List.map_nil]); first | done | rfl | (simp only [List.length_drop, List.length_take]; rfl)) ?_
            with_reducible refine (impl_Board_throw.calls k3 a0_0 a0_1 a0_2 _ _ l0_3 x7_2 x10_3 t705 _ ?side1 ?side2 A32.out).mono ?_
            (case side1 => exact Kd.C_below HR0_3.out hb_)
            (case side2 => exact HC0_3.out)
            rintro e w35 ⟨rfl, hb⟩
            refine ⟨_, rfl, ?_⟩
            have n0_ := Aside0.mk (blk_below (g := gb700) (o := .cells #[.int .i64 a0_0, .int .i64 a0_1, .int .i64 a0_2, .slice A0_3 l0_3.length c0_3] 30 (0, 0)) (by (with_reducible repeat (first | refine blk_drewN ?_ _ | refine blk_drew ?_ | refine blk_alloc ?_ _)); exact BK700.out) hb)
            have n1_ := Aside0.mk (below_step hb_ hb)
            clear BK700
            clear HB
            have BK700 := n0_
            have HB := n1_
            clear n0_ n1_
            (try clear hb)
            (try clear hb2)
            (try clear hk)
            (try clear hi)
            refine hK.out _ _ ⟨(blk_cell BK700.out 0).trans rfl, (blk_cell BK700.out 1).trans rfl, (blk_cell BK700.out 2).trans rfl, (blk_cell BK700.out 3).trans rfl⟩ (fun hHeld => ?_)
            clear hK K
            refine norm_ (a' := ?_) ?_ ?_
            rotate_left
            ·show Act.put _ (some 48) _ = _
             simp only [Act.put, List.setIfInBounds_toArray, List.set_cons_zero, List.set_cons_succ, i64_w, i32_w]
             rfl
            refine one_ (i := 11) (N := some 54) #[true, true, true, true, true, true, true, true, true, true, true, true, false, false] rfl rfl (one_of HT_.out (by kernel_rfl)) (by decide) (fun K hK => ?_)
            refine goes_ Try.func49 (by kernel_rfl) rfl #[.agg #[.int .i64 a0_0, .int .i64 a0_1, .int .i64 a0_2, .slice A0_3 l0_3.length c0_3], .int .i64 t705, .int .i64 (wrap64 ((wrap64 ((l1.length : Int) - 1)) - x33_2))] (by rfl) rfl rfl (by (try simp only [List.map_toArray, List.map_cons, List.map_nil]); first | done | rfl | (simp only [List.length_drop, List.length_take]; rfl)) ?_
            with_reducible refine (impl_Board_countGames.calls k3 a0_0 a0_1 a0_2 _ _ l0_3 t705 (wrap64 ((wrap64 ((l1.length : Int) - 1)) - x33_2)) t706 _ ?side1 ?side2 A33.out).mono ?_
            (case side1 => exact Kd.C_below HR0_3.out hb_)
            (case side2 => exact HC0_3.out)
            rintro e w36 ⟨rfl, hb⟩
            refine ⟨_, rfl, ?_⟩
            have n0_ := Aside0.mk (blk_below (g := gb700) (o := .cells #[.int .i64 a0_0, .int .i64 a0_1, .int .i64 a0_2, .slice A0_3 l0_3.length c0_3] 30 (0, 0)) (by (with_reducible repeat (first | refine blk_drewN ?_ _ | refine blk_drew ?_ | refine blk_alloc ?_ _)); exact BK700.out) hb)
            have n1_ := Aside0.mk (below_step hb_ hb)
            clear BK700
            clear HB
            have BK700 := n0_
            have HB := n1_
            clear n0_ n1_
            (try clear hb)
            (try clear hb2)
            (try clear hk)
            (try clear hi)
            refine hK.out _ _ ⟨(blk_cell BK700.out 0).trans rfl, (blk_cell BK700.out 1).trans rfl, (blk_cell BK700.out 2).trans rfl, (blk_cell BK700.out 3).trans rfl⟩ (fun hHeld => ?_)
            clear hK K
            refine norm_ (a' := ?_) ?_ ?_
            rotate_left
            ·show Act.put _ (some 54) _ = _
             simp only [Act.put, List.setIfInBounds_toArray, List.set_cons_zero, List.set_cons_succ, i64_w, i32_w]
             rfl
            refine pure_ (i := 12) (N := some 55) (v := ?_) (a' := ?_) #[true, true, true, true, true, true, true, true, true, true, true, true, true, false] rfl rfl (any_of HT_.out (by kernel_rfl)) (fun _ _ _ h => h) (Or.inl ⟨by rfl, ?_⟩) ?_ ?_
            rotate_left
            ·intro w'
             go_simp
             with_reducible rfl
            rotate_left
            ·simp only [Act.put, List.setIfInBounds_toArray, List.set_cons_zero, List.set_cons_succ, i64_w, i32_w]
             rfl
            refine pure_ (i := 13) (N := some 6) (v := ?_) (a' := ?_) #[true, true, true, true, true, true, true, true, true, true, true, true, true, true] rfl rfl (any_of HT_.out (by kernel_rfl)) (fun _ _ _ h => h) (Or.inl ⟨by rfl, ?_⟩) ?_ ?_
            rotate_left
            ·intro w'
             go_simp
             with_reducible rfl
            rotate_left
            ·simp only [Act.put, List.setIfInBounds_toArray, List.set_cons_zero, List.set_cons_succ, i64_w, i32_w]
             rfl
            refine done_ (done_of HT_.out (by kernel_rfl)) ?_
            try go_wp2
            go_roundg k3
            case measure => have := HJ2.out; have := HK2.out; have := HK3.out; omega
            case rel => exact ⟨(wrap64 (x6_3 + t706)), (wrap64 (x10_3 + 1)), (by first | rfl | (simp; done) | (simp [*]; done)), (by first | rfl | (simp; done) | (simp [*]; done)), H', ⟨by have := HJ2.out; have := HK2.out; have := HK3.out; omega⟩, ⟨by (with_reducible repeat (first | refine blk_drewN ?_ _ | refine blk_drew ?_ | refine blk_alloc ?_ _)); exact BK700.out⟩, ⟨hb_⟩⟩
           ·rw [if_neg c31] at H
            have c31b0 : decide (x10_3 < (rd l1 x33_2)) = false := decide_eq_false c31
            clear c31
            replace H := Option.bind_eq_some_iff.mp H
            obtain ⟨t707, A370, H⟩ := H
            replace H : (impl_RankOfGame.l0 k3 l1 x6_3 t707 l1 (l1.length : Int) (wrap64 (x33_2 + 1)) a0_0 a0_1 a0_2 l0_3) = some (r1, r2) := H
            have A37 := Aside0.mk A370
            clear A370
            have H' := Aside0.mk H
            clear H
            have hcz38_0 : wr.cell? ⟨gb700, 0, none⟩ = some (.int .i64 a0_0) := (blk_cell BK700.out 0).trans rfl
            have hcz38_1 : wr.cell? ⟨gb700, 1, none⟩ = some (.int .i64 a0_1) := (blk_cell BK700.out 1).trans rfl
            have hcz38_2 : wr.cell? ⟨gb700, 2, none⟩ = some (.int .i64 a0_2) := (blk_cell BK700.out 2).trans rfl
            have hcz38_3 : wr.cell? ⟨gb700, 3, none⟩ = some (.slice A0_3 l0_3.length c0_3) := (blk_cell BK700.out 3).trans rfl
            have hfz38_0 := blk_frozen BK700.out 0
            have hfz38_1 := blk_frozen BK700.out 1
            have hfz38_2 := blk_frozen BK700.out 2
            have hfz38_3 := blk_frozen BK700.out 3
            go_wp2_with (first | ((with_reducible refine gate_callee (f := 61) rfl ?_); refine goesL_ (some 59) rfl rfl Try.func61 (by kernel_rfl) rfl #[.agg #[.int .i64 a0_0, .int .i64 a0_1, .int .i64 a0_2, .slice A0_3 l0_3.length c0_3], .int .i64 x7_2, .int .i64 (rd l1 x33_2)] rfl (by (try simp only [List.map_toArray, List.map_cons, List.map_nil]); first | done | rfl | (simp only [List.length_drop, List.length_take]; rfl)) ?_; (with_reducible refine (impl_Board_throw.calls k3 a0_0 a0_1 a0_2 _ _ l0_3 x7_2 (rd l1 x33_2) t707 _ ?side1 ?side2 A37.out).mono ?_); (case side1 => exact Kd.C_below HR0_3.out hb_); (case side2 => exact HC0_3.out); rintro e w39 ⟨rfl, hb⟩; refine ⟨_, rfl, ?_⟩; have n0_ := Aside0.mk (blk_below (g := gb700) (o := .cells #[.int .i64 a0_0, .int .i64 a0_1, .int .i64 a0_2, .slice A0_3 l0_3.length c0_3] 30 (0, 0)) (by (with_reducible repeat (first | refine blk_drewN ?_ _ | refine blk_drew ?_ | refine blk_alloc ?_ _)); exact BK700.out) hb); have n1_ := Aside0.mk (below_step hb_ hb); clear BK700; clear HB; have BK700 := n0_; have HB := n1_; clear n0_ n1_; (try clear hb); (try clear hb2); (try clear hk); (try clear hi)))
            go_roundg k3
            case measure => have := HJ2.out; have := HK2.out; have := HK3.out; omega
            case rel => exact ⟨(x6_3), (t707), (wrap64 (x33_2 + 1)), (by first | rfl | (simp; done) | (simp [*]; done)), (by first | rfl | (simp; done) | (simp [*]; done)), (by first | rfl | (simp; done) | (simp [*]; done)), H', ⟨by have := HJ2.out; have := HK2.out; have := HK3.out; omega⟩, ⟨by (with_reducible repeat (first | refine blk_drewN ?_ _ | refine blk_drew ?_ | refine blk_alloc ?_ _)); exact BK700.out⟩, ⟨hb_⟩⟩
        ·rw [if_neg c30] at H
         exact absurd H (by simp)
       ·rw [if_neg c29] at H
        exact absurd H (by simp)
      ·rw [if_neg c28] at H
       have c28b0 : decide (x33_2 < (l1.length : Int)) = false := decide_eq_false c28
       clear c28
       simp only [Option.some.injEq, Prod.mk.injEq] at H
       obtain ⟨rfl, rfl⟩ := H
       go_wp2
       go_ret2
       exact ⟨by first | rfl | (simp [errW_none, errW_some] <;> rfl) | (simp [*, errW_none, errW_some] <;> rfl), hb_⟩

/-! ### laws_FnExactRankOfGame: function 13 -/
def laws_FnExactRankOfGame.j0 : Nat → List Int → List Int → Bool → Int → Int → Int → List (S72) → Int → Int → Int → List (S70) → Option (Bool)
 | 0, _, _, _, _, _, _, _, _, _, _, _ => none
 | k + 1, x1, x9, x45, x709000, x709001, x709002, x709003, x728000, x728001, x728002, x728003 => if x45 = true then (some false) else ((laws_toBoard.f k x709000 x709001 x709002 x709003).bind fun bt733 => ((laws_eqBoard.f k x728000 x728001 x728002 x728003 bt733.1 bt733.2.1 bt733.2.2.1 bt733.2.2.2).bind fun t739 => (if t739 = true then ((laws_toIntS.f k x1).bind fun t740 => ((laws_eqIntS.f k x9 t740).bind fun t743 => (if t743 = true then (some true) else (some false)))) else (some false))))
def laws_FnExactRankOfGame.f (k : Nat) (a0_0 : Int) (a0_1 : Int) (a0_2 : Int) (l0_3 : List (S72)) (l1 : List Int) : Option (Bool) := if (l1.length : Int) > 1048576 then (some true) else ((laws_szBoard.f a0_0 a0_1 a0_2 l0_3 1048576).bind fun t709 => (if t709 < 0 then (some true) else ((laws_toBoard.f k a0_0 a0_1 a0_2 l0_3).bind fun bt710 => ((laws_toIntS.f k l1).bind fun t716 => ((spec_RankOfGame.f k bt710.1 bt710.2.1 bt710.2.2.1 bt710.2.2.2 t716).bind fun bt719 => ((laws_toBoard.f k a0_0 a0_1 a0_2 l0_3).bind fun bt721 => ((laws_toIntS.f k l1).bind fun t728 => ((impl_RankOfGame.f k bt721.1 bt721.2.1 bt721.2.2.1 bt721.2.2.2 t728).bind fun bt731 => (if bt731.1 = bt719.1 then (laws_FnExactRankOfGame.j0 k l1 t728 (bt731.2 != bt719.2) a0_0 a0_1 a0_2 l0_3 bt721.1 bt721.2.1 bt721.2.2.1 bt721.2.2.2) else (laws_FnExactRankOfGame.j0 k l1 t728 true a0_0 a0_1 a0_2 l0_3 bt721.1 bt721.2.1 bt721.2.2.1 bt721.2.2.2))))))))))
theorem laws_FnExactRankOfGame.mono_l : ∀ k, (∀ y0 y1 y2 y3 y4 y5 y6 y7 y8 y9 y10, LeO (laws_FnExactRankOfGame.j0 k y0 y1 y2 y3 y4 y5 y6 y7 y8 y9 y10) (laws_FnExactRankOfGame.j0 (k + 1) y0 y1 y2 y3 y4 y5 y6 y7 y8 y9 y10))
 | 0 => fun _ _ _ _ _ _ _ _ _ _ _ r h => by simp [laws_FnExactRankOfGame.j0] at h
 | k + 1 => by
  have ih0 := laws_FnExactRankOfGame.mono_l k
  ·intro y0 y1 y2 y3 y4 y5 y6 y7 y8 y9 y10
   unfold laws_FnExactRankOfGame.j0
   repeat' first
   | (with_reducible exact ih0 _ _ _ _ _ _ _ _ _ _ _)
   | (with_reducible exact impl_RankOfGame.mono _ _ _ _ _ _)
   | (with_reducible exact laws_eqBoard.mono _ _ _ _ _ _ _ _ _)
   | (with_reducible exact laws_eqIntS.mono _ _ _)
   | (with_reducible exact laws_toBoard.mono _ _ _ _ _)
   | (with_reducible exact laws_toIntS.mono _ _)
   | (with_reducible exact spec_RankOfGame.mono _ _ _ _ _ _)
   | (with_reducible exact LeO.refl _)
   | (with_reducible exact LeO.none _)
   | (with_reducible refine LeO.ite ?_ ?_)
   | (with_reducible refine LeO.bind ?_ (fun _ => ?_))
   | exact ih0 _ _ _ _ _ _ _ _ _ _ _
   | exact impl_RankOfGame.mono _ _ _ _ _ _
   | exact laws_eqBoard.mono _ _ _ _ _ _ _ _ _
   | exact laws_eqIntS.mono _ _ _
   | exact laws_toBoard.mono _ _ _ _ _
   | exact laws_toIntS.mono _ _
   | exact spec_RankOfGame.mono _ _ _ _ _ _
   | exact LeO.none _
   | refine LeO.ite ?_ ?_
   | refine LeO.bind ?_ (fun _ => ?_)
theorem laws_FnExactRankOfGame.mono : ∀ a0 a1 a2 a3 a4 k, LeO (laws_FnExactRankOfGame.f k a0 a1 a2 a3 a4) (laws_FnExactRankOfGame.f (k + 1) a0 a1 a2 a3 a4) := by
 intro a0 a1 a2 a3 a4 k
 have ih0 := laws_FnExactRankOfGame.mono_l k
 unfold laws_FnExactRankOfGame.f
 repeat' first
   | (with_reducible exact ih0 _ _ _ _ _ _ _ _ _ _ _)
   | (with_reducible exact impl_RankOfGame.mono _ _ _ _ _ _)
   | (with_reducible exact laws_eqBoard.mono _ _ _ _ _ _ _ _ _)
   | (with_reducible exact laws_eqIntS.mono _ _ _)
   | (with_reducible exact laws_toBoard.mono _ _ _ _ _)
   | (with_reducible exact laws_toIntS.mono _ _)
   | (with_reducible exact spec_RankOfGame.mono _ _ _ _ _ _)
   | (with_reducible exact LeO.refl _)
   | (with_reducible exact LeO.none _)
   | (with_reducible refine LeO.ite ?_ ?_)
   | (with_reducible refine LeO.bind ?_ (fun _ => ?_))
   | exact ih0 _ _ _ _ _ _ _ _ _ _ _
   | exact impl_RankOfGame.mono _ _ _ _ _ _
   | exact laws_eqBoard.mono _ _ _ _ _ _ _ _ _
   | exact laws_eqIntS.mono _ _ _
   | exact laws_toBoard.mono _ _ _ _ _
   | exact laws_toIntS.mono _ _
   | exact spec_RankOfGame.mono _ _ _ _ _ _
   | exact LeO.none _
   | refine LeO.ite ?_ ?_
   | refine LeO.bind ?_ (fun _ => ?_)
set_option maxHeartbeats 8000000 in
set_option maxRecDepth 100000 in
theorem laws_FnExactRankOfGame.calls (k : Nat) (a0_0 : Int) (a0_1 : Int) (a0_2 : Int) (A0_3 : Option Addr) (c0_3 : Nat) (l0_3 : List (S72)) (A1 : Option Addr) (c1 : Nat) (l1 : List Int) (r : Bool) (w : World) (hr0_3 : Kd.C k72 w A0_3 l0_3.length l0_3) (hc0_3 : l0_3.length ≤ c0_3) (hr1 : Kd.C (Kd.int .i64) w A1 l1.length l1) (hc1 : l1.length ≤ c1) (h : laws_FnExactRankOfGame.f k a0_0 a0_1 a0_2 l0_3 l1 = some r) :
  Calls Try.prog 13 #[.agg #[.int .i64 a0_0, .int .i64 a0_1, .int .i64 a0_2, .slice A0_3 l0_3.length c0_3], .slice A1 l1.length c1] w fun e w' => e = .returned (.bool r) ∧ Below w.heap.size w w' := by
 have hu24 := Try.underlying24
 have hu30 := Try.underlying30
 have HR0_3 := Aside0.mk hr0_3
 have HC0_3 := Aside0.mk hc0_3
 clear hr0_3 hc0_3
 have HR1 := Aside0.mk hr1
 have HC1 := Aside0.mk hc1
 clear hr1 hc1
 have HB := Aside0.mk (Below.refl w.heap.size w)
 have H : (if (l1.length : Int) > 1048576 then (some true) else ((laws_szBoard.f a0_0 a0_1 a0_2 l0_3 1048576).bind fun t709 => (if t709 < 0 then (some true) else ((laws_toBoard.f k a0_0 a0_1 a0_2 l0_3).bind fun bt710 => ((laws_toIntS.f k l1).bind fun t716 => ((spec_RankOfGame.f k bt710.1 bt710.2.1 bt710.2.2.1 bt710.2.2.2 t716).bind fun bt719 => ((laws_toBoard.f k a0_0 a0_1 a0_2 l0_3).bind fun bt721 => ((laws_toIntS.f k l1).bind fun t728 => ((impl_RankOfGame.f k bt721.1 bt721.2.1 bt721.2.2.1 bt721.2.2.2 t728).bind fun bt731 => (if bt731.1 = bt719.1 then (laws_FnExactRankOfGame.j0 k l1 t728 (bt731.2 != bt719.2) a0_0 a0_1 a0_2 l0_3 bt721.1 bt721.2.1 bt721.2.2.1 bt721.2.2.2) else (laws_FnExactRankOfGame.j0 k l1 t728 true a0_0 a0_1 a0_2 l0_3 bt721.1 bt721.2.1 bt721.2.2.1 bt721.2.2.2))))))))))) = some r := h
 clear h
 by_cases c3 : (l1.length : Int) > 1048576
 ·rw [if_pos c3] at H
  have c3b0 : decide (1048576 < (l1.length : Int)) = true := decide_eq_true c3
  have c3b1 : decide (1048576 < l1.length) = true := decide_eq_true (by omega)
  clear c3
  obtain rfl := Option.some.inj H
  go_enter Try.func13, Try.ntmps13
  go_wp2_with (first | ((with_reducible refine gate_dst (N := 2) rfl ?_); refine box_event ?hg (N := 2) ?hd (cs := #[.int .i64 a0_0, .int .i64 a0_1, .int .i64 a0_2, .slice A0_3 l0_3.length c0_3]) (t := 24) ?hr ?_; (case hd => rfl); (case hg => rfl); (case hr => first | (go_simp; done) | (go_simp; rfl)); intro gb708 hg w4 hbox hb; have n0_ := Aside0.mk (below_step hb_ hb); have n1_ := Aside0.mk (hbox); have n2_ := Aside0.mk ((by rw [hg]; exact (below_size hb_) : w.heap.size ≤ gb708)); have n3_ := Aside0.mk ((by rw [hg]; exact (below_size hb_) : w.heap.size ≤ gb708)); clear HB; have HB := n0_; have BK708 := n1_; have GW708 := n2_; have GE708 := n3_; clear n0_ n1_ n2_ n3_; clear hb hbox hg))
  go_ret
  exact ⟨by first | rfl | (simp [errW_none, errW_some] <;> rfl) | (simp [*, errW_none, errW_some] <;> rfl), hb_⟩
 ·rw [if_neg c3] at H
  have c3b0 : decide (1048576 < (l1.length : Int)) = false := decide_eq_false c3
  have c3b1 : decide (1048576 < l1.length) = false := decide_eq_false (by omega)
  clear c3
  replace H := Option.bind_eq_some_iff.mp H
  obtain ⟨t709, A50, H⟩ := H
  replace H : (if t709 < 0 then (some true) else ((laws_toBoard.f k a0_0 a0_1 a0_2 l0_3).bind fun bt710 => ((laws_toIntS.f k l1).bind fun t716 => ((spec_RankOfGame.f k bt710.1 bt710.2.1 bt710.2.2.1 bt710.2.2.2 t716).bind fun bt719 => ((laws_toBoard.f k a0_0 a0_1 a0_2 l0_3).bind fun bt721 => ((laws_toIntS.f k l1).bind fun t728 => ((impl_RankOfGame.f k bt721.1 bt721.2.1 bt721.2.2.1 bt721.2.2.2 t728).bind fun bt731 => (if bt731.1 = bt719.1 then (laws_FnExactRankOfGame.j0 k l1 t728 (bt731.2 != bt719.2) a0_0 a0_1 a0_2 l0_3 bt721.1 bt721.2.1 bt721.2.2.1 bt721.2.2.2) else (laws_FnExactRankOfGame.j0 k l1 t728 true a0_0 a0_1 a0_2 l0_3 bt721.1 bt721.2.1 bt721.2.2.1 bt721.2.2.2))))))))) = some r := H
  have A5 := Aside0.mk A50
  clear A50
  by_cases c6 : t709 < 0
  ·rw [if_pos c6] at H
   have c6b0 : decide (t709 < 0) = true := decide_eq_true c6
   clear c6
   obtain rfl := Option.some.inj H
   go_enter Try.func13, Try.ntmps13
   go_wp2_with (first | ((with_reducible refine gate_dst (N := 2) rfl ?_); refine box_event ?hg (N := 2) ?hd (cs := #[.int .i64 a0_0, .int .i64 a0_1, .int .i64 a0_2, .slice A0_3 l0_3.length c0_3]) (t := 24) ?hr ?_; (case hd => rfl); (case hg => rfl); (case hr => first | (go_simp; done) | (go_simp; rfl)); intro gb708 hg w7 hbox hb; have n0_ := Aside0.mk (below_step hb_ hb); have n1_ := Aside0.mk (hbox); have n2_ := Aside0.mk ((by rw [hg]; exact (below_size hb_) : w.heap.size ≤ gb708)); have n3_ := Aside0.mk ((by rw [hg]; exact (below_size hb_) : w.heap.size ≤ gb708)); clear HB; have HB := n0_; have BK708 := n1_; have GW708 := n2_; have GE708 := n3_; clear n0_ n1_ n2_ n3_; clear hb hbox hg; have hcz8_0 : w7.cell? ⟨gb708, 0, none⟩ = some (.int .i64 a0_0) := (blk_cell BK708.out 0).trans rfl; have hcz8_1 : w7.cell? ⟨gb708, 1, none⟩ = some (.int .i64 a0_1) := (blk_cell BK708.out 1).trans rfl; have hcz8_2 : w7.cell? ⟨gb708, 2, none⟩ = some (.int .i64 a0_2) := (blk_cell BK708.out 2).trans rfl; have hcz8_3 : w7.cell? ⟨gb708, 3, none⟩ = some (.slice A0_3 l0_3.length c0_3) := (blk_cell BK708.out 3).trans rfl; have hfz8_0 := blk_frozen BK708.out 0; have hfz8_1 := blk_frozen BK708.out 1; have hfz8_2 := blk_frozen BK708.out 2; have hfz8_3 := blk_frozen BK708.out 3) | ((with_reducible refine gate_callee (f := 14) rfl ?_); refine goesL_ (some 17) rfl rfl Try.func14 (by kernel_rfl) rfl #[.agg #[.int .i64 a0_0, .int .i64 a0_1, .int .i64 a0_2, .slice A0_3 l0_3.length c0_3], .int .i64 1048576] rfl (by (try simp only [List.map_toArray, List.map_cons, List.map_nil]); first | done | rfl | (simp only [List.length_drop, List.length_take]; rfl)) ?_; (with_reducible refine (laws_szBoard.calls a0_0 a0_1 a0_2 _ _ l0_3 1048576 t709 _ ?side1 ?side2 A5.out).mono ?_); (case side1 => exact Kd.C_below HR0_3.out hb_); (case side2 => exact HC0_3.out); rintro e w9 ⟨rfl, hb⟩; refine ⟨_, rfl, ?_⟩; have n0_ := Aside0.mk (blk_below (g := gb708) (o := .cells #[.int .i64 a0_0, .int .i64 a0_1, .int .i64 a0_2, .slice A0_3 l0_3.length c0_3] 24 (0, 0)) (by (with_reducible repeat (first | refine blk_drewN ?_ _ | refine blk_drew ?_ | refine blk_alloc ?_ _)); exact BK708.out) hb); have n1_ := Aside0.mk (below_step hb_ hb); clear BK708; clear HB; have BK708 := n0_; have HB := n1_; clear n0_ n1_; (try clear hb); (try clear hb2); (try clear hk); (try clear hi)))
   go_ret
   exact ⟨by first | rfl | (simp [errW_none, errW_some] <;> rfl) | (simp [*, errW_none, errW_some] <;> rfl), hb_⟩
  ·rw [if_neg c6] at H
   have c6b0 : decide (t709 < 0) = false := decide_eq_false c6
   clear c6
   replace H := Option.bind_eq_some_iff.mp H
   obtain ⟨⟨t710, t711, t712, t713⟩, A100, H⟩ := H
   replace H : ((laws_toIntS.f k l1).bind fun t716 => ((spec_RankOfGame.f k t710 t711 t712 t713 t716).bind fun bt719 => ((laws_toBoard.f k a0_0 a0_1 a0_2 l0_3).bind fun bt721 => ((laws_toIntS.f k l1).bind fun t728 => ((impl_RankOfGame.f k bt721.1 bt721.2.1 bt721.2.2.1 bt721.2.2.2 t728).bind fun bt731 => (if bt731.1 = bt719.1 then (laws_FnExactRankOfGame.j0 k l1 t728 (bt731.2 != bt719.2) a0_0 a0_1 a0_2 l0_3 bt721.1 bt721.2.1 bt721.2.2.1 bt721.2.2.2) else (laws_FnExactRankOfGame.j0 k l1 t728 true a0_0 a0_1 a0_2 l0_3 bt721.1 bt721.2.1 bt721.2.2.1 bt721.2.2.2))))))) = some r := H
   have A10 := Aside0.mk A100
   clear A100
   replace H := Option.bind_eq_some_iff.mp H
   obtain ⟨t716, A110, H⟩ := H
   replace H : ((spec_RankOfGame.f k t710 t711 t712 t713 t716).bind fun bt719 => ((laws_toBoard.f k a0_0 a0_1 a0_2 l0_3).bind fun bt721 => ((laws_toIntS.f k l1).bind fun t728 => ((impl_RankOfGame.f k bt721.1 bt721.2.1 bt721.2.2.1 bt721.2.2.2 t728).bind fun bt731 => (if bt731.1 = bt719.1 then (laws_FnExactRankOfGame.j0 k l1 t728 (bt731.2 != bt719.2) a0_0 a0_1 a0_2 l0_3 bt721.1 bt721.2.1 bt721.2.2.1 bt721.2.2.2) else (laws_FnExactRankOfGame.j0 k l1 t728 true a0_0 a0_1 a0_2 l0_3 bt721.1 bt721.2.1 bt721.2.2.1 bt721.2.2.2)))))) = some r := H
   have A11 := Aside0.mk A110
   clear A110
   replace H := Option.bind_eq_some_iff.mp H
   obtain ⟨⟨t719, t720⟩, A120, H⟩ := H
   replace H : ((laws_toBoard.f k a0_0 a0_1 a0_2 l0_3).bind fun bt721 => ((laws_toIntS.f k l1).bind fun t728 => ((impl_RankOfGame.f k bt721.1 bt721.2.1 bt721.2.2.1 bt721.2.2.2 t728).bind fun bt731 => (if bt731.1 = t719 then (laws_FnExactRankOfGame.j0 k l1 t728 (bt731.2 != t720) a0_0 a0_1 a0_2 l0_3 bt721.1 bt721.2.1 bt721.2.2.1 bt721.2.2.2) else (laws_FnExactRankOfGame.j0 k l1 t728 true a0_0 a0_1 a0_2 l0_3 bt721.1 bt721.2.1 bt721.2.2.1 bt721.2.2.2))))) = some r := H
   have A12 := Aside0.mk A120
   clear A120
   replace H := Option.bind_eq_some_iff.mp H
   obtain ⟨⟨t721, t722, t723, t724⟩, A130, H⟩ := H
   replace H : ((laws_toIntS.f k l1).bind fun t728 => ((impl_RankOfGame.f k t721 t722 t723 t724 t728).bind fun bt731 => (if bt731.1 = t719 then (laws_FnExactRankOfGame.j0 k l1 t728 (bt731.2 != t720) a0_0 a0_1 a0_2 l0_3 t721 t722 t723 t724) else (laws_FnExactRankOfGame.j0 k l1 t728 true a0_0 a0_1 a0_2 l0_3 t721 t722 t723 t724)))) = some r := H
   have A13 := Aside0.mk A130
   clear A130
   replace H := Option.bind_eq_some_iff.mp H
   obtain ⟨t728, A140, H⟩ := H
   replace H : ((impl_RankOfGame.f k t721 t722 t723 t724 t728).bind fun bt731 => (if bt731.1 = t719 then (laws_FnExactRankOfGame.j0 k l1 t728 (bt731.2 != t720) a0_0 a0_1 a0_2 l0_3 t721 t722 t723 t724) else (laws_FnExactRankOfGame.j0 k l1 t728 true a0_0 a0_1 a0_2 l0_3 t721 t722 t723 t724))) = some r := H
   have A14 := Aside0.mk A140
   clear A140
   replace H := Option.bind_eq_some_iff.mp H
   obtain ⟨⟨t731, t732⟩, A150, H⟩ := H
   replace H : (if t731 = t719 then (laws_FnExactRankOfGame.j0 k l1 t728 (t732 != t720) a0_0 a0_1 a0_2 l0_3 t721 t722 t723 t724) else (laws_FnExactRankOfGame.j0 k l1 t728 true a0_0 a0_1 a0_2 l0_3 t721 t722 t723 t724)) = some r := H
   have A15 := Aside0.mk A150
   clear A150
   have HC16 := Aside0.mk H
   clear H
   go_enter Try.func13, Try.ntmps13
   go_upto_region 11 with (first | ((with_reducible refine gate_dst (N := 2) rfl ?_); refine box_event ?hg (N := 2) ?hd (cs := #[.int .i64 a0_0, .int .i64 a0_1, .int .i64 a0_2, .slice A0_3 l0_3.length c0_3]) (t := 24) ?hr ?_; (case hd => rfl); (case hg => rfl); (case hr => first | (go_simp; done) | (go_simp; rfl)); intro gb708 hg w17 hbox hb; have n0_ := Aside0.mk (below_step hb_ hb); have n1_ := Aside0.mk (hbox); have n2_ := Aside0.mk ((by rw [hg]; exact (below_size hb_) : w.heap.size ≤ gb708)); have n3_ := Aside0.mk ((by rw [hg]; exact (below_size hb_) : w.heap.size ≤ gb708)); clear HB; have HB := n0_; have BK708 := n1_; have GW708 := n2_; have GE708 := n3_; clear n0_ n1_ n2_ n3_; clear hb hbox hg; have hcz18_0 : w17.cell? ⟨gb708, 0, none⟩ = some (.int .i64 a0_0) := (blk_cell BK708.out 0).trans rfl; have hcz18_1 : w17.cell? ⟨gb708, 1, none⟩ = some (.int .i64 a0_1) := (blk_cell BK708.out 1).trans rfl; have hcz18_2 : w17.cell? ⟨gb708, 2, none⟩ = some (.int .i64 a0_2) := (blk_cell BK708.out 2).trans rfl; have hcz18_3 : w17.cell? ⟨gb708, 3, none⟩ = some (.slice A0_3 l0_3.length c0_3) := (blk_cell BK708.out 3).trans rfl; have hfz18_0 := blk_frozen BK708.out 0; have hfz18_1 := blk_frozen BK708.out 1; have hfz18_2 := blk_frozen BK708.out 2; have hfz18_3 := blk_frozen BK708.out 3) | ((with_reducible refine gate_callee (f := 14) rfl ?_); refine goesL_ (some 17) rfl rfl Try.func14 (by kernel_rfl) rfl #[.agg #[.int .i64 a0_0, .int .i64 a0_1, .int .i64 a0_2, .slice A0_3 l0_3.length c0_3], .int .i64 1048576] rfl (by (try simp only [List.map_toArray, List.map_cons, List.map_nil]); first | done | rfl | (simp only [List.length_drop, List.length_take]; rfl)) ?_; (with_reducible refine (laws_szBoard.calls a0_0 a0_1 a0_2 _ _ l0_3 1048576 t709 _ ?side1 ?side2 A5.out).mono ?_); (case side1 => exact Kd.C_below HR0_3.out hb_); (case side2 => exact HC0_3.out); rintro e w19 ⟨rfl, hb⟩; refine ⟨_, rfl, ?_⟩; have n0_ := Aside0.mk (blk_below (g := gb708) (o := .cells #[.int .i64 a0_0, .int .i64 a0_1, .int .i64 a0_2, .slice A0_3 l0_3.length c0_3] 24 (0, 0)) (by (with_reducible repeat (first | refine blk_drewN ?_ _ | refine blk_drew ?_ | refine blk_alloc ?_ _)); exact BK708.out) hb); have n1_ := Aside0.mk (below_step hb_ hb); clear BK708; clear HB; have BK708 := n0_; have HB := n1_; clear n0_ n1_; (try clear hb); (try clear hb2); (try clear hk); (try clear hi); have hcz20_0 : w19.cell? ⟨gb708, 0, none⟩ = some (.int .i64 a0_0) := (blk_cell BK708.out 0).trans rfl; have hcz20_1 : w19.cell? ⟨gb708, 1, none⟩ = some (.int .i64 a0_1) := (blk_cell BK708.out 1).trans rfl; have hcz20_2 : w19.cell? ⟨gb708, 2, none⟩ = some (.int .i64 a0_2) := (blk_cell BK708.out 2).trans rfl; have hcz20_3 : w19.cell? ⟨gb708, 3, none⟩ = some (.slice A0_3 l0_3.length c0_3) := (blk_cell BK708.out 3).trans rfl; have hfz20_0 := blk_frozen BK708.out 0; have hfz20_1 := blk_frozen BK708.out 1; have hfz20_2 := blk_frozen BK708.out 2; have hfz20_3 := blk_frozen BK708.out 3) | ((with_reducible refine gate_callee (f := 16) rfl ?_); refine goesL_ (some 22) rfl rfl Try.func16 (by kernel_rfl) rfl #[.agg #[.int .i64 a0_0, .int .i64 a0_1, .int .i64 a0_2, .slice A0_3 l0_3.length c0_3]] rfl (by (try simp only [List.map_toArray, List.map_cons, List.map_nil]); first | done | rfl | (simp only [List.length_drop, List.length_take]; rfl)) ?_; (with_reducible refine (laws_toBoard.calls k a0_0 a0_1 a0_2 _ _ l0_3 t710 t711 t712 t713 _ ?side1 ?side2 A10.out).mono ?_); (case side1 => exact Kd.C_below HR0_3.out hb_); (case side2 => exact HC0_3.out); rintro e w21 ⟨v714, rfl, ho0, hb⟩; refine ⟨_, rfl, ?_⟩; have n0_ := Aside0.mk (Kd.R_lower ho0 (below_size hb_)); have n1_ := Aside0.mk (blk_below (g := gb708) (o := .cells #[.int .i64 a0_0, .int .i64 a0_1, .int .i64 a0_2, .slice A0_3 l0_3.length c0_3] 24 (0, 0)) (by (with_reducible repeat (first | refine blk_drewN ?_ _ | refine blk_drew ?_ | refine blk_alloc ?_ _)); exact BK708.out) hb); have n2_ := Aside0.mk (below_step hb_ hb); clear BK708; clear HB; have HO715 := n0_; have BK708 := n1_; have HB := n2_; clear n0_ n1_ n2_; (try clear hb); (try clear hb2); (try clear hk); (try clear hi); (try clear ho0)) | ((with_reducible refine gate_callee (f := 22) rfl ?_); refine goesL_ (some 24) rfl rfl Try.func22 (by kernel_rfl) rfl #[.slice A1 l1.length c1] rfl (by (try simp only [List.map_toArray, List.map_cons, List.map_nil]); first | done | rfl | (simp only [List.length_drop, List.length_take]; rfl)) ?_; (with_reducible refine (laws_toIntS.calls k _ _ l1 t716 _ ?side1 ?side2 A11.out).mono ?_); (case side1 => exact Kd.C_below HR1.out hb_); (case side2 => exact HC1.out); rintro e w22 ⟨v717, rfl, ho0, hb⟩; refine ⟨_, rfl, ?_⟩; have n0_ := Aside0.mk (Kd.R_below (by (with_reducible repeat (first | apply Kd.R_alloc | apply Kd.R_drewN | apply Kd.R_drew)); exact HO715.out) hb); have n1_ := Aside0.mk (Kd.R_lower ho0 (below_size hb_)); have n2_ := Aside0.mk (blk_below (g := gb708) (o := .cells #[.int .i64 a0_0, .int .i64 a0_1, .int .i64 a0_2, .slice A0_3 l0_3.length c0_3] 24 (0, 0)) (by (with_reducible repeat (first | refine blk_drewN ?_ _ | refine blk_drew ?_ | refine blk_alloc ?_ _)); exact BK708.out) hb); have n3_ := Aside0.mk (below_step hb_ hb); clear HO715; clear BK708; clear HB; have HO715 := n0_; have HO718 := n1_; have BK708 := n2_; have HB := n3_; clear n0_ n1_ n2_ n3_; (try clear hb); (try clear hb2); (try clear hk); (try clear hi); (try clear ho0); obtain ⟨Ao23, co23, eo23⟩ := Kd.R_slice HO715.out; subst eo23; obtain ⟨Ao24, co24, eo24⟩ := Kd.R_slice HO718.out; subst eo24) | ((with_reducible refine gate_callee (f := 42) rfl ?_); refine goesL_ (some 25) rfl rfl Try.func42 (by kernel_rfl) rfl #[.agg #[.int .i64 t710, .int .i64 t711, .int .i64 t712, .slice Ao23 t713.length co23], .slice Ao24 t716.length co24] rfl (by (try simp only [List.map_toArray, List.map_cons, List.map_nil]); first | done | rfl | (simp only [List.length_drop, List.length_take]; rfl)) ?_; (with_reducible refine (spec_RankOfGame.calls k t710 t711 t712 _ _ t713 _ _ t716 t719 t720 _ ?side1 ?side2 ?side3 ?side4 A12.out).mono ?_); (case side1 => repeat (first | exact (Kd.R_reads' HO715.out).2.2 | (with_reducible refine Kd.C_alloc ?_ _) | (with_reducible refine Kd.C_drewN ?_ _) | (with_reducible refine Kd.C_drew ?_))); (case side2 => exact (Kd.R_reads' HO715.out).2.1); (case side3 => repeat (first | exact (Kd.R_reads' HO718.out).2.2 | (with_reducible refine Kd.C_alloc ?_ _) | (with_reducible refine Kd.C_drewN ?_ _) | (with_reducible refine Kd.C_drew ?_))); (case side4 => exact (Kd.R_reads' HO718.out).2.1); rintro e w25 ⟨rfl, hb⟩; refine ⟨_, rfl, ?_⟩; have n0_ := Aside0.mk (Kd.R_below (by (with_reducible repeat (first | apply Kd.R_alloc | apply Kd.R_drewN | apply Kd.R_drew)); exact HO715.out) hb); have n1_ := Aside0.mk (Kd.R_below (by (with_reducible repeat (first | apply Kd.R_alloc | apply Kd.R_drewN | apply Kd.R_drew)); exact HO718.out) hb); have n2_ := Aside0.mk (blk_below (g := gb708) (o := .cells #[.int .i64 a0_0, .int .i64 a0_1, .int .i64 a0_2, .slice A0_3 l0_3.length c0_3] 24 (0, 0)) (by (with_reducible repeat (first | refine blk_drewN ?_ _ | refine blk_drew ?_ | refine blk_alloc ?_ _)); exact BK708.out) hb); have n3_ := Aside0.mk (below_step hb_ hb); clear HO715; clear HO718; clear BK708; clear HB; have HO715 := n0_; have HO718 := n1_; have BK708 := n2_; have HB := n3_; clear n0_ n1_ n2_ n3_; (try clear hb); (try clear hb2); (try clear hk); (try clear hi); have hcz26_0 : w25.cell? ⟨gb708, 0, none⟩ = some (.int .i64 a0_0) := (blk_cell BK708.out 0).trans rfl; have hcz26_1 : w25.cell? ⟨gb708, 1, none⟩ = some (.int .i64 a0_1) := (blk_cell BK708.out 1).trans rfl; have hcz26_2 : w25.cell? ⟨gb708, 2, none⟩ = some (.int .i64 a0_2) := (blk_cell BK708.out 2).trans rfl; have hcz26_3 : w25.cell? ⟨gb708, 3, none⟩ = some (.slice A0_3 l0_3.length c0_3) := (blk_cell BK708.out 3).trans rfl; have hfz26_0 := blk_frozen BK708.out 0; have hfz26_1 := blk_frozen BK708.out 1; have hfz26_2 := blk_frozen BK708.out 2; have hfz26_3 := blk_frozen BK708.out 3) | ((with_reducible refine gate_callee (f := 16) rfl ?_); refine goesL_ (some 29) rfl rfl Try.func16 (by kernel_rfl) rfl #[.agg #[.int .i64 a0_0, .int .i64 a0_1, .int .i64 a0_2, .slice A0_3 l0_3.length c0_3]] rfl (by (try simp only [List.map_toArray, List.map_cons, List.map_nil]); first | done | rfl | (simp only [List.length_drop, List.length_take]; rfl)) ?_; (with_reducible refine (laws_toBoard.calls k a0_0 a0_1 a0_2 _ _ l0_3 t721 t722 t723 t724 _ ?side1 ?side2 A13.out).mono ?_); (case side1 => exact Kd.C_below HR0_3.out hb_); (case side2 => exact HC0_3.out); rintro e w27 ⟨v725, rfl, ho0, hb⟩; refine ⟨_, rfl, ?_⟩; have n0_ := Aside0.mk (Kd.R_elder' (by (with_reducible repeat (first | apply Kd.R_alloc | apply Kd.R_drewN | apply Kd.R_drew)); exact HO715.out) (Kd.R_base ho0) hb); have n1_ := Aside0.mk (Kd.R_below (by (with_reducible repeat (first | apply Kd.R_alloc | apply Kd.R_drewN | apply Kd.R_drew)); exact HO718.out) hb); have n2_ := Aside0.mk (Kd.R_lower (Kd.R_new' ho0 (Kd.R_lt (by (with_reducible repeat (first | apply Kd.R_alloc | apply Kd.R_drewN | apply Kd.R_drew)); exact HO715.out))) (below_size hb_)); have n3_ := Aside0.mk (blk_below (g := gb708) (o := .cells #[.int .i64 a0_0, .int .i64 a0_1, .int .i64 a0_2, .slice A0_3 l0_3.length c0_3] 24 (0, 0)) (by (with_reducible repeat (first | refine blk_drewN ?_ _ | refine blk_drew ?_ | refine blk_alloc ?_ _)); exact BK708.out) hb); have n4_ := Aside0.mk (below_step hb_ hb); clear HO715; clear HO718; clear BK708; clear HB; have HO715 := n0_; have HO718 := n1_; have HO726 := n2_; have BK708 := n3_; have HB := n4_; clear n0_ n1_ n2_ n3_ n4_; (try clear hb); (try clear hb2); (try clear hk); (try clear hi); (try clear ho0)) | ((with_reducible refine gate_dst (N := 8) rfl ?_); refine box_event ?hg (N := 8) ?hd (cs := #[.int .i64 0, .int .i64 0, .int .i64 0, .slice none 0 0]) (t := 30) ?hr ?_; (case hd => rfl); (case hg => rfl); (case hr => first | (go_simp; done) | (go_simp; rfl)); intro gb727 hg w28 hbox hb; have n0_ := Aside0.mk (Kd.R_below (by (with_reducible repeat (first | apply Kd.R_alloc | apply Kd.R_drewN | apply Kd.R_drew)); exact HO715.out) hb); have n1_ := Aside0.mk (Kd.R_below (by (with_reducible repeat (first | apply Kd.R_alloc | apply Kd.R_drewN | apply Kd.R_drew)); exact HO718.out) hb); have n2_ := Aside0.mk (Kd.R_below (by (with_reducible repeat (first | apply Kd.R_alloc | apply Kd.R_drewN | apply Kd.R_drew)); exact HO726.out) hb); have n3_ := Aside0.mk (blk_below (g := gb708) (o := .cells #[.int .i64 a0_0, .int .i64 a0_1, .int .i64 a0_2, .slice A0_3 l0_3.length c0_3] 24 (0, 0)) (by (with_reducible repeat (first | refine blk_drewN ?_ _ | refine blk_drew ?_ | refine blk_alloc ?_ _)); exact BK708.out) hb); have n4_ := Aside0.mk (below_step hb_ hb); have n5_ := Aside0.mk (hbox); have n6_ := Aside0.mk ((by rw [hg]; exact (below_size hb_) : w.heap.size ≤ gb727)); have n7_ := Aside0.mk ((by rw [hg]; exact (below_size hb_) : w.heap.size ≤ gb727)); have n8_ := Aside0.mk ((by rw [hg]; exact Nat.ne_of_lt (blk_lt (g := gb708) (o := .cells #[.int .i64 a0_0, .int .i64 a0_1, .int .i64 a0_2, .slice A0_3 l0_3.length c0_3] 24 (0, 0)) (by (with_reducible repeat (first | refine blk_drewN ?_ _ | refine blk_drew ?_ | refine blk_alloc ?_ _)); exact BK708.out)) : gb708 ≠ gb727)); have n9_ := Aside0.mk ((by rw [hg]; exact Nat.ne_of_gt (blk_lt (g := gb708) (o := .cells #[.int .i64 a0_0, .int .i64 a0_1, .int .i64 a0_2, .slice A0_3 l0_3.length c0_3] 24 (0, 0)) (by (with_reducible repeat (first | refine blk_drewN ?_ _ | refine blk_drew ?_ | refine blk_alloc ?_ _)); exact BK708.out)) : gb727 ≠ gb708)); clear HO715; clear HO718; clear HO726; clear BK708; clear HB; have HO715 := n0_; have HO718 := n1_; have HO726 := n2_; have BK708 := n3_; have HB := n4_; have BK727 := n5_; have GW727 := n6_; have GE727 := n7_; have NB708_727 := n8_; have NB727_708 := n9_; clear n0_ n1_ n2_ n3_ n4_ n5_ n6_ n7_ n8_ n9_; clear hb hbox hg; have hnb29 := NB727_708.out; have hnc29 := NB708_727.out; have hcz30_0 : w28.cell? ⟨gb727, 0, none⟩ = some (.int .i64 0) := (blk_cell BK727.out 0).trans rfl; have hcz30_1 : w28.cell? ⟨gb727, 1, none⟩ = some (.int .i64 0) := (blk_cell BK727.out 1).trans rfl; have hcz30_2 : w28.cell? ⟨gb727, 2, none⟩ = some (.int .i64 0) := (blk_cell BK727.out 2).trans rfl; have hcz30_3 : w28.cell? ⟨gb727, 3, none⟩ = some (.slice none 0 0) := (blk_cell BK727.out 3).trans rfl; have hfz30_0 := blk_frozen BK727.out 0; have hfz30_1 := blk_frozen BK727.out 1; have hfz30_2 := blk_frozen BK727.out 2; have hfz30_3 := blk_frozen BK727.out 3; obtain ⟨Ao31, co31, eo31⟩ := Kd.R_slice HO726.out; subst eo31) | ((with_reducible refine gate_callee (f := 22) rfl ?_); refine goesL_ (some 31) rfl rfl Try.func22 (by kernel_rfl) rfl #[.slice A1 l1.length c1] rfl (by (try simp only [List.map_toArray, List.map_cons, List.map_nil]); first | done | rfl | (simp only [List.length_drop, List.length_take]; rfl)) ?_; (with_reducible refine (laws_toIntS.calls k _ _ l1 t728 _ ?side1 ?side2 A14.out).mono ?_); (case side1 => exact Kd.C_below HR1.out hb_); (case side2 => exact HC1.out); rintro e w32 ⟨v729, rfl, ho0, hb⟩; refine ⟨_, rfl, ?_⟩; have n0_ := Aside0.mk (Kd.R_below (by (with_reducible repeat (first | apply Kd.R_alloc | apply Kd.R_drewN | apply Kd.R_drew)); exact (Kd.R_mono (Kd.R_far (p := ⟨gb727, 3, none⟩) (Kd.R_far (p := ⟨gb727, 2, none⟩) (Kd.R_far (p := ⟨gb727, 1, none⟩) (Kd.R_far (p := ⟨gb727, 0, none⟩) (Kd.R_types HO715.out BK727.out (by decide)) (fun _ hk => hk.2) (.int .i64 t721)) (fun _ hk => hk.2) (.int .i64 t722)) (fun _ hk => hk.2) (.int .i64 t723)) (fun _ hk => hk.2) (.slice Ao31 t724.length co31)) (fun _ h_ => h_.1))) hb); have n1_ := Aside0.mk (Kd.R_elder' (by (with_reducible repeat (first | apply Kd.R_alloc | apply Kd.R_drewN | apply Kd.R_drew)); exact (Kd.R_mono (Kd.R_far (p := ⟨gb727, 3, none⟩) (Kd.R_far (p := ⟨gb727, 2, none⟩) (Kd.R_far (p := ⟨gb727, 1, none⟩) (Kd.R_far (p := ⟨gb727, 0, none⟩) (Kd.R_types HO718.out BK727.out (by decide)) (fun _ hk => hk.2) (.int .i64 t721)) (fun _ hk => hk.2) (.int .i64 t722)) (fun _ hk => hk.2) (.int .i64 t723)) (fun _ hk => hk.2) (.slice Ao31 t724.length co31)) (fun _ h_ => h_.1))) (Kd.R_base ho0) hb); have n2_ := Aside0.mk (Kd.R_below (by (with_reducible repeat (first | apply Kd.R_alloc | apply Kd.R_drewN | apply Kd.R_drew)); exact (Kd.R_mono (Kd.R_far (p := ⟨gb727, 3, none⟩) (Kd.R_far (p := ⟨gb727, 2, none⟩) (Kd.R_far (p := ⟨gb727, 1, none⟩) (Kd.R_far (p := ⟨gb727, 0, none⟩) (Kd.R_types HO726.out BK727.out (by decide)) (fun _ hk => hk.2) (.int .i64 t721)) (fun _ hk => hk.2) (.int .i64 t722)) (fun _ hk => hk.2) (.int .i64 t723)) (fun _ hk => hk.2) (.slice Ao31 t724.length co31)) (fun _ h_ => h_.1))) hb); have n3_ := Aside0.mk (Kd.R_lower (Kd.R_new' ho0 (Kd.R_lt (by (with_reducible repeat (first | apply Kd.R_alloc | apply Kd.R_drewN | apply Kd.R_drew)); exact (Kd.R_mono (Kd.R_far (p := ⟨gb727, 3, none⟩) (Kd.R_far (p := ⟨gb727, 2, none⟩) (Kd.R_far (p := ⟨gb727, 1, none⟩) (Kd.R_far (p := ⟨gb727, 0, none⟩) (Kd.R_types HO718.out BK727.out (by decide)) (fun _ hk => hk.2) (.int .i64 t721)) (fun _ hk => hk.2) (.int .i64 t722)) (fun _ hk => hk.2) (.int .i64 t723)) (fun _ hk => hk.2) (.slice Ao31 t724.length co31)) (fun _ h_ => h_.1))))) (below_size hb_)); have n4_ := Aside0.mk (blk_below (g := gb708) (o := .cells #[.int .i64 a0_0, .int .i64 a0_1, .int .i64 a0_2, .slice A0_3 l0_3.length c0_3] 24 (0, 0)) (by (with_reducible repeat (first | refine blk_drewN ?_ _ | refine blk_drew ?_ | refine blk_alloc ?_ _)); refine blk_far ?_ NB708_727.out _; (with_reducible repeat (first | refine blk_drewN ?_ _ | refine blk_drew ?_ | refine blk_alloc ?_ _)); refine blk_far ?_ NB708_727.out _; (with_reducible repeat (first | refine blk_drewN ?_ _ | refine blk_drew ?_ | refine blk_alloc ?_ _)); refine blk_far ?_ NB708_727.out _; (with_reducible repeat (first | refine blk_drewN ?_ _ | refine blk_drew ?_ | refine blk_alloc ?_ _)); refine blk_far ?_ NB708_727.out _; (with_reducible repeat (first | refine blk_drewN ?_ _ | refine blk_drew ?_ | refine blk_alloc ?_ _)); exact BK708.out) hb); have n5_ := Aside0.mk (blk_below (g := gb727) (o := .cells #[.int .i64 t721, .int .i64 t722, .int .i64 t723, .slice Ao31 t724.length co31] 30 (0, 0)) (by (with_reducible repeat (first | refine blk_drewN ?_ _ | refine blk_drew ?_ | refine blk_alloc ?_ _)); refine blk_put (cs := #[.int .i64 t721, .int .i64 t722, .int .i64 t723, .slice none 0 0]) ?_ 3 _ rfl; (with_reducible repeat (first | refine blk_drewN ?_ _ | refine blk_drew ?_ | refine blk_alloc ?_ _)); refine blk_put (cs := #[.int .i64 t721, .int .i64 t722, .int .i64 0, .slice none 0 0]) ?_ 2 _ rfl; (with_reducible repeat (first | refine blk_drewN ?_ _ | refine blk_drew ?_ | refine blk_alloc ?_ _)); refine blk_put (cs := #[.int .i64 t721, .int .i64 0, .int .i64 0, .slice none 0 0]) ?_ 1 _ rfl; (with_reducible repeat (first | refine blk_drewN ?_ _ | refine blk_drew ?_ | refine blk_alloc ?_ _)); refine blk_put (cs := #[.int .i64 0, .int .i64 0, .int .i64 0, .slice none 0 0]) ?_ 0 _ rfl; (with_reducible repeat (first | refine blk_drewN ?_ _ | refine blk_drew ?_ | refine blk_alloc ?_ _)); exact BK727.out) hb); have n6_ := Aside0.mk (below_step hb_ hb); clear HO715; clear HO718; clear HO726; clear BK708; clear BK727; clear HB; have HO715 := n0_; have HO718 := n1_; have HO726 := n2_; have HO730 := n3_; have BK708 := n4_; have BK727 := n5_; have HB := n6_; clear n0_ n1_ n2_ n3_ n4_ n5_ n6_; (try clear hb); (try clear hb2); (try clear hk); (try clear hi); (try clear ho0); have hcz33_0 : w32.cell? ⟨gb727, 0, none⟩ = some (.int .i64 t721) := (blk_cell BK727.out 0).trans rfl; have hcz33_1 : w32.cell? ⟨gb727, 1, none⟩ = some (.int .i64 t722) := (blk_cell BK727.out 1).trans rfl; have hcz33_2 : w32.cell? ⟨gb727, 2, none⟩ = some (.int .i64 t723) := (blk_cell BK727.out 2).trans rfl; have hcz33_3 : w32.cell? ⟨gb727, 3, none⟩ = some (.slice Ao31 t724.length co31) := (blk_cell BK727.out 3).trans rfl; have hfz33_0 := blk_frozen BK727.out 0; have hfz33_1 := blk_frozen BK727.out 1; have hfz33_2 := blk_frozen BK727.out 2; have hfz33_3 := blk_frozen BK727.out 3; obtain ⟨Ao34, co34, eo34⟩ := Kd.R_slice HO730.out; subst eo34) | ((with_reducible refine gate_callee (f := 43) rfl ?_); refine goesL_ (some 35) rfl rfl Try.func43 (by kernel_rfl) rfl #[.agg #[.int .i64 t721, .int .i64 t722, .int .i64 t723, .slice Ao31 t724.length co31], .slice Ao34 t728.length co34] rfl (by (try simp only [List.map_toArray, List.map_cons, List.map_nil]); first | done | rfl | (simp only [List.length_drop, List.length_take]; rfl)) ?_; (with_reducible refine (impl_RankOfGame.calls k t721 t722 t723 _ _ t724 _ _ t728 t731 t732 _ ?side1 ?side2 ?side3 ?side4 A15.out).mono ?_); (case side1 => repeat (first | exact (Kd.R_reads' HO726.out).2.2 | (with_reducible refine Kd.C_alloc ?_ _) | (with_reducible refine Kd.C_drewN ?_ _) | (with_reducible refine Kd.C_drew ?_))); (case side2 => exact (Kd.R_reads' HO726.out).2.1); (case side3 => repeat (first | exact (Kd.R_reads' HO730.out).2.2 | (with_reducible refine Kd.C_alloc ?_ _) | (with_reducible refine Kd.C_drewN ?_ _) | (with_reducible refine Kd.C_drew ?_))); (case side4 => exact (Kd.R_reads' HO730.out).2.1); rintro e w35 ⟨rfl, hb⟩; refine ⟨_, rfl, ?_⟩; have n0_ := Aside0.mk (Kd.R_below (by (with_reducible repeat (first | apply Kd.R_alloc | apply Kd.R_drewN | apply Kd.R_drew)); exact HO715.out) hb); have n1_ := Aside0.mk (Kd.R_below (by (with_reducible repeat (first | apply Kd.R_alloc | apply Kd.R_drewN | apply Kd.R_drew)); exact HO718.out) hb); have n2_ := Aside0.mk (Kd.R_below (by (with_reducible repeat (first | apply Kd.R_alloc | apply Kd.R_drewN | apply Kd.R_drew)); exact HO726.out) hb); have n3_ := Aside0.mk (Kd.R_below (by (with_reducible repeat (first | apply Kd.R_alloc | apply Kd.R_drewN | apply Kd.R_drew)); exact HO730.out) hb); have n4_ := Aside0.mk (blk_below (g := gb708) (o := .cells #[.int .i64 a0_0, .int .i64 a0_1, .int .i64 a0_2, .slice A0_3 l0_3.length c0_3] 24 (0, 0)) (by (with_reducible repeat (first | refine blk_drewN ?_ _ | refine blk_drew ?_ | refine blk_alloc ?_ _)); exact BK708.out) hb); have n5_ := Aside0.mk (blk_below (g := gb727) (o := .cells #[.int .i64 t721, .int .i64 t722, .int .i64 t723, .slice Ao31 t724.length co31] 30 (0, 0)) (by (with_reducible repeat (first | refine blk_drewN ?_ _ | refine blk_drew ?_ | refine blk_alloc ?_ _)); exact BK727.out) hb); have n6_ := Aside0.mk (below_step hb_ hb); clear HO715; clear HO718; clear HO726; clear HO730; clear BK708; clear BK727; clear HB; have HO715 := n0_; have HO718 := n1_; have HO726 := n2_; have HO730 := n3_; have BK708 := n4_; have BK727 := n5_; have HB := n6_; clear n0_ n1_ n2_ n3_ n4_ n5_ n6_; (try clear hb); (try clear hb2); (try clear hk); (try clear hi)))
   (try simp only [Act.put, List.setIfInBounds_toArray, List.set_cons_zero, List.set_cons_succ])
   go_cut [45] (fun v45 wc => ∃ (kq : Nat) (x45_15 : Bool), v45 = .bool x45_15 ∧ Aside0 (laws_FnExactRankOfGame.j0 kq l1 t728 x45_15 a0_0 a0_1 a0_2 l0_3 t721 t722 t723 t724 = some r) ∧ Aside0 (kq ≤ k) ∧ Aside0 (Kd.R (Kd.int .i64) 3 wc w.heap.size (fun _ => True) (.slice Ao34 t728.length co34) t728) ∧ Aside0 (Kd.R k70 70 wc w.heap.size (fun _ => True) (.slice Ao31 t724.length co31) t724) ∧ Aside0 (wc.heap[gb708]? = some (.cells #[.int .i64 a0_0, .int .i64 a0_1, .int .i64 a0_2, (.slice A0_3 l0_3.length c0_3)] 24 (0, 0))) ∧ Aside0 (wc.heap[gb727]? = some (.cells #[.int .i64 t721, .int .i64 t722, .int .i64 t723, (.slice Ao31 t724.length co31)] 30 (0, 0))) ∧ Aside0 (Below w.heap.size w wc))
   case first =>
    have H := HC16.out
    clear HC16
    by_cases c36 : t731 = t719
    ·rw [if_pos c36] at H
     have c36b0 : (t731 == t719) = true := beq_iff_eq.mpr c36
     have c36b1 : (t731 != t719) = false := bne_eq_false_iff_eq.mpr c36
     clear c36
     (first | rw [c36b0] | (simp only [i64_w, i32_w]; rw [c36b0]) | skip)
     have H' := Aside0.mk H
     clear H
     go_wp2
     go_meet
     case rel => exact ⟨_, ((t732 != t720)), (by first | rfl | (simp; done) | (simp [*]; done)), H', ⟨by first | omega | exact Nat.le_refl _⟩, ⟨by (with_reducible repeat (first | apply Kd.R_alloc | apply Kd.R_drewN | apply Kd.R_drew)); exact Kd.R_mono HO730.out (fun _ hk => trivial)⟩, ⟨by (with_reducible repeat (first | apply Kd.R_alloc | apply Kd.R_drewN | apply Kd.R_drew)); exact Kd.R_mono HO726.out (fun _ hk => trivial)⟩, ⟨by (with_reducible repeat (first | refine blk_drewN ?_ _ | refine blk_drew ?_ | refine blk_alloc ?_ _)); exact BK708.out⟩, ⟨by (with_reducible repeat (first | refine blk_drewN ?_ _ | refine blk_drew ?_ | refine blk_alloc ?_ _)); exact BK727.out⟩, ⟨hb_⟩⟩
    ·rw [if_neg c36] at H
     have c36b0 : (t731 == t719) = false := beq_eq_false_iff_ne.mpr c36
     have c36b1 : (t731 != t719) = true := bne_iff_ne.mpr c36
     (first | rw [c36b0] | (simp only [i64_w, i32_w]; rw [c36b0]) | skip)
     have H' := Aside0.mk H
     clear H
     go_wp2
     go_meet
     case rel => exact ⟨_, (true), (by first | rfl | (simp; done) | (simp [*]; done)), H', ⟨by first | omega | exact Nat.le_refl _⟩, ⟨by (with_reducible repeat (first | apply Kd.R_alloc | apply Kd.R_drewN | apply Kd.R_drew)); exact Kd.R_mono HO730.out (fun _ hk => trivial)⟩, ⟨by (with_reducible repeat (first | apply Kd.R_alloc | apply Kd.R_drewN | apply Kd.R_drew)); exact Kd.R_mono HO726.out (fun _ hk => trivial)⟩, ⟨by (with_reducible repeat (first | refine blk_drewN ?_ _ | refine blk_drew ?_ | refine blk_alloc ?_ _)); exact BK708.out⟩, ⟨by (with_reducible repeat (first | refine blk_drewN ?_ _ | refine blk_drew ?_ | refine blk_alloc ?_ _)); exact BK727.out⟩, ⟨hb_⟩⟩
   case rest =>
    clear HC16
    try clear c1
    try clear c2
    try clear p2
    try clear c3
    try clear c3b0
    try clear c3b1
    try clear c4
    try clear c6
    try clear c6b0
    try clear c13
    try clear c14
    try clear c16
    try clear c22
    try clear c29
    try clear c36
    try clear c36b0
    try clear c36b1
    try clear hcz18_0
    try clear hcz18_1
    try clear hcz18_2
    try clear hcz18_3
    try clear hcz20_0
    try clear hcz20_1
    try clear hcz20_2
    try clear hcz20_3
    try clear hcz26_0
    try clear hcz26_1
    try clear hcz26_2
    try clear hcz26_3
    try clear hcz30_0
    try clear hcz30_1
    try clear hcz30_2
    try clear hcz30_3
    try clear hcz33_0
    try clear hcz33_1
    try clear hcz33_2
    try clear hcz33_3
    try clear hcz8_0
    try clear hcz8_1
    try clear hcz8_2
    try clear hcz8_3
    try clear hfz18_0
    try clear hfz18_1
    try clear hfz18_2
    try clear hfz18_3
    try clear hfz20_0
    try clear hfz20_1
    try clear hfz20_2
    try clear hfz20_3
    try clear hfz26_0
    try clear hfz26_1
    try clear hfz26_2
    try clear hfz26_3
    try clear hfz30_0
    try clear hfz30_1
    try clear hfz30_2
    try clear hfz30_3
    try clear hfz33_0
    try clear hfz33_1
    try clear hfz33_2
    try clear hfz33_3
    try clear hfz8_0
    try clear hfz8_1
    try clear hfz8_2
    try clear hfz8_3
    obtain ⟨kq, x45_15, rfl, HA, HJ15, HO_9, HO_728003, BK708, BK727, HB⟩ := hcut
    cases kq with
    | zero => exact absurd HA.out (by simp [laws_FnExactRankOfGame.j0])
    | succ kj15 =>
     have H := HA.out
     clear HA
     simp only [laws_FnExactRankOfGame.j0] at H
     by_cases c37 : x45_15 = true
     ·subst c37
      have H1 : (some false) = some r := by rw [if_pos rfl] at H; exact H
      clear H
      have H := H1
      clear H1
      obtain rfl := Option.some.inj H
      go_wp2
      go_ret
      exact ⟨by first | rfl | (simp [errW_none, errW_some] <;> rfl) | (simp [*, errW_none, errW_some] <;> rfl), hb_⟩
     ·replace c37 := Bool.eq_false_iff.mpr c37
      subst c37
      have H1 : ((laws_toBoard.f kj15 a0_0 a0_1 a0_2 l0_3).bind fun bt733 => ((laws_eqBoard.f kj15 t721 t722 t723 t724 bt733.1 bt733.2.1 bt733.2.2.1 bt733.2.2.2).bind fun t739 => (if t739 = true then ((laws_toIntS.f kj15 l1).bind fun t740 => ((laws_eqIntS.f kj15 t728 t740).bind fun t743 => (if t743 = true then (some true) else (some false)))) else (some false)))) = some r := by rw [if_neg (show ¬ (false = true) by decide)] at H; exact H
      clear H
      have H := H1
      clear H1
      replace H := Option.bind_eq_some_iff.mp H
      obtain ⟨⟨t733, t734, t735, t736⟩, A380, H⟩ := H
      replace H : ((laws_eqBoard.f kj15 t721 t722 t723 t724 t733 t734 t735 t736).bind fun t739 => (if t739 = true then ((laws_toIntS.f kj15 l1).bind fun t740 => ((laws_eqIntS.f kj15 t728 t740).bind fun t743 => (if t743 = true then (some true) else (some false)))) else (some false))) = some r := H
      have A38 := Aside0.mk A380
      clear A380
      replace H := Option.bind_eq_some_iff.mp H
      obtain ⟨t739, A390, H⟩ := H
      replace H : (if t739 = true then ((laws_toIntS.f kj15 l1).bind fun t740 => ((laws_eqIntS.f kj15 t728 t740).bind fun t743 => (if t743 = true then (some true) else (some false)))) else (some false)) = some r := H
      have A39 := Aside0.mk A390
      clear A390
      by_cases c40 : t739 = true
      ·subst c40
       have H1 : ((laws_toIntS.f kj15 l1).bind fun t740 => ((laws_eqIntS.f kj15 t728 t740).bind fun t743 => (if t743 = true then (some true) else (some false)))) = some r := by rw [if_pos rfl] at H; exact H
       clear H
       have H := H1
       clear H1
       replace H := Option.bind_eq_some_iff.mp H
       obtain ⟨t740, A410, H⟩ := H
       replace H : ((laws_eqIntS.f kj15 t728 t740).bind fun t743 => (if t743 = true then (some true) else (some false))) = some r := H
       have A41 := Aside0.mk A410
       clear A410
       replace H := Option.bind_eq_some_iff.mp H
       obtain ⟨t743, A420, H⟩ := H
       replace H : (if t743 = true then (some true) else (some false)) = some r := H
       have A42 := Aside0.mk A420
       clear A420
       by_cases c43 : t743 = true
       ·subst c43
        have H1 : (some true) = some r := by rw [if_pos rfl] at H; exact H
        clear H
        have H := H1
        clear H1
        obtain rfl := Option.some.inj H
        try go_wp2
        have n0_ := Aside0.mk (Kd.R_drew HO_9.out)
        have n1_ := Aside0.mk (Kd.R_drew HO_728003.out)
        have n2_ := Aside0.mk (blk_drew BK708.out)
        have n3_ := Aside0.mk (blk_drew BK727.out)
        have n4_ := Aside0.mk (below_drew1 HB.out)
        clear HO_9
        clear HO_728003
        clear BK708
        clear BK727
        clear HB
        have HO_9 := n0_
        have HO_728003 := n1_
        have BK708 := n2_
        have BK727 := n3_
        have HB := n4_
        clear n0_ n1_ n2_ n3_ n4_
        refine start_ (n := 5) (S := fun w' => w'.cell? ⟨gb727, 0, none⟩ = some (.int .i64 t721) ∧ w'.cell? ⟨gb727, 1, none⟩ = some (.int .i64 t722) ∧ w'.cell? ⟨gb727, 2, none⟩ = some (.int .i64 t723) ∧ w'.cell? ⟨gb727, 3, none⟩ = some (.slice Ao31 t724.length co31) ∧ w'.cell? ⟨gb708, 0, none⟩ = some (.int .i64 a0_0) ∧ w'.cell? ⟨gb708, 1, none⟩ = some (.int .i64 a0_1) ∧ w'.cell? ⟨gb708, 2, none⟩ = some (.int .i64 a0_2) ∧ w'.cell? ⟨gb708, 3, none⟩ = some (.slice A0_3 l0_3.length c0_3)) (ds := []) #[false, false, false, false, false] (by kernel_rfl) rfl rfl ⟨(blk_cell BK727.out 0).trans rfl, (blk_cell BK727.out 1).trans rfl, (blk_cell BK727.out 2).trans rfl, (blk_cell BK727.out 3).trans rfl, (blk_cell BK708.out 0).trans rfl, (blk_cell BK708.out 1).trans rfl, (blk_cell BK708.out 2).trans rfl, (blk_cell BK708.out 3).trans rfl⟩ (fun hHeld => ?_)
        generalize wc.drew = w44 at HO_9 HO_728003 BK708 BK727 HB hHeld ⊢
        refine take_ (i := 0) (N := some 46) (v := ?_) (a' := ?_) #[true, false, false, false, false] rfl rfl (by kernel_rfl) (fun _ _ _ h => h) (Or.inl ⟨by rfl, ?_⟩) hHeld ?_ ?_
        rotate_left
        ·rintro w' ⟨s0, s1, s2, s3, s4, s5, s6, s7⟩
         go_simp
         with_reducible rfl
        rotate_left
        ·simp only [Act.put, List.setIfInBounds_toArray, List.set_cons_zero, List.set_cons_succ, i64_w, i32_w]
         rfl
        refine take_ (i := 1) (N := some 47) (v := ?_) (a' := ?_) #[true, true, false, false, false] rfl rfl (by kernel_rfl) (fun _ _ _ h => h) (Or.inl ⟨by rfl, ?_⟩) hHeld ?_ ?_
        rotate_left
        ·rintro w' ⟨s0, s1, s2, s3, s4, s5, s6, s7⟩
         go_simp
         with_reducible rfl
        rotate_left
        ·simp only [Act.put, List.setIfInBounds_toArray, List.set_cons_zero, List.set_cons_succ, i64_w, i32_w]
         rfl
        refine one_ (i := 2) (N := some 48) #[true, true, true, false, false] rfl rfl (by kernel_rfl) (by decide) (fun K hK => ?_)
        refine goes_ Try.func16 (by kernel_rfl) rfl #[.agg #[.int .i64 a0_0, .int .i64 a0_1, .int .i64 a0_2, .slice A0_3 l0_3.length c0_3]] (by rfl) rfl rfl (by (try simp only [List.map_toArray, List.map_cons, List.map_nil]); first | done | rfl | (simp only [List.length_drop, List.length_take]; rfl)) ?_
        with_reducible refine (laws_toBoard.calls kj15 a0_0 a0_1 a0_2 _ _ l0_3 t733 t734 t735 t736 _ ?side1 ?side2 A38.out).mono ?_
        (case side1 => exact Kd.C_below HR0_3.out hb_)
        (case side2 => exact HC0_3.out)
        rintro e w45 ⟨v737, rfl, ho0, hb⟩
        refine ⟨_, rfl, ?_⟩
        have n0_ := Aside0.mk (Kd.R_below (by (with_reducible repeat (first | apply Kd.R_alloc | apply Kd.R_drewN | apply Kd.R_drew)); exact HO_9.out) hb)
        have n1_ := Aside0.mk (Kd.R_elder' (by (with_reducible repeat (first | apply Kd.R_alloc | apply Kd.R_drewN | apply Kd.R_drew)); exact HO_728003.out) (Kd.R_base ho0) hb)
        have n2_ := Aside0.mk (Kd.R_lower (Kd.R_new' ho0 (Kd.R_lt (by (with_reducible repeat (first | apply Kd.R_alloc | apply Kd.R_drewN | apply Kd.R_drew)); exact HO_728003.out))) (below_size hb_))
        have n3_ := Aside0.mk (blk_below (g := gb708) (o := .cells #[.int .i64 a0_0, .int .i64 a0_1, .int .i64 a0_2, .slice A0_3 l0_3.length c0_3] 24 (0, 0)) (by (with_reducible repeat (first | refine blk_drewN ?_ _ | refine blk_drew ?_ | refine blk_alloc ?_ _)); exact BK708.out) hb)
        have n4_ := Aside0.mk (blk_below (g := gb727) (o := .cells #[.int .i64 t721, .int .i64 t722, .int .i64 t723, .slice Ao31 t724.length co31] 30 (0, 0)) (by (with_reducible repeat (first | refine blk_drewN ?_ _ | refine blk_drew ?_ | refine blk_alloc ?_ _)); exact BK727.out) hb)
        have n5_ := Aside0.mk (below_step hb_ hb)
        clear HO_9
        clear HO_728003
        clear BK708
        clear BK727
        clear HB
        have HO_9 := n0_
        have HO_728003 := n1_
        have HO738 := n2_
        have BK708 := n3_
        have BK727 := n4_
        have HB := n5_
        clear n0_ n1_ n2_ n3_ n4_ n5_
        (try clear hb)
        (try clear hb2)
        (try clear hk)
        (try clear hi)
        (try clear ho0)
        obtain ⟨Ao46, co46, eo46⟩ := Kd.R_slice HO738.out
        (first | subst eo46 | (injection eo46 with f1_ f2_ f3_; have f4_ := f1_.symm; have f5_ := f3_.symm; clear f1_ f2_ f3_; subst f4_; subst f5_))
        refine hK.out _ _ ⟨(blk_cell BK727.out 0).trans rfl, (blk_cell BK727.out 1).trans rfl, (blk_cell BK727.out 2).trans rfl, (blk_cell BK727.out 3).trans rfl, (blk_cell BK708.out 0).trans rfl, (blk_cell BK708.out 1).trans rfl, (blk_cell BK708.out 2).trans rfl, (blk_cell BK708.out 3).trans rfl⟩ (fun hHeld => ?_)
        clear hK K
        refine norm_ (a' := ?_) ?_ ?_
        rotate_left
        ·show Act.put _ (some 48) _ = _
         simp only [Act.put, List.setIfInBounds_toArray, List.set_cons_zero, List.set_cons_succ, i64_w, i32_w]
         rfl
        refine one_ (i := 3) (N := some 49) #[true, true, true, true, false] rfl rfl (by kernel_rfl) (by decide) (fun K hK => ?_)
        refine goes_ Try.func18 (by kernel_rfl) rfl #[.agg #[.int .i64 t721, .int .i64 t722, .int .i64 t723, .slice Ao31 t724.length co31], .agg #[.int .i64 t733, .int .i64 t734, .int .i64 t735, .slice Ao46 t736.length co46]] (by rfl) rfl rfl (by (try simp only [List.map_toArray, List.map_cons, List.map_nil]); first | done | rfl | (simp only [List.length_drop, List.length_take]; rfl)) ?_
        with_reducible refine (laws_eqBoard.calls kj15 t721 t722 t723 _ _ t724 t733 t734 t735 _ _ t736 true _ ?side1 ?side2 ?side3 ?side4 A39.out).mono ?_
        (case side1 => repeat (first | exact (Kd.R_reads' HO_728003.out).2.2 | (with_reducible refine Kd.C_alloc ?_ _) | (with_reducible refine Kd.C_drewN ?_ _) | (with_reducible refine Kd.C_drew ?_)))
        (case side2 => exact (Kd.R_reads' HO_728003.out).2.1)
        (case side3 => repeat (first | exact (Kd.R_reads' HO738.out).2.2 | (with_reducible refine Kd.C_alloc ?_ _) | (with_reducible refine Kd.C_drewN ?_ _) | (with_reducible refine Kd.C_drew ?_)))
        (case side4 => exact (Kd.R_reads' HO738.out).2.1)
        rintro e w47 ⟨rfl, hb⟩
        refine ⟨_, rfl, ?_⟩
        have n0_ := Aside0.mk (Kd.R_below (by (with_reducible repeat (first | apply Kd.R_alloc | apply Kd.R_drewN | apply Kd.R_drew)); exact HO_9.out) hb)
        have n1_ := Aside0.mk (Kd.R_below (by (with_reducible repeat (first | apply Kd.R_alloc | apply Kd.R_drewN | apply Kd.R_drew)); exact HO_728003.out) hb)
        have n2_ := Aside0.mk (Kd.R_below (by (with_reducible repeat (first | apply Kd.R_alloc | apply Kd.R_drewN | apply Kd.R_drew)); exact HO738.out) hb)
        have n3_ := Aside0.mk (blk_below (g := gb708) (o := .cells #[.int .i64 a0_0, .int .i64 a0_1, .int .i64 a0_2, .slice A0_3 l0_3.length c0_3] 24 (0, 0)) (by (with_reducible repeat (first | refine blk_drewN ?_ _ | refine blk_drew ?_ | refine blk_alloc ?_ _)); exact BK708.out) hb)
        have n4_ := Aside0.mk (blk_below (g := gb727) (o := .cells #[.int .i64 t721, .int .i64 t722, .int .i64 t723, .slice Ao31 t724.length co31] 30 (0, 0)) (by (with_reducible repeat (first | refine blk_drewN ?_ _ | refine blk_drew ?_ | refine blk_alloc ?_ _)); exact BK727.out) hb)
        have n5_ := Aside0.mk (below_step hb_ hb)
        clear HO_9
        clear HO_728003
        clear HO738
        clear BK708
        clear BK727
        clear HB
        have HO_9 := n0_
        have HO_728003 := n1_
        have HO738 := n2_
        have BK708 := n3_
        have BK727 := n4_
        have HB := n5_
        clear n0_ n1_ n2_ n3_ n4_ n5_
        (try clear hb)
        (try clear hb2)
        (try clear hk)
        (try clear hi)
        refine hK.out _ _ ⟨(blk_cell BK727.out 0).trans rfl, (blk_cell BK727.out 1).trans rfl, (blk_cell BK727.out 2).trans rfl, (blk_cell BK727.out 3).trans rfl, (blk_cell BK708.out 0).trans rfl, (blk_cell BK708.out 1).trans rfl, (blk_cell BK708.out 2).trans rfl, (blk_cell BK708.out 3).trans rfl⟩ (fun hHeld => ?_)
        clear hK K
        refine norm_ (a' := ?_) ?_ ?_
        rotate_left
        ·show Act.put _ (some 49) _ = _
         simp only [Act.put, List.setIfInBounds_toArray, List.set_cons_zero, List.set_cons_succ, i64_w, i32_w]
         rfl
        refine pure_ (i := 4) (N := some 50) (v := ?_) (a' := ?_) #[true, true, true, true, true] rfl rfl (by kernel_rfl) (fun _ _ _ h => h) (Or.inl ⟨by rfl, ?_⟩) ?_ ?_
        rotate_left
        ·intro w'
         go_simp
         with_reducible rfl
        rotate_left
        ·simp only [Act.put, List.setIfInBounds_toArray, List.set_cons_zero, List.set_cons_succ, i64_w, i32_w]
         rfl
        refine done_ (by kernel_rfl) ?_
        try go_wp2_with (first | ((with_reducible refine gate_callee (f := 22) rfl ?_); refine goesL_ (some 53) rfl rfl Try.func22 (by kernel_rfl) rfl #[.slice A1 l1.length c1] rfl (by (try simp only [List.map_toArray, List.map_cons, List.map_nil]); first | done | rfl | (simp only [List.length_drop, List.length_take]; rfl)) ?_; (with_reducible refine (laws_toIntS.calls kj15 _ _ l1 t740 _ ?side1 ?side2 A41.out).mono ?_); (case side1 => exact Kd.C_below HR1.out hb_); (case side2 => exact HC1.out); rintro e w48 ⟨v741, rfl, ho0, hb⟩; refine ⟨_, rfl, ?_⟩; have n0_ := Aside0.mk (Kd.R_elder' (by (with_reducible repeat (first | apply Kd.R_alloc | apply Kd.R_drewN | apply Kd.R_drew)); exact HO_9.out) (Kd.R_base ho0) hb); have n1_ := Aside0.mk (Kd.R_below (by (with_reducible repeat (first | apply Kd.R_alloc | apply Kd.R_drewN | apply Kd.R_drew)); exact HO_728003.out) hb); have n2_ := Aside0.mk (Kd.R_below (by (with_reducible repeat (first | apply Kd.R_alloc | apply Kd.R_drewN | apply Kd.R_drew)); exact HO738.out) hb); have n3_ := Aside0.mk (Kd.R_lower (Kd.R_new' ho0 (Kd.R_lt (by (with_reducible repeat (first | apply Kd.R_alloc | apply Kd.R_drewN | apply Kd.R_drew)); exact HO_9.out))) (below_size hb_)); have n4_ := Aside0.mk (blk_below (g := gb708) (o := .cells #[.int .i64 a0_0, .int .i64 a0_1, .int .i64 a0_2, .slice A0_3 l0_3.length c0_3] 24 (0, 0)) (by (with_reducible repeat (first | refine blk_drewN ?_ _ | refine blk_drew ?_ | refine blk_alloc ?_ _)); exact BK708.out) hb); have n5_ := Aside0.mk (blk_below (g := gb727) (o := .cells #[.int .i64 t721, .int .i64 t722, .int .i64 t723, .slice Ao31 t724.length co31] 30 (0, 0)) (by (with_reducible repeat (first | refine blk_drewN ?_ _ | refine blk_drew ?_ | refine blk_alloc ?_ _)); exact BK727.out) hb); have n6_ := Aside0.mk (below_step hb_ hb); clear HO_9; clear HO_728003; clear HO738; clear BK708; clear BK727; clear HB; have HO_9 := n0_; have HO_728003 := n1_; have HO738 := n2_; have HO742 := n3_; have BK708 := n4_; have BK727 := n5_; have HB := n6_; clear n0_ n1_ n2_ n3_ n4_ n5_ n6_; (try clear hb); (try clear hb2); (try clear hk); (try clear hi); (try clear ho0); obtain ⟨Ao49, co49, eo49⟩ := Kd.R_slice HO742.out; subst eo49) | ((with_reducible refine gate_callee (f := 24) rfl ?_); refine goesL_ (some 54) rfl rfl Try.func24 (by kernel_rfl) rfl #[.slice Ao34 t728.length co34, .slice Ao49 t740.length co49] rfl (by (try simp only [List.map_toArray, List.map_cons, List.map_nil]); first | done | rfl | (simp only [List.length_drop, List.length_take]; rfl)) ?_; (with_reducible refine (laws_eqIntS.calls kj15 _ _ t728 _ _ t740 true _ ?side1 ?side2 ?side3 ?side4 A42.out).mono ?_); (case side1 => repeat (first | exact (Kd.R_reads' HO_9.out).2.2 | (with_reducible refine Kd.C_alloc ?_ _) | (with_reducible refine Kd.C_drewN ?_ _) | (with_reducible refine Kd.C_drew ?_))); (case side2 => exact (Kd.R_reads' HO_9.out).2.1); (case side3 => repeat (first | exact (Kd.R_reads' HO742.out).2.2 | (with_reducible refine Kd.C_alloc ?_ _) | (with_reducible refine Kd.C_drewN ?_ _) | (with_reducible refine Kd.C_drew ?_))); (case side4 => exact (Kd.R_reads' HO742.out).2.1); rintro e w' ⟨rfl, ⟨nd, rfl⟩⟩; refine ⟨_, rfl, ?_⟩))
        go_ret
        exact ⟨by first | rfl | (simp [errW_none, errW_some] <;> rfl) | (simp [*, errW_none, errW_some] <;> rfl), hb_⟩
       ·replace c43 := Bool.eq_false_iff.mpr c43
        subst c43
        have H1 : (some false) = some r := by rw [if_neg (show ¬ (false = true) by decide)] at H; exact H
        clear H
        have H := H1
        clear H1
        obtain rfl := Option.some.inj H
        try go_wp2
        have n0_ := Aside0.mk (Kd.R_drew HO_9.out)
        have n1_ := Aside0.mk (Kd.R_drew HO_728003.out)
        have n2_ := Aside0.mk (blk_drew BK708.out)
        have n3_ := Aside0.mk (blk_drew BK727.out)
        have n4_ := Aside0.mk (below_drew1 HB.out)
        clear HO_9
        clear HO_728003
        clear BK708
        clear BK727
        clear HB
        have HO_9 := n0_
        have HO_728003 := n1_
        have BK708 := n2_
        have BK727 := n3_
        have HB := n4_
        clear n0_ n1_ n2_ n3_ n4_
        refine start_ (n := 5) (S := fun w' => w'.cell? ⟨gb727, 0, none⟩ = some (.int .i64 t721) ∧ w'.cell? ⟨gb727, 1, none⟩ = some (.int .i64 t722) ∧ w'.cell? ⟨gb727, 2, none⟩ = some (.int .i64 t723) ∧ w'.cell? ⟨gb727, 3, none⟩ = some (.slice Ao31 t724.length co31) ∧ w'.cell? ⟨gb708, 0, none⟩ = some (.int .i64 a0_0) ∧ w'.cell? ⟨gb708, 1, none⟩ = some (.int .i64 a0_1) ∧ w'.cell? ⟨gb708, 2, none⟩ = some (.int .i64 a0_2) ∧ w'.cell? ⟨gb708, 3, none⟩ = some (.slice A0_3 l0_3.length c0_3)) (ds := []) #[false, false, false, false, false] (by kernel_rfl) rfl rfl ⟨(blk_cell BK727.out 0).trans rfl, (blk_cell BK727.out 1).trans rfl, (blk_cell BK727.out 2).trans rfl, (blk_cell BK727.out 3).trans rfl, (blk_cell BK708.out 0).trans rfl, (blk_cell BK708.out 1).trans rfl, (blk_cell BK708.out 2).trans rfl, (blk_cell BK708.out 3).trans rfl⟩ (fun hHeld => ?_)
        generalize wc.drew = w50 at HO_9 HO_728003 BK708 BK727 HB hHeld ⊢
        refine take_ (i := 0) (N := some 46) (v := ?_) (a' := ?_) #[true, false, false, false, false] rfl rfl (by kernel_rfl) (fun _ _ _ h => h) (Or.inl ⟨by rfl, ?_⟩) hHeld ?_ ?_
        rotate_left
        ·rintro w' ⟨s0, s1, s2, s3, s4, s5, s6, s7⟩
         go_simp
         with_reducible rfl
        rotate_left
        ·simp only [Act.put, List.setIfInBounds_toArray, List.set_cons_zero, List.set_cons_succ, i64_w, i32_w]
         rfl
        refine take_ (i := 1) (N := some 47) (v := ?_) (a' := ?_) #[true, true, false, false, false] rfl rfl (by kernel_rfl) (fun _ _ _ h => h) (Or.inl ⟨by rfl, ?_⟩) hHeld ?_ ?_
        rotate_left
        ·rintro w' ⟨s0, s1, s2, s3, s4, s5, s6, s7⟩
         go_simp
         with_reducible rfl
        rotate_left
        ·simp only [Act.put, List.setIfInBounds_toArray, List.set_cons_zero, List.set_cons_succ, i64_w, i32_w]
         rfl
        refine one_ (i := 2) (N := some 48) #[true, true, true, false, false] rfl rfl (by kernel_rfl) (by decide) (fun K hK => ?_)
        refine goes_ Try.func16 (by kernel_rfl) rfl #[.agg #[.int .i64 a0_0, .int .i64 a0_1, .int .i64 a0_2, .slice A0_3 l0_3.length c0_3]] (by rfl) rfl rfl (by (try simp only [List.map_toArray, List.map_cons, List.map_nil]); first | done | rfl | (simp only [List.length_drop, List.length_take]; rfl)) ?_
        with_reducible refine (laws_toBoard.calls kj15 a0_0 a0_1 a0_2 _ _ l0_3 t733 t734 t735 t736 _ ?side1 ?side2 A38.out).mono ?_
        (case side1 => exact Kd.C_below HR0_3.out hb_)
        (case side2 => exact HC0_3.out)
        rintro e w51 ⟨v737, rfl, ho0, hb⟩
        refine ⟨_, rfl, ?_⟩
        have n0_ := Aside0.mk (Kd.R_below (by (with_reducible repeat (first | apply Kd.R_alloc | apply Kd.R_drewN | apply Kd.R_drew)); exact HO_9.out) hb)
        have n1_ := Aside0.mk (Kd.R_elder' (by (with_reducible repeat (first | apply Kd.R_alloc | apply Kd.R_drewN | apply Kd.R_drew)); exact HO_728003.out) (Kd.R_base ho0) hb)
        have n2_ := Aside0.mk (Kd.R_lower (Kd.R_new' ho0 (Kd.R_lt (by (with_reducible repeat (first | apply Kd.R_alloc | apply Kd.R_drewN | apply Kd.R_drew)); exact HO_728003.out))) (below_size hb_))
        have n3_ := Aside0.mk (blk_below (g := gb708) (o := .cells #[.int .i64 a0_0, .int .i64 a0_1, .int .i64 a0_2, .slice A0_3 l0_3.length c0_3] 24 (0, 0)) (by (with_reducible repeat (first | refine blk_drewN ?_ _ | refine blk_drew ?_ | refine blk_alloc ?_ _)); exact BK708.out) hb)
        have n4_ := Aside0.mk (blk_below (g := gb727) (o := .cells #[.int .i64 t721, .int .i64 t722, .int .i64 t723, .slice Ao31 t724.length co31] 30 (0, 0)) (by (with_reducible repeat (first | refine blk_drewN ?_ _ | refine blk_drew ?_ | refine blk_alloc ?_ _)); exact BK727.out) hb)
        have n5_ := Aside0.mk (below_step hb_ hb)
        clear HO_9
        clear HO_728003
        clear BK708
        clear BK727
        clear HB
        have HO_9 := n0_
        have HO_728003 := n1_
        have HO738 := n2_
        have BK708 := n3_
        have BK727 := n4_
        have HB := n5_
        clear n0_ n1_ n2_ n3_ n4_ n5_
        (try clear hb)
        (try clear hb2)
        (try clear hk)
        (try clear hi)
        (try clear ho0)
        obtain ⟨Ao52, co52, eo52⟩ := Kd.R_slice HO738.out
        (first | subst eo52 | (injection eo52 with f1_ f2_ f3_; have f4_ := f1_.symm; have f5_ := f3_.symm; clear f1_ f2_ f3_; subst f4_; subst f5_))
        refine hK.out _ _ ⟨(blk_cell BK727.out 0).trans rfl, (blk_cell BK727.out 1).trans rfl, (blk_cell BK727.out 2).trans rfl, (blk_cell BK727.out 3).trans rfl, (blk_cell BK708.out 0).trans rfl, (blk_cell BK708.out 1).trans rfl, (blk_cell BK708.out 2).trans rfl, (blk_cell BK708.out 3).trans rfl⟩ (fun hHeld => ?_)
        clear hK K
        refine norm_ (a' := ?_) ?_ ?_
        rotate_left
        ·show Act.put _ (some 48) _ = _
         simp only [Act.put, List.setIfInBounds_toArray, List.set_cons_zero, List.set_cons_succ, i64_w, i32_w]
         rfl
        refine one_ (i := 3) (N := some 49) #[true, true, true, true, false] rfl rfl (by kernel_rfl) (by decide) (fun K hK => ?_)
        refine goes_ Try.func18 (by kernel_rfl) rfl #[.agg #[.int .i64 t721, .int .i64 t722, .int .i64 t723, .slice Ao31 t724.length co31], .agg #[.int .i64 t733, .int .i64 t734, .int .i64 t735, .slice Ao52 t736.length co52]] (by rfl) rfl rfl (by (try simp only [List.map_toArray, List.map_cons, List.map_nil]); first | done | rfl | (simp only [List.length_drop, List.length_take]; rfl)) ?_
        with_reducible refine (laws_eqBoard.calls kj15 t721 t722 t723 _ _ t724 t733 t734 t735 _ _ t736 true _ ?side1 ?side2 ?side3 ?side4 A39.out).mono ?_
        (case side1 => repeat (first | exact (Kd.R_reads' HO_728003.out).2.2 | (with_reducible refine Kd.C_alloc ?_ _) | (with_reducible refine Kd.C_drewN ?_ _) | (with_reducible refine Kd.C_drew ?_)))
        (case side2 => exact (Kd.R_reads' HO_728003.out).2.1)
        (case side3 => repeat (first | exact (Kd.R_reads' HO738.out).2.2 | (with_reducible refine Kd.C_alloc ?_ _) | (with_reducible refine Kd.C_drewN ?_ _) | (with_reducible refine Kd.C_drew ?_)))
        (case side4 => exact (Kd.R_reads' HO738.out).2.1)
        rintro e w53 ⟨rfl, hb⟩
        refine ⟨_, rfl, ?_⟩
        have n0_ := Aside0.mk (Kd.R_below (by (with_reducible repeat (first | apply Kd.R_alloc | apply Kd.R_drewN | apply Kd.R_drew)); exact HO_9.out) hb)
        have n1_ := Aside0.mk (Kd.R_below (by (with_reducible repeat (first | apply Kd.R_alloc | apply Kd.R_drewN | apply Kd.R_drew)); exact HO_728003.out) hb)
        have n2_ := Aside0.mk (Kd.R_below (by (with_reducible repeat (first | apply Kd.R_alloc | apply Kd.R_drewN | apply Kd.R_drew)); exact HO738.out) hb)
        have n3_ := Aside0.mk (blk_below (g := gb708) (o := .cells #[.int .i64 a0_0, .int .i64 a0_1, .int .i64 a0_2, .slice A0_3 l0_3.length c0_3] 24 (0, 0)) (by (with_reducible repeat (first | refine blk_drewN ?_ _ | refine blk_drew ?_ | refine blk_alloc ?_ _)); exact BK708.out) hb)
        have n4_ := Aside0.mk (blk_below (g := gb727) (o := .cells #[.int .i64 t721, .int .i64 t722, .int .i64 t723, .slice Ao31 t724.length co31] 30 (0, 0)) (by (with_reducible repeat (first | refine blk_drewN ?_ _ | refine blk_drew ?_ | refine blk_alloc ?_ _)); exact BK727.out) hb)
        have n5_ := Aside0.mk (below_step hb_ hb)
        clear HO_9
        clear HO_728003
        clear HO738
        clear BK708
        clear BK727
        clear HB
        have HO_9 := n0_
        have HO_728003 := n1_
        have HO738 := n2_
        have BK708 := n3_
        have BK727 := n4_
        have HB := n5_
        clear n0_ n1_ n2_ n3_ n4_ n5_
        (try clear hb)
        (try clear hb2)
        (try clear hk)
        (try clear hi)
        refine hK.out _ _ ⟨(blk_cell BK727.out 0).trans rfl, (blk_cell BK727.out 1).trans rfl, (blk_cell BK727.out 2).trans rfl, (blk_cell BK727.out 3).trans rfl, (blk_cell BK708.out 0).trans rfl, (blk_cell BK708.out 1).trans rfl, (blk_cell BK708.out 2).trans rfl, (blk_cell BK708.out 3).trans rfl⟩ (fun hHeld => ?_)
        clear hK K
        refine norm_ (a' := ?_) ?_ ?_
        rotate_left
        ·show Act.put _ (some 49) _ = _
         simp only [Act.put, List.setIfInBounds_toArray, List.set_cons_zero, List.set_cons_succ, i64_w, i32_w]
         rfl
        refine pure_ (i := 4) (N := some 50) (v := ?_) (a' := ?_) #[true, true, true, true, true] rfl rfl (by kernel_rfl) (fun _ _ _ h => h) (Or.inl ⟨by rfl, ?_⟩) ?_ ?_
        rotate_left
        ·intro w'
         go_simp
         with_reducible rfl
        rotate_left
        ·simp only [Act.put, List.setIfInBounds_toArray, List.set_cons_zero, List.set_cons_succ, i64_w, i32_w]
         rfl
        refine done_ (by kernel_rfl) ?_
        try go_wp2_with (first | ((with_reducible refine gate_callee (f := 22) rfl ?_); refine goesL_ (some 53) rfl rfl Try.func22 (by kernel_rfl) rfl #[.slice A1 l1.length c1] rfl (by (try simp only [List.map_toArray, List.map_cons, List.map_nil]); first | done | rfl | (simp only [List.length_drop, List.length_take]; rfl)) ?_; (with_reducible refine (laws_toIntS.calls kj15 _ _ l1 t740 _ ?side1 ?side2 A41.out).mono ?_); (case side1 => exact Kd.C_below HR1.out hb_); (case side2 => exact HC1.out); rintro e w54 ⟨v741, rfl, ho0, hb⟩; refine ⟨_, rfl, ?_⟩; have n0_ := Aside0.mk (Kd.R_elder' (by (with_reducible repeat (first | apply Kd.R_alloc | apply Kd.R_drewN | apply Kd.R_drew)); exact HO_9.out) (Kd.R_base ho0) hb); have n1_ := Aside0.mk (Kd.R_below (by (with_reducible repeat (first | apply Kd.R_alloc | apply Kd.R_drewN | apply Kd.R_drew)); exact HO_728003.out) hb); have n2_ := Aside0.mk (Kd.R_below (by (with_reducible repeat (first | apply Kd.R_alloc | apply Kd.R_drewN | apply Kd.R_drew)); exact HO738.out) hb); have n3_ := Aside0.mk (Kd.R_lower (Kd.R_new' ho0 (Kd.R_lt (by (with_reducible repeat (first | apply Kd.R_alloc | apply Kd.R_drewN | apply Kd.R_drew)); exact HO_9.out))) (below_size hb_)); have n4_ := Aside0.mk (blk_below (g := gb708) (o := .cells #[.int .i64 a0_0, .int .i64 a0_1, .int .i64 a0_2, .slice A0_3 l0_3.length c0_3] 24 (0, 0)) (by (with_reducible repeat (first | refine blk_drewN ?_ _ | refine blk_drew ?_ | refine blk_alloc ?_ _)); exact BK708.out) hb); have n5_ := Aside0.mk (blk_below (g := gb727) (o := .cells #[.int .i64 t721, .int .i64 t722, .int .i64 t723, .slice Ao31 t724.length co31] 30 (0, 0)) (by (with_reducible repeat (first | refine blk_drewN ?_ _ | refine blk_drew ?_ | refine blk_alloc ?_ _)); exact BK727.out) hb); have n6_ := Aside0.mk (below_step hb_ hb); clear HO_9; clear HO_728003; clear HO738; clear BK708; clear BK727; clear HB; have HO_9 := n0_; have HO_728003 := n1_; have HO738 := n2_; have HO742 := n3_; have BK708 := n4_; have BK727 := n5_; have HB := n6_; clear n0_ n1_ n2_ n3_ n4_ n5_ n6_; (try clear hb); (try clear hb2); (try clear hk); (try clear hi); (try clear ho0); obtain ⟨Ao55, co55, eo55⟩ := Kd.R_slice HO742.out; subst eo55) | ((with_reducible refine gate_callee (f := 24) rfl ?_); refine goesL_ (some 54) rfl rfl Try.func24 (by kernel_rfl) rfl #[.slice Ao34 t728.length co34, .slice Ao55 t740.length co55] rfl (by (try simp only [List.map_toArray, List.map_cons, List.map_nil]); first | done | rfl | (simp only [List.length_drop, List.length_take]; rfl)) ?_; (with_reducible refine (laws_eqIntS.calls kj15 _ _ t728 _ _ t740 false _ ?side1 ?side2 ?side3 ?side4 A42.out).mono ?_); (case side1 => repeat (first | exact (Kd.R_reads' HO_9.out).2.2 | (with_reducible refine Kd.C_alloc ?_ _) | (with_reducible refine Kd.C_drewN ?_ _) | (with_reducible refine Kd.C_drew ?_))); (case side2 => exact (Kd.R_reads' HO_9.out).2.1); (case side3 => repeat (first | exact (Kd.R_reads' HO742.out).2.2 | (with_reducible refine Kd.C_alloc ?_ _) | (with_reducible refine Kd.C_drewN ?_ _) | (with_reducible refine Kd.C_drew ?_))); (case side4 => exact (Kd.R_reads' HO742.out).2.1); rintro e w' ⟨rfl, ⟨nd, rfl⟩⟩; refine ⟨_, rfl, ?_⟩))
        go_ret
        exact ⟨by first | rfl | (simp [errW_none, errW_some] <;> rfl) | (simp [*, errW_none, errW_some] <;> rfl), hb_⟩
      ·replace c40 := Bool.eq_false_iff.mpr c40
       subst c40
       have H1 : (some false) = some r := by rw [if_neg (show ¬ (false = true) by decide)] at H; exact H
       clear H
       have H := H1
       clear H1
       obtain rfl := Option.some.inj H
       try go_wp2
       have n0_ := Aside0.mk (Kd.R_drew HO_9.out)
       have n1_ := Aside0.mk (Kd.R_drew HO_728003.out)
       have n2_ := Aside0.mk (blk_drew BK708.out)
       have n3_ := Aside0.mk (blk_drew BK727.out)
       have n4_ := Aside0.mk (below_drew1 HB.out)
       clear HO_9
       clear HO_728003
       clear BK708
       clear BK727
       clear HB
       have HO_9 := n0_
       have HO_728003 := n1_
       have BK708 := n2_
       have BK727 := n3_
       have HB := n4_
       clear n0_ n1_ n2_ n3_ n4_
       refine start_ (n := 5) (S := fun w' => w'.cell? ⟨gb727, 0, none⟩ = some (.int .i64 t721) ∧ w'.cell? ⟨gb727, 1, none⟩ = some (.int .i64 t722) ∧ w'.cell? ⟨gb727, 2, none⟩ = some (.int .i64 t723) ∧ w'.cell? ⟨gb727, 3, none⟩ = some (.slice Ao31 t724.length co31) ∧ w'.cell? ⟨gb708, 0, none⟩ = some (.int .i64 a0_0) ∧ w'.cell? ⟨gb708, 1, none⟩ = some (.int .i64 a0_1) ∧ w'.cell? ⟨gb708, 2, none⟩ = some (.int .i64 a0_2) ∧ w'.cell? ⟨gb708, 3, none⟩ = some (.slice A0_3 l0_3.length c0_3)) (ds := []) #[false, false, false, false, false] (by kernel_rfl) rfl rfl ⟨(blk_cell BK727.out 0).trans rfl, (blk_cell BK727.out 1).trans rfl, (blk_cell BK727.out 2).trans rfl, (blk_cell BK727.out 3).trans rfl, (blk_cell BK708.out 0).trans rfl, (blk_cell BK708.out 1).trans rfl, (blk_cell BK708.out 2).trans rfl, (blk_cell BK708.out 3).trans rfl⟩ (fun hHeld => ?_)
       generalize wc.drew = w56 at HO_9 HO_728003 BK708 BK727 HB hHeld ⊢
       refine take_ (i := 0) (N := some 46) (v := ?_) (a' := ?_) #[true, false, false, false, false] rfl rfl (by kernel_rfl) (fun _ _ _ h => h) (Or.inl ⟨by rfl, ?_⟩) hHeld ?_ ?_
       rotate_left
       ·rintro w' ⟨s0, s1, s2, s3, s4, s5, s6, s7⟩
        go_simp
        with_reducible rfl
       rotate_left
       ·simp only [Act.put, List.setIfInBounds_toArray, List.set_cons_zero, List.set_cons_succ, i64_w, i32_w]
        rfl
       refine take_ (i := 1) (N := some 47) (v := ?_) (a' := ?_) #[true, true, false, false, false] rfl rfl (by kernel_rfl) (fun _ _ _ h => h) (Or.inl ⟨by rfl, ?_⟩) hHeld ?_ ?_
       rotate_left
       ·rintro w' ⟨s0, s1, s2, s3, s4, s5, s6, s7⟩
        go_simp
        with_reducible rfl
       rotate_left
       ·simp only [Act.put, List.setIfInBounds_toArray, List.set_cons_zero, List.set_cons_succ, i64_w, i32_w]
        rfl
       refine one_ (i := 2) (N := some 48) #[true, true, true, false, false] rfl rfl (by kernel_rfl) (by decide) (fun K hK => ?_)
       refine goes_ Try.func16 (by kernel_rfl) rfl #[.agg #[.int .i64 a0_0, .int .i64 a0_1, .int .i64 a0_2, .slice A0_3 l0_3.length c0_3]] (by rfl) rfl rfl (by (try simp only [List.map_toArray, List.map_cons, List.map_nil]); first | done | rfl | (simp only [List.length_drop, List.length_take]; rfl)) ?_
       with_reducible refine (laws_toBoard.calls kj15 a0_0 a0_1 a0_2 _ _ l0_3 t733 t734 t735 t736 _ ?side1 ?side2 A38.out).mono ?_
       (case side1 => exact Kd.C_below HR0_3.out hb_)
       (case side2 => exact HC0_3.out)
       rintro e w57 ⟨v737, rfl, ho0, hb⟩
       refine ⟨_, rfl, ?_⟩
       have n0_ := Aside0.mk (Kd.R_below (by (with_reducible repeat (first | apply Kd.R_alloc | apply Kd.R_drewN | apply Kd.R_drew)); exact HO_9.out) hb)
       have n1_ := Aside0.mk (Kd.R_elder' (by (with_reducible repeat (first | apply Kd.R_alloc | apply Kd.R_drewN | apply Kd.R_drew)); exact HO_728003.out) (Kd.R_base ho0) hb)
       have n2_ := Aside0.mk (Kd.R_lower (Kd.R_new' ho0 (Kd.R_lt (by (with_reducible repeat (first | apply Kd.R_alloc | apply Kd.R_drewN | apply Kd.R_drew)); exact HO_728003.out))) (below_size hb_))
       have n3_ := Aside0.mk (blk_below (g := gb708) (o := .cells #[.int .i64 a0_0, .int .i64 a0_1, .int .i64 a0_2, .slice A0_3 l0_3.length c0_3] 24 (0, 0)) (by (with_reducible repeat (first | refine blk_drewN ?_ _ | refine blk_drew ?_ | refine blk_alloc ?_ _)); exact BK708.out) hb)
       have n4_ := Aside0.mk (blk_below (g := gb727) (o := .cells #[.int .i64 t721, .int .i64 t722, .int .i64 t723, .slice Ao31 t724.length co31] 30 (0, 0)) (by (with_reducible repeat (first | refine blk_drewN ?_ _ | refine blk_drew ?_ | refine blk_alloc ?_ _)); exact BK727.out) hb)
       have n5_ := Aside0.mk (below_step hb_ hb)
       clear HO_9
       clear HO_728003
       clear BK708
       clear BK727
       clear HB
       have HO_9 := n0_
       have HO_728003 := n1_
       have HO738 := n2_
       have BK708 := n3_
       have BK727 := n4_
       have HB := n5_
       clear n0_ n1_ n2_ n3_ n4_ n5_
       (try clear hb)
       (try clear hb2)
       (try clear hk)
       (try clear hi)
       (try clear ho0)
       obtain ⟨Ao58, co58, eo58⟩ := Kd.R_slice HO738.out
       (first | subst eo58 | (injection eo58 with f1_ f2_ f3_; have f4_ := f1_.symm; have f5_ := f3_.symm; clear f1_ f2_ f3_; subst f4_; subst f5_))
       refine hK.out _ _ ⟨(blk_cell BK727.out 0).trans rfl, (blk_cell BK727.out 1).trans rfl, (blk_cell BK727.out 2).trans rfl, (blk_cell BK727.out 3).trans rfl, (blk_cell BK708.out 0).trans rfl, (blk_cell BK708.out 1).trans rfl, (blk_cell BK708.out 2).trans rfl, (blk_cell BK708.out 3).trans rfl⟩ (fun hHeld => ?_)
       clear hK K
       refine norm_ (a' := ?_) ?_ ?_
       rotate_left
       ·show Act.put _ (some 48) _ = _
        simp only [Act.put, List.setIfInBounds_toArray, List.set_cons_zero, List.set_cons_succ, i64_w, i32_w]
        rfl
       refine one_ (i := 3) (N := some 49) #[true, true, true, true, false] rfl rfl (by kernel_rfl) (by decide) (fun K hK => ?_)
       refine goes_ Try.func18 (by kernel_rfl) rfl #[.agg #[.int .i64 t721, .int .i64 t722, .int .i64 t723, .slice Ao31 t724.length co31], .agg #[.int .i64 t733, .int .i64 t734, .int .i64 t735, .slice Ao58 t736.length co58]] (by rfl) rfl rfl (by (try simp only [List.map_toArray, List.map_cons, List.map_nil]); first | done | rfl | (simp only [List.length_drop, List.length_take]; rfl)) ?_
       with_reducible refine (laws_eqBoard.calls kj15 t721 t722 t723 _ _ t724 t733 t734 t735 _ _ t736 false _ ?side1 ?side2 ?side3 ?side4 A39.out).mono ?_
       (case side1 => repeat (first | exact (Kd.R_reads' HO_728003.out).2.2 | (with_reducible refine Kd.C_alloc ?_ _) | (with_reducible refine Kd.C_drewN ?_ _) | (with_reducible refine Kd.C_drew ?_)))
       (case side2 => exact (Kd.R_reads' HO_728003.out).2.1)
       (case side3 => repeat (first | exact (Kd.R_reads' HO738.out).2.2 | (with_reducible refine Kd.C_alloc ?_ _) | (with_reducible refine Kd.C_drewN ?_ _) | (with_reducible refine Kd.C_drew ?_)))
       (case side4 => exact (Kd.R_reads' HO738.out).2.1)
       rintro e w59 ⟨rfl, hb⟩
       refine ⟨_, rfl, ?_⟩
       have n0_ := Aside0.mk (Kd.R_below (by (with_reducible repeat (first | apply Kd.R_alloc | apply Kd.R_drewN | apply Kd.R_drew)); exact HO_9.out) hb)
       have n1_ := Aside0.mk (Kd.R_below (by (with_reducible repeat (first | apply Kd.R_alloc | apply Kd.R_drewN | apply Kd.R_drew)); exact HO_728003.out) hb)
       have n2_ := Aside0.mk (Kd.R_below (by (with_reducible repeat (first | apply Kd.R_alloc | apply Kd.R_drewN | apply Kd.R_drew)); exact HO738.out) hb)
       have n3_ := Aside0.mk (blk_below (g := gb708) (o := .cells #[.int .i64 a0_0, .int .i64 a0_1, .int .i64 a0_2, .slice A0_3 l0_3.length c0_3] 24 (0, 0)) (by (with_reducible repeat (first | refine blk_drewN ?_ _ | refine blk_drew ?_ | refine blk_alloc ?_ _)); exact BK708.out) hb)
       have n4_ := Aside0.mk (blk_below (g := gb727) (o := .cells #[.int .i64 t721, .int .i64 t722, .int .i64 t723, .slice Ao31 t724.length co31] 30 (0, 0)) (by (with_reducible repeat (first | refine blk_drewN ?_ _ | refine blk_drew ?_ | refine blk_alloc ?_ _)); exact BK727.out) hb)
       have n5_ := Aside0.mk (below_step hb_ hb)
       clear HO_9
       clear HO_728003
       clear HO738
       clear BK708
       clear BK727
       clear HB
       have HO_9 := n0_
       have HO_728003 := n1_
       have HO738 := n2_
       have BK708 := n3_
       have BK727 := n4_
       have HB := n5_
       clear n0_ n1_ n2_ n3_ n4_ n5_
       (try clear hb)
       (try clear hb2)
       (try clear hk)
       (try clear hi)
       refine hK.out _ _ ⟨(blk_cell BK727.out 0).trans rfl, (blk_cell BK727.out 1).trans rfl, (blk_cell BK727.out 2).trans rfl, (blk_cell BK727.out 3).trans rfl, (blk_cell BK708.out 0).trans rfl, (blk_cell BK708.out 1).trans rfl, (blk_cell BK708.out 2).trans rfl, (blk_cell BK708.out 3).trans rfl⟩ (fun hHeld => ?_)
       clear hK K
       refine norm_ (a' := ?_) ?_ ?_
       rotate_left
       ·show Act.put _ (some 49) _ = _
        simp only [Act.put, List.setIfInBounds_toArray, List.set_cons_zero, List.set_cons_succ, i64_w, i32_w]
        rfl
       refine pure_ (i := 4) (N := some 50) (v := ?_) (a' := ?_) #[true, true, true, true, true] rfl rfl (by kernel_rfl) (fun _ _ _ h => h) (Or.inl ⟨by rfl, ?_⟩) ?_ ?_
       rotate_left
       ·intro w'
        go_simp
        with_reducible rfl
       rotate_left
       ·simp only [Act.put, List.setIfInBounds_toArray, List.set_cons_zero, List.set_cons_succ, i64_w, i32_w]
        rfl
       refine done_ (by kernel_rfl) ?_
       try go_wp2
       go_ret
       exact ⟨by first | rfl | (simp [errW_none, errW_some] <;> rfl) | (simp [*, errW_none, errW_some] <;> rfl), hb_⟩

end Go.Proofs.Ytphjhfpeomifiaa.P
