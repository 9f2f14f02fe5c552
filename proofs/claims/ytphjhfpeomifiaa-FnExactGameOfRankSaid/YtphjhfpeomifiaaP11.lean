-- written for this claim by a program of this session (wip/tools/xprint.py), which runs the kit's print with other cuts
import Derived.Test.YtphjhfpeomifiaaP
import Derived.Test.YtphjhfpeomifiaaP24
import Derived.Test.YtphjhfpeomifiaaP38
import Derived.Test.YtphjhfpeomifiaaP39
import Derived.Test.YtphjhfpeomifiaaP44
import Derived.Test.YtphjhfpeomifiaaP57
import Derived.Test.YtphjhfpeomifiaaP64
import Derived.Test.YtphjhfpeomifiaaP79
namespace Go.Proofs.Ytphjhfpeomifiaa.P
open Go.RowKit Go.Proofs.YtphjhfpeomifiaaW.PrintWords Go.Proofs.YtphjhfpeomifiaaW.PrintLast Go.Proofs.YtphjhfpeomifiaaW.PrintMore
attribute [local go_sem] max2_int min2_int max_two min_two max_three min_three max_four min_four   -- for this text's walks alone
set_option linter.unusedVariables false
set_option linter.unusedSimpArgs false

/-! ### laws_FnExactGameOfRank: function 11 -/
mutual
def laws_FnExactGameOfRank.j0 : Nat → Int → Int → List Int → Bool → List Int → Bool → Bool → Int → Int → Int → List (S72) → Int → Int → Int → List (S70) → Option (Bool)
 | 0, _, _, _, _, _, _, _, _, _, _, _, _, _, _, _ => none
 | k + 1, x1, x2, x8, x9, x11, x12, x48, x624000, x624001, x624002, x624003, x642000, x642001, x642002, x642003 => if x48 = true then (some false) else ((laws_toBoard.f k x624000 x624001 x624002 x624003).bind fun bt647 => ((laws_eqBoard.f k x642000 x642001 x642002 x642003 bt647.1 bt647.2.1 bt647.2.2.1 bt647.2.2.2).bind fun t653 => (if t653 = true then ((laws_markBoard.f k x642000 x642001 x642002 x642003 1).bind fun bt654 => (if bt654.1 < 0 then (laws_FnExactGameOfRank.j1 k x1 x2 x8 x9 x11 true x624000 x624001 x624002 x624003) else ((laws_eqIntS.f k x11 x8).bind fun t656 => (if t656 = true then (laws_FnExactGameOfRank.j1 k x1 x2 x8 x9 x11 (x12 != x9) x624000 x624001 x624002 x624003) else (laws_FnExactGameOfRank.j1 k x1 x2 x8 x9 x11 true x624000 x624001 x624002 x624003))))) else (some false))))
def laws_FnExactGameOfRank.j1 : Nat → Int → Int → List Int → Bool → List Int → Bool → Int → Int → Int → List (S72) → Option (Bool)
 | 0, _, _, _, _, _, _, _, _, _, _ => none
 | k + 1, x1, x2, x8, x9, x11, x69, x624000, x624001, x624002, x624003 => if x69 = true then (some false) else ((laws_markIntS.f k x11 1).bind fun bt657 => ((laws_heldIntS.f k bt657.2 1).bind fun t659 => (if t659 < 0 then (some false) else (if t659 = bt657.1 then ((laws_toBoard.f k x624000 x624001 x624002 x624003).bind fun bt660 => ((impl_GameOfRank.f k bt660.1 bt660.2.1 bt660.2.2.1 bt660.2.2.2 x1 x2).bind fun bt666 => ((laws_eqIntS.f k bt666.1 x8).bind fun t670 => (if t670 = true then (laws_FnExactGameOfRank.j2 k bt657.2 bt657.1 (bt666.2 != x9)) else (laws_FnExactGameOfRank.j2 k bt657.2 bt657.1 true))))) else (some false)))))
def laws_FnExactGameOfRank.j2 : Nat → List Int → Int → Bool → Option (Bool)
 | 0, _, _, _ => none
 | k + 1, x11, x14, x97 => if x97 = true then (some false) else ((laws_heldIntS.f k x11 1).bind fun t671 => (if t671 < 0 then (some false) else (if t671 = x14 then (some true) else (some false))))
end
def laws_FnExactGameOfRank.f (k : Nat) (a0_0 : Int) (a0_1 : Int) (a0_2 : Int) (l0_3 : List (S72)) (a1 : Int) (a2 : Int) : Option (Bool) := (laws_szBoard.f a0_0 a0_1 a0_2 l0_3 1048576).bind fun t624 => (if t624 < 0 then (some true) else ((laws_toBoard.f k a0_0 a0_1 a0_2 l0_3).bind fun bt625 => ((spec_GameOfRank.f k bt625.1 bt625.2.1 bt625.2.2.1 bt625.2.2.2 a1 a2).bind fun bt631 => ((laws_toBoard.f k a0_0 a0_1 a0_2 l0_3).bind fun bt635 => ((impl_GameOfRank.f k bt635.1 bt635.2.1 bt635.2.2.1 bt635.2.2.2 a1 a2).bind fun bt642 => ((laws_eqIntS.f k bt642.1 bt631.1).bind fun t646 => (if t646 = true then (laws_FnExactGameOfRank.j0 k a1 a2 bt631.1 bt631.2 bt642.1 bt642.2 (bt642.2 != bt631.2) a0_0 a0_1 a0_2 l0_3 bt635.1 bt635.2.1 bt635.2.2.1 bt635.2.2.2) else (laws_FnExactGameOfRank.j0 k a1 a2 bt631.1 bt631.2 bt642.1 bt642.2 true a0_0 a0_1 a0_2 l0_3 bt635.1 bt635.2.1 bt635.2.2.1 bt635.2.2.2))))))))
theorem laws_FnExactGameOfRank.mono_l : ∀ k, (∀ y0 y1 y2 y3 y4 y5 y6 y7 y8 y9 y10 y11 y12 y13 y14, LeO (laws_FnExactGameOfRank.j0 k y0 y1 y2 y3 y4 y5 y6 y7 y8 y9 y10 y11 y12 y13 y14) (laws_FnExactGameOfRank.j0 (k + 1) y0 y1 y2 y3 y4 y5 y6 y7 y8 y9 y10 y11 y12 y13 y14)) ∧ (∀ y0 y1 y2 y3 y4 y5 y6 y7 y8 y9, LeO (laws_FnExactGameOfRank.j1 k y0 y1 y2 y3 y4 y5 y6 y7 y8 y9) (laws_FnExactGameOfRank.j1 (k + 1) y0 y1 y2 y3 y4 y5 y6 y7 y8 y9)) ∧ (∀ y0 y1 y2, LeO (laws_FnExactGameOfRank.j2 k y0 y1 y2) (laws_FnExactGameOfRank.j2 (k + 1) y0 y1 y2))
 | 0 => ⟨fun _ _ _ _ _ _ _ _ _ _ _ _ _ _ _ r h => by simp [laws_FnExactGameOfRank.j0] at h, fun _ _ _ _ _ _ _ _ _ _ r h => by simp [laws_FnExactGameOfRank.j1] at h, fun _ _ _ r h => by simp [laws_FnExactGameOfRank.j2] at h⟩
 | k + 1 => by
  obtain ⟨ih0, ih1, ih2⟩ := laws_FnExactGameOfRank.mono_l k
  refine ⟨?_, ?_, ?_⟩
  ·intro y0 y1 y2 y3 y4 y5 y6 y7 y8 y9 y10 y11 y12 y13 y14
   unfold laws_FnExactGameOfRank.j0
   repeat' first
   | (with_reducible exact ih0 _ _ _ _ _ _ _ _ _ _ _ _ _ _ _)
   | (with_reducible exact ih1 _ _ _ _ _ _ _ _ _ _)
   | (with_reducible exact ih2 _ _ _)
   | (with_reducible exact impl_GameOfRank.mono _ _ _ _ _ _ _)
   | (with_reducible exact laws_eqBoard.mono _ _ _ _ _ _ _ _ _)
   | (with_reducible exact laws_eqIntS.mono _ _ _)
   | (with_reducible exact laws_heldIntS.mono _ _ _)
   | (with_reducible exact laws_markBoard.mono _ _ _ _ _ _)
   | (with_reducible exact laws_markIntS.mono _ _ _)
   | (with_reducible exact laws_toBoard.mono _ _ _ _ _)
   | (with_reducible exact spec_GameOfRank.mono _ _ _ _ _ _ _)
   | (with_reducible exact LeO.refl _)
   | (with_reducible exact LeO.none _)
   | (with_reducible refine LeO.ite ?_ ?_)
   | (with_reducible refine LeO.bind ?_ (fun _ => ?_))
   | exact ih0 _ _ _ _ _ _ _ _ _ _ _ _ _ _ _
   | exact ih1 _ _ _ _ _ _ _ _ _ _
   | exact ih2 _ _ _
   | exact impl_GameOfRank.mono _ _ _ _ _ _ _
   | exact laws_eqBoard.mono _ _ _ _ _ _ _ _ _
   | exact laws_eqIntS.mono _ _ _
   | exact laws_heldIntS.mono _ _ _
   | exact laws_markBoard.mono _ _ _ _ _ _
   | exact laws_markIntS.mono _ _ _
   | exact laws_toBoard.mono _ _ _ _ _
   | exact spec_GameOfRank.mono _ _ _ _ _ _ _
   | exact LeO.none _
   | refine LeO.ite ?_ ?_
   | refine LeO.bind ?_ (fun _ => ?_)
  ·intro y0 y1 y2 y3 y4 y5 y6 y7 y8 y9
   unfold laws_FnExactGameOfRank.j1
   repeat' first
   | (with_reducible exact ih0 _ _ _ _ _ _ _ _ _ _ _ _ _ _ _)
   | (with_reducible exact ih1 _ _ _ _ _ _ _ _ _ _)
   | (with_reducible exact ih2 _ _ _)
   | (with_reducible exact impl_GameOfRank.mono _ _ _ _ _ _ _)
   | (with_reducible exact laws_eqBoard.mono _ _ _ _ _ _ _ _ _)
   | (with_reducible exact laws_eqIntS.mono _ _ _)
   | (with_reducible exact laws_heldIntS.mono _ _ _)
   | (with_reducible exact laws_markBoard.mono _ _ _ _ _ _)
   | (with_reducible exact laws_markIntS.mono _ _ _)
   | (with_reducible exact laws_toBoard.mono _ _ _ _ _)
   | (with_reducible exact spec_GameOfRank.mono _ _ _ _ _ _ _)
   | (with_reducible exact LeO.refl _)
   | (with_reducible exact LeO.none _)
   | (with_reducible refine LeO.ite ?_ ?_)
   | (with_reducible refine LeO.bind ?_ (fun _ => ?_))
   | exact ih0 _ _ _ _ _ _ _ _ _ _ _ _ _ _ _
   | exact ih1 _ _ _ _ _ _ _ _ _ _
   | exact ih2 _ _ _
   | exact impl_GameOfRank.mono _ _ _ _ _ _ _
   | exact laws_eqBoard.mono _ _ _ _ _ _ _ _ _
   | exact laws_eqIntS.mono _ _ _
   | exact laws_heldIntS.mono _ _ _
   | exact laws_markBoard.mono _ _ _ _ _ _
   | exact laws_markIntS.mono _ _ _
   | exact laws_toBoard.mono _ _ _ _ _
   | exact spec_GameOfRank.mono _ _ _ _ _ _ _
   | exact LeO.none _
   | refine LeO.ite ?_ ?_
   | refine LeO.bind ?_ (fun _ => ?_)
  ·intro y0 y1 y2
   unfold laws_FnExactGameOfRank.j2
   repeat' first
   | (with_reducible exact ih0 _ _ _ _ _ _ _ _ _ _ _ _ _ _ _)
   | (with_reducible exact ih1 _ _ _ _ _ _ _ _ _ _)
   | (with_reducible exact ih2 _ _ _)
   | (with_reducible exact impl_GameOfRank.mono _ _ _ _ _ _ _)
   | (with_reducible exact laws_eqBoard.mono _ _ _ _ _ _ _ _ _)
   | (with_reducible exact laws_eqIntS.mono _ _ _)
   | (with_reducible exact laws_heldIntS.mono _ _ _)
   | (with_reducible exact laws_markBoard.mono _ _ _ _ _ _)
   | (with_reducible exact laws_markIntS.mono _ _ _)
   | (with_reducible exact laws_toBoard.mono _ _ _ _ _)
   | (with_reducible exact spec_GameOfRank.mono _ _ _ _ _ _ _)
   | (with_reducible exact LeO.refl _)
   | (with_reducible exact LeO.none _)
   | (with_reducible refine LeO.ite ?_ ?_)
   | (with_reducible refine LeO.bind ?_ (fun _ => ?_))
   | exact ih0 _ _ _ _ _ _ _ _ _ _ _ _ _ _ _
   | exact ih1 _ _ _ _ _ _ _ _ _ _
   | exact ih2 _ _ _
   | exact impl_GameOfRank.mono _ _ _ _ _ _ _
   | exact laws_eqBoard.mono _ _ _ _ _ _ _ _ _
   | exact laws_eqIntS.mono _ _ _
   | exact laws_heldIntS.mono _ _ _
   | exact laws_markBoard.mono _ _ _ _ _ _
   | exact laws_markIntS.mono _ _ _
   | exact laws_toBoard.mono _ _ _ _ _
   | exact spec_GameOfRank.mono _ _ _ _ _ _ _
   | exact LeO.none _
   | refine LeO.ite ?_ ?_
   | refine LeO.bind ?_ (fun _ => ?_)
theorem laws_FnExactGameOfRank.mono : ∀ a0 a1 a2 a3 a4 a5 k, LeO (laws_FnExactGameOfRank.f k a0 a1 a2 a3 a4 a5) (laws_FnExactGameOfRank.f (k + 1) a0 a1 a2 a3 a4 a5) := by
 intro a0 a1 a2 a3 a4 a5 k
 obtain ⟨ih0, ih1, ih2⟩ := laws_FnExactGameOfRank.mono_l k
 unfold laws_FnExactGameOfRank.f
 repeat' first
   | (with_reducible exact ih0 _ _ _ _ _ _ _ _ _ _ _ _ _ _ _)
   | (with_reducible exact ih1 _ _ _ _ _ _ _ _ _ _)
   | (with_reducible exact ih2 _ _ _)
   | (with_reducible exact impl_GameOfRank.mono _ _ _ _ _ _ _)
   | (with_reducible exact laws_eqBoard.mono _ _ _ _ _ _ _ _ _)
   | (with_reducible exact laws_eqIntS.mono _ _ _)
   | (with_reducible exact laws_heldIntS.mono _ _ _)
   | (with_reducible exact laws_markBoard.mono _ _ _ _ _ _)
   | (with_reducible exact laws_markIntS.mono _ _ _)
   | (with_reducible exact laws_toBoard.mono _ _ _ _ _)
   | (with_reducible exact spec_GameOfRank.mono _ _ _ _ _ _ _)
   | (with_reducible exact LeO.refl _)
   | (with_reducible exact LeO.none _)
   | (with_reducible refine LeO.ite ?_ ?_)
   | (with_reducible refine LeO.bind ?_ (fun _ => ?_))
   | exact ih0 _ _ _ _ _ _ _ _ _ _ _ _ _ _ _
   | exact ih1 _ _ _ _ _ _ _ _ _ _
   | exact ih2 _ _ _
   | exact impl_GameOfRank.mono _ _ _ _ _ _ _
   | exact laws_eqBoard.mono _ _ _ _ _ _ _ _ _
   | exact laws_eqIntS.mono _ _ _
   | exact laws_heldIntS.mono _ _ _
   | exact laws_markBoard.mono _ _ _ _ _ _
   | exact laws_markIntS.mono _ _ _
   | exact laws_toBoard.mono _ _ _ _ _
   | exact spec_GameOfRank.mono _ _ _ _ _ _ _
   | exact LeO.none _
   | refine LeO.ite ?_ ?_
   | refine LeO.bind ?_ (fun _ => ?_)
set_option maxHeartbeats 8000000 in
set_option maxRecDepth 100000 in
theorem laws_FnExactGameOfRank.calls (k : Nat) (a0_0 : Int) (a0_1 : Int) (a0_2 : Int) (A0_3 : Option Addr) (c0_3 : Nat) (l0_3 : List (S72)) (a1 : Int) (a2 : Int) (r : Bool) (w : World) (hr0_3 : Kd.C k72 w A0_3 l0_3.length l0_3) (hc0_3 : l0_3.length ≤ c0_3) (h : laws_FnExactGameOfRank.f k a0_0 a0_1 a0_2 l0_3 a1 a2 = some r) :
  Calls Try.prog 11 #[.agg #[.int .i64 a0_0, .int .i64 a0_1, .int .i64 a0_2, .slice A0_3 l0_3.length c0_3], .int .i64 a1, .int .i64 a2] w fun e w' => e = .returned (.bool r) ∧ Below w.heap.size w w' := by
 have hu24 := Try.underlying24
 have hu30 := Try.underlying30
 have HR0_3 := Aside0.mk hr0_3
 have HC0_3 := Aside0.mk hc0_3
 clear hr0_3 hc0_3
 have HB := Aside0.mk (Below.refl w.heap.size w)
 have H : ((laws_szBoard.f a0_0 a0_1 a0_2 l0_3 1048576).bind fun t624 => (if t624 < 0 then (some true) else ((laws_toBoard.f k a0_0 a0_1 a0_2 l0_3).bind fun bt625 => ((spec_GameOfRank.f k bt625.1 bt625.2.1 bt625.2.2.1 bt625.2.2.2 a1 a2).bind fun bt631 => ((laws_toBoard.f k a0_0 a0_1 a0_2 l0_3).bind fun bt635 => ((impl_GameOfRank.f k bt635.1 bt635.2.1 bt635.2.2.1 bt635.2.2.2 a1 a2).bind fun bt642 => ((laws_eqIntS.f k bt642.1 bt631.1).bind fun t646 => (if t646 = true then (laws_FnExactGameOfRank.j0 k a1 a2 bt631.1 bt631.2 bt642.1 bt642.2 (bt642.2 != bt631.2) a0_0 a0_1 a0_2 l0_3 bt635.1 bt635.2.1 bt635.2.2.1 bt635.2.2.2) else (laws_FnExactGameOfRank.j0 k a1 a2 bt631.1 bt631.2 bt642.1 bt642.2 true a0_0 a0_1 a0_2 l0_3 bt635.1 bt635.2.1 bt635.2.2.1 bt635.2.2.2))))))))) = some r := h
 clear h
 replace H := Option.bind_eq_some_iff.mp H
 obtain ⟨t624, A40, H⟩ := H
 replace H : (if t624 < 0 then (some true) else ((laws_toBoard.f k a0_0 a0_1 a0_2 l0_3).bind fun bt625 => ((spec_GameOfRank.f k bt625.1 bt625.2.1 bt625.2.2.1 bt625.2.2.2 a1 a2).bind fun bt631 => ((laws_toBoard.f k a0_0 a0_1 a0_2 l0_3).bind fun bt635 => ((impl_GameOfRank.f k bt635.1 bt635.2.1 bt635.2.2.1 bt635.2.2.2 a1 a2).bind fun bt642 => ((laws_eqIntS.f k bt642.1 bt631.1).bind fun t646 => (if t646 = true then (laws_FnExactGameOfRank.j0 k a1 a2 bt631.1 bt631.2 bt642.1 bt642.2 (bt642.2 != bt631.2) a0_0 a0_1 a0_2 l0_3 bt635.1 bt635.2.1 bt635.2.2.1 bt635.2.2.2) else (laws_FnExactGameOfRank.j0 k a1 a2 bt631.1 bt631.2 bt642.1 bt642.2 true a0_0 a0_1 a0_2 l0_3 bt635.1 bt635.2.1 bt635.2.2.1 bt635.2.2.2)))))))) = some r := H
 have A4 := Aside0.mk A40
 clear A40
 by_cases c5 : t624 < 0
 ·rw [if_pos c5] at H
  have c5b0 : decide (t624 < 0) = true := decide_eq_true c5
  clear c5
  obtain rfl := Option.some.inj H
  go_enter Try.func11, Try.ntmps11
  go_wp2_with (first | ((with_reducible refine gate_dst (N := 3) rfl ?_); refine box_event ?hg (N := 3) ?hd (cs := #[.int .i64 a0_0, .int .i64 a0_1, .int .i64 a0_2, .slice A0_3 l0_3.length c0_3]) (t := 24) ?hr ?_; (case hd => rfl); (case hg => rfl); (case hr => first | (go_simp; done) | (go_simp; rfl)); intro gb623 hg w6 hbox hb; have n0_ := Aside0.mk (below_step hb_ hb); have n1_ := Aside0.mk (hbox); have n2_ := Aside0.mk ((by rw [hg]; exact (below_size hb_) : w.heap.size ≤ gb623)); have n3_ := Aside0.mk ((by rw [hg]; exact (below_size hb_) : w.heap.size ≤ gb623)); clear HB; have HB := n0_; have BK623 := n1_; have GW623 := n2_; have GE623 := n3_; clear n0_ n1_ n2_ n3_; clear hb hbox hg; have hcz7_0 : w6.cell? ⟨gb623, 0, none⟩ = some (.int .i64 a0_0) := (blk_cell BK623.out 0).trans rfl; have hcz7_1 : w6.cell? ⟨gb623, 1, none⟩ = some (.int .i64 a0_1) := (blk_cell BK623.out 1).trans rfl; have hcz7_2 : w6.cell? ⟨gb623, 2, none⟩ = some (.int .i64 a0_2) := (blk_cell BK623.out 2).trans rfl; have hcz7_3 : w6.cell? ⟨gb623, 3, none⟩ = some (.slice A0_3 l0_3.length c0_3) := (blk_cell BK623.out 3).trans rfl; have hfz7_0 := blk_frozen BK623.out 0; have hfz7_1 := blk_frozen BK623.out 1; have hfz7_2 := blk_frozen BK623.out 2; have hfz7_3 := blk_frozen BK623.out 3) | ((with_reducible refine gate_callee (f := 14) rfl ?_); refine goesL_ (some 20) rfl rfl Try.func14 (by kernel_rfl) rfl #[.agg #[.int .i64 a0_0, .int .i64 a0_1, .int .i64 a0_2, .slice A0_3 l0_3.length c0_3], .int .i64 1048576] rfl (by (try simp only [List.map_toArray, List.map_cons, List.map_nil]); first | done | rfl | (simp only [List.length_drop, List.length_take]; rfl)) ?_; (with_reducible refine (laws_szBoard.calls a0_0 a0_1 a0_2 _ _ l0_3 1048576 t624 _ ?side1 ?side2 A4.out).mono ?_); (case side1 => exact Kd.C_below HR0_3.out hb_); (case side2 => exact HC0_3.out); rintro e w8 ⟨rfl, hb⟩; refine ⟨_, rfl, ?_⟩; have n0_ := Aside0.mk (blk_below (g := gb623) (o := .cells #[.int .i64 a0_0, .int .i64 a0_1, .int .i64 a0_2, .slice A0_3 l0_3.length c0_3] 24 (0, 0)) (by (with_reducible repeat (first | refine blk_drewN ?_ _ | refine blk_drew ?_ | refine blk_alloc ?_ _)); exact BK623.out) hb); have n1_ := Aside0.mk (below_step hb_ hb); clear BK623; clear HB; have BK623 := n0_; have HB := n1_; clear n0_ n1_; (try clear hb); (try clear hb2); (try clear hk); (try clear hi)))
  go_ret
  exact ⟨by first | rfl | (simp [errW_none, errW_some] <;> rfl) | (simp [*, errW_none, errW_some] <;> rfl), hb_⟩
 ·rw [if_neg c5] at H
  have c5b0 : decide (t624 < 0) = false := decide_eq_false c5
  clear c5
  replace H := Option.bind_eq_some_iff.mp H
  obtain ⟨⟨t625, t626, t627, t628⟩, A90, H⟩ := H
  replace H : ((spec_GameOfRank.f k t625 t626 t627 t628 a1 a2).bind fun bt631 => ((laws_toBoard.f k a0_0 a0_1 a0_2 l0_3).bind fun bt635 => ((impl_GameOfRank.f k bt635.1 bt635.2.1 bt635.2.2.1 bt635.2.2.2 a1 a2).bind fun bt642 => ((laws_eqIntS.f k bt642.1 bt631.1).bind fun t646 => (if t646 = true then (laws_FnExactGameOfRank.j0 k a1 a2 bt631.1 bt631.2 bt642.1 bt642.2 (bt642.2 != bt631.2) a0_0 a0_1 a0_2 l0_3 bt635.1 bt635.2.1 bt635.2.2.1 bt635.2.2.2) else (laws_FnExactGameOfRank.j0 k a1 a2 bt631.1 bt631.2 bt642.1 bt642.2 true a0_0 a0_1 a0_2 l0_3 bt635.1 bt635.2.1 bt635.2.2.1 bt635.2.2.2)))))) = some r := H
  have A9 := Aside0.mk A90
  clear A90
  replace H := Option.bind_eq_some_iff.mp H
  obtain ⟨⟨t631, t634⟩, A100, H⟩ := H
  replace H : ((laws_toBoard.f k a0_0 a0_1 a0_2 l0_3).bind fun bt635 => ((impl_GameOfRank.f k bt635.1 bt635.2.1 bt635.2.2.1 bt635.2.2.2 a1 a2).bind fun bt642 => ((laws_eqIntS.f k bt642.1 t631).bind fun t646 => (if t646 = true then (laws_FnExactGameOfRank.j0 k a1 a2 t631 t634 bt642.1 bt642.2 (bt642.2 != t634) a0_0 a0_1 a0_2 l0_3 bt635.1 bt635.2.1 bt635.2.2.1 bt635.2.2.2) else (laws_FnExactGameOfRank.j0 k a1 a2 t631 t634 bt642.1 bt642.2 true a0_0 a0_1 a0_2 l0_3 bt635.1 bt635.2.1 bt635.2.2.1 bt635.2.2.2))))) = some r := H
  have A10 := Aside0.mk A100
  clear A100
  replace H := Option.bind_eq_some_iff.mp H
  obtain ⟨⟨t635, t636, t637, t638⟩, A110, H⟩ := H
  replace H : ((impl_GameOfRank.f k t635 t636 t637 t638 a1 a2).bind fun bt642 => ((laws_eqIntS.f k bt642.1 t631).bind fun t646 => (if t646 = true then (laws_FnExactGameOfRank.j0 k a1 a2 t631 t634 bt642.1 bt642.2 (bt642.2 != t634) a0_0 a0_1 a0_2 l0_3 t635 t636 t637 t638) else (laws_FnExactGameOfRank.j0 k a1 a2 t631 t634 bt642.1 bt642.2 true a0_0 a0_1 a0_2 l0_3 t635 t636 t637 t638)))) = some r := H
  have A11 := Aside0.mk A110
  clear A110
  replace H := Option.bind_eq_some_iff.mp H
  obtain ⟨⟨t642, t645⟩, A120, H⟩ := H
  replace H : ((laws_eqIntS.f k t642 t631).bind fun t646 => (if t646 = true then (laws_FnExactGameOfRank.j0 k a1 a2 t631 t634 t642 t645 (t645 != t634) a0_0 a0_1 a0_2 l0_3 t635 t636 t637 t638) else (laws_FnExactGameOfRank.j0 k a1 a2 t631 t634 t642 t645 true a0_0 a0_1 a0_2 l0_3 t635 t636 t637 t638))) = some r := H
  have A12 := Aside0.mk A120
  clear A120
  have HC13 := Aside0.mk H
  clear H
  go_enter Try.func11, Try.ntmps11
  go_upto_region 8 with (first | ((with_reducible refine gate_dst (N := 3) rfl ?_); refine box_event ?hg (N := 3) ?hd (cs := #[.int .i64 a0_0, .int .i64 a0_1, .int .i64 a0_2, .slice A0_3 l0_3.length c0_3]) (t := 24) ?hr ?_; (case hd => rfl); (case hg => rfl); (case hr => first | (go_simp; done) | (go_simp; rfl)); intro gb623 hg w14 hbox hb; have n0_ := Aside0.mk (below_step hb_ hb); have n1_ := Aside0.mk (hbox); have n2_ := Aside0.mk ((by rw [hg]; exact (below_size hb_) : w.heap.size ≤ gb623)); have n3_ := Aside0.mk ((by rw [hg]; exact (below_size hb_) : w.heap.size ≤ gb623)); clear HB; have HB := n0_; have BK623 := n1_; have GW623 := n2_; have GE623 := n3_; clear n0_ n1_ n2_ n3_; clear hb hbox hg; have hcz15_0 : w14.cell? ⟨gb623, 0, none⟩ = some (.int .i64 a0_0) := (blk_cell BK623.out 0).trans rfl; have hcz15_1 : w14.cell? ⟨gb623, 1, none⟩ = some (.int .i64 a0_1) := (blk_cell BK623.out 1).trans rfl; have hcz15_2 : w14.cell? ⟨gb623, 2, none⟩ = some (.int .i64 a0_2) := (blk_cell BK623.out 2).trans rfl; have hcz15_3 : w14.cell? ⟨gb623, 3, none⟩ = some (.slice A0_3 l0_3.length c0_3) := (blk_cell BK623.out 3).trans rfl; have hfz15_0 := blk_frozen BK623.out 0; have hfz15_1 := blk_frozen BK623.out 1; have hfz15_2 := blk_frozen BK623.out 2; have hfz15_3 := blk_frozen BK623.out 3) | ((with_reducible refine gate_callee (f := 14) rfl ?_); refine goesL_ (some 20) rfl rfl Try.func14 (by kernel_rfl) rfl #[.agg #[.int .i64 a0_0, .int .i64 a0_1, .int .i64 a0_2, .slice A0_3 l0_3.length c0_3], .int .i64 1048576] rfl (by (try simp only [List.map_toArray, List.map_cons, List.map_nil]); first | done | rfl | (simp only [List.length_drop, List.length_take]; rfl)) ?_; (with_reducible refine (laws_szBoard.calls a0_0 a0_1 a0_2 _ _ l0_3 1048576 t624 _ ?side1 ?side2 A4.out).mono ?_); (case side1 => exact Kd.C_below HR0_3.out hb_); (case side2 => exact HC0_3.out); rintro e w16 ⟨rfl, hb⟩; refine ⟨_, rfl, ?_⟩; have n0_ := Aside0.mk (blk_below (g := gb623) (o := .cells #[.int .i64 a0_0, .int .i64 a0_1, .int .i64 a0_2, .slice A0_3 l0_3.length c0_3] 24 (0, 0)) (by (with_reducible repeat (first | refine blk_drewN ?_ _ | refine blk_drew ?_ | refine blk_alloc ?_ _)); exact BK623.out) hb); have n1_ := Aside0.mk (below_step hb_ hb); clear BK623; clear HB; have BK623 := n0_; have HB := n1_; clear n0_ n1_; (try clear hb); (try clear hb2); (try clear hk); (try clear hi); have hcz17_0 : w16.cell? ⟨gb623, 0, none⟩ = some (.int .i64 a0_0) := (blk_cell BK623.out 0).trans rfl; have hcz17_1 : w16.cell? ⟨gb623, 1, none⟩ = some (.int .i64 a0_1) := (blk_cell BK623.out 1).trans rfl; have hcz17_2 : w16.cell? ⟨gb623, 2, none⟩ = some (.int .i64 a0_2) := (blk_cell BK623.out 2).trans rfl; have hcz17_3 : w16.cell? ⟨gb623, 3, none⟩ = some (.slice A0_3 l0_3.length c0_3) := (blk_cell BK623.out 3).trans rfl; have hfz17_0 := blk_frozen BK623.out 0; have hfz17_1 := blk_frozen BK623.out 1; have hfz17_2 := blk_frozen BK623.out 2; have hfz17_3 := blk_frozen BK623.out 3) | ((with_reducible refine gate_callee (f := 16) rfl ?_); refine goesL_ (some 25) rfl rfl Try.func16 (by kernel_rfl) rfl #[.agg #[.int .i64 a0_0, .int .i64 a0_1, .int .i64 a0_2, .slice A0_3 l0_3.length c0_3]] rfl (by (try simp only [List.map_toArray, List.map_cons, List.map_nil]); first | done | rfl | (simp only [List.length_drop, List.length_take]; rfl)) ?_; (with_reducible refine (laws_toBoard.calls k a0_0 a0_1 a0_2 _ _ l0_3 t625 t626 t627 t628 _ ?side1 ?side2 A9.out).mono ?_); (case side1 => exact Kd.C_below HR0_3.out hb_); (case side2 => exact HC0_3.out); rintro e w18 ⟨v629, rfl, ho0, hb⟩; refine ⟨_, rfl, ?_⟩; have n0_ := Aside0.mk (Kd.R_lower ho0 (below_size hb_)); have n1_ := Aside0.mk (blk_below (g := gb623) (o := .cells #[.int .i64 a0_0, .int .i64 a0_1, .int .i64 a0_2, .slice A0_3 l0_3.length c0_3] 24 (0, 0)) (by (with_reducible repeat (first | refine blk_drewN ?_ _ | refine blk_drew ?_ | refine blk_alloc ?_ _)); exact BK623.out) hb); have n2_ := Aside0.mk (below_step hb_ hb); clear BK623; clear HB; have HO630 := n0_; have BK623 := n1_; have HB := n2_; clear n0_ n1_ n2_; (try clear hb); (try clear hb2); (try clear hk); (try clear hi); (try clear ho0); obtain ⟨Ao19, co19, eo19⟩ := Kd.R_slice HO630.out; subst eo19) | ((with_reducible refine gate_callee (f := 38) rfl ?_); refine goesL_ (some 28) rfl rfl Try.func38 (by kernel_rfl) rfl #[.agg #[.int .i64 t625, .int .i64 t626, .int .i64 t627, .slice Ao19 t628.length co19], .int .i64 a1, .int .i64 a2] rfl (by (try simp only [List.map_toArray, List.map_cons, List.map_nil]); first | done | rfl | (simp only [List.length_drop, List.length_take]; rfl)) ?_; (with_reducible refine (spec_GameOfRank.calls k t625 t626 t627 _ _ t628 a1 a2 t631 t634 _ ?side1 ?side2 A10.out).mono ?_); (case side1 => repeat (first | exact (Kd.R_reads' HO630.out).2.2 | (with_reducible refine Kd.C_alloc ?_ _) | (with_reducible refine Kd.C_drewN ?_ _) | (with_reducible refine Kd.C_drew ?_))); (case side2 => exact (Kd.R_reads' HO630.out).2.1); rintro e w20 ⟨v632, rfl, ho0, hb⟩; refine ⟨_, rfl, ?_⟩; have n0_ := Aside0.mk (Kd.R_below (by (with_reducible repeat (first | apply Kd.R_alloc | apply Kd.R_drewN | apply Kd.R_drew)); exact HO630.out) hb); have n1_ := Aside0.mk (Kd.R_lower ho0 (below_size hb_)); have n2_ := Aside0.mk (blk_below (g := gb623) (o := .cells #[.int .i64 a0_0, .int .i64 a0_1, .int .i64 a0_2, .slice A0_3 l0_3.length c0_3] 24 (0, 0)) (by (with_reducible repeat (first | refine blk_drewN ?_ _ | refine blk_drew ?_ | refine blk_alloc ?_ _)); exact BK623.out) hb); have n3_ := Aside0.mk (below_step hb_ hb); clear HO630; clear BK623; clear HB; have HO630 := n0_; have HO633 := n1_; have BK623 := n2_; have HB := n3_; clear n0_ n1_ n2_ n3_; (try clear hb); (try clear hb2); (try clear hk); (try clear hi); (try clear ho0); have hcz21_0 : w20.cell? ⟨gb623, 0, none⟩ = some (.int .i64 a0_0) := (blk_cell BK623.out 0).trans rfl; have hcz21_1 : w20.cell? ⟨gb623, 1, none⟩ = some (.int .i64 a0_1) := (blk_cell BK623.out 1).trans rfl; have hcz21_2 : w20.cell? ⟨gb623, 2, none⟩ = some (.int .i64 a0_2) := (blk_cell BK623.out 2).trans rfl; have hcz21_3 : w20.cell? ⟨gb623, 3, none⟩ = some (.slice A0_3 l0_3.length c0_3) := (blk_cell BK623.out 3).trans rfl; have hfz21_0 := blk_frozen BK623.out 0; have hfz21_1 := blk_frozen BK623.out 1; have hfz21_2 := blk_frozen BK623.out 2; have hfz21_3 := blk_frozen BK623.out 3) | ((with_reducible refine gate_callee (f := 16) rfl ?_); refine goesL_ (some 32) rfl rfl Try.func16 (by kernel_rfl) rfl #[.agg #[.int .i64 a0_0, .int .i64 a0_1, .int .i64 a0_2, .slice A0_3 l0_3.length c0_3]] rfl (by (try simp only [List.map_toArray, List.map_cons, List.map_nil]); first | done | rfl | (simp only [List.length_drop, List.length_take]; rfl)) ?_; (with_reducible refine (laws_toBoard.calls k a0_0 a0_1 a0_2 _ _ l0_3 t635 t636 t637 t638 _ ?side1 ?side2 A11.out).mono ?_); (case side1 => exact Kd.C_below HR0_3.out hb_); (case side2 => exact HC0_3.out); rintro e w22 ⟨v639, rfl, ho0, hb⟩; refine ⟨_, rfl, ?_⟩; have n0_ := Aside0.mk (Kd.R_elder' (by (with_reducible repeat (first | apply Kd.R_alloc | apply Kd.R_drewN | apply Kd.R_drew)); exact HO630.out) (Kd.R_base ho0) hb); have n1_ := Aside0.mk (Kd.R_below (by (with_reducible repeat (first | apply Kd.R_alloc | apply Kd.R_drewN | apply Kd.R_drew)); exact HO633.out) hb); have n2_ := Aside0.mk (Kd.R_lower (Kd.R_new' ho0 (Kd.R_lt (by (with_reducible repeat (first | apply Kd.R_alloc | apply Kd.R_drewN | apply Kd.R_drew)); exact HO630.out))) (below_size hb_)); have n3_ := Aside0.mk (blk_below (g := gb623) (o := .cells #[.int .i64 a0_0, .int .i64 a0_1, .int .i64 a0_2, .slice A0_3 l0_3.length c0_3] 24 (0, 0)) (by (with_reducible repeat (first | refine blk_drewN ?_ _ | refine blk_drew ?_ | refine blk_alloc ?_ _)); exact BK623.out) hb); have n4_ := Aside0.mk (below_step hb_ hb); clear HO630; clear HO633; clear BK623; clear HB; have HO630 := n0_; have HO633 := n1_; have HO640 := n2_; have BK623 := n3_; have HB := n4_; clear n0_ n1_ n2_ n3_ n4_; (try clear hb); (try clear hb2); (try clear hk); (try clear hi); (try clear ho0)) | ((with_reducible refine gate_dst (N := 10) rfl ?_); refine box_event ?hg (N := 10) ?hd (cs := #[.int .i64 0, .int .i64 0, .int .i64 0, .slice none 0 0]) (t := 30) ?hr ?_; (case hd => rfl); (case hg => rfl); (case hr => first | (go_simp; done) | (go_simp; rfl)); intro gb641 hg w23 hbox hb; have n0_ := Aside0.mk (Kd.R_below (by (with_reducible repeat (first | apply Kd.R_alloc | apply Kd.R_drewN | apply Kd.R_drew)); exact HO630.out) hb); have n1_ := Aside0.mk (Kd.R_below (by (with_reducible repeat (first | apply Kd.R_alloc | apply Kd.R_drewN | apply Kd.R_drew)); exact HO633.out) hb); have n2_ := Aside0.mk (Kd.R_below (by (with_reducible repeat (first | apply Kd.R_alloc | apply Kd.R_drewN | apply Kd.R_drew)); exact HO640.out) hb); have n3_ := Aside0.mk (blk_below (g := gb623) (o := .cells #[.int .i64 a0_0, .int .i64 a0_1, .int .i64 a0_2, .slice A0_3 l0_3.length c0_3] 24 (0, 0)) (by (with_reducible repeat (first | refine blk_drewN ?_ _ | refine blk_drew ?_ | refine blk_alloc ?_ _)); exact BK623.out) hb); have n4_ := Aside0.mk (below_step hb_ hb); have n5_ := Aside0.mk (hbox); have n6_ := Aside0.mk ((by rw [hg]; exact (below_size hb_) : w.heap.size ≤ gb641)); have n7_ := Aside0.mk ((by rw [hg]; exact (below_size hb_) : w.heap.size ≤ gb641)); have n8_ := Aside0.mk ((by rw [hg]; exact Nat.ne_of_lt (blk_lt (g := gb623) (o := .cells #[.int .i64 a0_0, .int .i64 a0_1, .int .i64 a0_2, .slice A0_3 l0_3.length c0_3] 24 (0, 0)) (by (with_reducible repeat (first | refine blk_drewN ?_ _ | refine blk_drew ?_ | refine blk_alloc ?_ _)); exact BK623.out)) : gb623 ≠ gb641)); have n9_ := Aside0.mk ((by rw [hg]; exact Nat.ne_of_gt (blk_lt (g := gb623) (o := .cells #[.int .i64 a0_0, .int .i64 a0_1, .int .i64 a0_2, .slice A0_3 l0_3.length c0_3] 24 (0, 0)) (by (with_reducible repeat (first | refine blk_drewN ?_ _ | refine blk_drew ?_ | refine blk_alloc ?_ _)); exact BK623.out)) : gb641 ≠ gb623)); clear HO630; clear HO633; clear HO640; clear BK623; clear HB; have HO630 := n0_; have HO633 := n1_; have HO640 := n2_; have BK623 := n3_; have HB := n4_; have BK641 := n5_; have GW641 := n6_; have GE641 := n7_; have NB623_641 := n8_; have NB641_623 := n9_; clear n0_ n1_ n2_ n3_ n4_ n5_ n6_ n7_ n8_ n9_; clear hb hbox hg; have hnb24 := NB641_623.out; have hnc24 := NB623_641.out; have hcz25_0 : w23.cell? ⟨gb641, 0, none⟩ = some (.int .i64 0) := (blk_cell BK641.out 0).trans rfl; have hcz25_1 : w23.cell? ⟨gb641, 1, none⟩ = some (.int .i64 0) := (blk_cell BK641.out 1).trans rfl; have hcz25_2 : w23.cell? ⟨gb641, 2, none⟩ = some (.int .i64 0) := (blk_cell BK641.out 2).trans rfl; have hcz25_3 : w23.cell? ⟨gb641, 3, none⟩ = some (.slice none 0 0) := (blk_cell BK641.out 3).trans rfl; have hfz25_0 := blk_frozen BK641.out 0; have hfz25_1 := blk_frozen BK641.out 1; have hfz25_2 := blk_frozen BK641.out 2; have hfz25_3 := blk_frozen BK641.out 3; obtain ⟨Ao26, co26, eo26⟩ := Kd.R_slice HO640.out; subst eo26) | ((with_reducible refine gate_callee (f := 39) rfl ?_); refine goesL_ (some 37) rfl rfl Try.func39 (by kernel_rfl) rfl #[.agg #[.int .i64 t635, .int .i64 t636, .int .i64 t637, .slice Ao26 t638.length co26], .int .i64 a1, .int .i64 a2] rfl (by (try simp only [List.map_toArray, List.map_cons, List.map_nil]); first | done | rfl | (simp only [List.length_drop, List.length_take]; rfl)) ?_; (with_reducible refine (impl_GameOfRank.calls k t635 t636 t637 _ _ t638 a1 a2 t642 t645 _ ?side1 ?side2 A12.out).mono ?_); (case side1 => refine (Kd.R_reads' (e := 70) (base := w.heap.size) (ok := fun k_ => (True ∧ some k_ ≠ (.slice Ao19 t628.length co19 : Value).ownBlock)) (n := t638.length) (c := co26) ?_).2.2; exact (by (with_reducible repeat (first | apply Kd.R_alloc | apply Kd.R_drewN | apply Kd.R_drew)); exact (Kd.R_mono (Kd.R_far (p := ⟨gb641, 3, none⟩) (Kd.R_far (p := ⟨gb641, 2, none⟩) (Kd.R_far (p := ⟨gb641, 1, none⟩) (Kd.R_far (p := ⟨gb641, 0, none⟩) (Kd.R_types HO640.out BK641.out (by decide)) (fun _ hk => hk.2) (.int .i64 t635)) (fun _ hk => hk.2) (.int .i64 t636)) (fun _ hk => hk.2) (.int .i64 t637)) (fun _ hk => hk.2) (.slice Ao26 t638.length co26)) (fun _ h_ => h_.1)))); (case side2 => exact (Kd.R_reads' HO640.out).2.1); rintro e w27 ⟨v643, rfl, ho0, hb⟩; refine ⟨_, rfl, ?_⟩; have n0_ := Aside0.mk (Kd.R_below (by (with_reducible repeat (first | apply Kd.R_alloc | apply Kd.R_drewN | apply Kd.R_drew)); exact (Kd.R_mono (Kd.R_far (p := ⟨gb641, 3, none⟩) (Kd.R_far (p := ⟨gb641, 2, none⟩) (Kd.R_far (p := ⟨gb641, 1, none⟩) (Kd.R_far (p := ⟨gb641, 0, none⟩) (Kd.R_types HO630.out BK641.out (by decide)) (fun _ hk => hk.2) (.int .i64 t635)) (fun _ hk => hk.2) (.int .i64 t636)) (fun _ hk => hk.2) (.int .i64 t637)) (fun _ hk => hk.2) (.slice Ao26 t638.length co26)) (fun _ h_ => h_.1))) hb); have n1_ := Aside0.mk (Kd.R_elder' (by (with_reducible repeat (first | apply Kd.R_alloc | apply Kd.R_drewN | apply Kd.R_drew)); exact (Kd.R_mono (Kd.R_far (p := ⟨gb641, 3, none⟩) (Kd.R_far (p := ⟨gb641, 2, none⟩) (Kd.R_far (p := ⟨gb641, 1, none⟩) (Kd.R_far (p := ⟨gb641, 0, none⟩) (Kd.R_types HO633.out BK641.out (by decide)) (fun _ hk => hk.2) (.int .i64 t635)) (fun _ hk => hk.2) (.int .i64 t636)) (fun _ hk => hk.2) (.int .i64 t637)) (fun _ hk => hk.2) (.slice Ao26 t638.length co26)) (fun _ h_ => h_.1))) (Kd.R_base ho0) hb); have n2_ := Aside0.mk (Kd.R_below (by (with_reducible repeat (first | apply Kd.R_alloc | apply Kd.R_drewN | apply Kd.R_drew)); exact (Kd.R_mono (Kd.R_far (p := ⟨gb641, 3, none⟩) (Kd.R_far (p := ⟨gb641, 2, none⟩) (Kd.R_far (p := ⟨gb641, 1, none⟩) (Kd.R_far (p := ⟨gb641, 0, none⟩) (Kd.R_types HO640.out BK641.out (by decide)) (fun _ hk => hk.2) (.int .i64 t635)) (fun _ hk => hk.2) (.int .i64 t636)) (fun _ hk => hk.2) (.int .i64 t637)) (fun _ hk => hk.2) (.slice Ao26 t638.length co26)) (fun _ h_ => h_.1))) hb); have n3_ := Aside0.mk (Kd.R_lower (Kd.R_new' ho0 (Kd.R_lt (by (with_reducible repeat (first | apply Kd.R_alloc | apply Kd.R_drewN | apply Kd.R_drew)); exact (Kd.R_mono (Kd.R_far (p := ⟨gb641, 3, none⟩) (Kd.R_far (p := ⟨gb641, 2, none⟩) (Kd.R_far (p := ⟨gb641, 1, none⟩) (Kd.R_far (p := ⟨gb641, 0, none⟩) (Kd.R_types HO633.out BK641.out (by decide)) (fun _ hk => hk.2) (.int .i64 t635)) (fun _ hk => hk.2) (.int .i64 t636)) (fun _ hk => hk.2) (.int .i64 t637)) (fun _ hk => hk.2) (.slice Ao26 t638.length co26)) (fun _ h_ => h_.1))))) (below_size hb_)); have n4_ := Aside0.mk (blk_below (g := gb623) (o := .cells #[.int .i64 a0_0, .int .i64 a0_1, .int .i64 a0_2, .slice A0_3 l0_3.length c0_3] 24 (0, 0)) (by (with_reducible repeat (first | refine blk_drewN ?_ _ | refine blk_drew ?_ | refine blk_alloc ?_ _)); refine blk_far ?_ NB623_641.out _; (with_reducible repeat (first | refine blk_drewN ?_ _ | refine blk_drew ?_ | refine blk_alloc ?_ _)); refine blk_far ?_ NB623_641.out _; (with_reducible repeat (first | refine blk_drewN ?_ _ | refine blk_drew ?_ | refine blk_alloc ?_ _)); refine blk_far ?_ NB623_641.out _; (with_reducible repeat (first | refine blk_drewN ?_ _ | refine blk_drew ?_ | refine blk_alloc ?_ _)); refine blk_far ?_ NB623_641.out _; (with_reducible repeat (first | refine blk_drewN ?_ _ | refine blk_drew ?_ | refine blk_alloc ?_ _)); exact BK623.out) hb); have n5_ := Aside0.mk (blk_below (g := gb641) (o := .cells #[.int .i64 t635, .int .i64 t636, .int .i64 t637, .slice Ao26 t638.length co26] 30 (0, 0)) (by (with_reducible repeat (first | refine blk_drewN ?_ _ | refine blk_drew ?_ | refine blk_alloc ?_ _)); refine blk_put (cs := #[.int .i64 t635, .int .i64 t636, .int .i64 t637, .slice none 0 0]) ?_ 3 _ rfl; (with_reducible repeat (first | refine blk_drewN ?_ _ | refine blk_drew ?_ | refine blk_alloc ?_ _)); refine blk_put (cs := #[.int .i64 t635, .int .i64 t636, .int .i64 0, .slice none 0 0]) ?_ 2 _ rfl; (with_reducible repeat (first | refine blk_drewN ?_ _ | refine blk_drew ?_ | refine blk_alloc ?_ _)); refine blk_put (cs := #[.int .i64 t635, .int .i64 0, .int .i64 0, .slice none 0 0]) ?_ 1 _ rfl; (with_reducible repeat (first | refine blk_drewN ?_ _ | refine blk_drew ?_ | refine blk_alloc ?_ _)); refine blk_put (cs := #[.int .i64 0, .int .i64 0, .int .i64 0, .slice none 0 0]) ?_ 0 _ rfl; (with_reducible repeat (first | refine blk_drewN ?_ _ | refine blk_drew ?_ | refine blk_alloc ?_ _)); exact BK641.out) hb); have n6_ := Aside0.mk (below_step hb_ hb); clear HO630; clear HO633; clear HO640; clear BK623; clear BK641; clear HB; have HO630 := n0_; have HO633 := n1_; have HO640 := n2_; have HO644 := n3_; have BK623 := n4_; have BK641 := n5_; have HB := n6_; clear n0_ n1_ n2_ n3_ n4_ n5_ n6_; (try clear hb); (try clear hb2); (try clear hk); (try clear hi); (try clear ho0)))
  (try simp only [Act.put, List.setIfInBounds_toArray, List.set_cons_zero, List.set_cons_succ])
  go_cut [48] (fun v48 wc => ∃ (kq : Nat) (x48_12 : Bool), v48 = .bool x48_12 ∧ Aside0 (laws_FnExactGameOfRank.j0 kq a1 a2 t631 t634 t642 t645 x48_12 a0_0 a0_1 a0_2 l0_3 t635 t636 t637 t638 = some r) ∧ Aside0 (kq ≤ k) ∧ Aside0 (Kd.R (Kd.int .i64) 3 wc w.heap.size (fun k_ => some k_ ≠ (v643 : Value).ownBlock) v632 t631) ∧ Aside0 (Kd.R (Kd.int .i64) 3 wc w.heap.size (fun k_ => some k_ ≠ (v632 : Value).ownBlock) v643 t642) ∧ Aside0 (Kd.R k70 70 wc w.heap.size (fun _ => True) (.slice Ao26 t638.length co26) t638) ∧ Aside0 (wc.heap[gb623]? = some (.cells #[.int .i64 a0_0, .int .i64 a0_1, .int .i64 a0_2, (.slice A0_3 l0_3.length c0_3)] 24 (0, 0))) ∧ Aside0 (wc.heap[gb641]? = some (.cells #[.int .i64 t635, .int .i64 t636, .int .i64 t637, (.slice Ao26 t638.length co26)] 30 (0, 0))) ∧ Aside0 (Below w.heap.size w wc))
  case first =>
   have H := HC13.out
   clear HC13
   replace H := Option.bind_eq_some_iff.mp H
   obtain ⟨t646, A280, H⟩ := H
   replace H : (if t646 = true then (laws_FnExactGameOfRank.j0 k a1 a2 t631 t634 t642 t645 (t645 != t634) a0_0 a0_1 a0_2 l0_3 t635 t636 t637 t638) else (laws_FnExactGameOfRank.j0 k a1 a2 t631 t634 t642 t645 true a0_0 a0_1 a0_2 l0_3 t635 t636 t637 t638)) = some r := H
   have A28 := Aside0.mk A280
   clear A280
   by_cases c29 : t646 = true
   ·subst c29
    have H1 : (laws_FnExactGameOfRank.j0 k a1 a2 t631 t634 t642 t645 (t645 != t634) a0_0 a0_1 a0_2 l0_3 t635 t636 t637 t638) = some r := by rw [if_pos rfl] at H; exact H
    clear H
    have H := H1
    clear H1
    have H' := Aside0.mk H
    clear H
    obtain ⟨Ao30, co30, eo30⟩ := Kd.R_slice HO644.out
    subst eo30
    obtain ⟨Ao31, co31, eo31⟩ := Kd.R_slice HO633.out
    subst eo31
    go_wp2_with (first | ((with_reducible refine gate_callee (f := 24) rfl ?_); refine goesL_ (some 42) rfl rfl Try.func24 (by kernel_rfl) rfl #[.slice Ao30 t642.length co30, .slice Ao31 t631.length co31] rfl (by (try simp only [List.map_toArray, List.map_cons, List.map_nil]); first | done | rfl | (simp only [List.length_drop, List.length_take]; rfl)) ?_; (with_reducible refine (laws_eqIntS.calls k _ _ t642 _ _ t631 true _ ?side1 ?side2 ?side3 ?side4 A28.out).mono ?_); (case side1 => repeat (first | exact (Kd.R_reads' HO644.out).2.2 | (with_reducible refine Kd.C_alloc ?_ _) | (with_reducible refine Kd.C_drewN ?_ _) | (with_reducible refine Kd.C_drew ?_))); (case side2 => exact (Kd.R_reads' HO644.out).2.1); (case side3 => repeat (first | exact (Kd.R_reads' HO633.out).2.2 | (with_reducible refine Kd.C_alloc ?_ _) | (with_reducible refine Kd.C_drewN ?_ _) | (with_reducible refine Kd.C_drew ?_))); (case side4 => exact (Kd.R_reads' HO633.out).2.1); rintro e w' ⟨rfl, ⟨nd, rfl⟩⟩; refine ⟨_, rfl, ?_⟩))
    go_meet
    case rel => exact ⟨_, ((t645 != t634)), (by first | rfl | (simp; done) | (simp [*]; done)), H', ⟨by first | omega | exact Nat.le_refl _⟩, ⟨by (with_reducible repeat (first | apply Kd.R_alloc | apply Kd.R_drewN | apply Kd.R_drew)); exact Kd.R_mono HO633.out (fun _ hk => hk.2)⟩, ⟨by (with_reducible repeat (first | apply Kd.R_alloc | apply Kd.R_drewN | apply Kd.R_drew)); exact Kd.R_mono HO644.out (fun _ hk => hk.2)⟩, ⟨by (with_reducible repeat (first | apply Kd.R_alloc | apply Kd.R_drewN | apply Kd.R_drew)); exact Kd.R_mono HO640.out (fun _ hk => trivial)⟩, ⟨by (with_reducible repeat (first | refine blk_drewN ?_ _ | refine blk_drew ?_ | refine blk_alloc ?_ _)); exact BK623.out⟩, ⟨by (with_reducible repeat (first | refine blk_drewN ?_ _ | refine blk_drew ?_ | refine blk_alloc ?_ _)); exact BK641.out⟩, ⟨hb_⟩⟩
   ·replace c29 := Bool.eq_false_iff.mpr c29
    subst c29
    have H1 : (laws_FnExactGameOfRank.j0 k a1 a2 t631 t634 t642 t645 true a0_0 a0_1 a0_2 l0_3 t635 t636 t637 t638) = some r := by rw [if_neg (show ¬ (false = true) by decide)] at H; exact H
    clear H
    have H := H1
    clear H1
    have H' := Aside0.mk H
    clear H
    obtain ⟨Ao32, co32, eo32⟩ := Kd.R_slice HO644.out
    subst eo32
    obtain ⟨Ao33, co33, eo33⟩ := Kd.R_slice HO633.out
    subst eo33
    go_wp2_with (first | ((with_reducible refine gate_callee (f := 24) rfl ?_); refine goesL_ (some 42) rfl rfl Try.func24 (by kernel_rfl) rfl #[.slice Ao32 t642.length co32, .slice Ao33 t631.length co33] rfl (by (try simp only [List.map_toArray, List.map_cons, List.map_nil]); first | done | rfl | (simp only [List.length_drop, List.length_take]; rfl)) ?_; (with_reducible refine (laws_eqIntS.calls k _ _ t642 _ _ t631 false _ ?side1 ?side2 ?side3 ?side4 A28.out).mono ?_); (case side1 => repeat (first | exact (Kd.R_reads' HO644.out).2.2 | (with_reducible refine Kd.C_alloc ?_ _) | (with_reducible refine Kd.C_drewN ?_ _) | (with_reducible refine Kd.C_drew ?_))); (case side2 => exact (Kd.R_reads' HO644.out).2.1); (case side3 => repeat (first | exact (Kd.R_reads' HO633.out).2.2 | (with_reducible refine Kd.C_alloc ?_ _) | (with_reducible refine Kd.C_drewN ?_ _) | (with_reducible refine Kd.C_drew ?_))); (case side4 => exact (Kd.R_reads' HO633.out).2.1); rintro e w' ⟨rfl, ⟨nd, rfl⟩⟩; refine ⟨_, rfl, ?_⟩))
    go_meet
    case rel => exact ⟨_, (true), (by first | rfl | (simp; done) | (simp [*]; done)), H', ⟨by first | omega | exact Nat.le_refl _⟩, ⟨by (with_reducible repeat (first | apply Kd.R_alloc | apply Kd.R_drewN | apply Kd.R_drew)); exact Kd.R_mono HO633.out (fun _ hk => hk.2)⟩, ⟨by (with_reducible repeat (first | apply Kd.R_alloc | apply Kd.R_drewN | apply Kd.R_drew)); exact Kd.R_mono HO644.out (fun _ hk => hk.2)⟩, ⟨by (with_reducible repeat (first | apply Kd.R_alloc | apply Kd.R_drewN | apply Kd.R_drew)); exact Kd.R_mono HO640.out (fun _ hk => trivial)⟩, ⟨by (with_reducible repeat (first | refine blk_drewN ?_ _ | refine blk_drew ?_ | refine blk_alloc ?_ _)); exact BK623.out⟩, ⟨by (with_reducible repeat (first | refine blk_drewN ?_ _ | refine blk_drew ?_ | refine blk_alloc ?_ _)); exact BK641.out⟩, ⟨hb_⟩⟩
  case rest =>
   clear HC13
   try clear c1
   try clear c2
   try clear p2
   try clear c3
   try clear c5
   try clear c5b0
   try clear c11
   try clear c14
   try clear c16
   try clear c24
   try clear c29
   try clear hcz15_0
   try clear hcz15_1
   try clear hcz15_2
   try clear hcz15_3
   try clear hcz17_0
   try clear hcz17_1
   try clear hcz17_2
   try clear hcz17_3
   try clear hcz21_0
   try clear hcz21_1
   try clear hcz21_2
   try clear hcz21_3
   try clear hcz25_0
   try clear hcz25_1
   try clear hcz25_2
   try clear hcz25_3
   try clear hcz7_0
   try clear hcz7_1
   try clear hcz7_2
   try clear hcz7_3
   try clear hfz15_0
   try clear hfz15_1
   try clear hfz15_2
   try clear hfz15_3
   try clear hfz17_0
   try clear hfz17_1
   try clear hfz17_2
   try clear hfz17_3
   try clear hfz21_0
   try clear hfz21_1
   try clear hfz21_2
   try clear hfz21_3
   try clear hfz25_0
   try clear hfz25_1
   try clear hfz25_2
   try clear hfz25_3
   try clear hfz7_0
   try clear hfz7_1
   try clear hfz7_2
   try clear hfz7_3
   obtain ⟨kq, x48_12, rfl, HA, HJ12, HO_8, HO_11, HO_642003, BK623, BK641, HB⟩ := hcut
   cases kq with
   | zero => exact absurd HA.out (by simp [laws_FnExactGameOfRank.j0])
   | succ kj12 =>
    have H := HA.out
    clear HA
    simp only [laws_FnExactGameOfRank.j0] at H
    by_cases c34 : x48_12 = true
    ·subst c34
     have H1 : (some false) = some r := by rw [if_pos rfl] at H; exact H
     clear H
     have H := H1
     clear H1
     obtain rfl := Option.some.inj H
     go_wp2
     go_ret
     exact ⟨by first | rfl | (simp [errW_none, errW_some] <;> rfl) | (simp [*, errW_none, errW_some] <;> rfl), hb_⟩
    ·replace c34 := Bool.eq_false_iff.mpr c34
     subst c34
     have H1 : ((laws_toBoard.f kj12 a0_0 a0_1 a0_2 l0_3).bind fun bt647 => ((laws_eqBoard.f kj12 t635 t636 t637 t638 bt647.1 bt647.2.1 bt647.2.2.1 bt647.2.2.2).bind fun t653 => (if t653 = true then ((laws_markBoard.f kj12 t635 t636 t637 t638 1).bind fun bt654 => (if bt654.1 < 0 then (laws_FnExactGameOfRank.j1 kj12 a1 a2 t631 t634 t642 true a0_0 a0_1 a0_2 l0_3) else ((laws_eqIntS.f kj12 t642 t631).bind fun t656 => (if t656 = true then (laws_FnExactGameOfRank.j1 kj12 a1 a2 t631 t634 t642 (t645 != t634) a0_0 a0_1 a0_2 l0_3) else (laws_FnExactGameOfRank.j1 kj12 a1 a2 t631 t634 t642 true a0_0 a0_1 a0_2 l0_3))))) else (some false)))) = some r := by rw [if_neg (show ¬ (false = true) by decide)] at H; exact H
     clear H
     have H := H1
     clear H1
     replace H := Option.bind_eq_some_iff.mp H
     obtain ⟨⟨t647, t648, t649, t650⟩, A350, H⟩ := H
     replace H : ((laws_eqBoard.f kj12 t635 t636 t637 t638 t647 t648 t649 t650).bind fun t653 => (if t653 = true then ((laws_markBoard.f kj12 t635 t636 t637 t638 1).bind fun bt654 => (if bt654.1 < 0 then (laws_FnExactGameOfRank.j1 kj12 a1 a2 t631 t634 t642 true a0_0 a0_1 a0_2 l0_3) else ((laws_eqIntS.f kj12 t642 t631).bind fun t656 => (if t656 = true then (laws_FnExactGameOfRank.j1 kj12 a1 a2 t631 t634 t642 (t645 != t634) a0_0 a0_1 a0_2 l0_3) else (laws_FnExactGameOfRank.j1 kj12 a1 a2 t631 t634 t642 true a0_0 a0_1 a0_2 l0_3))))) else (some false))) = some r := H
     have A35 := Aside0.mk A350
     clear A350
     replace H := Option.bind_eq_some_iff.mp H
     obtain ⟨t653, A360, H⟩ := H
     replace H : (if t653 = true then ((laws_markBoard.f kj12 t635 t636 t637 t638 1).bind fun bt654 => (if bt654.1 < 0 then (laws_FnExactGameOfRank.j1 kj12 a1 a2 t631 t634 t642 true a0_0 a0_1 a0_2 l0_3) else ((laws_eqIntS.f kj12 t642 t631).bind fun t656 => (if t656 = true then (laws_FnExactGameOfRank.j1 kj12 a1 a2 t631 t634 t642 (t645 != t634) a0_0 a0_1 a0_2 l0_3) else (laws_FnExactGameOfRank.j1 kj12 a1 a2 t631 t634 t642 true a0_0 a0_1 a0_2 l0_3))))) else (some false)) = some r := H
     have A36 := Aside0.mk A360
     clear A360
     by_cases c37 : t653 = true
     ·subst c37
      have H1 : ((laws_markBoard.f kj12 t635 t636 t637 t638 1).bind fun bt654 => (if bt654.1 < 0 then (laws_FnExactGameOfRank.j1 kj12 a1 a2 t631 t634 t642 true a0_0 a0_1 a0_2 l0_3) else ((laws_eqIntS.f kj12 t642 t631).bind fun t656 => (if t656 = true then (laws_FnExactGameOfRank.j1 kj12 a1 a2 t631 t634 t642 (t645 != t634) a0_0 a0_1 a0_2 l0_3) else (laws_FnExactGameOfRank.j1 kj12 a1 a2 t631 t634 t642 true a0_0 a0_1 a0_2 l0_3))))) = some r := by rw [if_pos rfl] at H; exact H
      clear H
      have H := H1
      clear H1
      replace H := Option.bind_eq_some_iff.mp H
      obtain ⟨⟨t654, t655⟩, A380, H⟩ := H
      replace H : (if t654 < 0 then (laws_FnExactGameOfRank.j1 kj12 a1 a2 t631 t634 t642 true a0_0 a0_1 a0_2 l0_3) else ((laws_eqIntS.f kj12 t642 t631).bind fun t656 => (if t656 = true then (laws_FnExactGameOfRank.j1 kj12 a1 a2 t631 t634 t642 (t645 != t634) a0_0 a0_1 a0_2 l0_3) else (laws_FnExactGameOfRank.j1 kj12 a1 a2 t631 t634 t642 true a0_0 a0_1 a0_2 l0_3)))) = some r := H
      have A38 := Aside0.mk A380
      clear A380
      have HC39 := Aside0.mk H
      clear H
      try go_wp2
      have n0_ := Aside0.mk (Kd.R_drew HO_8.out)
      have n1_ := Aside0.mk (Kd.R_drew HO_11.out)
      have n2_ := Aside0.mk (Kd.R_drew HO_642003.out)
      have n3_ := Aside0.mk (blk_drew BK623.out)
      have n4_ := Aside0.mk (blk_drew BK641.out)
      have n5_ := Aside0.mk (below_drew1 HB.out)
      clear HO_8
      clear HO_11
      clear HO_642003
      clear BK623
      clear BK641
      clear HB
      have HO_8 := n0_
      have HO_11 := n1_
      have HO_642003 := n2_
      have BK623 := n3_
      have BK641 := n4_
      have HB := n5_
      clear n0_ n1_ n2_ n3_ n4_ n5_
      refine start_ (n := 5) (S := fun w' => w'.cell? ⟨gb641, 0, none⟩ = some (.int .i64 t635) ∧ w'.cell? ⟨gb641, 1, none⟩ = some (.int .i64 t636) ∧ w'.cell? ⟨gb641, 2, none⟩ = some (.int .i64 t637) ∧ w'.cell? ⟨gb641, 3, none⟩ = some (.slice Ao26 t638.length co26) ∧ w'.cell? ⟨gb623, 0, none⟩ = some (.int .i64 a0_0) ∧ w'.cell? ⟨gb623, 1, none⟩ = some (.int .i64 a0_1) ∧ w'.cell? ⟨gb623, 2, none⟩ = some (.int .i64 a0_2) ∧ w'.cell? ⟨gb623, 3, none⟩ = some (.slice A0_3 l0_3.length c0_3)) (ds := []) #[false, false, false, false, false] (by kernel_rfl) rfl rfl ⟨(blk_cell BK641.out 0).trans rfl, (blk_cell BK641.out 1).trans rfl, (blk_cell BK641.out 2).trans rfl, (blk_cell BK641.out 3).trans rfl, (blk_cell BK623.out 0).trans rfl, (blk_cell BK623.out 1).trans rfl, (blk_cell BK623.out 2).trans rfl, (blk_cell BK623.out 3).trans rfl⟩ (fun hHeld => ?_)
      generalize wc.drew = w40 at HO_8 HO_11 HO_642003 BK623 BK641 HB hHeld ⊢
      refine take_ (i := 0) (N := some 49) (v := ?_) (a' := ?_) #[true, false, false, false, false] rfl rfl (by kernel_rfl) (fun _ _ _ h => h) (Or.inl ⟨by rfl, ?_⟩) hHeld ?_ ?_
      rotate_left
      ·rintro w' ⟨s0, s1, s2, s3, s4, s5, s6, s7⟩
       go_simp
       with_reducible rfl
      rotate_left
      ·simp only [Act.put, List.setIfInBounds_toArray, List.set_cons_zero, List.set_cons_succ, i64_w, i32_w]
       rfl
      refine take_ (i := 1) (N := some 50) (v := ?_) (a' := ?_) #[true, true, false, false, false] rfl rfl (by kernel_rfl) (fun _ _ _ h => h) (Or.inl ⟨by rfl, ?_⟩) hHeld ?_ ?_
      rotate_left
      ·rintro w' ⟨s0, s1, s2, s3, s4, s5, s6, s7⟩
       go_simp
       with_reducible rfl
      rotate_left
      ·simp only [Act.put, List.setIfInBounds_toArray, List.set_cons_zero, List.set_cons_succ, i64_w, i32_w]
       rfl
      refine one_ (i := 2) (N := some 51) #[true, true, true, false, false] rfl rfl (by kernel_rfl) (by decide) (fun K hK => ?_)
      refine goes_ Try.func16 (by kernel_rfl) rfl #[.agg #[.int .i64 a0_0, .int .i64 a0_1, .int .i64 a0_2, .slice A0_3 l0_3.length c0_3]] (by rfl) rfl rfl (by (try simp only [List.map_toArray, List.map_cons, List.map_nil]); first | done | rfl | (simp only [List.length_drop, List.length_take]; rfl)) ?_
      with_reducible refine (laws_toBoard.calls kj12 a0_0 a0_1 a0_2 _ _ l0_3 t647 t648 t649 t650 _ ?side1 ?side2 A35.out).mono ?_
      (case side1 => exact Kd.C_below HR0_3.out hb_)
      (case side2 => exact HC0_3.out)
      rintro e w41 ⟨v651, rfl, ho0, hb⟩
      refine ⟨_, rfl, ?_⟩
      have n0_ := Aside0.mk (Kd.R_below (by (with_reducible repeat (first | apply Kd.R_alloc | apply Kd.R_drewN | apply Kd.R_drew)); exact HO_8.out) hb)
      have n1_ := Aside0.mk (Kd.R_below (by (with_reducible repeat (first | apply Kd.R_alloc | apply Kd.R_drewN | apply Kd.R_drew)); exact HO_11.out) hb)
      have n2_ := Aside0.mk (Kd.R_elder' (by (with_reducible repeat (first | apply Kd.R_alloc | apply Kd.R_drewN | apply Kd.R_drew)); exact HO_642003.out) (Kd.R_base ho0) hb)
      have n3_ := Aside0.mk (Kd.R_lower (Kd.R_new' ho0 (Kd.R_lt (by (with_reducible repeat (first | apply Kd.R_alloc | apply Kd.R_drewN | apply Kd.R_drew)); exact HO_642003.out))) (below_size hb_))
      have n4_ := Aside0.mk (blk_below (g := gb623) (o := .cells #[.int .i64 a0_0, .int .i64 a0_1, .int .i64 a0_2, .slice A0_3 l0_3.length c0_3] 24 (0, 0)) (by (with_reducible repeat (first | refine blk_drewN ?_ _ | refine blk_drew ?_ | refine blk_alloc ?_ _)); exact BK623.out) hb)
      have n5_ := Aside0.mk (blk_below (g := gb641) (o := .cells #[.int .i64 t635, .int .i64 t636, .int .i64 t637, .slice Ao26 t638.length co26] 30 (0, 0)) (by (with_reducible repeat (first | refine blk_drewN ?_ _ | refine blk_drew ?_ | refine blk_alloc ?_ _)); exact BK641.out) hb)
      have n6_ := Aside0.mk (below_step hb_ hb)
      clear HO_8
      clear HO_11
      clear HO_642003
      clear BK623
      clear BK641
      clear HB
      have HO_8 := n0_
      have HO_11 := n1_
      have HO_642003 := n2_
      have HO652 := n3_
      have BK623 := n4_
      have BK641 := n5_
      have HB := n6_
      clear n0_ n1_ n2_ n3_ n4_ n5_ n6_
      (try clear hb)
      (try clear hb2)
      (try clear hk)
      (try clear hi)
      (try clear ho0)
      obtain ⟨Ao42, co42, eo42⟩ := Kd.R_slice HO652.out
      (first | subst eo42 | (injection eo42 with f1_ f2_ f3_; have f4_ := f1_.symm; have f5_ := f3_.symm; clear f1_ f2_ f3_; subst f4_; subst f5_))
      refine hK.out _ _ ⟨(blk_cell BK641.out 0).trans rfl, (blk_cell BK641.out 1).trans rfl, (blk_cell BK641.out 2).trans rfl, (blk_cell BK641.out 3).trans rfl, (blk_cell BK623.out 0).trans rfl, (blk_cell BK623.out 1).trans rfl, (blk_cell BK623.out 2).trans rfl, (blk_cell BK623.out 3).trans rfl⟩ (fun hHeld => ?_)
      clear hK K
      refine norm_ (a' := ?_) ?_ ?_
      rotate_left
      ·show Act.put _ (some 51) _ = _
       simp only [Act.put, List.setIfInBounds_toArray, List.set_cons_zero, List.set_cons_succ, i64_w, i32_w]
       rfl
      refine one_ (i := 3) (N := some 52) #[true, true, true, true, false] rfl rfl (by kernel_rfl) (by decide) (fun K hK => ?_)
      refine goes_ Try.func18 (by kernel_rfl) rfl #[.agg #[.int .i64 t635, .int .i64 t636, .int .i64 t637, .slice Ao26 t638.length co26], .agg #[.int .i64 t647, .int .i64 t648, .int .i64 t649, .slice Ao42 t650.length co42]] (by rfl) rfl rfl (by (try simp only [List.map_toArray, List.map_cons, List.map_nil]); first | done | rfl | (simp only [List.length_drop, List.length_take]; rfl)) ?_
      with_reducible refine (laws_eqBoard.calls kj12 t635 t636 t637 _ _ t638 t647 t648 t649 _ _ t650 true _ ?side1 ?side2 ?side3 ?side4 A36.out).mono ?_
      (case side1 => repeat (first | exact (Kd.R_reads' HO_642003.out).2.2 | (with_reducible refine Kd.C_alloc ?_ _) | (with_reducible refine Kd.C_drewN ?_ _) | (with_reducible refine Kd.C_drew ?_)))
      (case side2 => exact (Kd.R_reads' HO_642003.out).2.1)
      (case side3 => repeat (first | exact (Kd.R_reads' HO652.out).2.2 | (with_reducible refine Kd.C_alloc ?_ _) | (with_reducible refine Kd.C_drewN ?_ _) | (with_reducible refine Kd.C_drew ?_)))
      (case side4 => exact (Kd.R_reads' HO652.out).2.1)
      rintro e w43 ⟨rfl, hb⟩
      refine ⟨_, rfl, ?_⟩
      have n0_ := Aside0.mk (Kd.R_below (by (with_reducible repeat (first | apply Kd.R_alloc | apply Kd.R_drewN | apply Kd.R_drew)); exact HO_8.out) hb)
      have n1_ := Aside0.mk (Kd.R_below (by (with_reducible repeat (first | apply Kd.R_alloc | apply Kd.R_drewN | apply Kd.R_drew)); exact HO_11.out) hb)
      have n2_ := Aside0.mk (Kd.R_below (by (with_reducible repeat (first | apply Kd.R_alloc | apply Kd.R_drewN | apply Kd.R_drew)); exact HO_642003.out) hb)
      have n3_ := Aside0.mk (Kd.R_below (by (with_reducible repeat (first | apply Kd.R_alloc | apply Kd.R_drewN | apply Kd.R_drew)); exact HO652.out) hb)
      have n4_ := Aside0.mk (blk_below (g := gb623) (o := .cells #[.int .i64 a0_0, .int .i64 a0_1, .int .i64 a0_2, .slice A0_3 l0_3.length c0_3] 24 (0, 0)) (by (with_reducible repeat (first | refine blk_drewN ?_ _ | refine blk_drew ?_ | refine blk_alloc ?_ _)); exact BK623.out) hb)
      have n5_ := Aside0.mk (blk_below (g := gb641) (o := .cells #[.int .i64 t635, .int .i64 t636, .int .i64 t637, .slice Ao26 t638.length co26] 30 (0, 0)) (by (with_reducible repeat (first | refine blk_drewN ?_ _ | refine blk_drew ?_ | refine blk_alloc ?_ _)); exact BK641.out) hb)
      have n6_ := Aside0.mk (below_step hb_ hb)
      clear HO_8
      clear HO_11
      clear HO_642003
      clear HO652
      clear BK623
      clear BK641
      clear HB
      have HO_8 := n0_
      have HO_11 := n1_
      have HO_642003 := n2_
      have HO652 := n3_
      have BK623 := n4_
      have BK641 := n5_
      have HB := n6_
      clear n0_ n1_ n2_ n3_ n4_ n5_ n6_
      (try clear hb)
      (try clear hb2)
      (try clear hk)
      (try clear hi)
      refine hK.out _ _ ⟨(blk_cell BK641.out 0).trans rfl, (blk_cell BK641.out 1).trans rfl, (blk_cell BK641.out 2).trans rfl, (blk_cell BK641.out 3).trans rfl, (blk_cell BK623.out 0).trans rfl, (blk_cell BK623.out 1).trans rfl, (blk_cell BK623.out 2).trans rfl, (blk_cell BK623.out 3).trans rfl⟩ (fun hHeld => ?_)
      clear hK K
      refine norm_ (a' := ?_) ?_ ?_
      rotate_left
      ·show Act.put _ (some 52) _ = _
       simp only [Act.put, List.setIfInBounds_toArray, List.set_cons_zero, List.set_cons_succ, i64_w, i32_w]
       rfl
      refine pure_ (i := 4) (N := some 53) (v := ?_) (a' := ?_) #[true, true, true, true, true] rfl rfl (by kernel_rfl) (fun _ _ _ h => h) (Or.inl ⟨by rfl, ?_⟩) ?_ ?_
      rotate_left
      ·intro w'
       go_simp
       with_reducible rfl
      rotate_left
      ·simp only [Act.put, List.setIfInBounds_toArray, List.set_cons_zero, List.set_cons_succ, i64_w, i32_w]
       rfl
      refine done_ (by kernel_rfl) ?_
      have hnb44 := NB641_623.out
      have hnc44 := NB623_641.out
      have hcz45_0 : w43.cell? ⟨gb641, 0, none⟩ = some (.int .i64 t635) := (blk_cell BK641.out 0).trans rfl
      have hcz45_1 : w43.cell? ⟨gb641, 1, none⟩ = some (.int .i64 t636) := (blk_cell BK641.out 1).trans rfl
      have hcz45_2 : w43.cell? ⟨gb641, 2, none⟩ = some (.int .i64 t637) := (blk_cell BK641.out 2).trans rfl
      have hcz45_3 : w43.cell? ⟨gb641, 3, none⟩ = some (.slice Ao26 t638.length co26) := (blk_cell BK641.out 3).trans rfl
      have hfz45_0 := blk_frozen BK641.out 0
      have hfz45_1 := blk_frozen BK641.out 1
      have hfz45_2 := blk_frozen BK641.out 2
      have hfz45_3 := blk_frozen BK641.out 3
      go_upto_region 14 with (first | ((with_reducible refine gate_callee (f := 29) rfl ?_); refine goesL_ (some 56) rfl rfl Try.func29 (by kernel_rfl) rfl #[.agg #[.int .i64 t635, .int .i64 t636, .int .i64 t637, .slice Ao26 t638.length co26], .int .i64 1] rfl (by (try simp only [List.map_toArray, List.map_cons, List.map_nil]); first | done | rfl | (simp only [List.length_drop, List.length_take]; rfl)) ?_; (with_reducible refine (laws_markBoard.calls kj12 t635 t636 t637 (fun k_ => some k_ = (.slice Ao26 t638.length co26 : Value).ownBlock) (.slice Ao26 t638.length co26) t638 1 t654 t655 w _ ?side1 ?side2 A38.out).mono ?_); (case side1 => repeat (first | (with_reducible first | exact HB.out | apply below_alloc | apply pw_below_drewN | apply below_drew1 | refine below_set ?_ GE623.out | refine below_set ?_ GE641.out) | exact HB.out)); (case side2 => exact Kd.R_tight rfl HO_642003.out); rintro e w46 ⟨rfl, hy0, hb, hkp⟩; refine ⟨_, rfl, ?_⟩; have n0_ := Aside0.mk (Kd.R_mono (ok' := fun k_ => some k_ ≠ (v643 : Value).ownBlock) (Kd.R_keptB ((Kd.R_apart' HO_8.out (Kd.R_typed HO_642003.out) (by decide))) hkp (fun k_ hk_ hs_ => (hk_.2) hs_)) (fun k_ hk_ => hk_.1.1)); have n1_ := Aside0.mk (Kd.R_mono (ok' := fun k_ => some k_ ≠ (v632 : Value).ownBlock) (Kd.R_keptB ((Kd.R_apart' HO_11.out (Kd.R_typed HO_642003.out) (by decide))) hkp (fun k_ hk_ hs_ => (hk_.2) hs_)) (fun k_ hk_ => hk_.1.1)); have n2_ := Aside0.mk (Kd.R_reok rfl hy0 (fun k_ e_ => HO_642003.out.1 k_ e_)); have n3_ := Aside0.mk (blk_kept (by (with_reducible repeat (first | refine blk_drewN ?_ _ | refine blk_drew ?_ | refine blk_alloc ?_ _)); exact BK623.out) hkp (fun hs_ => (fun e_ => (Kd.R_ne HO_642003.out BK623.out (by decide)) e_) hs_)); have n4_ := Aside0.mk (blk_kept (by (with_reducible repeat (first | refine blk_drewN ?_ _ | refine blk_drew ?_ | refine blk_alloc ?_ _)); exact BK641.out) hkp (fun hs_ => (fun e_ => (Kd.R_ne HO_642003.out BK641.out (by decide)) e_) hs_)); have n5_ := Aside0.mk (Kd.R_mono (ok' := fun k_ => some k_ ≠ (.slice Ao26 t638.length co26 : Value).ownBlock) (Kd.R_keptB (HO652.out) hkp (fun k_ hk_ hs_ => (hk_.2) hs_)) (fun k_ hk_ => hk_.1.2)); have n6_ := Aside0.mk (hb); clear HO_8; clear HO_11; clear HO_642003; clear BK623; clear BK641; clear HO652; clear HB; have HO_8 := n0_; have HO_11 := n1_; have HO_642003 := n2_; have BK623 := n3_; have BK641 := n4_; have HO652 := n5_; have HB := n6_; clear n0_ n1_ n2_ n3_ n4_ n5_ n6_; (try clear hb); (try clear hkp); (try clear hy0)))
      (try simp only [Act.put, List.setIfInBounds_toArray, List.set_cons_zero, List.set_cons_succ])
      go_cut [69] (fun v69 wc => ∃ (kq : Nat) (x69_38 : Bool), v69 = .bool x69_38 ∧ Aside0 (laws_FnExactGameOfRank.j1 kq a1 a2 t631 t634 t642 x69_38 a0_0 a0_1 a0_2 l0_3 = some r) ∧ Aside0 (kq ≤ kj12) ∧ Aside0 (Kd.R (Kd.int .i64) 3 wc w.heap.size (fun k_ => some k_ ≠ (v643 : Value).ownBlock) v632 t631) ∧ Aside0 (Kd.R (Kd.int .i64) 3 wc w.heap.size (fun k_ => some k_ ≠ (v632 : Value).ownBlock) v643 t642) ∧ Aside0 (Kd.R k70 70 wc w.heap.size (fun _ => True) (.slice Ao26 t638.length co26) t655) ∧ Aside0 (wc.heap[gb623]? = some (.cells #[.int .i64 a0_0, .int .i64 a0_1, .int .i64 a0_2, (.slice A0_3 l0_3.length c0_3)] 24 (0, 0))) ∧ Aside0 (wc.heap[gb641]? = some (.cells #[.int .i64 t635, .int .i64 t636, .int .i64 t637, (.slice Ao26 t638.length co26)] 30 (0, 0))) ∧ Aside0 (Below w.heap.size w wc))
      case first =>
       have H := HC39.out
       clear HC39
       by_cases c47 : t654 < 0
       ·rw [if_pos c47] at H
        have c47b0 : decide (t654 < 0) = true := decide_eq_true c47
        clear c47
        (first | rw [c47b0] | (simp only [i64_w, i32_w]; rw [c47b0]) | skip)
        have H' := Aside0.mk H
        clear H
        go_wp2
        go_meet
        case rel => exact ⟨_, (true), (by first | rfl | (simp; done) | (simp [*]; done)), H', ⟨by have := HJ12.out; first | omega | exact Nat.le_refl _⟩, ⟨by (with_reducible repeat (first | apply Kd.R_alloc | apply Kd.R_drewN | apply Kd.R_drew)); exact HO_8.out⟩, ⟨by (with_reducible repeat (first | apply Kd.R_alloc | apply Kd.R_drewN | apply Kd.R_drew)); exact HO_11.out⟩, ⟨by (with_reducible repeat (first | apply Kd.R_alloc | apply Kd.R_drewN | apply Kd.R_drew)); exact Kd.R_mono HO_642003.out (fun _ hk => trivial)⟩, ⟨by (with_reducible repeat (first | refine blk_drewN ?_ _ | refine blk_drew ?_ | refine blk_alloc ?_ _)); exact BK623.out⟩, ⟨by (with_reducible repeat (first | refine blk_drewN ?_ _ | refine blk_drew ?_ | refine blk_alloc ?_ _)); exact BK641.out⟩, ⟨hb_⟩⟩
       ·rw [if_neg c47] at H
        have c47b0 : decide (t654 < 0) = false := decide_eq_false c47
        clear c47
        (first | rw [c47b0] | (simp only [i64_w, i32_w]; rw [c47b0]) | skip)
        replace H := Option.bind_eq_some_iff.mp H
        obtain ⟨t656, A480, H⟩ := H
        replace H : (if t656 = true then (laws_FnExactGameOfRank.j1 kj12 a1 a2 t631 t634 t642 (t645 != t634) a0_0 a0_1 a0_2 l0_3) else (laws_FnExactGameOfRank.j1 kj12 a1 a2 t631 t634 t642 true a0_0 a0_1 a0_2 l0_3)) = some r := H
        have A48 := Aside0.mk A480
        clear A480
        by_cases c49 : t656 = true
        ·subst c49
         have H1 : (laws_FnExactGameOfRank.j1 kj12 a1 a2 t631 t634 t642 (t645 != t634) a0_0 a0_1 a0_2 l0_3) = some r := by rw [if_pos rfl] at H; exact H
         clear H
         have H := H1
         clear H1
         have H' := Aside0.mk H
         clear H
         obtain ⟨Ao50, co50, eo50⟩ := Kd.R_slice HO_11.out
         subst eo50
         obtain ⟨Ao51, co51, eo51⟩ := Kd.R_slice HO_8.out
         subst eo51
         go_wp2_with (first | (go_at_call 24; (with_reducible refine (laws_eqIntS.calls kj12 _ _ t642 _ _ t631 true _ ?side1 ?side2 ?side3 ?side4 A48.out).mono ?_); (case side1 => repeat (first | exact (Kd.R_reads' HO_11.out).2.2 | (with_reducible refine Kd.C_alloc ?_ _) | (with_reducible refine Kd.C_drewN ?_ _) | (with_reducible refine Kd.C_drew ?_))); (case side2 => exact (Kd.R_reads' HO_11.out).2.1); (case side3 => repeat (first | exact (Kd.R_reads' HO_8.out).2.2 | (with_reducible refine Kd.C_alloc ?_ _) | (with_reducible refine Kd.C_drewN ?_ _) | (with_reducible refine Kd.C_drew ?_))); (case side4 => exact (Kd.R_reads' HO_8.out).2.1); rintro e w' ⟨rfl, ⟨nd, rfl⟩⟩))
         go_meet
         case rel => exact ⟨_, ((t645 != t634)), (by first | rfl | (simp; done) | (simp [*]; done)), H', ⟨by have := HJ12.out; first | omega | exact Nat.le_refl _⟩, ⟨by (with_reducible repeat (first | apply Kd.R_alloc | apply Kd.R_drewN | apply Kd.R_drew)); exact HO_8.out⟩, ⟨by (with_reducible repeat (first | apply Kd.R_alloc | apply Kd.R_drewN | apply Kd.R_drew)); exact HO_11.out⟩, ⟨by (with_reducible repeat (first | apply Kd.R_alloc | apply Kd.R_drewN | apply Kd.R_drew)); exact Kd.R_mono HO_642003.out (fun _ hk => trivial)⟩, ⟨by (with_reducible repeat (first | refine blk_drewN ?_ _ | refine blk_drew ?_ | refine blk_alloc ?_ _)); exact BK623.out⟩, ⟨by (with_reducible repeat (first | refine blk_drewN ?_ _ | refine blk_drew ?_ | refine blk_alloc ?_ _)); exact BK641.out⟩, ⟨hb_⟩⟩
        ·replace c49 := Bool.eq_false_iff.mpr c49
         subst c49
         have H1 : (laws_FnExactGameOfRank.j1 kj12 a1 a2 t631 t634 t642 true a0_0 a0_1 a0_2 l0_3) = some r := by rw [if_neg (show ¬ (false = true) by decide)] at H; exact H
         clear H
         have H := H1
         clear H1
         have H' := Aside0.mk H
         clear H
         obtain ⟨Ao52, co52, eo52⟩ := Kd.R_slice HO_11.out
         subst eo52
         obtain ⟨Ao53, co53, eo53⟩ := Kd.R_slice HO_8.out
         subst eo53
         go_wp2_with (first | (go_at_call 24; (with_reducible refine (laws_eqIntS.calls kj12 _ _ t642 _ _ t631 false _ ?side1 ?side2 ?side3 ?side4 A48.out).mono ?_); (case side1 => repeat (first | exact (Kd.R_reads' HO_11.out).2.2 | (with_reducible refine Kd.C_alloc ?_ _) | (with_reducible refine Kd.C_drewN ?_ _) | (with_reducible refine Kd.C_drew ?_))); (case side2 => exact (Kd.R_reads' HO_11.out).2.1); (case side3 => repeat (first | exact (Kd.R_reads' HO_8.out).2.2 | (with_reducible refine Kd.C_alloc ?_ _) | (with_reducible refine Kd.C_drewN ?_ _) | (with_reducible refine Kd.C_drew ?_))); (case side4 => exact (Kd.R_reads' HO_8.out).2.1); rintro e w' ⟨rfl, ⟨nd, rfl⟩⟩))
         go_meet
         case rel => exact ⟨_, (true), (by first | rfl | (simp; done) | (simp [*]; done)), H', ⟨by have := HJ12.out; first | omega | exact Nat.le_refl _⟩, ⟨by (with_reducible repeat (first | apply Kd.R_alloc | apply Kd.R_drewN | apply Kd.R_drew)); exact HO_8.out⟩, ⟨by (with_reducible repeat (first | apply Kd.R_alloc | apply Kd.R_drewN | apply Kd.R_drew)); exact HO_11.out⟩, ⟨by (with_reducible repeat (first | apply Kd.R_alloc | apply Kd.R_drewN | apply Kd.R_drew)); exact Kd.R_mono HO_642003.out (fun _ hk => trivial)⟩, ⟨by (with_reducible repeat (first | refine blk_drewN ?_ _ | refine blk_drew ?_ | refine blk_alloc ?_ _)); exact BK623.out⟩, ⟨by (with_reducible repeat (first | refine blk_drewN ?_ _ | refine blk_drew ?_ | refine blk_alloc ?_ _)); exact BK641.out⟩, ⟨hb_⟩⟩
      case rest =>
       clear HC39
       try clear c1
       try clear c2
       try clear p2
       try clear c3
       try clear c4
       try clear c5
       try clear c5b0
       try clear c11
       try clear c14
       try clear c16
       try clear c18
       try clear c24
       try clear c29
       try clear c34
       try clear c37
       try clear c38
       try clear c39
       try clear c44
       try clear c47
       try clear c47b0
       try clear c49
       try clear hcz15_0
       try clear hcz15_1
       try clear hcz15_2
       try clear hcz15_3
       try clear hcz17_0
       try clear hcz17_1
       try clear hcz17_2
       try clear hcz17_3
       try clear hcz21_0
       try clear hcz21_1
       try clear hcz21_2
       try clear hcz21_3
       try clear hcz25_0
       try clear hcz25_1
       try clear hcz25_2
       try clear hcz25_3
       try clear hcz45_0
       try clear hcz45_1
       try clear hcz45_2
       try clear hcz45_3
       try clear hcz7_0
       try clear hcz7_1
       try clear hcz7_2
       try clear hcz7_3
       try clear hfz15_0
       try clear hfz15_1
       try clear hfz15_2
       try clear hfz15_3
       try clear hfz17_0
       try clear hfz17_1
       try clear hfz17_2
       try clear hfz17_3
       try clear hfz21_0
       try clear hfz21_1
       try clear hfz21_2
       try clear hfz21_3
       try clear hfz25_0
       try clear hfz25_1
       try clear hfz25_2
       try clear hfz25_3
       try clear hfz45_0
       try clear hfz45_1
       try clear hfz45_2
       try clear hfz45_3
       try clear hfz7_0
       try clear hfz7_1
       try clear hfz7_2
       try clear hfz7_3
       try clear p2
       obtain ⟨kq, x69_38, rfl, HA, HJ38, HO_8, HO_11, HO_642003, BK623, BK641, HB⟩ := hcut
       have hl642003_38 := (Kd.R_reads' HO_642003.out).1
       rw [hl642003_38] at HO_642003
       (try simp only [hl642003_38])
       (try simp only [hl642003_38] at BK623)
       (try simp only [hl642003_38] at BK641)
       (try simp only [hl642003_38] at HO_8)
       (try simp only [hl642003_38] at HO_11)
       cases kq with
       | zero => exact absurd HA.out (by simp [laws_FnExactGameOfRank.j1])
       | succ kj38 =>
        have H := HA.out
        clear HA
        simp only [laws_FnExactGameOfRank.j1] at H
        by_cases c54 : x69_38 = true
        ·subst c54
         have H1 : (some false) = some r := by rw [if_pos rfl] at H; exact H
         clear H
         have H := H1
         clear H1
         obtain rfl := Option.some.inj H
         go_wp2
         go_ret
         exact ⟨by first | rfl | (simp [errW_none, errW_some] <;> rfl) | (simp [*, errW_none, errW_some] <;> rfl), hb_⟩
        ·replace c54 := Bool.eq_false_iff.mpr c54
         subst c54
         have H1 : ((laws_markIntS.f kj38 t642 1).bind fun bt657 => ((laws_heldIntS.f kj38 bt657.2 1).bind fun t659 => (if t659 < 0 then (some false) else (if t659 = bt657.1 then ((laws_toBoard.f kj38 a0_0 a0_1 a0_2 l0_3).bind fun bt660 => ((impl_GameOfRank.f kj38 bt660.1 bt660.2.1 bt660.2.2.1 bt660.2.2.2 a1 a2).bind fun bt666 => ((laws_eqIntS.f kj38 bt666.1 t631).bind fun t670 => (if t670 = true then (laws_FnExactGameOfRank.j2 kj38 bt657.2 bt657.1 (bt666.2 != t634)) else (laws_FnExactGameOfRank.j2 kj38 bt657.2 bt657.1 true))))) else (some false))))) = some r := by rw [if_neg (show ¬ (false = true) by decide)] at H; exact H
         clear H
         have H := H1
         clear H1
         replace H := Option.bind_eq_some_iff.mp H
         obtain ⟨⟨t657, t658⟩, A550, H⟩ := H
         replace H : ((laws_heldIntS.f kj38 t658 1).bind fun t659 => (if t659 < 0 then (some false) else (if t659 = t657 then ((laws_toBoard.f kj38 a0_0 a0_1 a0_2 l0_3).bind fun bt660 => ((impl_GameOfRank.f kj38 bt660.1 bt660.2.1 bt660.2.2.1 bt660.2.2.2 a1 a2).bind fun bt666 => ((laws_eqIntS.f kj38 bt666.1 t631).bind fun t670 => (if t670 = true then (laws_FnExactGameOfRank.j2 kj38 t658 t657 (bt666.2 != t634)) else (laws_FnExactGameOfRank.j2 kj38 t658 t657 true))))) else (some false)))) = some r := H
         have A55 := Aside0.mk A550
         clear A550
         replace H := Option.bind_eq_some_iff.mp H
         obtain ⟨t659, A560, H⟩ := H
         replace H : (if t659 < 0 then (some false) else (if t659 = t657 then ((laws_toBoard.f kj38 a0_0 a0_1 a0_2 l0_3).bind fun bt660 => ((impl_GameOfRank.f kj38 bt660.1 bt660.2.1 bt660.2.2.1 bt660.2.2.2 a1 a2).bind fun bt666 => ((laws_eqIntS.f kj38 bt666.1 t631).bind fun t670 => (if t670 = true then (laws_FnExactGameOfRank.j2 kj38 t658 t657 (bt666.2 != t634)) else (laws_FnExactGameOfRank.j2 kj38 t658 t657 true))))) else (some false))) = some r := H
         have A56 := Aside0.mk A560
         clear A560
         by_cases c57 : t659 < 0
         ·rw [if_pos c57] at H
          have c57b0 : decide (t659 < 0) = true := decide_eq_true c57
          clear c57
          obtain rfl := Option.some.inj H
          obtain ⟨Ao58, co58, eo58⟩ := Kd.R_slice HO_11.out
          subst eo58
          go_wp2_with (first | ((with_reducible refine gate_callee (f := 30) rfl ?_); refine goesL_ (some 72) rfl rfl Try.func30 (by kernel_rfl) rfl #[.slice Ao58 t642.length co58, .int .i64 1] rfl (by (try simp only [List.map_toArray, List.map_cons, List.map_nil]); first | done | rfl | (simp only [List.length_drop, List.length_take]; rfl)) ?_; (with_reducible refine (laws_markIntS.calls kj38 (fun k_ => some k_ = (.slice Ao58 t642.length co58 : Value).ownBlock) (.slice Ao58 t642.length co58) t642 1 t657 t658 w _ ?side1 ?side2 A55.out).mono ?_); (case side1 => repeat (first | (with_reducible first | exact HB.out | apply below_alloc | apply pw_below_drewN | apply below_drew1 | refine below_set ?_ GE623.out | refine below_set ?_ GE641.out) | exact HB.out)); (case side2 => exact Kd.R_tight rfl HO_11.out); rintro e w59 ⟨rfl, hy0, hb, hkp⟩; refine ⟨_, rfl, ?_⟩; have n0_ := Aside0.mk (Kd.R_mono (ok' := fun k_ => some k_ ≠ (.slice Ao58 t642.length co58 : Value).ownBlock) (Kd.R_keptB (HO_8.out) hkp (fun k_ hk_ hs_ => (hk_) hs_)) (fun k_ hk_ => hk_.1)); have n1_ := Aside0.mk (Kd.R_reok rfl hy0 (fun k_ e_ => HO_11.out.1 k_ e_)); have n2_ := Aside0.mk (Kd.R_mono (ok' := fun k_ => True) (Kd.R_keptB ((Kd.R_apart' HO_642003.out (Kd.R_typed HO_11.out) (by decide))) hkp (fun k_ hk_ hs_ => (hk_.2) hs_)) (fun k_ hk_ => trivial)); have n3_ := Aside0.mk (blk_kept (by (with_reducible repeat (first | refine blk_drewN ?_ _ | refine blk_drew ?_ | refine blk_alloc ?_ _)); exact BK623.out) hkp (fun hs_ => (fun e_ => (Kd.R_ne HO_11.out BK623.out (by decide)) e_) hs_)); have n4_ := Aside0.mk (blk_kept (by (with_reducible repeat (first | refine blk_drewN ?_ _ | refine blk_drew ?_ | refine blk_alloc ?_ _)); exact BK641.out) hkp (fun hs_ => (fun e_ => (Kd.R_ne HO_11.out BK641.out (by decide)) e_) hs_)); have n5_ := Aside0.mk (hb); clear HO_8; clear HO_11; clear HO_642003; clear BK623; clear BK641; clear HB; have HO_8 := n0_; have HO_11 := n1_; have HO_642003 := n2_; have BK623 := n3_; have BK641 := n4_; have HB := n5_; clear n0_ n1_ n2_ n3_ n4_ n5_; (try clear hb); (try clear hkp); (try clear hy0)) | ((with_reducible refine gate_callee (f := 31) rfl ?_); refine goesL_ (some 75) rfl rfl Try.func31 (by kernel_rfl) rfl #[.slice Ao58 t658.length co58, .int .i64 1] rfl (by (try simp only [List.map_toArray, List.map_cons, List.map_nil]); first | done | (rw [show t658.length = t642.length from (Kd.R_reads' HO_11.out).1.symm] <;> rfl) | rfl | (simp only [List.length_drop, List.length_take]; rfl)) ?_; (with_reducible refine (laws_heldIntS.calls kj38 _ _ t658 1 t659 _ ?side1 ?side2 A56.out).mono ?_); (case side1 => repeat (first | exact (Kd.R_reads' HO_11.out).2.2 | (with_reducible refine Kd.C_alloc ?_ _) | (with_reducible refine Kd.C_drewN ?_ _) | (with_reducible refine Kd.C_drew ?_))); (case side2 => rw [show t658.length = t642.length from (Kd.R_reads' HO_11.out).1.symm]; exact (Kd.R_reads' HO_11.out).2.1); rintro e w' ⟨rfl, ⟨nd, rfl⟩⟩; refine ⟨_, rfl, ?_⟩))
          go_ret
          exact ⟨by first | rfl | (simp [errW_none, errW_some] <;> rfl) | (simp [*, errW_none, errW_some] <;> rfl), hb_⟩
         ·rw [if_neg c57] at H
          have c57b0 : decide (t659 < 0) = false := decide_eq_false c57
          clear c57
          by_cases c60 : t659 = t657
          ·rw [if_pos c60] at H
           have c60b0 : (t659 == t657) = true := beq_iff_eq.mpr c60
           have c60b1 : (t659 != t657) = false := bne_eq_false_iff_eq.mpr c60
           clear c60
           replace H := Option.bind_eq_some_iff.mp H
           obtain ⟨⟨t660, t661, t662, t663⟩, A610, H⟩ := H
           replace H : ((impl_GameOfRank.f kj38 t660 t661 t662 t663 a1 a2).bind fun bt666 => ((laws_eqIntS.f kj38 bt666.1 t631).bind fun t670 => (if t670 = true then (laws_FnExactGameOfRank.j2 kj38 t658 t657 (bt666.2 != t634)) else (laws_FnExactGameOfRank.j2 kj38 t658 t657 true)))) = some r := H
           have A61 := Aside0.mk A610
           clear A610
           replace H := Option.bind_eq_some_iff.mp H
           obtain ⟨⟨t666, t669⟩, A620, H⟩ := H
           replace H : ((laws_eqIntS.f kj38 t666 t631).bind fun t670 => (if t670 = true then (laws_FnExactGameOfRank.j2 kj38 t658 t657 (t669 != t634)) else (laws_FnExactGameOfRank.j2 kj38 t658 t657 true))) = some r := H
           have A62 := Aside0.mk A620
           clear A620
           have HC63 := Aside0.mk H
           clear H
           obtain ⟨Ao64, co64, eo64⟩ := Kd.R_slice HO_11.out
           subst eo64
           go_upto_region 25 with (first | ((with_reducible refine gate_callee (f := 30) rfl ?_); refine goesL_ (some 72) rfl rfl Try.func30 (by kernel_rfl) rfl #[.slice Ao64 t642.length co64, .int .i64 1] rfl (by (try simp only [List.map_toArray, List.map_cons, List.map_nil]); first | done | rfl | (simp only [List.length_drop, List.length_take]; rfl)) ?_; (with_reducible refine (laws_markIntS.calls kj38 (fun k_ => some k_ = (.slice Ao64 t642.length co64 : Value).ownBlock) (.slice Ao64 t642.length co64) t642 1 t657 t658 w _ ?side1 ?side2 A55.out).mono ?_); (case side1 => repeat (first | (with_reducible first | exact HB.out | apply below_alloc | apply pw_below_drewN | apply below_drew1 | refine below_set ?_ GE623.out | refine below_set ?_ GE641.out) | exact HB.out)); (case side2 => exact Kd.R_tight rfl HO_11.out); rintro e w65 ⟨rfl, hy0, hb, hkp⟩; refine ⟨_, rfl, ?_⟩; have n0_ := Aside0.mk (Kd.R_mono (ok' := fun k_ => some k_ ≠ (.slice Ao64 t642.length co64 : Value).ownBlock) (Kd.R_keptB (HO_8.out) hkp (fun k_ hk_ hs_ => (hk_) hs_)) (fun k_ hk_ => hk_.1)); have n1_ := Aside0.mk (Kd.R_reok rfl hy0 (fun k_ e_ => HO_11.out.1 k_ e_)); have n2_ := Aside0.mk (Kd.R_mono (ok' := fun k_ => True) (Kd.R_keptB ((Kd.R_apart' HO_642003.out (Kd.R_typed HO_11.out) (by decide))) hkp (fun k_ hk_ hs_ => (hk_.2) hs_)) (fun k_ hk_ => trivial)); have n3_ := Aside0.mk (blk_kept (by (with_reducible repeat (first | refine blk_drewN ?_ _ | refine blk_drew ?_ | refine blk_alloc ?_ _)); exact BK623.out) hkp (fun hs_ => (fun e_ => (Kd.R_ne HO_11.out BK623.out (by decide)) e_) hs_)); have n4_ := Aside0.mk (blk_kept (by (with_reducible repeat (first | refine blk_drewN ?_ _ | refine blk_drew ?_ | refine blk_alloc ?_ _)); exact BK641.out) hkp (fun hs_ => (fun e_ => (Kd.R_ne HO_11.out BK641.out (by decide)) e_) hs_)); have n5_ := Aside0.mk (hb); clear HO_8; clear HO_11; clear HO_642003; clear BK623; clear BK641; clear HB; have HO_8 := n0_; have HO_11 := n1_; have HO_642003 := n2_; have BK623 := n3_; have BK641 := n4_; have HB := n5_; clear n0_ n1_ n2_ n3_ n4_ n5_; (try clear hb); (try clear hkp); (try clear hy0)) | ((with_reducible refine gate_callee (f := 31) rfl ?_); refine goesL_ (some 75) rfl rfl Try.func31 (by kernel_rfl) rfl #[.slice Ao64 t658.length co64, .int .i64 1] rfl (by (try simp only [List.map_toArray, List.map_cons, List.map_nil]); first | done | (rw [show t658.length = t642.length from (Kd.R_reads' HO_11.out).1.symm] <;> rfl) | rfl | (simp only [List.length_drop, List.length_take]; rfl)) ?_; (with_reducible refine (laws_heldIntS.calls kj38 _ _ t658 1 t659 _ ?side1 ?side2 A56.out).mono ?_); (case side1 => repeat (first | exact (Kd.R_reads' HO_11.out).2.2 | (with_reducible refine Kd.C_alloc ?_ _) | (with_reducible refine Kd.C_drewN ?_ _) | (with_reducible refine Kd.C_drew ?_))); (case side2 => rw [show t658.length = t642.length from (Kd.R_reads' HO_11.out).1.symm]; exact (Kd.R_reads' HO_11.out).2.1); rintro e w' ⟨rfl, ⟨nd, rfl⟩⟩; refine ⟨_, rfl, ?_⟩; have hnb66 := NB623_641.out; have hnc66 := NB641_623.out; have hcz67_0 : w65.cell? ⟨gb623, 0, none⟩ = some (.int .i64 a0_0) := (blk_cell BK623.out 0).trans rfl; have hcz67_1 : w65.cell? ⟨gb623, 1, none⟩ = some (.int .i64 a0_1) := (blk_cell BK623.out 1).trans rfl; have hcz67_2 : w65.cell? ⟨gb623, 2, none⟩ = some (.int .i64 a0_2) := (blk_cell BK623.out 2).trans rfl; have hcz67_3 : w65.cell? ⟨gb623, 3, none⟩ = some (.slice A0_3 l0_3.length c0_3) := (blk_cell BK623.out 3).trans rfl; have hfz67_0 := blk_frozen BK623.out 0; have hfz67_1 := blk_frozen BK623.out 1; have hfz67_2 := blk_frozen BK623.out 2; have hfz67_3 := blk_frozen BK623.out 3) | ((with_reducible refine gate_callee (f := 16) rfl ?_); refine goesL_ (some 83) rfl rfl Try.func16 (by kernel_rfl) rfl #[.agg #[.int .i64 a0_0, .int .i64 a0_1, .int .i64 a0_2, .slice A0_3 l0_3.length c0_3]] rfl (by (try simp only [List.map_toArray, List.map_cons, List.map_nil]); first | done | rfl | (simp only [List.length_drop, List.length_take]; rfl)) ?_; (with_reducible refine (laws_toBoard.calls kj38 a0_0 a0_1 a0_2 _ _ l0_3 t660 t661 t662 t663 _ ?side1 ?side2 A61.out).mono ?_); (case side1 => repeat (first | exact (Kd.C_below HR0_3.out hb_) | (with_reducible refine Kd.C_alloc ?_ _) | (with_reducible refine Kd.C_drewN ?_ _) | (with_reducible refine Kd.C_drew ?_))); (case side2 => exact HC0_3.out); rintro e w68 ⟨v664, rfl, ho0, hb⟩; refine ⟨_, rfl, ?_⟩; have n0_ := Aside0.mk (Kd.R_below (by (with_reducible repeat (first | apply Kd.R_alloc | apply Kd.R_drewN | apply Kd.R_drew)); exact HO_8.out) hb); have n1_ := Aside0.mk (Kd.R_below (by (with_reducible repeat (first | apply Kd.R_alloc | apply Kd.R_drewN | apply Kd.R_drew)); exact HO_11.out) hb); have n2_ := Aside0.mk (Kd.R_elder' (by (with_reducible repeat (first | apply Kd.R_alloc | apply Kd.R_drewN | apply Kd.R_drew)); exact HO_642003.out) (Kd.R_base ho0) hb); have n3_ := Aside0.mk (Kd.R_lower (Kd.R_new' ho0 (Kd.R_lt (by (with_reducible repeat (first | apply Kd.R_alloc | apply Kd.R_drewN | apply Kd.R_drew)); exact HO_642003.out))) (below_size hb_)); have n4_ := Aside0.mk (blk_below (g := gb623) (o := .cells #[.int .i64 a0_0, .int .i64 a0_1, .int .i64 a0_2, .slice A0_3 l0_3.length c0_3] 24 (0, 0)) (by (with_reducible repeat (first | refine blk_drewN ?_ _ | refine blk_drew ?_ | refine blk_alloc ?_ _)); exact BK623.out) hb); have n5_ := Aside0.mk (blk_below (g := gb641) (o := .cells #[.int .i64 t635, .int .i64 t636, .int .i64 t637, .slice Ao26 t655.length co26] 30 (0, 0)) (by (with_reducible repeat (first | refine blk_drewN ?_ _ | refine blk_drew ?_ | refine blk_alloc ?_ _)); exact BK641.out) hb); have n6_ := Aside0.mk (below_step hb_ hb); clear HO_8; clear HO_11; clear HO_642003; clear BK623; clear BK641; clear HB; have HO_8 := n0_; have HO_11 := n1_; have HO_642003 := n2_; have HO665 := n3_; have BK623 := n4_; have BK641 := n5_; have HB := n6_; clear n0_ n1_ n2_ n3_ n4_ n5_ n6_; (try clear hb); (try clear hb2); (try clear hk); (try clear hi); (try clear ho0); obtain ⟨Ao69, co69, eo69⟩ := Kd.R_slice HO665.out; subst eo69) | ((with_reducible refine gate_callee (f := 39) rfl ?_); refine goesL_ (some 86) rfl rfl Try.func39 (by kernel_rfl) rfl #[.agg #[.int .i64 t660, .int .i64 t661, .int .i64 t662, .slice Ao69 t663.length co69], .int .i64 a1, .int .i64 a2] rfl (by (try simp only [List.map_toArray, List.map_cons, List.map_nil]); first | done | rfl | (simp only [List.length_drop, List.length_take]; rfl)) ?_; (with_reducible refine (impl_GameOfRank.calls kj38 t660 t661 t662 _ _ t663 a1 a2 t666 t669 _ ?side1 ?side2 A62.out).mono ?_); (case side1 => repeat (first | exact (Kd.R_reads' HO665.out).2.2 | (with_reducible refine Kd.C_alloc ?_ _) | (with_reducible refine Kd.C_drewN ?_ _) | (with_reducible refine Kd.C_drew ?_))); (case side2 => exact (Kd.R_reads' HO665.out).2.1); rintro e w70 ⟨v667, rfl, ho0, hb⟩; refine ⟨_, rfl, ?_⟩; have n0_ := Aside0.mk (Kd.R_elder' (by (with_reducible repeat (first | apply Kd.R_alloc | apply Kd.R_drewN | apply Kd.R_drew)); exact HO_8.out) (Kd.R_base ho0) hb); have n1_ := Aside0.mk (Kd.R_elder' (by (with_reducible repeat (first | apply Kd.R_alloc | apply Kd.R_drewN | apply Kd.R_drew)); exact HO_11.out) (Kd.R_base ho0) hb); have n2_ := Aside0.mk (Kd.R_below (by (with_reducible repeat (first | apply Kd.R_alloc | apply Kd.R_drewN | apply Kd.R_drew)); exact HO_642003.out) hb); have n3_ := Aside0.mk (Kd.R_below (by (with_reducible repeat (first | apply Kd.R_alloc | apply Kd.R_drewN | apply Kd.R_drew)); exact HO665.out) hb); have n4_ := Aside0.mk (Kd.R_lower (Kd.R_new' (Kd.R_new' ho0 (Kd.R_lt (by (with_reducible repeat (first | apply Kd.R_alloc | apply Kd.R_drewN | apply Kd.R_drew)); exact HO_8.out))) (Kd.R_lt (by (with_reducible repeat (first | apply Kd.R_alloc | apply Kd.R_drewN | apply Kd.R_drew)); exact HO_11.out))) (below_size hb_)); have n5_ := Aside0.mk (blk_below (g := gb623) (o := .cells #[.int .i64 a0_0, .int .i64 a0_1, .int .i64 a0_2, .slice A0_3 l0_3.length c0_3] 24 (0, 0)) (by (with_reducible repeat (first | refine blk_drewN ?_ _ | refine blk_drew ?_ | refine blk_alloc ?_ _)); exact BK623.out) hb); have n6_ := Aside0.mk (blk_below (g := gb641) (o := .cells #[.int .i64 t635, .int .i64 t636, .int .i64 t637, .slice Ao26 t655.length co26] 30 (0, 0)) (by (with_reducible repeat (first | refine blk_drewN ?_ _ | refine blk_drew ?_ | refine blk_alloc ?_ _)); exact BK641.out) hb); have n7_ := Aside0.mk (below_step hb_ hb); clear HO_8; clear HO_11; clear HO_642003; clear HO665; clear BK623; clear BK641; clear HB; have HO_8 := n0_; have HO_11 := n1_; have HO_642003 := n2_; have HO665 := n3_; have HO668 := n4_; have BK623 := n5_; have BK641 := n6_; have HB := n7_; clear n0_ n1_ n2_ n3_ n4_ n5_ n6_ n7_; (try clear hb); (try clear hb2); (try clear hk); (try clear hi); (try clear ho0)))
           (try simp only [Act.put, List.setIfInBounds_toArray, List.set_cons_zero, List.set_cons_succ])
           go_cut [97] (fun v97 wc => ∃ (kq : Nat) (x97_62 : Bool), v97 = .bool x97_62 ∧ Aside0 (laws_FnExactGameOfRank.j2 kq t658 t657 x97_62 = some r) ∧ Aside0 (kq ≤ kj38) ∧ Aside0 (Kd.R (Kd.int .i64) 3 wc w.heap.size (fun _ => True) (.slice Ao64 t642.length co64) t658) ∧ Aside0 (Kd.R k70 70 wc w.heap.size (fun _ => True) (.slice Ao26 t655.length co26) t655) ∧ Aside0 (wc.heap[gb623]? = some (.cells #[.int .i64 a0_0, .int .i64 a0_1, .int .i64 a0_2, (.slice A0_3 l0_3.length c0_3)] 24 (0, 0))) ∧ Aside0 (wc.heap[gb641]? = some (.cells #[.int .i64 t635, .int .i64 t636, .int .i64 t637, (.slice Ao26 t655.length co26)] 30 (0, 0))) ∧ Aside0 (Below w.heap.size w wc))
           case first =>
            have H := HC63.out
            clear HC63
            replace H := Option.bind_eq_some_iff.mp H
            obtain ⟨t670, A710, H⟩ := H
            replace H : (if t670 = true then (laws_FnExactGameOfRank.j2 kj38 t658 t657 (t669 != t634)) else (laws_FnExactGameOfRank.j2 kj38 t658 t657 true)) = some r := H
            have A71 := Aside0.mk A710
            clear A710
            by_cases c72 : t670 = true
            ·subst c72
             have H1 : (laws_FnExactGameOfRank.j2 kj38 t658 t657 (t669 != t634)) = some r := by rw [if_pos rfl] at H; exact H
             clear H
             have H := H1
             clear H1
             have H' := Aside0.mk H
             clear H
             obtain ⟨Ao73, co73, eo73⟩ := Kd.R_slice HO668.out
             subst eo73
             obtain ⟨Ao74, co74, eo74⟩ := Kd.R_slice HO_8.out
             subst eo74
             go_wp2_with (first | ((with_reducible refine gate_callee (f := 24) rfl ?_); refine goesL_ (some 91) rfl rfl Try.func24 (by kernel_rfl) rfl #[.slice Ao73 t666.length co73, .slice Ao74 t631.length co74] rfl (by (try simp only [List.map_toArray, List.map_cons, List.map_nil]); first | done | rfl | (simp only [List.length_drop, List.length_take]; rfl)) ?_; (with_reducible refine (laws_eqIntS.calls kj38 _ _ t666 _ _ t631 true _ ?side1 ?side2 ?side3 ?side4 A71.out).mono ?_); (case side1 => repeat (first | exact (Kd.R_reads' HO668.out).2.2 | (with_reducible refine Kd.C_alloc ?_ _) | (with_reducible refine Kd.C_drewN ?_ _) | (with_reducible refine Kd.C_drew ?_))); (case side2 => exact (Kd.R_reads' HO668.out).2.1); (case side3 => repeat (first | exact (Kd.R_reads' HO_8.out).2.2 | (with_reducible refine Kd.C_alloc ?_ _) | (with_reducible refine Kd.C_drewN ?_ _) | (with_reducible refine Kd.C_drew ?_))); (case side4 => exact (Kd.R_reads' HO_8.out).2.1); rintro e w' ⟨rfl, ⟨nd, rfl⟩⟩; refine ⟨_, rfl, ?_⟩))
             go_meet
             case rel => exact ⟨_, ((t669 != t634)), (by first | rfl | (simp; done) | (simp [*]; done)), H', ⟨by have := HJ12.out; have := HJ38.out; first | omega | exact Nat.le_refl _⟩, ⟨by (try simp only [hl642003_38]); (with_reducible repeat (first | apply Kd.R_alloc | apply Kd.R_drewN | apply Kd.R_drew)); exact Kd.R_mono HO_11.out (fun _ hk => trivial)⟩, ⟨by (try simp only [hl642003_38]); (with_reducible repeat (first | apply Kd.R_alloc | apply Kd.R_drewN | apply Kd.R_drew)); exact Kd.R_mono HO_642003.out (fun _ hk => trivial)⟩, ⟨by (try simp only [hl642003_38]); (with_reducible repeat (first | refine blk_drewN ?_ _ | refine blk_drew ?_ | refine blk_alloc ?_ _)); exact BK623.out⟩, ⟨by (try simp only [hl642003_38]); (with_reducible repeat (first | refine blk_drewN ?_ _ | refine blk_drew ?_ | refine blk_alloc ?_ _)); exact BK641.out⟩, ⟨hb_⟩⟩
            ·replace c72 := Bool.eq_false_iff.mpr c72
             subst c72
             have H1 : (laws_FnExactGameOfRank.j2 kj38 t658 t657 true) = some r := by rw [if_neg (show ¬ (false = true) by decide)] at H; exact H
             clear H
             have H := H1
             clear H1
             have H' := Aside0.mk H
             clear H
             obtain ⟨Ao75, co75, eo75⟩ := Kd.R_slice HO668.out
             subst eo75
             obtain ⟨Ao76, co76, eo76⟩ := Kd.R_slice HO_8.out
             subst eo76
             go_wp2_with (first | ((with_reducible refine gate_callee (f := 24) rfl ?_); refine goesL_ (some 91) rfl rfl Try.func24 (by kernel_rfl) rfl #[.slice Ao75 t666.length co75, .slice Ao76 t631.length co76] rfl (by (try simp only [List.map_toArray, List.map_cons, List.map_nil]); first | done | rfl | (simp only [List.length_drop, List.length_take]; rfl)) ?_; (with_reducible refine (laws_eqIntS.calls kj38 _ _ t666 _ _ t631 false _ ?side1 ?side2 ?side3 ?side4 A71.out).mono ?_); (case side1 => repeat (first | exact (Kd.R_reads' HO668.out).2.2 | (with_reducible refine Kd.C_alloc ?_ _) | (with_reducible refine Kd.C_drewN ?_ _) | (with_reducible refine Kd.C_drew ?_))); (case side2 => exact (Kd.R_reads' HO668.out).2.1); (case side3 => repeat (first | exact (Kd.R_reads' HO_8.out).2.2 | (with_reducible refine Kd.C_alloc ?_ _) | (with_reducible refine Kd.C_drewN ?_ _) | (with_reducible refine Kd.C_drew ?_))); (case side4 => exact (Kd.R_reads' HO_8.out).2.1); rintro e w' ⟨rfl, ⟨nd, rfl⟩⟩; refine ⟨_, rfl, ?_⟩))
             go_meet
             case rel => exact ⟨_, (true), (by first | rfl | (simp; done) | (simp [*]; done)), H', ⟨by have := HJ12.out; have := HJ38.out; first | omega | exact Nat.le_refl _⟩, ⟨by (try simp only [hl642003_38]); (with_reducible repeat (first | apply Kd.R_alloc | apply Kd.R_drewN | apply Kd.R_drew)); exact Kd.R_mono HO_11.out (fun _ hk => trivial)⟩, ⟨by (try simp only [hl642003_38]); (with_reducible repeat (first | apply Kd.R_alloc | apply Kd.R_drewN | apply Kd.R_drew)); exact Kd.R_mono HO_642003.out (fun _ hk => trivial)⟩, ⟨by (try simp only [hl642003_38]); (with_reducible repeat (first | refine blk_drewN ?_ _ | refine blk_drew ?_ | refine blk_alloc ?_ _)); exact BK623.out⟩, ⟨by (try simp only [hl642003_38]); (with_reducible repeat (first | refine blk_drewN ?_ _ | refine blk_drew ?_ | refine blk_alloc ?_ _)); exact BK641.out⟩, ⟨hb_⟩⟩
           case rest =>
            clear HC63
            try clear c1
            try clear c2
            try clear p2
            try clear c3
            try clear c4
            try clear c5
            try clear c5b0
            try clear c6
            try clear c7
            try clear c11
            try clear c14
            try clear c16
            try clear c18
            try clear c24
            try clear c29
            try clear c30
            try clear c31
            try clear c34
            try clear c37
            try clear c38
            try clear c39
            try clear c44
            try clear c47
            try clear c47b0
            try clear c49
            try clear c54
            try clear c57
            try clear c57b0
            try clear c60
            try clear c60b0
            try clear c60b1
            try clear c66
            try clear c72
            try clear hcz15_0
            try clear hcz15_1
            try clear hcz15_2
            try clear hcz15_3
            try clear hcz17_0
            try clear hcz17_1
            try clear hcz17_2
            try clear hcz17_3
            try clear hcz21_0
            try clear hcz21_1
            try clear hcz21_2
            try clear hcz21_3
            try clear hcz25_0
            try clear hcz25_1
            try clear hcz25_2
            try clear hcz25_3
            try clear hcz45_0
            try clear hcz45_1
            try clear hcz45_2
            try clear hcz45_3
            try clear hcz67_0
            try clear hcz67_1
            try clear hcz67_2
            try clear hcz67_3
            try clear hcz7_0
            try clear hcz7_1
            try clear hcz7_2
            try clear hcz7_3
            try clear hfz15_0
            try clear hfz15_1
            try clear hfz15_2
            try clear hfz15_3
            try clear hfz17_0
            try clear hfz17_1
            try clear hfz17_2
            try clear hfz17_3
            try clear hfz21_0
            try clear hfz21_1
            try clear hfz21_2
            try clear hfz21_3
            try clear hfz25_0
            try clear hfz25_1
            try clear hfz25_2
            try clear hfz25_3
            try clear hfz45_0
            try clear hfz45_1
            try clear hfz45_2
            try clear hfz45_3
            try clear hfz67_0
            try clear hfz67_1
            try clear hfz67_2
            try clear hfz67_3
            try clear hfz7_0
            try clear hfz7_1
            try clear hfz7_2
            try clear hfz7_3
            try clear p2
            obtain ⟨kq, x97_62, rfl, HA, HJ62, HO_11, HO_642003, BK623, BK641, HB⟩ := hcut
            have hl11_62 := (Kd.R_reads' HO_11.out).1
            rw [hl11_62] at HO_11
            (try simp only [hl11_62])
            (try simp only [hl11_62] at BK623)
            (try simp only [hl11_62] at BK641)
            (try simp only [hl11_62] at HO_642003)
            cases kq with
            | zero => exact absurd HA.out (by simp [laws_FnExactGameOfRank.j2])
            | succ kj62 =>
             have H := HA.out
             clear HA
             simp only [laws_FnExactGameOfRank.j2] at H
             by_cases c77 : x97_62 = true
             ·subst c77
              have H1 : (some false) = some r := by rw [if_pos rfl] at H; exact H
              clear H
              have H := H1
              clear H1
              obtain rfl := Option.some.inj H
              go_wp2
              go_ret
              exact ⟨by first | rfl | (simp [errW_none, errW_some] <;> rfl) | (simp [*, errW_none, errW_some] <;> rfl), hb_⟩
             ·replace c77 := Bool.eq_false_iff.mpr c77
              subst c77
              have H1 : ((laws_heldIntS.f kj62 t658 1).bind fun t671 => (if t671 < 0 then (some false) else (if t671 = t657 then (some true) else (some false)))) = some r := by rw [if_neg (show ¬ (false = true) by decide)] at H; exact H
              clear H
              have H := H1
              clear H1
              replace H := Option.bind_eq_some_iff.mp H
              obtain ⟨t671, A780, H⟩ := H
              replace H : (if t671 < 0 then (some false) else (if t671 = t657 then (some true) else (some false))) = some r := H
              have A78 := Aside0.mk A780
              clear A780
              by_cases c79 : t671 < 0
              ·rw [if_pos c79] at H
               have c79b0 : decide (t671 < 0) = true := decide_eq_true c79
               clear c79
               obtain rfl := Option.some.inj H
               go_wp2_with (first | ((with_reducible refine gate_callee (f := 31) rfl ?_); refine goesL_ (some 100) rfl rfl Try.func31 (by kernel_rfl) rfl #[.slice Ao64 t658.length co64, .int .i64 1] rfl (by (try simp only [List.map_toArray, List.map_cons, List.map_nil]); first | done | rfl | (simp only [List.length_drop, List.length_take]; rfl)) ?_; (with_reducible refine (laws_heldIntS.calls kj62 _ _ t658 1 t671 _ ?side1 ?side2 A78.out).mono ?_); (case side1 => repeat (first | exact (Kd.R_reads' HO_11.out).2.2 | (with_reducible refine Kd.C_alloc ?_ _) | (with_reducible refine Kd.C_drewN ?_ _) | (with_reducible refine Kd.C_drew ?_))); (case side2 => exact (Kd.R_reads' HO_11.out).2.1); rintro e w' ⟨rfl, ⟨nd, rfl⟩⟩; refine ⟨_, rfl, ?_⟩))
               go_ret
               exact ⟨by first | rfl | (simp [errW_none, errW_some] <;> rfl) | (simp [*, errW_none, errW_some] <;> rfl), hb_⟩
              ·rw [if_neg c79] at H
               have c79b0 : decide (t671 < 0) = false := decide_eq_false c79
               clear c79
               by_cases c80 : t671 = t657
               ·rw [if_pos c80] at H
                have c80b0 : (t671 == t657) = true := beq_iff_eq.mpr c80
                have c80b1 : (t671 != t657) = false := bne_eq_false_iff_eq.mpr c80
                clear c80
                obtain rfl := Option.some.inj H
                go_wp2_with (first | ((with_reducible refine gate_callee (f := 31) rfl ?_); refine goesL_ (some 100) rfl rfl Try.func31 (by kernel_rfl) rfl #[.slice Ao64 t658.length co64, .int .i64 1] rfl (by (try simp only [List.map_toArray, List.map_cons, List.map_nil]); first | done | rfl | (simp only [List.length_drop, List.length_take]; rfl)) ?_; (with_reducible refine (laws_heldIntS.calls kj62 _ _ t658 1 t671 _ ?side1 ?side2 A78.out).mono ?_); (case side1 => repeat (first | exact (Kd.R_reads' HO_11.out).2.2 | (with_reducible refine Kd.C_alloc ?_ _) | (with_reducible refine Kd.C_drewN ?_ _) | (with_reducible refine Kd.C_drew ?_))); (case side2 => exact (Kd.R_reads' HO_11.out).2.1); rintro e w' ⟨rfl, ⟨nd, rfl⟩⟩; refine ⟨_, rfl, ?_⟩))
                go_ret
                exact ⟨by first | rfl | (simp [errW_none, errW_some] <;> rfl) | (simp [*, errW_none, errW_some] <;> rfl), hb_⟩
               ·rw [if_neg c80] at H
                have c80b0 : (t671 == t657) = false := beq_eq_false_iff_ne.mpr c80
                have c80b1 : (t671 != t657) = true := bne_iff_ne.mpr c80
                obtain rfl := Option.some.inj H
                go_wp2_with (first | ((with_reducible refine gate_callee (f := 31) rfl ?_); refine goesL_ (some 100) rfl rfl Try.func31 (by kernel_rfl) rfl #[.slice Ao64 t658.length co64, .int .i64 1] rfl (by (try simp only [List.map_toArray, List.map_cons, List.map_nil]); first | done | rfl | (simp only [List.length_drop, List.length_take]; rfl)) ?_; (with_reducible refine (laws_heldIntS.calls kj62 _ _ t658 1 t671 _ ?side1 ?side2 A78.out).mono ?_); (case side1 => repeat (first | exact (Kd.R_reads' HO_11.out).2.2 | (with_reducible refine Kd.C_alloc ?_ _) | (with_reducible refine Kd.C_drewN ?_ _) | (with_reducible refine Kd.C_drew ?_))); (case side2 => exact (Kd.R_reads' HO_11.out).2.1); rintro e w' ⟨rfl, ⟨nd, rfl⟩⟩; refine ⟨_, rfl, ?_⟩))
                go_ret
                exact ⟨by first | rfl | (simp [errW_none, errW_some] <;> rfl) | (simp [*, errW_none, errW_some] <;> rfl), hb_⟩
          ·rw [if_neg c60] at H
           have c60b0 : (t659 == t657) = false := beq_eq_false_iff_ne.mpr c60
           have c60b1 : (t659 != t657) = true := bne_iff_ne.mpr c60
           obtain rfl := Option.some.inj H
           obtain ⟨Ao81, co81, eo81⟩ := Kd.R_slice HO_11.out
           subst eo81
           go_wp2_with (first | ((with_reducible refine gate_callee (f := 30) rfl ?_); refine goesL_ (some 72) rfl rfl Try.func30 (by kernel_rfl) rfl #[.slice Ao81 t642.length co81, .int .i64 1] rfl (by (try simp only [List.map_toArray, List.map_cons, List.map_nil]); first | done | rfl | (simp only [List.length_drop, List.length_take]; rfl)) ?_; (with_reducible refine (laws_markIntS.calls kj38 (fun k_ => some k_ = (.slice Ao81 t642.length co81 : Value).ownBlock) (.slice Ao81 t642.length co81) t642 1 t657 t658 w _ ?side1 ?side2 A55.out).mono ?_); (case side1 => repeat (first | (with_reducible first | exact HB.out | apply below_alloc | apply pw_below_drewN | apply below_drew1 | refine below_set ?_ GE623.out | refine below_set ?_ GE641.out) | exact HB.out)); (case side2 => exact Kd.R_tight rfl HO_11.out); rintro e w82 ⟨rfl, hy0, hb, hkp⟩; refine ⟨_, rfl, ?_⟩; have n0_ := Aside0.mk (Kd.R_mono (ok' := fun k_ => some k_ ≠ (.slice Ao81 t642.length co81 : Value).ownBlock) (Kd.R_keptB (HO_8.out) hkp (fun k_ hk_ hs_ => (hk_) hs_)) (fun k_ hk_ => hk_.1)); have n1_ := Aside0.mk (Kd.R_reok rfl hy0 (fun k_ e_ => HO_11.out.1 k_ e_)); have n2_ := Aside0.mk (Kd.R_mono (ok' := fun k_ => True) (Kd.R_keptB ((Kd.R_apart' HO_642003.out (Kd.R_typed HO_11.out) (by decide))) hkp (fun k_ hk_ hs_ => (hk_.2) hs_)) (fun k_ hk_ => trivial)); have n3_ := Aside0.mk (blk_kept (by (with_reducible repeat (first | refine blk_drewN ?_ _ | refine blk_drew ?_ | refine blk_alloc ?_ _)); exact BK623.out) hkp (fun hs_ => (fun e_ => (Kd.R_ne HO_11.out BK623.out (by decide)) e_) hs_)); have n4_ := Aside0.mk (blk_kept (by (with_reducible repeat (first | refine blk_drewN ?_ _ | refine blk_drew ?_ | refine blk_alloc ?_ _)); exact BK641.out) hkp (fun hs_ => (fun e_ => (Kd.R_ne HO_11.out BK641.out (by decide)) e_) hs_)); have n5_ := Aside0.mk (hb); clear HO_8; clear HO_11; clear HO_642003; clear BK623; clear BK641; clear HB; have HO_8 := n0_; have HO_11 := n1_; have HO_642003 := n2_; have BK623 := n3_; have BK641 := n4_; have HB := n5_; clear n0_ n1_ n2_ n3_ n4_ n5_; (try clear hb); (try clear hkp); (try clear hy0)) | ((with_reducible refine gate_callee (f := 31) rfl ?_); refine goesL_ (some 75) rfl rfl Try.func31 (by kernel_rfl) rfl #[.slice Ao81 t658.length co81, .int .i64 1] rfl (by (try simp only [List.map_toArray, List.map_cons, List.map_nil]); first | done | (rw [show t658.length = t642.length from (Kd.R_reads' HO_11.out).1.symm] <;> rfl) | rfl | (simp only [List.length_drop, List.length_take]; rfl)) ?_; (with_reducible refine (laws_heldIntS.calls kj38 _ _ t658 1 t659 _ ?side1 ?side2 A56.out).mono ?_); (case side1 => repeat (first | exact (Kd.R_reads' HO_11.out).2.2 | (with_reducible refine Kd.C_alloc ?_ _) | (with_reducible refine Kd.C_drewN ?_ _) | (with_reducible refine Kd.C_drew ?_))); (case side2 => rw [show t658.length = t642.length from (Kd.R_reads' HO_11.out).1.symm]; exact (Kd.R_reads' HO_11.out).2.1); rintro e w' ⟨rfl, ⟨nd, rfl⟩⟩; refine ⟨_, rfl, ?_⟩))
           go_ret
           exact ⟨by first | rfl | (simp [errW_none, errW_some] <;> rfl) | (simp [*, errW_none, errW_some] <;> rfl), hb_⟩
     ·replace c37 := Bool.eq_false_iff.mpr c37
      subst c37
      have H1 : (some false) = some r := by rw [if_neg (show ¬ (false = true) by decide)] at H; exact H
      clear H
      have H := H1
      clear H1
      obtain rfl := Option.some.inj H
      try go_wp2
      have n0_ := Aside0.mk (Kd.R_drew HO_8.out)
      have n1_ := Aside0.mk (Kd.R_drew HO_11.out)
      have n2_ := Aside0.mk (Kd.R_drew HO_642003.out)
      have n3_ := Aside0.mk (blk_drew BK623.out)
      have n4_ := Aside0.mk (blk_drew BK641.out)
      have n5_ := Aside0.mk (below_drew1 HB.out)
      clear HO_8
      clear HO_11
      clear HO_642003
      clear BK623
      clear BK641
      clear HB
      have HO_8 := n0_
      have HO_11 := n1_
      have HO_642003 := n2_
      have BK623 := n3_
      have BK641 := n4_
      have HB := n5_
      clear n0_ n1_ n2_ n3_ n4_ n5_
      refine start_ (n := 5) (S := fun w' => w'.cell? ⟨gb641, 0, none⟩ = some (.int .i64 t635) ∧ w'.cell? ⟨gb641, 1, none⟩ = some (.int .i64 t636) ∧ w'.cell? ⟨gb641, 2, none⟩ = some (.int .i64 t637) ∧ w'.cell? ⟨gb641, 3, none⟩ = some (.slice Ao26 t638.length co26) ∧ w'.cell? ⟨gb623, 0, none⟩ = some (.int .i64 a0_0) ∧ w'.cell? ⟨gb623, 1, none⟩ = some (.int .i64 a0_1) ∧ w'.cell? ⟨gb623, 2, none⟩ = some (.int .i64 a0_2) ∧ w'.cell? ⟨gb623, 3, none⟩ = some (.slice A0_3 l0_3.length c0_3)) (ds := []) #[false, false, false, false, false] (by kernel_rfl) rfl rfl ⟨(blk_cell BK641.out 0).trans rfl, (blk_cell BK641.out 1).trans rfl, (blk_cell BK641.out 2).trans rfl, (blk_cell BK641.out 3).trans rfl, (blk_cell BK623.out 0).trans rfl, (blk_cell BK623.out 1).trans rfl, (blk_cell BK623.out 2).trans rfl, (blk_cell BK623.out 3).trans rfl⟩ (fun hHeld => ?_)
      generalize wc.drew = w83 at HO_8 HO_11 HO_642003 BK623 BK641 HB hHeld ⊢
      refine take_ (i := 0) (N := some 49) (v := ?_) (a' := ?_) #[true, false, false, false, false] rfl rfl (by kernel_rfl) (fun _ _ _ h => h) (Or.inl ⟨by rfl, ?_⟩) hHeld ?_ ?_
      rotate_left
      ·rintro w' ⟨s0, s1, s2, s3, s4, s5, s6, s7⟩
       go_simp
       with_reducible rfl
      rotate_left
      ·simp only [Act.put, List.setIfInBounds_toArray, List.set_cons_zero, List.set_cons_succ, i64_w, i32_w]
       rfl
      refine take_ (i := 1) (N := some 50) (v := ?_) (a' := ?_) #[true, true, false, false, false] rfl rfl (by kernel_rfl) (fun _ _ _ h => h) (Or.inl ⟨by rfl, ?_⟩) hHeld ?_ ?_
      rotate_left
      ·rintro w' ⟨s0, s1, s2, s3, s4, s5, s6, s7⟩
       go_simp
       with_reducible rfl
      rotate_left
      ·simp only [Act.put, List.setIfInBounds_toArray, List.set_cons_zero, List.set_cons_succ, i64_w, i32_w]
       rfl
      refine one_ (i := 2) (N := some 51) #[true, true, true, false, false] rfl rfl (by kernel_rfl) (by decide) (fun K hK => ?_)
      refine goes_ Try.func16 (by kernel_rfl) rfl #[.agg #[.int .i64 a0_0, .int .i64 a0_1, .int .i64 a0_2, .slice A0_3 l0_3.length c0_3]] (by rfl) rfl rfl (by (try simp only [List.map_toArray, List.map_cons, List.map_nil]); first | done | rfl | (simp only [List.length_drop, List.length_take]; rfl)) ?_
      with_reducible refine (laws_toBoard.calls kj12 a0_0 a0_1 a0_2 _ _ l0_3 t647 t648 t649 t650 _ ?side1 ?side2 A35.out).mono ?_
      (case side1 => exact Kd.C_below HR0_3.out hb_)
      (case side2 => exact HC0_3.out)
      rintro e w84 ⟨v651, rfl, ho0, hb⟩
      refine ⟨_, rfl, ?_⟩
      have n0_ := Aside0.mk (Kd.R_below (by (with_reducible repeat (first | apply Kd.R_alloc | apply Kd.R_drewN | apply Kd.R_drew)); exact HO_8.out) hb)
      have n1_ := Aside0.mk (Kd.R_below (by (with_reducible repeat (first | apply Kd.R_alloc | apply Kd.R_drewN | apply Kd.R_drew)); exact HO_11.out) hb)
      have n2_ := Aside0.mk (Kd.R_elder' (by (with_reducible repeat (first | apply Kd.R_alloc | apply Kd.R_drewN | apply Kd.R_drew)); exact HO_642003.out) (Kd.R_base ho0) hb)
      have n3_ := Aside0.mk (Kd.R_lower (Kd.R_new' ho0 (Kd.R_lt (by (with_reducible repeat (first | apply Kd.R_alloc | apply Kd.R_drewN | apply Kd.R_drew)); exact HO_642003.out))) (below_size hb_))
      have n4_ := Aside0.mk (blk_below (g := gb623) (o := .cells #[.int .i64 a0_0, .int .i64 a0_1, .int .i64 a0_2, .slice A0_3 l0_3.length c0_3] 24 (0, 0)) (by (with_reducible repeat (first | refine blk_drewN ?_ _ | refine blk_drew ?_ | refine blk_alloc ?_ _)); exact BK623.out) hb)
      have n5_ := Aside0.mk (blk_below (g := gb641) (o := .cells #[.int .i64 t635, .int .i64 t636, .int .i64 t637, .slice Ao26 t638.length co26] 30 (0, 0)) (by (with_reducible repeat (first | refine blk_drewN ?_ _ | refine blk_drew ?_ | refine blk_alloc ?_ _)); exact BK641.out) hb)
      have n6_ := Aside0.mk (below_step hb_ hb)
      clear HO_8
      clear HO_11
      clear HO_642003
      clear BK623
      clear BK641
      clear HB
      have HO_8 := n0_
      have HO_11 := n1_
      have HO_642003 := n2_
      have HO652 := n3_
      have BK623 := n4_
      have BK641 := n5_
      have HB := n6_
      clear n0_ n1_ n2_ n3_ n4_ n5_ n6_
      (try clear hb)
      (try clear hb2)
      (try clear hk)
      (try clear hi)
      (try clear ho0)
      obtain ⟨Ao85, co85, eo85⟩ := Kd.R_slice HO652.out
      (first | subst eo85 | (injection eo85 with f1_ f2_ f3_; have f4_ := f1_.symm; have f5_ := f3_.symm; clear f1_ f2_ f3_; subst f4_; subst f5_))
      refine hK.out _ _ ⟨(blk_cell BK641.out 0).trans rfl, (blk_cell BK641.out 1).trans rfl, (blk_cell BK641.out 2).trans rfl, (blk_cell BK641.out 3).trans rfl, (blk_cell BK623.out 0).trans rfl, (blk_cell BK623.out 1).trans rfl, (blk_cell BK623.out 2).trans rfl, (blk_cell BK623.out 3).trans rfl⟩ (fun hHeld => ?_)
      clear hK K
      refine norm_ (a' := ?_) ?_ ?_
      rotate_left
      ·show Act.put _ (some 51) _ = _
       simp only [Act.put, List.setIfInBounds_toArray, List.set_cons_zero, List.set_cons_succ, i64_w, i32_w]
       rfl
      refine one_ (i := 3) (N := some 52) #[true, true, true, true, false] rfl rfl (by kernel_rfl) (by decide) (fun K hK => ?_)
      refine goes_ Try.func18 (by kernel_rfl) rfl #[.agg #[.int .i64 t635, .int .i64 t636, .int .i64 t637, .slice Ao26 t638.length co26], .agg #[.int .i64 t647, .int .i64 t648, .int .i64 t649, .slice Ao85 t650.length co85]] (by rfl) rfl rfl (by (try simp only [List.map_toArray, List.map_cons, List.map_nil]); first | done | rfl | (simp only [List.length_drop, List.length_take]; rfl)) ?_
      with_reducible refine (laws_eqBoard.calls kj12 t635 t636 t637 _ _ t638 t647 t648 t649 _ _ t650 false _ ?side1 ?side2 ?side3 ?side4 A36.out).mono ?_
      (case side1 => repeat (first | exact (Kd.R_reads' HO_642003.out).2.2 | (with_reducible refine Kd.C_alloc ?_ _) | (with_reducible refine Kd.C_drewN ?_ _) | (with_reducible refine Kd.C_drew ?_)))
      (case side2 => exact (Kd.R_reads' HO_642003.out).2.1)
      (case side3 => repeat (first | exact (Kd.R_reads' HO652.out).2.2 | (with_reducible refine Kd.C_alloc ?_ _) | (with_reducible refine Kd.C_drewN ?_ _) | (with_reducible refine Kd.C_drew ?_)))
      (case side4 => exact (Kd.R_reads' HO652.out).2.1)
      rintro e w86 ⟨rfl, hb⟩
      refine ⟨_, rfl, ?_⟩
      have n0_ := Aside0.mk (Kd.R_below (by (with_reducible repeat (first | apply Kd.R_alloc | apply Kd.R_drewN | apply Kd.R_drew)); exact HO_8.out) hb)
      have n1_ := Aside0.mk (Kd.R_below (by (with_reducible repeat (first | apply Kd.R_alloc | apply Kd.R_drewN | apply Kd.R_drew)); exact HO_11.out) hb)
      have n2_ := Aside0.mk (Kd.R_below (by (with_reducible repeat (first | apply Kd.R_alloc | apply Kd.R_drewN | apply Kd.R_drew)); exact HO_642003.out) hb)
      have n3_ := Aside0.mk (Kd.R_below (by (with_reducible repeat (first | apply Kd.R_alloc | apply Kd.R_drewN | apply Kd.R_drew)); exact HO652.out) hb)
      have n4_ := Aside0.mk (blk_below (g := gb623) (o := .cells #[.int .i64 a0_0, .int .i64 a0_1, .int .i64 a0_2, .slice A0_3 l0_3.length c0_3] 24 (0, 0)) (by (with_reducible repeat (first | refine blk_drewN ?_ _ | refine blk_drew ?_ | refine blk_alloc ?_ _)); exact BK623.out) hb)
      have n5_ := Aside0.mk (blk_below (g := gb641) (o := .cells #[.int .i64 t635, .int .i64 t636, .int .i64 t637, .slice Ao26 t638.length co26] 30 (0, 0)) (by (with_reducible repeat (first | refine blk_drewN ?_ _ | refine blk_drew ?_ | refine blk_alloc ?_ _)); exact BK641.out) hb)
      have n6_ := Aside0.mk (below_step hb_ hb)
      clear HO_8
      clear HO_11
      clear HO_642003
      clear HO652
      clear BK623
      clear BK641
      clear HB
      have HO_8 := n0_
      have HO_11 := n1_
      have HO_642003 := n2_
      have HO652 := n3_
      have BK623 := n4_
      have BK641 := n5_
      have HB := n6_
      clear n0_ n1_ n2_ n3_ n4_ n5_ n6_
      (try clear hb)
      (try clear hb2)
      (try clear hk)
      (try clear hi)
      refine hK.out _ _ ⟨(blk_cell BK641.out 0).trans rfl, (blk_cell BK641.out 1).trans rfl, (blk_cell BK641.out 2).trans rfl, (blk_cell BK641.out 3).trans rfl, (blk_cell BK623.out 0).trans rfl, (blk_cell BK623.out 1).trans rfl, (blk_cell BK623.out 2).trans rfl, (blk_cell BK623.out 3).trans rfl⟩ (fun hHeld => ?_)
      clear hK K
      refine norm_ (a' := ?_) ?_ ?_
      rotate_left
      ·show Act.put _ (some 52) _ = _
       simp only [Act.put, List.setIfInBounds_toArray, List.set_cons_zero, List.set_cons_succ, i64_w, i32_w]
       rfl
      refine pure_ (i := 4) (N := some 53) (v := ?_) (a' := ?_) #[true, true, true, true, true] rfl rfl (by kernel_rfl) (fun _ _ _ h => h) (Or.inl ⟨by rfl, ?_⟩) ?_ ?_
      rotate_left
      ·intro w'
       go_simp
       with_reducible rfl
      rotate_left
      ·simp only [Act.put, List.setIfInBounds_toArray, List.set_cons_zero, List.set_cons_succ, i64_w, i32_w]
       rfl
      refine done_ (by kernel_rfl) ?_
      try go_wp2
      go_ret
      exact ⟨by first | rfl | (simp [errW_none, errW_some] <;> rfl) | (simp [*, errW_none, errW_some] <;> rfl), hb_⟩

end Go.Proofs.Ytphjhfpeomifiaa.P
