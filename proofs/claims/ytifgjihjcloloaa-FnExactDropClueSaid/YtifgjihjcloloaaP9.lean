-- written for this claim by a program of this session (wip/tools/xprint.py), which runs the kit's print with other cuts
import Derived.Test.YtifgjihjcloloaaP
import Derived.Test.YtifgjihjcloloaaP111
import Derived.Test.YtifgjihjcloloaaP43
import Derived.Test.YtifgjihjcloloaaP44
import Derived.Test.YtifgjihjcloloaaP75
import Derived.Test.YtifgjihjcloloaaP82
import Derived.Test.YtifgjihjcloloaaP89
namespace Go.Proofs.Ytifgjihjcloloaa.P
open Go.RowKit Go.Proofs.YtifgjihjcloloaaW.PrintWords Go.Proofs.YtifgjihjcloloaaW.PrintLast Go.Proofs.YtifgjihjcloloaaW.PrintMore
attribute [local go_sem] max2_int min2_int max_two min_two max_three min_three max_four min_four   -- for this text's walks alone
set_option linter.unusedVariables false
set_option linter.unusedSimpArgs false

/-! ### laws_FnExactDropClue: function 9 -/
mutual
def laws_FnExactDropClue.j0 : Nat → Int → Bool → Bool → Bool → Int → Int → List (S26) → Int → Int → List (S28) → Int → Int → List (S28) → Int → Int → List (S28) → Option (Bool)
 | 0, _, _, _, _, _, _, _, _, _, _, _, _, _, _, _, _ => none
 | k + 1, x1, x7, x10, x44, x653000, x653001, x653002, x666000, x666001, x666002, x672000, x672001, x672002, x679000, x679001, x679002 => if x44 = true then (some false) else ((laws_toPuzzle.f k x653000 x653001 x653002).bind fun bt680 => ((laws_eqPuzzle.f k x672000 x672001 x672002 bt680.1 bt680.2.1 bt680.2.2).bind fun t685 => (if t685 = true then ((laws_markPuzzle.f k x672000 x672001 x672002 1).bind fun bt686 => (if bt686.1 < 0 then (laws_FnExactDropClue.j1 k x1 x7 true x653000 x653001 x653002 x666000 x666001 x666002 x679000 x679001 x679002) else ((laws_eqPuzzle.f k x679000 x679001 x679002 x666000 x666001 x666002).bind fun t688 => (if t688 = true then (laws_FnExactDropClue.j1 k x1 x7 (x10 != x7) x653000 x653001 x653002 x666000 x666001 x666002 x679000 x679001 x679002) else (laws_FnExactDropClue.j1 k x1 x7 true x653000 x653001 x653002 x666000 x666001 x666002 x679000 x679001 x679002))))) else (some false))))
def laws_FnExactDropClue.j1 : Nat → Int → Bool → Bool → Int → Int → List (S26) → Int → Int → List (S28) → Int → Int → List (S28) → Option (Bool)
 | 0, _, _, _, _, _, _, _, _, _, _, _, _ => none
 | k + 1, x1, x7, x65, x653000, x653001, x653002, x666000, x666001, x666002, x679000, x679001, x679002 => if x65 = true then (some false) else ((laws_markPuzzle.f k x679000 x679001 x679002 1).bind fun bt689 => ((laws_heldPuzzle.f k x679000 x679001 bt689.2 1).bind fun t691 => (if t691 < 0 then (some false) else (if t691 = bt689.1 then ((laws_toPuzzle.f k x653000 x653001 x653002).bind fun bt692 => ((impl_DropClue.f bt692.1 bt692.2.1 bt692.2.2 x1).bind fun bt697 => ((laws_eqPuzzle.f k bt697.1 bt697.2.1 bt697.2.2.1 x666000 x666001 x666002).bind fun t704 => (if t704 = true then (laws_FnExactDropClue.j2 k bt689.1 (bt697.2.2.2 != x7) x679000 x679001 bt689.2) else (laws_FnExactDropClue.j2 k bt689.1 true x679000 x679001 bt689.2))))) else (some false)))))
def laws_FnExactDropClue.j2 : Nat → Int → Bool → Int → Int → List (S28) → Option (Bool)
 | 0, _, _, _, _, _ => none
 | k + 1, x12, x92, x679000, x679001, x679002 => if x92 = true then (some false) else ((laws_heldPuzzle.f k x679000 x679001 x679002 1).bind fun t705 => (if t705 < 0 then (some false) else (if t705 = x12 then (some true) else (some false))))
end
def laws_FnExactDropClue.f (k : Nat) (a0_0 : Int) (a0_1 : Int) (l0_2 : List (S26)) (a1 : Int) : Option (Bool) := (laws_szPuzzle.f a0_0 a0_1 l0_2 1048576).bind fun t653 => (if t653 < 0 then (some true) else ((laws_toPuzzle.f k a0_0 a0_1 l0_2).bind fun bt654 => ((spec_DropClue.f k bt654.1 bt654.2.1 bt654.2.2 a1).bind fun bt659 => ((laws_toPuzzle.f k a0_0 a0_1 l0_2).bind fun bt666 => ((impl_DropClue.f bt666.1 bt666.2.1 bt666.2.2 a1).bind fun bt672 => ((laws_eqPuzzle.f k bt672.1 bt672.2.1 bt672.2.2.1 bt659.1 bt659.2.1 bt659.2.2.1).bind fun t679 => (if t679 = true then (laws_FnExactDropClue.j0 k a1 bt659.2.2.2 bt672.2.2.2 (bt672.2.2.2 != bt659.2.2.2) a0_0 a0_1 l0_2 bt659.1 bt659.2.1 bt659.2.2.1 bt666.1 bt666.2.1 bt666.2.2 bt672.1 bt672.2.1 bt672.2.2.1) else (laws_FnExactDropClue.j0 k a1 bt659.2.2.2 bt672.2.2.2 true a0_0 a0_1 l0_2 bt659.1 bt659.2.1 bt659.2.2.1 bt666.1 bt666.2.1 bt666.2.2 bt672.1 bt672.2.1 bt672.2.2.1))))))))
theorem laws_FnExactDropClue.mono_l : ∀ k, (∀ y0 y1 y2 y3 y4 y5 y6 y7 y8 y9 y10 y11 y12 y13 y14 y15, LeO (laws_FnExactDropClue.j0 k y0 y1 y2 y3 y4 y5 y6 y7 y8 y9 y10 y11 y12 y13 y14 y15) (laws_FnExactDropClue.j0 (k + 1) y0 y1 y2 y3 y4 y5 y6 y7 y8 y9 y10 y11 y12 y13 y14 y15)) ∧ (∀ y0 y1 y2 y3 y4 y5 y6 y7 y8 y9 y10 y11, LeO (laws_FnExactDropClue.j1 k y0 y1 y2 y3 y4 y5 y6 y7 y8 y9 y10 y11) (laws_FnExactDropClue.j1 (k + 1) y0 y1 y2 y3 y4 y5 y6 y7 y8 y9 y10 y11)) ∧ (∀ y0 y1 y2 y3 y4, LeO (laws_FnExactDropClue.j2 k y0 y1 y2 y3 y4) (laws_FnExactDropClue.j2 (k + 1) y0 y1 y2 y3 y4))
 | 0 => ⟨fun _ _ _ _ _ _ _ _ _ _ _ _ _ _ _ _ r h => by simp [laws_FnExactDropClue.j0] at h, fun _ _ _ _ _ _ _ _ _ _ _ _ r h => by simp [laws_FnExactDropClue.j1] at h, fun _ _ _ _ _ r h => by simp [laws_FnExactDropClue.j2] at h⟩
 | k + 1 => by
  obtain ⟨ih0, ih1, ih2⟩ := laws_FnExactDropClue.mono_l k
  refine ⟨?_, ?_, ?_⟩
  ·intro y0 y1 y2 y3 y4 y5 y6 y7 y8 y9 y10 y11 y12 y13 y14 y15
   unfold laws_FnExactDropClue.j0
   repeat' first
   | (with_reducible exact ih0 _ _ _ _ _ _ _ _ _ _ _ _ _ _ _ _)
   | (with_reducible exact ih1 _ _ _ _ _ _ _ _ _ _ _ _)
   | (with_reducible exact ih2 _ _ _ _ _)
   | (with_reducible exact laws_eqPuzzle.mono _ _ _ _ _ _ _)
   | (with_reducible exact laws_heldPuzzle.mono _ _ _ _ _)
   | (with_reducible exact laws_markPuzzle.mono _ _ _ _ _)
   | (with_reducible exact laws_toPuzzle.mono _ _ _ _)
   | (with_reducible exact spec_DropClue.mono _ _ _ _ _)
   | (with_reducible exact LeO.refl _)
   | (with_reducible exact LeO.none _)
   | (with_reducible refine LeO.ite ?_ ?_)
   | (with_reducible refine LeO.bind ?_ (fun _ => ?_))
   | exact ih0 _ _ _ _ _ _ _ _ _ _ _ _ _ _ _ _
   | exact ih1 _ _ _ _ _ _ _ _ _ _ _ _
   | exact ih2 _ _ _ _ _
   | exact laws_eqPuzzle.mono _ _ _ _ _ _ _
   | exact laws_heldPuzzle.mono _ _ _ _ _
   | exact laws_markPuzzle.mono _ _ _ _ _
   | exact laws_toPuzzle.mono _ _ _ _
   | exact spec_DropClue.mono _ _ _ _ _
   | exact LeO.none _
   | refine LeO.ite ?_ ?_
   | refine LeO.bind ?_ (fun _ => ?_)
  ·intro y0 y1 y2 y3 y4 y5 y6 y7 y8 y9 y10 y11
   unfold laws_FnExactDropClue.j1
   repeat' first
   | (with_reducible exact ih0 _ _ _ _ _ _ _ _ _ _ _ _ _ _ _ _)
   | (with_reducible exact ih1 _ _ _ _ _ _ _ _ _ _ _ _)
   | (with_reducible exact ih2 _ _ _ _ _)
   | (with_reducible exact laws_eqPuzzle.mono _ _ _ _ _ _ _)
   | (with_reducible exact laws_heldPuzzle.mono _ _ _ _ _)
   | (with_reducible exact laws_markPuzzle.mono _ _ _ _ _)
   | (with_reducible exact laws_toPuzzle.mono _ _ _ _)
   | (with_reducible exact spec_DropClue.mono _ _ _ _ _)
   | (with_reducible exact LeO.refl _)
   | (with_reducible exact LeO.none _)
   | (with_reducible refine LeO.ite ?_ ?_)
   | (with_reducible refine LeO.bind ?_ (fun _ => ?_))
   | exact ih0 _ _ _ _ _ _ _ _ _ _ _ _ _ _ _ _
   | exact ih1 _ _ _ _ _ _ _ _ _ _ _ _
   | exact ih2 _ _ _ _ _
   | exact laws_eqPuzzle.mono _ _ _ _ _ _ _
   | exact laws_heldPuzzle.mono _ _ _ _ _
   | exact laws_markPuzzle.mono _ _ _ _ _
   | exact laws_toPuzzle.mono _ _ _ _
   | exact spec_DropClue.mono _ _ _ _ _
   | exact LeO.none _
   | refine LeO.ite ?_ ?_
   | refine LeO.bind ?_ (fun _ => ?_)
  ·intro y0 y1 y2 y3 y4
   unfold laws_FnExactDropClue.j2
   repeat' first
   | (with_reducible exact ih0 _ _ _ _ _ _ _ _ _ _ _ _ _ _ _ _)
   | (with_reducible exact ih1 _ _ _ _ _ _ _ _ _ _ _ _)
   | (with_reducible exact ih2 _ _ _ _ _)
   | (with_reducible exact laws_eqPuzzle.mono _ _ _ _ _ _ _)
   | (with_reducible exact laws_heldPuzzle.mono _ _ _ _ _)
   | (with_reducible exact laws_markPuzzle.mono _ _ _ _ _)
   | (with_reducible exact laws_toPuzzle.mono _ _ _ _)
   | (with_reducible exact spec_DropClue.mono _ _ _ _ _)
   | (with_reducible exact LeO.refl _)
   | (with_reducible exact LeO.none _)
   | (with_reducible refine LeO.ite ?_ ?_)
   | (with_reducible refine LeO.bind ?_ (fun _ => ?_))
   | exact ih0 _ _ _ _ _ _ _ _ _ _ _ _ _ _ _ _
   | exact ih1 _ _ _ _ _ _ _ _ _ _ _ _
   | exact ih2 _ _ _ _ _
   | exact laws_eqPuzzle.mono _ _ _ _ _ _ _
   | exact laws_heldPuzzle.mono _ _ _ _ _
   | exact laws_markPuzzle.mono _ _ _ _ _
   | exact laws_toPuzzle.mono _ _ _ _
   | exact spec_DropClue.mono _ _ _ _ _
   | exact LeO.none _
   | refine LeO.ite ?_ ?_
   | refine LeO.bind ?_ (fun _ => ?_)
theorem laws_FnExactDropClue.mono : ∀ a0 a1 a2 a3 k, LeO (laws_FnExactDropClue.f k a0 a1 a2 a3) (laws_FnExactDropClue.f (k + 1) a0 a1 a2 a3) := by
 intro a0 a1 a2 a3 k
 obtain ⟨ih0, ih1, ih2⟩ := laws_FnExactDropClue.mono_l k
 unfold laws_FnExactDropClue.f
 repeat' first
   | (with_reducible exact ih0 _ _ _ _ _ _ _ _ _ _ _ _ _ _ _ _)
   | (with_reducible exact ih1 _ _ _ _ _ _ _ _ _ _ _ _)
   | (with_reducible exact ih2 _ _ _ _ _)
   | (with_reducible exact laws_eqPuzzle.mono _ _ _ _ _ _ _)
   | (with_reducible exact laws_heldPuzzle.mono _ _ _ _ _)
   | (with_reducible exact laws_markPuzzle.mono _ _ _ _ _)
   | (with_reducible exact laws_toPuzzle.mono _ _ _ _)
   | (with_reducible exact spec_DropClue.mono _ _ _ _ _)
   | (with_reducible exact LeO.refl _)
   | (with_reducible exact LeO.none _)
   | (with_reducible refine LeO.ite ?_ ?_)
   | (with_reducible refine LeO.bind ?_ (fun _ => ?_))
   | exact ih0 _ _ _ _ _ _ _ _ _ _ _ _ _ _ _ _
   | exact ih1 _ _ _ _ _ _ _ _ _ _ _ _
   | exact ih2 _ _ _ _ _
   | exact laws_eqPuzzle.mono _ _ _ _ _ _ _
   | exact laws_heldPuzzle.mono _ _ _ _ _
   | exact laws_markPuzzle.mono _ _ _ _ _
   | exact laws_toPuzzle.mono _ _ _ _
   | exact spec_DropClue.mono _ _ _ _ _
   | exact LeO.none _
   | refine LeO.ite ?_ ?_
   | refine LeO.bind ?_ (fun _ => ?_)
set_option maxHeartbeats 8000000 in
set_option maxRecDepth 100000 in
theorem laws_FnExactDropClue.calls (k : Nat) (a0_0 : Int) (a0_1 : Int) (A0_2 : Option Addr) (c0_2 : Nat) (l0_2 : List (S26)) (a1 : Int) (r : Bool) (w : World) (hr0_2 : Kd.C k26 w A0_2 l0_2.length l0_2) (hc0_2 : l0_2.length ≤ c0_2) (h : laws_FnExactDropClue.f k a0_0 a0_1 l0_2 a1 = some r) :
  Calls Try.prog 9 #[.agg #[.int .i64 a0_0, .int .i64 a0_1, .slice A0_2 l0_2.length c0_2], .int .i64 a1] w fun e w' => e = .returned (.bool r) ∧ Below w.heap.size w w' := by
 have hu33 := Try.underlying33
 have hu42 := Try.underlying42
 have HR0_2 := Aside0.mk hr0_2
 have HC0_2 := Aside0.mk hc0_2
 clear hr0_2 hc0_2
 have HB := Aside0.mk (Below.refl w.heap.size w)
 have H : ((laws_szPuzzle.f a0_0 a0_1 l0_2 1048576).bind fun t653 => (if t653 < 0 then (some true) else ((laws_toPuzzle.f k a0_0 a0_1 l0_2).bind fun bt654 => ((spec_DropClue.f k bt654.1 bt654.2.1 bt654.2.2 a1).bind fun bt659 => ((laws_toPuzzle.f k a0_0 a0_1 l0_2).bind fun bt666 => ((impl_DropClue.f bt666.1 bt666.2.1 bt666.2.2 a1).bind fun bt672 => ((laws_eqPuzzle.f k bt672.1 bt672.2.1 bt672.2.2.1 bt659.1 bt659.2.1 bt659.2.2.1).bind fun t679 => (if t679 = true then (laws_FnExactDropClue.j0 k a1 bt659.2.2.2 bt672.2.2.2 (bt672.2.2.2 != bt659.2.2.2) a0_0 a0_1 l0_2 bt659.1 bt659.2.1 bt659.2.2.1 bt666.1 bt666.2.1 bt666.2.2 bt672.1 bt672.2.1 bt672.2.2.1) else (laws_FnExactDropClue.j0 k a1 bt659.2.2.2 bt672.2.2.2 true a0_0 a0_1 l0_2 bt659.1 bt659.2.1 bt659.2.2.1 bt666.1 bt666.2.1 bt666.2.2 bt672.1 bt672.2.1 bt672.2.2.1))))))))) = some r := h
 clear h
 replace H := Option.bind_eq_some_iff.mp H
 obtain ⟨t653, A30, H⟩ := H
 replace H : (if t653 < 0 then (some true) else ((laws_toPuzzle.f k a0_0 a0_1 l0_2).bind fun bt654 => ((spec_DropClue.f k bt654.1 bt654.2.1 bt654.2.2 a1).bind fun bt659 => ((laws_toPuzzle.f k a0_0 a0_1 l0_2).bind fun bt666 => ((impl_DropClue.f bt666.1 bt666.2.1 bt666.2.2 a1).bind fun bt672 => ((laws_eqPuzzle.f k bt672.1 bt672.2.1 bt672.2.2.1 bt659.1 bt659.2.1 bt659.2.2.1).bind fun t679 => (if t679 = true then (laws_FnExactDropClue.j0 k a1 bt659.2.2.2 bt672.2.2.2 (bt672.2.2.2 != bt659.2.2.2) a0_0 a0_1 l0_2 bt659.1 bt659.2.1 bt659.2.2.1 bt666.1 bt666.2.1 bt666.2.2 bt672.1 bt672.2.1 bt672.2.2.1) else (laws_FnExactDropClue.j0 k a1 bt659.2.2.2 bt672.2.2.2 true a0_0 a0_1 l0_2 bt659.1 bt659.2.1 bt659.2.2.1 bt666.1 bt666.2.1 bt666.2.2 bt672.1 bt672.2.1 bt672.2.2.1)))))))) = some r := H
 have A3 := Aside0.mk A30
 clear A30
 by_cases c4 : t653 < 0
 ·rw [if_pos c4] at H
  have c4b0 : decide (t653 < 0) = true := decide_eq_true c4
  clear c4
  obtain rfl := Option.some.inj H
  go_enter Try.func9, Try.ntmps9
  go_wp2_with (first | ((with_reducible refine gate_dst (N := 2) rfl ?_); refine box_event ?hg (N := 2) ?hd (cs := #[.int .i64 a0_0, .int .i64 a0_1, .slice A0_2 l0_2.length c0_2]) (t := 33) ?hr ?_; (case hd => rfl); (case hg => rfl); (case hr => first | (go_simp; done) | (go_simp; rfl)); intro gb652 hg w5 hbox hb; have n0_ := Aside0.mk (below_step (by repeat (first | (with_reducible first | exact HB.out | apply below_alloc | apply pw_below_drewN | apply below_drew1) | exact HB.out)) hb); have n1_ := Aside0.mk (hbox); have n2_ := Aside0.mk ((by rw [hg]; exact (below_size (by repeat (first | (with_reducible first | exact HB.out | apply below_alloc | apply pw_below_drewN | apply below_drew1) | exact HB.out))) : w.heap.size ≤ gb652)); have n3_ := Aside0.mk ((by rw [hg]; exact (below_size (by repeat (first | (with_reducible first | exact HB.out | apply below_alloc | apply pw_below_drewN | apply below_drew1) | exact HB.out))) : w.heap.size ≤ gb652)); clear HB; have HB := n0_; have BK652 := n1_; have GW652 := n2_; have GE652 := n3_; clear n0_ n1_ n2_ n3_; clear hb hbox hg; have hcz6_0 : w5.cell? ⟨gb652, 0, none⟩ = some (.int .i64 a0_0) := (blk_cell BK652.out 0).trans rfl; have hcz6_1 : w5.cell? ⟨gb652, 1, none⟩ = some (.int .i64 a0_1) := (blk_cell BK652.out 1).trans rfl; have hcz6_2 : w5.cell? ⟨gb652, 2, none⟩ = some (.slice A0_2 l0_2.length c0_2) := (blk_cell BK652.out 2).trans rfl; have hfz6_0 := blk_frozen BK652.out 0; have hfz6_1 := blk_frozen BK652.out 1; have hfz6_2 := blk_frozen BK652.out 2) | ((with_reducible refine gate_callee (f := 24) rfl ?_); refine goesL_ (some 18) rfl rfl Try.func24 (by kernel_rfl) rfl #[.agg #[.int .i64 a0_0, .int .i64 a0_1, .slice A0_2 l0_2.length c0_2], .int .i64 1048576] rfl (by (try simp only [List.map_toArray, List.map_cons, List.map_nil]); first | done | rfl | (simp only [List.length_drop, List.length_take]; rfl)) ?_; (with_reducible refine (laws_szPuzzle.calls a0_0 a0_1 _ _ l0_2 1048576 t653 _ ?side1 ?side2 A3.out).mono ?_); (case side1 => repeat (first | exact (Kd.C_below HR0_2.out HB.out) | (with_reducible refine Kd.C_alloc ?_ _) | (with_reducible refine Kd.C_drewN ?_ _) | (with_reducible refine Kd.C_drew ?_))); (case side2 => exact HC0_2.out); rintro e w7 ⟨rfl, hb⟩; refine ⟨_, rfl, ?_⟩; have n0_ := Aside0.mk (blk_below (g := gb652) (o := .cells #[.int .i64 a0_0, .int .i64 a0_1, .slice A0_2 l0_2.length c0_2] 33 (0, 0)) (by (with_reducible repeat (first | refine blk_drewN ?_ _ | refine blk_drew ?_ | refine blk_alloc ?_ _)); exact BK652.out) hb); have n1_ := Aside0.mk (below_step (by repeat (first | (with_reducible first | exact HB.out | apply below_alloc | apply pw_below_drewN | apply below_drew1 | refine below_set ?_ GE652.out) | exact HB.out)) hb); clear BK652; clear HB; have BK652 := n0_; have HB := n1_; clear n0_ n1_; (try clear hb); (try clear hb2); (try clear hk); (try clear hi)))
  go_ret
  exact ⟨by first | rfl | (simp [errW_none, errW_some] <;> rfl) | (simp [*, errW_none, errW_some] <;> rfl), by repeat (first | (with_reducible first | exact HB.out | apply below_alloc | apply pw_below_drewN | apply below_drew1 | refine below_set ?_ GE652.out) | exact HB.out)⟩
 ·rw [if_neg c4] at H
  have c4b0 : decide (t653 < 0) = false := decide_eq_false c4
  clear c4
  replace H := Option.bind_eq_some_iff.mp H
  obtain ⟨⟨t654, t655, t656⟩, A80, H⟩ := H
  replace H : ((spec_DropClue.f k t654 t655 t656 a1).bind fun bt659 => ((laws_toPuzzle.f k a0_0 a0_1 l0_2).bind fun bt666 => ((impl_DropClue.f bt666.1 bt666.2.1 bt666.2.2 a1).bind fun bt672 => ((laws_eqPuzzle.f k bt672.1 bt672.2.1 bt672.2.2.1 bt659.1 bt659.2.1 bt659.2.2.1).bind fun t679 => (if t679 = true then (laws_FnExactDropClue.j0 k a1 bt659.2.2.2 bt672.2.2.2 (bt672.2.2.2 != bt659.2.2.2) a0_0 a0_1 l0_2 bt659.1 bt659.2.1 bt659.2.2.1 bt666.1 bt666.2.1 bt666.2.2 bt672.1 bt672.2.1 bt672.2.2.1) else (laws_FnExactDropClue.j0 k a1 bt659.2.2.2 bt672.2.2.2 true a0_0 a0_1 l0_2 bt659.1 bt659.2.1 bt659.2.2.1 bt666.1 bt666.2.1 bt666.2.2 bt672.1 bt672.2.1 bt672.2.2.1)))))) = some r := H
  have A8 := Aside0.mk A80
  clear A80
  replace H := Option.bind_eq_some_iff.mp H
  obtain ⟨⟨t659, t660, t661, t664⟩, A90, H⟩ := H
  replace H : ((laws_toPuzzle.f k a0_0 a0_1 l0_2).bind fun bt666 => ((impl_DropClue.f bt666.1 bt666.2.1 bt666.2.2 a1).bind fun bt672 => ((laws_eqPuzzle.f k bt672.1 bt672.2.1 bt672.2.2.1 t659 t660 t661).bind fun t679 => (if t679 = true then (laws_FnExactDropClue.j0 k a1 t664 bt672.2.2.2 (bt672.2.2.2 != t664) a0_0 a0_1 l0_2 t659 t660 t661 bt666.1 bt666.2.1 bt666.2.2 bt672.1 bt672.2.1 bt672.2.2.1) else (laws_FnExactDropClue.j0 k a1 t664 bt672.2.2.2 true a0_0 a0_1 l0_2 t659 t660 t661 bt666.1 bt666.2.1 bt666.2.2 bt672.1 bt672.2.1 bt672.2.2.1))))) = some r := H
  have A9 := Aside0.mk A90
  clear A90
  replace H := Option.bind_eq_some_iff.mp H
  obtain ⟨⟨t666, t667, t668⟩, A100, H⟩ := H
  replace H : ((impl_DropClue.f t666 t667 t668 a1).bind fun bt672 => ((laws_eqPuzzle.f k bt672.1 bt672.2.1 bt672.2.2.1 t659 t660 t661).bind fun t679 => (if t679 = true then (laws_FnExactDropClue.j0 k a1 t664 bt672.2.2.2 (bt672.2.2.2 != t664) a0_0 a0_1 l0_2 t659 t660 t661 t666 t667 t668 bt672.1 bt672.2.1 bt672.2.2.1) else (laws_FnExactDropClue.j0 k a1 t664 bt672.2.2.2 true a0_0 a0_1 l0_2 t659 t660 t661 t666 t667 t668 bt672.1 bt672.2.1 bt672.2.2.1)))) = some r := H
  have A10 := Aside0.mk A100
  clear A100
  replace H := Option.bind_eq_some_iff.mp H
  obtain ⟨⟨t672, t673, t674, t677⟩, A110, H⟩ := H
  replace H : ((laws_eqPuzzle.f k t672 t673 t674 t659 t660 t661).bind fun t679 => (if t679 = true then (laws_FnExactDropClue.j0 k a1 t664 t677 (t677 != t664) a0_0 a0_1 l0_2 t659 t660 t661 t666 t667 t668 t672 t673 t674) else (laws_FnExactDropClue.j0 k a1 t664 t677 true a0_0 a0_1 l0_2 t659 t660 t661 t666 t667 t668 t672 t673 t674))) = some r := H
  have A11 := Aside0.mk A110
  clear A110
  have HC12 := Aside0.mk H
  clear H
  go_enter Try.func9, Try.ntmps9
  go_upto_region 8 with (first | ((with_reducible refine gate_dst (N := 2) rfl ?_); refine box_event ?hg (N := 2) ?hd (cs := #[.int .i64 a0_0, .int .i64 a0_1, .slice A0_2 l0_2.length c0_2]) (t := 33) ?hr ?_; (case hd => rfl); (case hg => rfl); (case hr => first | (go_simp; done) | (go_simp; rfl)); intro gb652 hg w13 hbox hb; have n0_ := Aside0.mk (below_step (by repeat (first | (with_reducible first | exact HB.out | apply below_alloc | apply pw_below_drewN | apply below_drew1) | exact HB.out)) hb); have n1_ := Aside0.mk (hbox); have n2_ := Aside0.mk ((by rw [hg]; exact (below_size (by repeat (first | (with_reducible first | exact HB.out | apply below_alloc | apply pw_below_drewN | apply below_drew1) | exact HB.out))) : w.heap.size ≤ gb652)); have n3_ := Aside0.mk ((by rw [hg]; exact (below_size (by repeat (first | (with_reducible first | exact HB.out | apply below_alloc | apply pw_below_drewN | apply below_drew1) | exact HB.out))) : w.heap.size ≤ gb652)); clear HB; have HB := n0_; have BK652 := n1_; have GW652 := n2_; have GE652 := n3_; clear n0_ n1_ n2_ n3_; clear hb hbox hg; have hcz14_0 : w13.cell? ⟨gb652, 0, none⟩ = some (.int .i64 a0_0) := (blk_cell BK652.out 0).trans rfl; have hcz14_1 : w13.cell? ⟨gb652, 1, none⟩ = some (.int .i64 a0_1) := (blk_cell BK652.out 1).trans rfl; have hcz14_2 : w13.cell? ⟨gb652, 2, none⟩ = some (.slice A0_2 l0_2.length c0_2) := (blk_cell BK652.out 2).trans rfl; have hfz14_0 := blk_frozen BK652.out 0; have hfz14_1 := blk_frozen BK652.out 1; have hfz14_2 := blk_frozen BK652.out 2) | ((with_reducible refine gate_callee (f := 24) rfl ?_); refine goesL_ (some 18) rfl rfl Try.func24 (by kernel_rfl) rfl #[.agg #[.int .i64 a0_0, .int .i64 a0_1, .slice A0_2 l0_2.length c0_2], .int .i64 1048576] rfl (by (try simp only [List.map_toArray, List.map_cons, List.map_nil]); first | done | rfl | (simp only [List.length_drop, List.length_take]; rfl)) ?_; (with_reducible refine (laws_szPuzzle.calls a0_0 a0_1 _ _ l0_2 1048576 t653 _ ?side1 ?side2 A3.out).mono ?_); (case side1 => repeat (first | exact (Kd.C_below HR0_2.out HB.out) | (with_reducible refine Kd.C_alloc ?_ _) | (with_reducible refine Kd.C_drewN ?_ _) | (with_reducible refine Kd.C_drew ?_))); (case side2 => exact HC0_2.out); rintro e w15 ⟨rfl, hb⟩; refine ⟨_, rfl, ?_⟩; have n0_ := Aside0.mk (blk_below (g := gb652) (o := .cells #[.int .i64 a0_0, .int .i64 a0_1, .slice A0_2 l0_2.length c0_2] 33 (0, 0)) (by (with_reducible repeat (first | refine blk_drewN ?_ _ | refine blk_drew ?_ | refine blk_alloc ?_ _)); exact BK652.out) hb); have n1_ := Aside0.mk (below_step (by repeat (first | (with_reducible first | exact HB.out | apply below_alloc | apply pw_below_drewN | apply below_drew1 | refine below_set ?_ GE652.out) | exact HB.out)) hb); clear BK652; clear HB; have BK652 := n0_; have HB := n1_; clear n0_ n1_; (try clear hb); (try clear hb2); (try clear hk); (try clear hi); have hcz16_0 : w15.cell? ⟨gb652, 0, none⟩ = some (.int .i64 a0_0) := (blk_cell BK652.out 0).trans rfl; have hcz16_1 : w15.cell? ⟨gb652, 1, none⟩ = some (.int .i64 a0_1) := (blk_cell BK652.out 1).trans rfl; have hcz16_2 : w15.cell? ⟨gb652, 2, none⟩ = some (.slice A0_2 l0_2.length c0_2) := (blk_cell BK652.out 2).trans rfl; have hfz16_0 := blk_frozen BK652.out 0; have hfz16_1 := blk_frozen BK652.out 1; have hfz16_2 := blk_frozen BK652.out 2) | ((with_reducible refine gate_callee (f := 26) rfl ?_); refine goesL_ (some 23) rfl rfl Try.func26 (by kernel_rfl) rfl #[.agg #[.int .i64 a0_0, .int .i64 a0_1, .slice A0_2 l0_2.length c0_2]] rfl (by (try simp only [List.map_toArray, List.map_cons, List.map_nil]); first | done | rfl | (simp only [List.length_drop, List.length_take]; rfl)) ?_; (with_reducible refine (laws_toPuzzle.calls k a0_0 a0_1 _ _ l0_2 t654 t655 t656 _ ?side1 ?side2 A8.out).mono ?_); (case side1 => repeat (first | exact (Kd.C_below HR0_2.out HB.out) | (with_reducible refine Kd.C_alloc ?_ _) | (with_reducible refine Kd.C_drewN ?_ _) | (with_reducible refine Kd.C_drew ?_))); (case side2 => exact HC0_2.out); rintro e w17 ⟨v657, rfl, ho0, hb⟩; refine ⟨_, rfl, ?_⟩; have n0_ := Aside0.mk (Kd.R_lower ho0 (below_size (by repeat (first | (with_reducible first | exact HB.out | apply below_alloc | apply pw_below_drewN | apply below_drew1 | refine below_set ?_ GE652.out) | exact HB.out)))); have n1_ := Aside0.mk (blk_below (g := gb652) (o := .cells #[.int .i64 a0_0, .int .i64 a0_1, .slice A0_2 l0_2.length c0_2] 33 (0, 0)) (by (with_reducible repeat (first | refine blk_drewN ?_ _ | refine blk_drew ?_ | refine blk_alloc ?_ _)); exact BK652.out) hb); have n2_ := Aside0.mk (below_step (by repeat (first | (with_reducible first | exact HB.out | apply below_alloc | apply pw_below_drewN | apply below_drew1 | refine below_set ?_ GE652.out) | exact HB.out)) hb); clear BK652; clear HB; have HO658 := n0_; have BK652 := n1_; have HB := n2_; clear n0_ n1_ n2_; (try clear hb); (try clear hb2); (try clear hk); (try clear hi); (try clear ho0); obtain ⟨Ao18, co18, eo18⟩ := Kd.R_slice HO658.out; subst eo18) | ((with_reducible refine gate_callee (f := 43) rfl ?_); refine goesL_ (some 25) rfl rfl Try.func43 (by kernel_rfl) rfl #[.agg #[.int .i64 t654, .int .i64 t655, .slice Ao18 t656.length co18], .int .i64 a1] rfl (by (try simp only [List.map_toArray, List.map_cons, List.map_nil]); first | done | rfl | (simp only [List.length_drop, List.length_take]; rfl)) ?_; (with_reducible refine (spec_DropClue.calls k t654 t655 _ _ t656 a1 t659 t660 t661 t664 _ ?side1 ?side2 A9.out).mono ?_); (case side1 => repeat (first | exact (Kd.R_reads' HO658.out).2.2 | (with_reducible refine Kd.C_alloc ?_ _) | (with_reducible refine Kd.C_drewN ?_ _) | (with_reducible refine Kd.C_drew ?_))); (case side2 => exact (Kd.R_reads' HO658.out).2.1); rintro e w19 ⟨v662, rfl, ho0, hb⟩; refine ⟨_, rfl, ?_⟩; have n0_ := Aside0.mk (Kd.R_elder' (by (with_reducible repeat (first | apply Kd.R_alloc | apply Kd.R_drewN | apply Kd.R_drew)); exact HO658.out) (Kd.R_base ho0) hb); have n1_ := Aside0.mk (Kd.R_lower (Kd.R_new' ho0 (Kd.R_lt (by (with_reducible repeat (first | apply Kd.R_alloc | apply Kd.R_drewN | apply Kd.R_drew)); exact HO658.out))) (below_size (by repeat (first | (with_reducible first | exact HB.out | apply below_alloc | apply pw_below_drewN | apply below_drew1 | refine below_set ?_ GE652.out) | exact HB.out)))); have n2_ := Aside0.mk (blk_below (g := gb652) (o := .cells #[.int .i64 a0_0, .int .i64 a0_1, .slice A0_2 l0_2.length c0_2] 33 (0, 0)) (by (with_reducible repeat (first | refine blk_drewN ?_ _ | refine blk_drew ?_ | refine blk_alloc ?_ _)); exact BK652.out) hb); have n3_ := Aside0.mk (below_step (by repeat (first | (with_reducible first | exact HB.out | apply below_alloc | apply pw_below_drewN | apply below_drew1 | refine below_set ?_ GE652.out) | exact HB.out)) hb); clear HO658; clear BK652; clear HB; have HO658 := n0_; have HO663 := n1_; have BK652 := n2_; have HB := n3_; clear n0_ n1_ n2_ n3_; (try clear hb); (try clear hb2); (try clear hk); (try clear hi); (try clear ho0)) | ((with_reducible refine gate_dst (N := 6) rfl ?_); refine box_event ?hg (N := 6) ?hd (cs := #[.int .i64 0, .int .i64 0, .slice none 0 0]) (t := 42) ?hr ?_; (case hd => rfl); (case hg => rfl); (case hr => first | (go_simp; done) | (go_simp; rfl)); intro gb665 hg w20 hbox hb; have n0_ := Aside0.mk (Kd.R_below (by (with_reducible repeat (first | apply Kd.R_alloc | apply Kd.R_drewN | apply Kd.R_drew)); exact HO658.out) hb); have n1_ := Aside0.mk (Kd.R_below (by (with_reducible repeat (first | apply Kd.R_alloc | apply Kd.R_drewN | apply Kd.R_drew)); exact HO663.out) hb); have n2_ := Aside0.mk (blk_below (g := gb652) (o := .cells #[.int .i64 a0_0, .int .i64 a0_1, .slice A0_2 l0_2.length c0_2] 33 (0, 0)) (by (with_reducible repeat (first | refine blk_drewN ?_ _ | refine blk_drew ?_ | refine blk_alloc ?_ _)); exact BK652.out) hb); have n3_ := Aside0.mk (below_step (by repeat (first | (with_reducible first | exact HB.out | apply below_alloc | apply pw_below_drewN | apply below_drew1 | refine below_set ?_ GE652.out) | exact HB.out)) hb); have n4_ := Aside0.mk (hbox); have n5_ := Aside0.mk ((by rw [hg]; exact (below_size (by repeat (first | (with_reducible first | exact HB.out | apply below_alloc | apply pw_below_drewN | apply below_drew1 | refine below_set ?_ GE652.out) | exact HB.out))) : w.heap.size ≤ gb665)); have n6_ := Aside0.mk ((by rw [hg]; exact (below_size (by repeat (first | (with_reducible first | exact HB.out | apply below_alloc | apply pw_below_drewN | apply below_drew1 | refine below_set ?_ GE652.out) | exact HB.out))) : w.heap.size ≤ gb665)); have n7_ := Aside0.mk ((by rw [hg]; exact Nat.ne_of_lt (blk_lt (g := gb652) (o := .cells #[.int .i64 a0_0, .int .i64 a0_1, .slice A0_2 l0_2.length c0_2] 33 (0, 0)) (by (with_reducible repeat (first | refine blk_drewN ?_ _ | refine blk_drew ?_ | refine blk_alloc ?_ _)); exact BK652.out)) : gb652 ≠ gb665)); have n8_ := Aside0.mk ((by rw [hg]; exact Nat.ne_of_gt (blk_lt (g := gb652) (o := .cells #[.int .i64 a0_0, .int .i64 a0_1, .slice A0_2 l0_2.length c0_2] 33 (0, 0)) (by (with_reducible repeat (first | refine blk_drewN ?_ _ | refine blk_drew ?_ | refine blk_alloc ?_ _)); exact BK652.out)) : gb665 ≠ gb652)); clear HO658; clear HO663; clear BK652; clear HB; have HO658 := n0_; have HO663 := n1_; have BK652 := n2_; have HB := n3_; have BK665 := n4_; have GW665 := n5_; have GE665 := n6_; have NB652_665 := n7_; have NB665_652 := n8_; clear n0_ n1_ n2_ n3_ n4_ n5_ n6_ n7_ n8_; clear hb hbox hg; have hnb21 := NB665_652.out; have hnc21 := NB652_665.out; have hcz22_0 : w20.cell? ⟨gb665, 0, none⟩ = some (.int .i64 0) := (blk_cell BK665.out 0).trans rfl; have hcz22_1 : w20.cell? ⟨gb665, 1, none⟩ = some (.int .i64 0) := (blk_cell BK665.out 1).trans rfl; have hcz22_2 : w20.cell? ⟨gb665, 2, none⟩ = some (.slice none 0 0) := (blk_cell BK665.out 2).trans rfl; have hfz22_0 := blk_frozen BK665.out 0; have hfz22_1 := blk_frozen BK665.out 1; have hfz22_2 := blk_frozen BK665.out 2; obtain ⟨Ao23, co23, eo23⟩ := Kd.R_slice HO663.out; subst eo23; have hcz24_0 : w20.cell? ⟨gb652, 0, none⟩ = some (.int .i64 a0_0) := (blk_cell BK652.out 0).trans rfl; have hcz24_1 : w20.cell? ⟨gb652, 1, none⟩ = some (.int .i64 a0_1) := (blk_cell BK652.out 1).trans rfl; have hcz24_2 : w20.cell? ⟨gb652, 2, none⟩ = some (.slice A0_2 l0_2.length c0_2) := (blk_cell BK652.out 2).trans rfl; have hfz24_0 := blk_frozen BK652.out 0; have hfz24_1 := blk_frozen BK652.out 1; have hfz24_2 := blk_frozen BK652.out 2) | ((with_reducible refine gate_callee (f := 26) rfl ?_); refine goesL_ (some 29) rfl rfl Try.func26 (by kernel_rfl) rfl #[.agg #[.int .i64 a0_0, .int .i64 a0_1, .slice A0_2 l0_2.length c0_2]] rfl (by (try simp only [List.map_toArray, List.map_cons, List.map_nil]); first | done | rfl | (simp only [List.length_drop, List.length_take]; rfl)) ?_; (with_reducible refine (laws_toPuzzle.calls k a0_0 a0_1 _ _ l0_2 t666 t667 t668 _ ?side1 ?side2 A10.out).mono ?_); (case side1 => exact Kd.C_below HR0_2.out (by repeat (first | (with_reducible first | exact HB.out | apply below_alloc | apply pw_below_drewN | apply below_drew1 | refine below_set ?_ GE652.out | refine below_set ?_ GE665.out) | exact HB.out))); (case side2 => exact HC0_2.out); rintro e w25 ⟨v669, rfl, ho0, hb⟩; refine ⟨_, rfl, ?_⟩; have n0_ := Aside0.mk (Kd.R_elder' (by (with_reducible repeat (first | apply Kd.R_alloc | apply Kd.R_drewN | apply Kd.R_drew)); exact (Kd.R_mono (Kd.R_far (p := ⟨gb665, 2, none⟩) (Kd.R_far (p := ⟨gb665, 1, none⟩) (Kd.R_far (p := ⟨gb665, 0, none⟩) (Kd.R_types HO658.out BK665.out (by decide)) (fun _ hk => hk.2) (.int .i64 t659)) (fun _ hk => hk.2) (.int .i64 t660)) (fun _ hk => hk.2) (.slice Ao23 t661.length co23)) (fun _ h_ => h_.1))) (Kd.R_base ho0) hb); have n1_ := Aside0.mk (Kd.R_elder' (by (with_reducible repeat (first | apply Kd.R_alloc | apply Kd.R_drewN | apply Kd.R_drew)); exact (Kd.R_mono (Kd.R_far (p := ⟨gb665, 2, none⟩) (Kd.R_far (p := ⟨gb665, 1, none⟩) (Kd.R_far (p := ⟨gb665, 0, none⟩) (Kd.R_types HO663.out BK665.out (by decide)) (fun _ hk => hk.2) (.int .i64 t659)) (fun _ hk => hk.2) (.int .i64 t660)) (fun _ hk => hk.2) (.slice Ao23 t661.length co23)) (fun _ h_ => h_.1))) (Kd.R_base ho0) hb); have n2_ := Aside0.mk (Kd.R_lower (Kd.R_new' (Kd.R_new' ho0 (Kd.R_lt (by (with_reducible repeat (first | apply Kd.R_alloc | apply Kd.R_drewN | apply Kd.R_drew)); exact (Kd.R_mono (Kd.R_far (p := ⟨gb665, 2, none⟩) (Kd.R_far (p := ⟨gb665, 1, none⟩) (Kd.R_far (p := ⟨gb665, 0, none⟩) (Kd.R_types HO658.out BK665.out (by decide)) (fun _ hk => hk.2) (.int .i64 t659)) (fun _ hk => hk.2) (.int .i64 t660)) (fun _ hk => hk.2) (.slice Ao23 t661.length co23)) (fun _ h_ => h_.1))))) (Kd.R_lt (by (with_reducible repeat (first | apply Kd.R_alloc | apply Kd.R_drewN | apply Kd.R_drew)); exact (Kd.R_mono (Kd.R_far (p := ⟨gb665, 2, none⟩) (Kd.R_far (p := ⟨gb665, 1, none⟩) (Kd.R_far (p := ⟨gb665, 0, none⟩) (Kd.R_types HO663.out BK665.out (by decide)) (fun _ hk => hk.2) (.int .i64 t659)) (fun _ hk => hk.2) (.int .i64 t660)) (fun _ hk => hk.2) (.slice Ao23 t661.length co23)) (fun _ h_ => h_.1))))) (below_size (by repeat (first | (with_reducible first | exact HB.out | apply below_alloc | apply pw_below_drewN | apply below_drew1 | refine below_set ?_ GE652.out | refine below_set ?_ GE665.out) | exact HB.out)))); have n3_ := Aside0.mk (blk_below (g := gb652) (o := .cells #[.int .i64 a0_0, .int .i64 a0_1, .slice A0_2 l0_2.length c0_2] 33 (0, 0)) (by (with_reducible repeat (first | refine blk_drewN ?_ _ | refine blk_drew ?_ | refine blk_alloc ?_ _)); refine blk_far ?_ NB652_665.out _; (with_reducible repeat (first | refine blk_drewN ?_ _ | refine blk_drew ?_ | refine blk_alloc ?_ _)); refine blk_far ?_ NB652_665.out _; (with_reducible repeat (first | refine blk_drewN ?_ _ | refine blk_drew ?_ | refine blk_alloc ?_ _)); refine blk_far ?_ NB652_665.out _; (with_reducible repeat (first | refine blk_drewN ?_ _ | refine blk_drew ?_ | refine blk_alloc ?_ _)); exact BK652.out) hb); have n4_ := Aside0.mk (blk_below (g := gb665) (o := .cells #[.int .i64 t659, .int .i64 t660, .slice Ao23 t661.length co23] 42 (0, 0)) (by (with_reducible repeat (first | refine blk_drewN ?_ _ | refine blk_drew ?_ | refine blk_alloc ?_ _)); refine blk_put (cs := #[.int .i64 t659, .int .i64 t660, .slice none 0 0]) ?_ 2 _ rfl; (with_reducible repeat (first | refine blk_drewN ?_ _ | refine blk_drew ?_ | refine blk_alloc ?_ _)); refine blk_put (cs := #[.int .i64 t659, .int .i64 0, .slice none 0 0]) ?_ 1 _ rfl; (with_reducible repeat (first | refine blk_drewN ?_ _ | refine blk_drew ?_ | refine blk_alloc ?_ _)); refine blk_put (cs := #[.int .i64 0, .int .i64 0, .slice none 0 0]) ?_ 0 _ rfl; (with_reducible repeat (first | refine blk_drewN ?_ _ | refine blk_drew ?_ | refine blk_alloc ?_ _)); exact BK665.out) hb); have n5_ := Aside0.mk (below_step (by repeat (first | (with_reducible first | exact HB.out | apply below_alloc | apply pw_below_drewN | apply below_drew1 | refine below_set ?_ GE652.out | refine below_set ?_ GE665.out) | exact HB.out)) hb); clear HO658; clear HO663; clear BK652; clear BK665; clear HB; have HO658 := n0_; have HO663 := n1_; have HO670 := n2_; have BK652 := n3_; have BK665 := n4_; have HB := n5_; clear n0_ n1_ n2_ n3_ n4_ n5_; (try clear hb); (try clear hb2); (try clear hk); (try clear hi); (try clear ho0)) | ((with_reducible refine gate_dst (N := 8) rfl ?_); refine box_event ?hg (N := 8) ?hd (cs := #[.int .i64 0, .int .i64 0, .slice none 0 0]) (t := 42) ?hr ?_; (case hd => rfl); (case hg => rfl); (case hr => first | (go_simp; done) | (go_simp; rfl)); intro gb671 hg w26 hbox hb; have n0_ := Aside0.mk (Kd.R_below (by (with_reducible repeat (first | apply Kd.R_alloc | apply Kd.R_drewN | apply Kd.R_drew)); exact HO658.out) hb); have n1_ := Aside0.mk (Kd.R_below (by (with_reducible repeat (first | apply Kd.R_alloc | apply Kd.R_drewN | apply Kd.R_drew)); exact HO663.out) hb); have n2_ := Aside0.mk (Kd.R_below (by (with_reducible repeat (first | apply Kd.R_alloc | apply Kd.R_drewN | apply Kd.R_drew)); exact HO670.out) hb); have n3_ := Aside0.mk (blk_below (g := gb652) (o := .cells #[.int .i64 a0_0, .int .i64 a0_1, .slice A0_2 l0_2.length c0_2] 33 (0, 0)) (by (with_reducible repeat (first | refine blk_drewN ?_ _ | refine blk_drew ?_ | refine blk_alloc ?_ _)); exact BK652.out) hb); have n4_ := Aside0.mk (blk_below (g := gb665) (o := .cells #[.int .i64 t659, .int .i64 t660, .slice Ao23 t661.length co23] 42 (0, 0)) (by (with_reducible repeat (first | refine blk_drewN ?_ _ | refine blk_drew ?_ | refine blk_alloc ?_ _)); exact BK665.out) hb); have n5_ := Aside0.mk (below_step (by repeat (first | (with_reducible first | exact HB.out | apply below_alloc | apply pw_below_drewN | apply below_drew1 | refine below_set ?_ GE652.out | refine below_set ?_ GE665.out) | exact HB.out)) hb); have n6_ := Aside0.mk (hbox); have n7_ := Aside0.mk ((by rw [hg]; exact (below_size (by repeat (first | (with_reducible first | exact HB.out | apply below_alloc | apply pw_below_drewN | apply below_drew1 | refine below_set ?_ GE652.out | refine below_set ?_ GE665.out) | exact HB.out))) : w.heap.size ≤ gb671)); have n8_ := Aside0.mk ((by rw [hg]; exact (below_size (by repeat (first | (with_reducible first | exact HB.out | apply below_alloc | apply pw_below_drewN | apply below_drew1 | refine below_set ?_ GE652.out | refine below_set ?_ GE665.out) | exact HB.out))) : w.heap.size ≤ gb671)); have n9_ := Aside0.mk ((by rw [hg]; exact Nat.ne_of_lt (blk_lt (g := gb652) (o := .cells #[.int .i64 a0_0, .int .i64 a0_1, .slice A0_2 l0_2.length c0_2] 33 (0, 0)) (by (with_reducible repeat (first | refine blk_drewN ?_ _ | refine blk_drew ?_ | refine blk_alloc ?_ _)); exact BK652.out)) : gb652 ≠ gb671)); have n10_ := Aside0.mk ((by rw [hg]; exact Nat.ne_of_gt (blk_lt (g := gb652) (o := .cells #[.int .i64 a0_0, .int .i64 a0_1, .slice A0_2 l0_2.length c0_2] 33 (0, 0)) (by (with_reducible repeat (first | refine blk_drewN ?_ _ | refine blk_drew ?_ | refine blk_alloc ?_ _)); exact BK652.out)) : gb671 ≠ gb652)); have n11_ := Aside0.mk ((by rw [hg]; exact Nat.ne_of_lt (blk_lt (g := gb665) (o := .cells #[.int .i64 t659, .int .i64 t660, .slice Ao23 t661.length co23] 42 (0, 0)) (by (with_reducible repeat (first | refine blk_drewN ?_ _ | refine blk_drew ?_ | refine blk_alloc ?_ _)); exact BK665.out)) : gb665 ≠ gb671)); have n12_ := Aside0.mk ((by rw [hg]; exact Nat.ne_of_gt (blk_lt (g := gb665) (o := .cells #[.int .i64 t659, .int .i64 t660, .slice Ao23 t661.length co23] 42 (0, 0)) (by (with_reducible repeat (first | refine blk_drewN ?_ _ | refine blk_drew ?_ | refine blk_alloc ?_ _)); exact BK665.out)) : gb671 ≠ gb665)); clear HO658; clear HO663; clear HO670; clear BK652; clear BK665; clear HB; have HO658 := n0_; have HO663 := n1_; have HO670 := n2_; have BK652 := n3_; have BK665 := n4_; have HB := n5_; have BK671 := n6_; have GW671 := n7_; have GE671 := n8_; have NB652_671 := n9_; have NB671_652 := n10_; have NB665_671 := n11_; have NB671_665 := n12_; clear n0_ n1_ n2_ n3_ n4_ n5_ n6_ n7_ n8_ n9_ n10_ n11_ n12_; clear hb hbox hg; have hnb27 := NB671_652.out; have hnc27 := NB652_671.out; have hnb28 := NB671_665.out; have hnc28 := NB665_671.out; have hcz29_0 : w26.cell? ⟨gb671, 0, none⟩ = some (.int .i64 0) := (blk_cell BK671.out 0).trans rfl; have hcz29_1 : w26.cell? ⟨gb671, 1, none⟩ = some (.int .i64 0) := (blk_cell BK671.out 1).trans rfl; have hcz29_2 : w26.cell? ⟨gb671, 2, none⟩ = some (.slice none 0 0) := (blk_cell BK671.out 2).trans rfl; have hfz29_0 := blk_frozen BK671.out 0; have hfz29_1 := blk_frozen BK671.out 1; have hfz29_2 := blk_frozen BK671.out 2; obtain ⟨Ao30, co30, eo30⟩ := Kd.R_slice HO670.out; subst eo30) | ((with_reducible refine gate_callee (f := 44) rfl ?_); refine goesL_ (some 33) rfl rfl Try.func44 (by kernel_rfl) rfl #[.agg #[.int .i64 t666, .int .i64 t667, .slice Ao30 t668.length co30], .int .i64 a1] rfl (by (try simp only [List.map_toArray, List.map_cons, List.map_nil]); first | done | rfl | (simp only [List.length_drop, List.length_take]; rfl)) ?_; (with_reducible refine (impl_DropClue.calls t666 t667 _ _ t668 a1 t672 t673 t674 t677 _ ?side1 ?side2 A11.out).mono ?_); (case side1 => refine (Kd.R_reads' (e := 28) (base := w.heap.size) (ok := fun k_ => ((True ∧ some k_ ≠ (.slice Ao18 t656.length co18 : Value).ownBlock) ∧ some k_ ≠ (.slice Ao23 t661.length co23 : Value).ownBlock)) (n := t668.length) (c := co30) ?_).2.2; exact (by (with_reducible repeat (first | apply Kd.R_alloc | apply Kd.R_drewN | apply Kd.R_drew)); exact (Kd.R_mono (Kd.R_far (p := ⟨gb671, 2, none⟩) (Kd.R_far (p := ⟨gb671, 1, none⟩) (Kd.R_far (p := ⟨gb671, 0, none⟩) (Kd.R_types HO670.out BK671.out (by decide)) (fun _ hk => hk.2) (.int .i64 t666)) (fun _ hk => hk.2) (.int .i64 t667)) (fun _ hk => hk.2) (.slice Ao30 t668.length co30)) (fun _ h_ => h_.1)))); (case side2 => exact (Kd.R_reads' HO670.out).2.1); rintro e w31 ⟨v675, rfl, ho0, hb⟩; refine ⟨_, rfl, ?_⟩; have n0_ := Aside0.mk (Kd.R_elder' (by (with_reducible repeat (first | apply Kd.R_alloc | apply Kd.R_drewN | apply Kd.R_drew)); exact (Kd.R_mono (Kd.R_far (p := ⟨gb671, 2, none⟩) (Kd.R_far (p := ⟨gb671, 1, none⟩) (Kd.R_far (p := ⟨gb671, 0, none⟩) (Kd.R_types HO658.out BK671.out (by decide)) (fun _ hk => hk.2) (.int .i64 t666)) (fun _ hk => hk.2) (.int .i64 t667)) (fun _ hk => hk.2) (.slice Ao30 t668.length co30)) (fun _ h_ => h_.1))) (Kd.R_base ho0) hb); have n1_ := Aside0.mk (Kd.R_elder' (by (with_reducible repeat (first | apply Kd.R_alloc | apply Kd.R_drewN | apply Kd.R_drew)); exact (Kd.R_mono (Kd.R_far (p := ⟨gb671, 2, none⟩) (Kd.R_far (p := ⟨gb671, 1, none⟩) (Kd.R_far (p := ⟨gb671, 0, none⟩) (Kd.R_types HO663.out BK671.out (by decide)) (fun _ hk => hk.2) (.int .i64 t666)) (fun _ hk => hk.2) (.int .i64 t667)) (fun _ hk => hk.2) (.slice Ao30 t668.length co30)) (fun _ h_ => h_.1))) (Kd.R_base ho0) hb); have n2_ := Aside0.mk (Kd.R_elder' (by (with_reducible repeat (first | apply Kd.R_alloc | apply Kd.R_drewN | apply Kd.R_drew)); exact (Kd.R_mono (Kd.R_far (p := ⟨gb671, 2, none⟩) (Kd.R_far (p := ⟨gb671, 1, none⟩) (Kd.R_far (p := ⟨gb671, 0, none⟩) (Kd.R_types HO670.out BK671.out (by decide)) (fun _ hk => hk.2) (.int .i64 t666)) (fun _ hk => hk.2) (.int .i64 t667)) (fun _ hk => hk.2) (.slice Ao30 t668.length co30)) (fun _ h_ => h_.1))) (Kd.R_base ho0) hb); have n3_ := Aside0.mk (Kd.R_lower (Kd.R_new' (Kd.R_new' (Kd.R_new' ho0 (Kd.R_lt (by (with_reducible repeat (first | apply Kd.R_alloc | apply Kd.R_drewN | apply Kd.R_drew)); exact (Kd.R_mono (Kd.R_far (p := ⟨gb671, 2, none⟩) (Kd.R_far (p := ⟨gb671, 1, none⟩) (Kd.R_far (p := ⟨gb671, 0, none⟩) (Kd.R_types HO658.out BK671.out (by decide)) (fun _ hk => hk.2) (.int .i64 t666)) (fun _ hk => hk.2) (.int .i64 t667)) (fun _ hk => hk.2) (.slice Ao30 t668.length co30)) (fun _ h_ => h_.1))))) (Kd.R_lt (by (with_reducible repeat (first | apply Kd.R_alloc | apply Kd.R_drewN | apply Kd.R_drew)); exact (Kd.R_mono (Kd.R_far (p := ⟨gb671, 2, none⟩) (Kd.R_far (p := ⟨gb671, 1, none⟩) (Kd.R_far (p := ⟨gb671, 0, none⟩) (Kd.R_types HO663.out BK671.out (by decide)) (fun _ hk => hk.2) (.int .i64 t666)) (fun _ hk => hk.2) (.int .i64 t667)) (fun _ hk => hk.2) (.slice Ao30 t668.length co30)) (fun _ h_ => h_.1))))) (Kd.R_lt (by (with_reducible repeat (first | apply Kd.R_alloc | apply Kd.R_drewN | apply Kd.R_drew)); exact (Kd.R_mono (Kd.R_far (p := ⟨gb671, 2, none⟩) (Kd.R_far (p := ⟨gb671, 1, none⟩) (Kd.R_far (p := ⟨gb671, 0, none⟩) (Kd.R_types HO670.out BK671.out (by decide)) (fun _ hk => hk.2) (.int .i64 t666)) (fun _ hk => hk.2) (.int .i64 t667)) (fun _ hk => hk.2) (.slice Ao30 t668.length co30)) (fun _ h_ => h_.1))))) (below_size (by repeat (first | (with_reducible first | exact HB.out | apply below_alloc | apply pw_below_drewN | apply below_drew1 | refine below_set ?_ GE652.out | refine below_set ?_ GE665.out | refine below_set ?_ GE671.out) | exact HB.out)))); have n4_ := Aside0.mk (blk_below (g := gb652) (o := .cells #[.int .i64 a0_0, .int .i64 a0_1, .slice A0_2 l0_2.length c0_2] 33 (0, 0)) (by (with_reducible repeat (first | refine blk_drewN ?_ _ | refine blk_drew ?_ | refine blk_alloc ?_ _)); refine blk_far ?_ NB652_671.out _; (with_reducible repeat (first | refine blk_drewN ?_ _ | refine blk_drew ?_ | refine blk_alloc ?_ _)); refine blk_far ?_ NB652_671.out _; (with_reducible repeat (first | refine blk_drewN ?_ _ | refine blk_drew ?_ | refine blk_alloc ?_ _)); refine blk_far ?_ NB652_671.out _; (with_reducible repeat (first | refine blk_drewN ?_ _ | refine blk_drew ?_ | refine blk_alloc ?_ _)); exact BK652.out) hb); have n5_ := Aside0.mk (blk_below (g := gb665) (o := .cells #[.int .i64 t659, .int .i64 t660, .slice Ao23 t661.length co23] 42 (0, 0)) (by (with_reducible repeat (first | refine blk_drewN ?_ _ | refine blk_drew ?_ | refine blk_alloc ?_ _)); refine blk_far ?_ NB665_671.out _; (with_reducible repeat (first | refine blk_drewN ?_ _ | refine blk_drew ?_ | refine blk_alloc ?_ _)); refine blk_far ?_ NB665_671.out _; (with_reducible repeat (first | refine blk_drewN ?_ _ | refine blk_drew ?_ | refine blk_alloc ?_ _)); refine blk_far ?_ NB665_671.out _; (with_reducible repeat (first | refine blk_drewN ?_ _ | refine blk_drew ?_ | refine blk_alloc ?_ _)); exact BK665.out) hb); have n6_ := Aside0.mk (blk_below (g := gb671) (o := .cells #[.int .i64 t666, .int .i64 t667, .slice Ao30 t668.length co30] 42 (0, 0)) (by (with_reducible repeat (first | refine blk_drewN ?_ _ | refine blk_drew ?_ | refine blk_alloc ?_ _)); refine blk_put (cs := #[.int .i64 t666, .int .i64 t667, .slice none 0 0]) ?_ 2 _ rfl; (with_reducible repeat (first | refine blk_drewN ?_ _ | refine blk_drew ?_ | refine blk_alloc ?_ _)); refine blk_put (cs := #[.int .i64 t666, .int .i64 0, .slice none 0 0]) ?_ 1 _ rfl; (with_reducible repeat (first | refine blk_drewN ?_ _ | refine blk_drew ?_ | refine blk_alloc ?_ _)); refine blk_put (cs := #[.int .i64 0, .int .i64 0, .slice none 0 0]) ?_ 0 _ rfl; (with_reducible repeat (first | refine blk_drewN ?_ _ | refine blk_drew ?_ | refine blk_alloc ?_ _)); exact BK671.out) hb); have n7_ := Aside0.mk (below_step (by repeat (first | (with_reducible first | exact HB.out | apply below_alloc | apply pw_below_drewN | apply below_drew1 | refine below_set ?_ GE652.out | refine below_set ?_ GE665.out | refine below_set ?_ GE671.out) | exact HB.out)) hb); clear HO658; clear HO663; clear HO670; clear BK652; clear BK665; clear BK671; clear HB; have HO658 := n0_; have HO663 := n1_; have HO670 := n2_; have HO676 := n3_; have BK652 := n4_; have BK665 := n5_; have BK671 := n6_; have HB := n7_; clear n0_ n1_ n2_ n3_ n4_ n5_ n6_ n7_; (try clear hb); (try clear hb2); (try clear hk); (try clear hi); (try clear ho0)) | ((with_reducible refine gate_dst (N := 9) rfl ?_); refine box_event ?hg (N := 9) ?hd (cs := #[.int .i64 0, .int .i64 0, .slice none 0 0]) (t := 42) ?hr ?_; (case hd => rfl); (case hg => rfl); (case hr => first | (go_simp; done) | (go_simp; rfl)); intro gb678 hg w32 hbox hb; have n0_ := Aside0.mk (Kd.R_below (by (with_reducible repeat (first | apply Kd.R_alloc | apply Kd.R_drewN | apply Kd.R_drew)); exact HO658.out) hb); have n1_ := Aside0.mk (Kd.R_below (by (with_reducible repeat (first | apply Kd.R_alloc | apply Kd.R_drewN | apply Kd.R_drew)); exact HO663.out) hb); have n2_ := Aside0.mk (Kd.R_below (by (with_reducible repeat (first | apply Kd.R_alloc | apply Kd.R_drewN | apply Kd.R_drew)); exact HO670.out) hb); have n3_ := Aside0.mk (Kd.R_below (by (with_reducible repeat (first | apply Kd.R_alloc | apply Kd.R_drewN | apply Kd.R_drew)); exact HO676.out) hb); have n4_ := Aside0.mk (blk_below (g := gb652) (o := .cells #[.int .i64 a0_0, .int .i64 a0_1, .slice A0_2 l0_2.length c0_2] 33 (0, 0)) (by (with_reducible repeat (first | refine blk_drewN ?_ _ | refine blk_drew ?_ | refine blk_alloc ?_ _)); exact BK652.out) hb); have n5_ := Aside0.mk (blk_below (g := gb665) (o := .cells #[.int .i64 t659, .int .i64 t660, .slice Ao23 t661.length co23] 42 (0, 0)) (by (with_reducible repeat (first | refine blk_drewN ?_ _ | refine blk_drew ?_ | refine blk_alloc ?_ _)); exact BK665.out) hb); have n6_ := Aside0.mk (blk_below (g := gb671) (o := .cells #[.int .i64 t666, .int .i64 t667, .slice Ao30 t668.length co30] 42 (0, 0)) (by (with_reducible repeat (first | refine blk_drewN ?_ _ | refine blk_drew ?_ | refine blk_alloc ?_ _)); exact BK671.out) hb); have n7_ := Aside0.mk (below_step (by repeat (first | (with_reducible first | exact HB.out | apply below_alloc | apply pw_below_drewN | apply below_drew1 | refine below_set ?_ GE652.out | refine below_set ?_ GE665.out | refine below_set ?_ GE671.out) | exact HB.out)) hb); have n8_ := Aside0.mk (hbox); have n9_ := Aside0.mk ((by rw [hg]; exact (below_size (by repeat (first | (with_reducible first | exact HB.out | apply below_alloc | apply pw_below_drewN | apply below_drew1 | refine below_set ?_ GE652.out | refine below_set ?_ GE665.out | refine below_set ?_ GE671.out) | exact HB.out))) : w.heap.size ≤ gb678)); have n10_ := Aside0.mk ((by rw [hg]; exact (below_size (by repeat (first | (with_reducible first | exact HB.out | apply below_alloc | apply pw_below_drewN | apply below_drew1 | refine below_set ?_ GE652.out | refine below_set ?_ GE665.out | refine below_set ?_ GE671.out) | exact HB.out))) : w.heap.size ≤ gb678)); have n11_ := Aside0.mk ((by rw [hg]; exact Nat.ne_of_lt (blk_lt (g := gb652) (o := .cells #[.int .i64 a0_0, .int .i64 a0_1, .slice A0_2 l0_2.length c0_2] 33 (0, 0)) (by (with_reducible repeat (first | refine blk_drewN ?_ _ | refine blk_drew ?_ | refine blk_alloc ?_ _)); exact BK652.out)) : gb652 ≠ gb678)); have n12_ := Aside0.mk ((by rw [hg]; exact Nat.ne_of_gt (blk_lt (g := gb652) (o := .cells #[.int .i64 a0_0, .int .i64 a0_1, .slice A0_2 l0_2.length c0_2] 33 (0, 0)) (by (with_reducible repeat (first | refine blk_drewN ?_ _ | refine blk_drew ?_ | refine blk_alloc ?_ _)); exact BK652.out)) : gb678 ≠ gb652)); have n13_ := Aside0.mk ((by rw [hg]; exact Nat.ne_of_lt (blk_lt (g := gb665) (o := .cells #[.int .i64 t659, .int .i64 t660, .slice Ao23 t661.length co23] 42 (0, 0)) (by (with_reducible repeat (first | refine blk_drewN ?_ _ | refine blk_drew ?_ | refine blk_alloc ?_ _)); exact BK665.out)) : gb665 ≠ gb678)); have n14_ := Aside0.mk ((by rw [hg]; exact Nat.ne_of_gt (blk_lt (g := gb665) (o := .cells #[.int .i64 t659, .int .i64 t660, .slice Ao23 t661.length co23] 42 (0, 0)) (by (with_reducible repeat (first | refine blk_drewN ?_ _ | refine blk_drew ?_ | refine blk_alloc ?_ _)); exact BK665.out)) : gb678 ≠ gb665)); have n15_ := Aside0.mk ((by rw [hg]; exact Nat.ne_of_lt (blk_lt (g := gb671) (o := .cells #[.int .i64 t666, .int .i64 t667, .slice Ao30 t668.length co30] 42 (0, 0)) (by (with_reducible repeat (first | refine blk_drewN ?_ _ | refine blk_drew ?_ | refine blk_alloc ?_ _)); exact BK671.out)) : gb671 ≠ gb678)); have n16_ := Aside0.mk ((by rw [hg]; exact Nat.ne_of_gt (blk_lt (g := gb671) (o := .cells #[.int .i64 t666, .int .i64 t667, .slice Ao30 t668.length co30] 42 (0, 0)) (by (with_reducible repeat (first | refine blk_drewN ?_ _ | refine blk_drew ?_ | refine blk_alloc ?_ _)); exact BK671.out)) : gb678 ≠ gb671)); clear HO658; clear HO663; clear HO670; clear HO676; clear BK652; clear BK665; clear BK671; clear HB; have HO658 := n0_; have HO663 := n1_; have HO670 := n2_; have HO676 := n3_; have BK652 := n4_; have BK665 := n5_; have BK671 := n6_; have HB := n7_; have BK678 := n8_; have GW678 := n9_; have GE678 := n10_; have NB652_678 := n11_; have NB678_652 := n12_; have NB665_678 := n13_; have NB678_665 := n14_; have NB671_678 := n15_; have NB678_671 := n16_; clear n0_ n1_ n2_ n3_ n4_ n5_ n6_ n7_ n8_ n9_ n10_ n11_ n12_ n13_ n14_ n15_ n16_; clear hb hbox hg; have hnb33 := NB678_652.out; have hnc33 := NB652_678.out; have hnb34 := NB678_665.out; have hnc34 := NB665_678.out; have hnb35 := NB678_671.out; have hnc35 := NB671_678.out; have hcz36_0 : w32.cell? ⟨gb678, 0, none⟩ = some (.int .i64 0) := (blk_cell BK678.out 0).trans rfl; have hcz36_1 : w32.cell? ⟨gb678, 1, none⟩ = some (.int .i64 0) := (blk_cell BK678.out 1).trans rfl; have hcz36_2 : w32.cell? ⟨gb678, 2, none⟩ = some (.slice none 0 0) := (blk_cell BK678.out 2).trans rfl; have hfz36_0 := blk_frozen BK678.out 0; have hfz36_1 := blk_frozen BK678.out 1; have hfz36_2 := blk_frozen BK678.out 2; obtain ⟨Ao37, co37, eo37⟩ := Kd.R_slice HO676.out; subst eo37))
  (try simp only [Act.put, List.setIfInBounds_toArray, List.set_cons_zero, List.set_cons_succ])
  go_cut [44] (fun v44 wc => ∃ (kq : Nat) (x44_11 : Bool), v44 = .bool x44_11 ∧ Aside0 (laws_FnExactDropClue.j0 kq a1 t664 t677 x44_11 a0_0 a0_1 l0_2 t659 t660 t661 t666 t667 t668 t672 t673 t674 = some r) ∧ Aside0 (kq ≤ k) ∧ Aside0 (Kd.R k28 28 wc w.heap.size (fun k_ => some k_ ≠ ((.slice Ao30 t668.length co30) : Value).ownBlock ∧ some k_ ≠ ((.slice Ao37 t674.length co37) : Value).ownBlock) (.slice Ao23 t661.length co23) t661) ∧ Aside0 (Kd.R k28 28 wc w.heap.size (fun k_ => some k_ ≠ ((.slice Ao23 t661.length co23) : Value).ownBlock ∧ some k_ ≠ ((.slice Ao37 t674.length co37) : Value).ownBlock) (.slice Ao30 t668.length co30) t668) ∧ Aside0 (Kd.R k28 28 wc w.heap.size (fun k_ => some k_ ≠ ((.slice Ao23 t661.length co23) : Value).ownBlock ∧ some k_ ≠ ((.slice Ao30 t668.length co30) : Value).ownBlock) (.slice Ao37 t674.length co37) t674) ∧ Aside0 (wc.heap[gb652]? = some (.cells #[.int .i64 a0_0, .int .i64 a0_1, (.slice A0_2 l0_2.length c0_2)] 33 (0, 0))) ∧ Aside0 (wc.heap[gb665]? = some (.cells #[.int .i64 t659, .int .i64 t660, (.slice Ao23 t661.length co23)] 42 (0, 0))) ∧ Aside0 (wc.heap[gb671]? = some (.cells #[.int .i64 t666, .int .i64 t667, (.slice Ao30 t668.length co30)] 42 (0, 0))) ∧ Aside0 (wc.heap[gb678]? = some (.cells #[.int .i64 t672, .int .i64 t673, (.slice Ao37 t674.length co37)] 42 (0, 0))) ∧ Aside0 (Below w.heap.size w wc))
  case first =>
   have H := HC12.out
   clear HC12
   replace H := Option.bind_eq_some_iff.mp H
   obtain ⟨t679, A380, H⟩ := H
   replace H : (if t679 = true then (laws_FnExactDropClue.j0 k a1 t664 t677 (t677 != t664) a0_0 a0_1 l0_2 t659 t660 t661 t666 t667 t668 t672 t673 t674) else (laws_FnExactDropClue.j0 k a1 t664 t677 true a0_0 a0_1 l0_2 t659 t660 t661 t666 t667 t668 t672 t673 t674)) = some r := H
   have A38 := Aside0.mk A380
   clear A380
   by_cases c39 : t679 = true
   ·subst c39
    have H1 : (laws_FnExactDropClue.j0 k a1 t664 t677 (t677 != t664) a0_0 a0_1 l0_2 t659 t660 t661 t666 t667 t668 t672 t673 t674) = some r := by rw [if_pos rfl] at H; exact H
    clear H
    have H := H1
    clear H1
    have H' := Aside0.mk H
    clear H
    have hnb40 := NB678_652.out
    have hnc40 := NB652_678.out
    have hnb41 := NB678_665.out
    have hnc41 := NB665_678.out
    have hnb42 := NB678_671.out
    have hnc42 := NB671_678.out
    have hcz43_0 : w32.cell? ⟨gb678, 0, none⟩ = some (.int .i64 0) := (blk_cell BK678.out 0).trans rfl
    have hcz43_1 : w32.cell? ⟨gb678, 1, none⟩ = some (.int .i64 0) := (blk_cell BK678.out 1).trans rfl
    have hcz43_2 : w32.cell? ⟨gb678, 2, none⟩ = some (.slice none 0 0) := (blk_cell BK678.out 2).trans rfl
    have hfz43_0 := blk_frozen BK678.out 0
    have hfz43_1 := blk_frozen BK678.out 1
    have hfz43_2 := blk_frozen BK678.out 2
    have hnb44 := NB665_652.out
    have hnc44 := NB652_665.out
    have hnb45 := NB665_671.out
    have hnc45 := NB671_665.out
    have hcz46_0 : w32.cell? ⟨gb665, 0, none⟩ = some (.int .i64 t659) := (blk_cell BK665.out 0).trans rfl
    have hcz46_1 : w32.cell? ⟨gb665, 1, none⟩ = some (.int .i64 t660) := (blk_cell BK665.out 1).trans rfl
    have hcz46_2 : w32.cell? ⟨gb665, 2, none⟩ = some (.slice Ao23 t661.length co23) := (blk_cell BK665.out 2).trans rfl
    have hfz46_0 := blk_frozen BK665.out 0
    have hfz46_1 := blk_frozen BK665.out 1
    have hfz46_2 := blk_frozen BK665.out 2
    go_wp2_with (first | ((with_reducible refine gate_callee (f := 29) rfl ?_); refine goesL_ (some 38) rfl rfl Try.func29 (by kernel_rfl) rfl #[.agg #[.int .i64 t672, .int .i64 t673, .slice Ao37 t674.length co37], .agg #[.int .i64 t659, .int .i64 t660, .slice Ao23 t661.length co23]] rfl (by (try simp only [List.map_toArray, List.map_cons, List.map_nil]); first | done | rfl | (simp only [List.length_drop, List.length_take]; rfl)) ?_; (with_reducible refine (laws_eqPuzzle.calls k t672 t673 _ _ t674 t659 t660 _ _ t661 true _ ?side1 ?side2 ?side3 ?side4 A38.out).mono ?_); (case side1 => refine (Kd.R_reads' (e := 28) (base := w.heap.size) (ok := fun k_ => (((True ∧ some k_ ≠ (.slice Ao18 t656.length co18 : Value).ownBlock) ∧ some k_ ≠ (.slice Ao23 t661.length co23 : Value).ownBlock) ∧ some k_ ≠ (.slice Ao30 t668.length co30 : Value).ownBlock)) (n := t674.length) (c := co37) ?_).2.2; exact (by (with_reducible repeat (first | apply Kd.R_alloc | apply Kd.R_drewN | apply Kd.R_drew)); exact (Kd.R_mono (Kd.R_far (p := ⟨gb678, 2, none⟩) (Kd.R_far (p := ⟨gb678, 1, none⟩) (Kd.R_far (p := ⟨gb678, 0, none⟩) (Kd.R_types HO676.out BK678.out (by decide)) (fun _ hk => hk.2) (.int .i64 t672)) (fun _ hk => hk.2) (.int .i64 t673)) (fun _ hk => hk.2) (.slice Ao37 t674.length co37)) (fun _ h_ => h_.1)))); (case side2 => exact (Kd.R_reads' HO676.out).2.1); (case side3 => refine (Kd.R_reads' (e := 28) (base := w.heap.size) (ok := fun k_ => (((True ∧ some k_ ≠ (.slice Ao18 t656.length co18 : Value).ownBlock) ∧ some k_ ≠ (.slice Ao30 t668.length co30 : Value).ownBlock) ∧ some k_ ≠ (.slice Ao37 t674.length co37 : Value).ownBlock)) (n := t661.length) (c := co23) ?_).2.2; exact (by (with_reducible repeat (first | apply Kd.R_alloc | apply Kd.R_drewN | apply Kd.R_drew)); exact (Kd.R_mono (Kd.R_far (p := ⟨gb678, 2, none⟩) (Kd.R_far (p := ⟨gb678, 1, none⟩) (Kd.R_far (p := ⟨gb678, 0, none⟩) (Kd.R_types HO663.out BK678.out (by decide)) (fun _ hk => hk.2) (.int .i64 t672)) (fun _ hk => hk.2) (.int .i64 t673)) (fun _ hk => hk.2) (.slice Ao37 t674.length co37)) (fun _ h_ => h_.1)))); (case side4 => exact (Kd.R_reads' HO663.out).2.1); rintro e w47 ⟨rfl, hb⟩; refine ⟨_, rfl, ?_⟩; have n0_ := Aside0.mk (Kd.R_below (by (with_reducible repeat (first | apply Kd.R_alloc | apply Kd.R_drewN | apply Kd.R_drew)); exact (Kd.R_mono (Kd.R_far (p := ⟨gb678, 2, none⟩) (Kd.R_far (p := ⟨gb678, 1, none⟩) (Kd.R_far (p := ⟨gb678, 0, none⟩) (Kd.R_types HO658.out BK678.out (by decide)) (fun _ hk => hk.2) (.int .i64 t672)) (fun _ hk => hk.2) (.int .i64 t673)) (fun _ hk => hk.2) (.slice Ao37 t674.length co37)) (fun _ h_ => h_.1))) hb); have n1_ := Aside0.mk (Kd.R_below (by (with_reducible repeat (first | apply Kd.R_alloc | apply Kd.R_drewN | apply Kd.R_drew)); exact (Kd.R_mono (Kd.R_far (p := ⟨gb678, 2, none⟩) (Kd.R_far (p := ⟨gb678, 1, none⟩) (Kd.R_far (p := ⟨gb678, 0, none⟩) (Kd.R_types HO663.out BK678.out (by decide)) (fun _ hk => hk.2) (.int .i64 t672)) (fun _ hk => hk.2) (.int .i64 t673)) (fun _ hk => hk.2) (.slice Ao37 t674.length co37)) (fun _ h_ => h_.1))) hb); have n2_ := Aside0.mk (Kd.R_below (by (with_reducible repeat (first | apply Kd.R_alloc | apply Kd.R_drewN | apply Kd.R_drew)); exact (Kd.R_mono (Kd.R_far (p := ⟨gb678, 2, none⟩) (Kd.R_far (p := ⟨gb678, 1, none⟩) (Kd.R_far (p := ⟨gb678, 0, none⟩) (Kd.R_types HO670.out BK678.out (by decide)) (fun _ hk => hk.2) (.int .i64 t672)) (fun _ hk => hk.2) (.int .i64 t673)) (fun _ hk => hk.2) (.slice Ao37 t674.length co37)) (fun _ h_ => h_.1))) hb); have n3_ := Aside0.mk (Kd.R_below (by (with_reducible repeat (first | apply Kd.R_alloc | apply Kd.R_drewN | apply Kd.R_drew)); exact (Kd.R_mono (Kd.R_far (p := ⟨gb678, 2, none⟩) (Kd.R_far (p := ⟨gb678, 1, none⟩) (Kd.R_far (p := ⟨gb678, 0, none⟩) (Kd.R_types HO676.out BK678.out (by decide)) (fun _ hk => hk.2) (.int .i64 t672)) (fun _ hk => hk.2) (.int .i64 t673)) (fun _ hk => hk.2) (.slice Ao37 t674.length co37)) (fun _ h_ => h_.1))) hb); have n4_ := Aside0.mk (blk_below (g := gb652) (o := .cells #[.int .i64 a0_0, .int .i64 a0_1, .slice A0_2 l0_2.length c0_2] 33 (0, 0)) (by (with_reducible repeat (first | refine blk_drewN ?_ _ | refine blk_drew ?_ | refine blk_alloc ?_ _)); refine blk_far ?_ NB652_678.out _; (with_reducible repeat (first | refine blk_drewN ?_ _ | refine blk_drew ?_ | refine blk_alloc ?_ _)); refine blk_far ?_ NB652_678.out _; (with_reducible repeat (first | refine blk_drewN ?_ _ | refine blk_drew ?_ | refine blk_alloc ?_ _)); refine blk_far ?_ NB652_678.out _; (with_reducible repeat (first | refine blk_drewN ?_ _ | refine blk_drew ?_ | refine blk_alloc ?_ _)); exact BK652.out) hb); have n5_ := Aside0.mk (blk_below (g := gb665) (o := .cells #[.int .i64 t659, .int .i64 t660, .slice Ao23 t661.length co23] 42 (0, 0)) (by (with_reducible repeat (first | refine blk_drewN ?_ _ | refine blk_drew ?_ | refine blk_alloc ?_ _)); refine blk_far ?_ NB665_678.out _; (with_reducible repeat (first | refine blk_drewN ?_ _ | refine blk_drew ?_ | refine blk_alloc ?_ _)); refine blk_far ?_ NB665_678.out _; (with_reducible repeat (first | refine blk_drewN ?_ _ | refine blk_drew ?_ | refine blk_alloc ?_ _)); refine blk_far ?_ NB665_678.out _; (with_reducible repeat (first | refine blk_drewN ?_ _ | refine blk_drew ?_ | refine blk_alloc ?_ _)); exact BK665.out) hb); have n6_ := Aside0.mk (blk_below (g := gb671) (o := .cells #[.int .i64 t666, .int .i64 t667, .slice Ao30 t668.length co30] 42 (0, 0)) (by (with_reducible repeat (first | refine blk_drewN ?_ _ | refine blk_drew ?_ | refine blk_alloc ?_ _)); refine blk_far ?_ NB671_678.out _; (with_reducible repeat (first | refine blk_drewN ?_ _ | refine blk_drew ?_ | refine blk_alloc ?_ _)); refine blk_far ?_ NB671_678.out _; (with_reducible repeat (first | refine blk_drewN ?_ _ | refine blk_drew ?_ | refine blk_alloc ?_ _)); refine blk_far ?_ NB671_678.out _; (with_reducible repeat (first | refine blk_drewN ?_ _ | refine blk_drew ?_ | refine blk_alloc ?_ _)); exact BK671.out) hb); have n7_ := Aside0.mk (blk_below (g := gb678) (o := .cells #[.int .i64 t672, .int .i64 t673, .slice Ao37 t674.length co37] 42 (0, 0)) (by (with_reducible repeat (first | refine blk_drewN ?_ _ | refine blk_drew ?_ | refine blk_alloc ?_ _)); refine blk_put (cs := #[.int .i64 t672, .int .i64 t673, .slice none 0 0]) ?_ 2 _ rfl; (with_reducible repeat (first | refine blk_drewN ?_ _ | refine blk_drew ?_ | refine blk_alloc ?_ _)); refine blk_put (cs := #[.int .i64 t672, .int .i64 0, .slice none 0 0]) ?_ 1 _ rfl; (with_reducible repeat (first | refine blk_drewN ?_ _ | refine blk_drew ?_ | refine blk_alloc ?_ _)); refine blk_put (cs := #[.int .i64 0, .int .i64 0, .slice none 0 0]) ?_ 0 _ rfl; (with_reducible repeat (first | refine blk_drewN ?_ _ | refine blk_drew ?_ | refine blk_alloc ?_ _)); exact BK678.out) hb); have n8_ := Aside0.mk (below_step (by repeat (first | (with_reducible first | exact HB.out | apply below_alloc | apply pw_below_drewN | apply below_drew1 | refine below_set ?_ GE652.out | refine below_set ?_ GE665.out | refine below_set ?_ GE671.out | refine below_set ?_ GE678.out) | exact HB.out)) hb); clear HO658; clear HO663; clear HO670; clear HO676; clear BK652; clear BK665; clear BK671; clear BK678; clear HB; have HO658 := n0_; have HO663 := n1_; have HO670 := n2_; have HO676 := n3_; have BK652 := n4_; have BK665 := n5_; have BK671 := n6_; have BK678 := n7_; have HB := n8_; clear n0_ n1_ n2_ n3_ n4_ n5_ n6_ n7_ n8_; (try clear hb); (try clear hb2); (try clear hk); (try clear hi)))
    go_meet
    case rel => exact ⟨_, ((t677 != t664)), (by first | rfl | (simp; done) | (simp [*]; done)), H', ⟨by first | omega | exact Nat.le_refl _⟩, ⟨by (with_reducible repeat (first | apply Kd.R_alloc | apply Kd.R_drewN | apply Kd.R_drew)); exact Kd.R_mono HO663.out (fun _ hk => ⟨hk.1.2, hk.2⟩)⟩, ⟨by (with_reducible repeat (first | apply Kd.R_alloc | apply Kd.R_drewN | apply Kd.R_drew)); exact Kd.R_mono HO670.out (fun _ hk => ⟨hk.1.2, hk.2⟩)⟩, ⟨by (with_reducible repeat (first | apply Kd.R_alloc | apply Kd.R_drewN | apply Kd.R_drew)); exact Kd.R_mono HO676.out (fun _ hk => ⟨hk.1.2, hk.2⟩)⟩, ⟨by (with_reducible repeat (first | refine blk_drewN ?_ _ | refine blk_drew ?_ | refine blk_alloc ?_ _)); exact BK652.out⟩, ⟨by (with_reducible repeat (first | refine blk_drewN ?_ _ | refine blk_drew ?_ | refine blk_alloc ?_ _)); exact BK665.out⟩, ⟨by (with_reducible repeat (first | refine blk_drewN ?_ _ | refine blk_drew ?_ | refine blk_alloc ?_ _)); exact BK671.out⟩, ⟨by (with_reducible repeat (first | refine blk_drewN ?_ _ | refine blk_drew ?_ | refine blk_alloc ?_ _)); exact BK678.out⟩, ⟨by repeat (first | (with_reducible first | exact HB.out | apply below_alloc | apply pw_below_drewN | apply below_drew1 | refine below_set ?_ GE652.out | refine below_set ?_ GE665.out | refine below_set ?_ GE671.out | refine below_set ?_ GE678.out) | exact HB.out)⟩⟩
   ·replace c39 := Bool.eq_false_iff.mpr c39
    subst c39
    have H1 : (laws_FnExactDropClue.j0 k a1 t664 t677 true a0_0 a0_1 l0_2 t659 t660 t661 t666 t667 t668 t672 t673 t674) = some r := by rw [if_neg (show ¬ (false = true) by decide)] at H; exact H
    clear H
    have H := H1
    clear H1
    have H' := Aside0.mk H
    clear H
    have hnb48 := NB678_652.out
    have hnc48 := NB652_678.out
    have hnb49 := NB678_665.out
    have hnc49 := NB665_678.out
    have hnb50 := NB678_671.out
    have hnc50 := NB671_678.out
    have hcz51_0 : w32.cell? ⟨gb678, 0, none⟩ = some (.int .i64 0) := (blk_cell BK678.out 0).trans rfl
    have hcz51_1 : w32.cell? ⟨gb678, 1, none⟩ = some (.int .i64 0) := (blk_cell BK678.out 1).trans rfl
    have hcz51_2 : w32.cell? ⟨gb678, 2, none⟩ = some (.slice none 0 0) := (blk_cell BK678.out 2).trans rfl
    have hfz51_0 := blk_frozen BK678.out 0
    have hfz51_1 := blk_frozen BK678.out 1
    have hfz51_2 := blk_frozen BK678.out 2
    have hnb52 := NB665_652.out
    have hnc52 := NB652_665.out
    have hnb53 := NB665_671.out
    have hnc53 := NB671_665.out
    have hcz54_0 : w32.cell? ⟨gb665, 0, none⟩ = some (.int .i64 t659) := (blk_cell BK665.out 0).trans rfl
    have hcz54_1 : w32.cell? ⟨gb665, 1, none⟩ = some (.int .i64 t660) := (blk_cell BK665.out 1).trans rfl
    have hcz54_2 : w32.cell? ⟨gb665, 2, none⟩ = some (.slice Ao23 t661.length co23) := (blk_cell BK665.out 2).trans rfl
    have hfz54_0 := blk_frozen BK665.out 0
    have hfz54_1 := blk_frozen BK665.out 1
    have hfz54_2 := blk_frozen BK665.out 2
    go_wp2_with (first | ((with_reducible refine gate_callee (f := 29) rfl ?_); refine goesL_ (some 38) rfl rfl Try.func29 (by kernel_rfl) rfl #[.agg #[.int .i64 t672, .int .i64 t673, .slice Ao37 t674.length co37], .agg #[.int .i64 t659, .int .i64 t660, .slice Ao23 t661.length co23]] rfl (by (try simp only [List.map_toArray, List.map_cons, List.map_nil]); first | done | rfl | (simp only [List.length_drop, List.length_take]; rfl)) ?_; (with_reducible refine (laws_eqPuzzle.calls k t672 t673 _ _ t674 t659 t660 _ _ t661 false _ ?side1 ?side2 ?side3 ?side4 A38.out).mono ?_); (case side1 => refine (Kd.R_reads' (e := 28) (base := w.heap.size) (ok := fun k_ => (((True ∧ some k_ ≠ (.slice Ao18 t656.length co18 : Value).ownBlock) ∧ some k_ ≠ (.slice Ao23 t661.length co23 : Value).ownBlock) ∧ some k_ ≠ (.slice Ao30 t668.length co30 : Value).ownBlock)) (n := t674.length) (c := co37) ?_).2.2; exact (by (with_reducible repeat (first | apply Kd.R_alloc | apply Kd.R_drewN | apply Kd.R_drew)); exact (Kd.R_mono (Kd.R_far (p := ⟨gb678, 2, none⟩) (Kd.R_far (p := ⟨gb678, 1, none⟩) (Kd.R_far (p := ⟨gb678, 0, none⟩) (Kd.R_types HO676.out BK678.out (by decide)) (fun _ hk => hk.2) (.int .i64 t672)) (fun _ hk => hk.2) (.int .i64 t673)) (fun _ hk => hk.2) (.slice Ao37 t674.length co37)) (fun _ h_ => h_.1)))); (case side2 => exact (Kd.R_reads' HO676.out).2.1); (case side3 => refine (Kd.R_reads' (e := 28) (base := w.heap.size) (ok := fun k_ => (((True ∧ some k_ ≠ (.slice Ao18 t656.length co18 : Value).ownBlock) ∧ some k_ ≠ (.slice Ao30 t668.length co30 : Value).ownBlock) ∧ some k_ ≠ (.slice Ao37 t674.length co37 : Value).ownBlock)) (n := t661.length) (c := co23) ?_).2.2; exact (by (with_reducible repeat (first | apply Kd.R_alloc | apply Kd.R_drewN | apply Kd.R_drew)); exact (Kd.R_mono (Kd.R_far (p := ⟨gb678, 2, none⟩) (Kd.R_far (p := ⟨gb678, 1, none⟩) (Kd.R_far (p := ⟨gb678, 0, none⟩) (Kd.R_types HO663.out BK678.out (by decide)) (fun _ hk => hk.2) (.int .i64 t672)) (fun _ hk => hk.2) (.int .i64 t673)) (fun _ hk => hk.2) (.slice Ao37 t674.length co37)) (fun _ h_ => h_.1)))); (case side4 => exact (Kd.R_reads' HO663.out).2.1); rintro e w55 ⟨rfl, hb⟩; refine ⟨_, rfl, ?_⟩; have n0_ := Aside0.mk (Kd.R_below (by (with_reducible repeat (first | apply Kd.R_alloc | apply Kd.R_drewN | apply Kd.R_drew)); exact (Kd.R_mono (Kd.R_far (p := ⟨gb678, 2, none⟩) (Kd.R_far (p := ⟨gb678, 1, none⟩) (Kd.R_far (p := ⟨gb678, 0, none⟩) (Kd.R_types HO658.out BK678.out (by decide)) (fun _ hk => hk.2) (.int .i64 t672)) (fun _ hk => hk.2) (.int .i64 t673)) (fun _ hk => hk.2) (.slice Ao37 t674.length co37)) (fun _ h_ => h_.1))) hb); have n1_ := Aside0.mk (Kd.R_below (by (with_reducible repeat (first | apply Kd.R_alloc | apply Kd.R_drewN | apply Kd.R_drew)); exact (Kd.R_mono (Kd.R_far (p := ⟨gb678, 2, none⟩) (Kd.R_far (p := ⟨gb678, 1, none⟩) (Kd.R_far (p := ⟨gb678, 0, none⟩) (Kd.R_types HO663.out BK678.out (by decide)) (fun _ hk => hk.2) (.int .i64 t672)) (fun _ hk => hk.2) (.int .i64 t673)) (fun _ hk => hk.2) (.slice Ao37 t674.length co37)) (fun _ h_ => h_.1))) hb); have n2_ := Aside0.mk (Kd.R_below (by (with_reducible repeat (first | apply Kd.R_alloc | apply Kd.R_drewN | apply Kd.R_drew)); exact (Kd.R_mono (Kd.R_far (p := ⟨gb678, 2, none⟩) (Kd.R_far (p := ⟨gb678, 1, none⟩) (Kd.R_far (p := ⟨gb678, 0, none⟩) (Kd.R_types HO670.out BK678.out (by decide)) (fun _ hk => hk.2) (.int .i64 t672)) (fun _ hk => hk.2) (.int .i64 t673)) (fun _ hk => hk.2) (.slice Ao37 t674.length co37)) (fun _ h_ => h_.1))) hb); have n3_ := Aside0.mk (Kd.R_below (by (with_reducible repeat (first | apply Kd.R_alloc | apply Kd.R_drewN | apply Kd.R_drew)); exact (Kd.R_mono (Kd.R_far (p := ⟨gb678, 2, none⟩) (Kd.R_far (p := ⟨gb678, 1, none⟩) (Kd.R_far (p := ⟨gb678, 0, none⟩) (Kd.R_types HO676.out BK678.out (by decide)) (fun _ hk => hk.2) (.int .i64 t672)) (fun _ hk => hk.2) (.int .i64 t673)) (fun _ hk => hk.2) (.slice Ao37 t674.length co37)) (fun _ h_ => h_.1))) hb); have n4_ := Aside0.mk (blk_below (g := gb652) (o := .cells #[.int .i64 a0_0, .int .i64 a0_1, .slice A0_2 l0_2.length c0_2] 33 (0, 0)) (by (with_reducible repeat (first | refine blk_drewN ?_ _ | refine blk_drew ?_ | refine blk_alloc ?_ _)); refine blk_far ?_ NB652_678.out _; (with_reducible repeat (first | refine blk_drewN ?_ _ | refine blk_drew ?_ | refine blk_alloc ?_ _)); refine blk_far ?_ NB652_678.out _; (with_reducible repeat (first | refine blk_drewN ?_ _ | refine blk_drew ?_ | refine blk_alloc ?_ _)); refine blk_far ?_ NB652_678.out _; (with_reducible repeat (first | refine blk_drewN ?_ _ | refine blk_drew ?_ | refine blk_alloc ?_ _)); exact BK652.out) hb); have n5_ := Aside0.mk (blk_below (g := gb665) (o := .cells #[.int .i64 t659, .int .i64 t660, .slice Ao23 t661.length co23] 42 (0, 0)) (by (with_reducible repeat (first | refine blk_drewN ?_ _ | refine blk_drew ?_ | refine blk_alloc ?_ _)); refine blk_far ?_ NB665_678.out _; (with_reducible repeat (first | refine blk_drewN ?_ _ | refine blk_drew ?_ | refine blk_alloc ?_ _)); refine blk_far ?_ NB665_678.out _; (with_reducible repeat (first | refine blk_drewN ?_ _ | refine blk_drew ?_ | refine blk_alloc ?_ _)); refine blk_far ?_ NB665_678.out _; (with_reducible repeat (first | refine blk_drewN ?_ _ | refine blk_drew ?_ | refine blk_alloc ?_ _)); exact BK665.out) hb); have n6_ := Aside0.mk (blk_below (g := gb671) (o := .cells #[.int .i64 t666, .int .i64 t667, .slice Ao30 t668.length co30] 42 (0, 0)) (by (with_reducible repeat (first | refine blk_drewN ?_ _ | refine blk_drew ?_ | refine blk_alloc ?_ _)); refine blk_far ?_ NB671_678.out _; (with_reducible repeat (first | refine blk_drewN ?_ _ | refine blk_drew ?_ | refine blk_alloc ?_ _)); refine blk_far ?_ NB671_678.out _; (with_reducible repeat (first | refine blk_drewN ?_ _ | refine blk_drew ?_ | refine blk_alloc ?_ _)); refine blk_far ?_ NB671_678.out _; (with_reducible repeat (first | refine blk_drewN ?_ _ | refine blk_drew ?_ | refine blk_alloc ?_ _)); exact BK671.out) hb); have n7_ := Aside0.mk (blk_below (g := gb678) (o := .cells #[.int .i64 t672, .int .i64 t673, .slice Ao37 t674.length co37] 42 (0, 0)) (by (with_reducible repeat (first | refine blk_drewN ?_ _ | refine blk_drew ?_ | refine blk_alloc ?_ _)); refine blk_put (cs := #[.int .i64 t672, .int .i64 t673, .slice none 0 0]) ?_ 2 _ rfl; (with_reducible repeat (first | refine blk_drewN ?_ _ | refine blk_drew ?_ | refine blk_alloc ?_ _)); refine blk_put (cs := #[.int .i64 t672, .int .i64 0, .slice none 0 0]) ?_ 1 _ rfl; (with_reducible repeat (first | refine blk_drewN ?_ _ | refine blk_drew ?_ | refine blk_alloc ?_ _)); refine blk_put (cs := #[.int .i64 0, .int .i64 0, .slice none 0 0]) ?_ 0 _ rfl; (with_reducible repeat (first | refine blk_drewN ?_ _ | refine blk_drew ?_ | refine blk_alloc ?_ _)); exact BK678.out) hb); have n8_ := Aside0.mk (below_step (by repeat (first | (with_reducible first | exact HB.out | apply below_alloc | apply pw_below_drewN | apply below_drew1 | refine below_set ?_ GE652.out | refine below_set ?_ GE665.out | refine below_set ?_ GE671.out | refine below_set ?_ GE678.out) | exact HB.out)) hb); clear HO658; clear HO663; clear HO670; clear HO676; clear BK652; clear BK665; clear BK671; clear BK678; clear HB; have HO658 := n0_; have HO663 := n1_; have HO670 := n2_; have HO676 := n3_; have BK652 := n4_; have BK665 := n5_; have BK671 := n6_; have BK678 := n7_; have HB := n8_; clear n0_ n1_ n2_ n3_ n4_ n5_ n6_ n7_ n8_; (try clear hb); (try clear hb2); (try clear hk); (try clear hi)))
    go_meet
    case rel => exact ⟨_, (true), (by first | rfl | (simp; done) | (simp [*]; done)), H', ⟨by first | omega | exact Nat.le_refl _⟩, ⟨by (with_reducible repeat (first | apply Kd.R_alloc | apply Kd.R_drewN | apply Kd.R_drew)); exact Kd.R_mono HO663.out (fun _ hk => ⟨hk.1.2, hk.2⟩)⟩, ⟨by (with_reducible repeat (first | apply Kd.R_alloc | apply Kd.R_drewN | apply Kd.R_drew)); exact Kd.R_mono HO670.out (fun _ hk => ⟨hk.1.2, hk.2⟩)⟩, ⟨by (with_reducible repeat (first | apply Kd.R_alloc | apply Kd.R_drewN | apply Kd.R_drew)); exact Kd.R_mono HO676.out (fun _ hk => ⟨hk.1.2, hk.2⟩)⟩, ⟨by (with_reducible repeat (first | refine blk_drewN ?_ _ | refine blk_drew ?_ | refine blk_alloc ?_ _)); exact BK652.out⟩, ⟨by (with_reducible repeat (first | refine blk_drewN ?_ _ | refine blk_drew ?_ | refine blk_alloc ?_ _)); exact BK665.out⟩, ⟨by (with_reducible repeat (first | refine blk_drewN ?_ _ | refine blk_drew ?_ | refine blk_alloc ?_ _)); exact BK671.out⟩, ⟨by (with_reducible repeat (first | refine blk_drewN ?_ _ | refine blk_drew ?_ | refine blk_alloc ?_ _)); exact BK678.out⟩, ⟨by repeat (first | (with_reducible first | exact HB.out | apply below_alloc | apply pw_below_drewN | apply below_drew1 | refine below_set ?_ GE652.out | refine below_set ?_ GE665.out | refine below_set ?_ GE671.out | refine below_set ?_ GE678.out) | exact HB.out)⟩⟩
  case rest =>
   clear HC12
   try clear c2
   try clear p2
   try clear c3
   try clear c4
   try clear c4b0
   try clear c5
   try clear c9
   try clear c21
   try clear c24
   try clear c26
   try clear c27
   try clear c28
   try clear c29
   try clear c33
   try clear c34
   try clear c35
   try clear c39
   try clear c40
   try clear c41
   try clear c42
   try clear c43
   try clear c44
   try clear c45
   try clear c48
   try clear c49
   try clear c50
   try clear c52
   try clear c53
   try clear hcz14_0
   try clear hcz14_1
   try clear hcz14_2
   try clear hcz16_0
   try clear hcz16_1
   try clear hcz16_2
   try clear hcz22_0
   try clear hcz22_1
   try clear hcz22_2
   try clear hcz24_0
   try clear hcz24_1
   try clear hcz24_2
   try clear hcz29_0
   try clear hcz29_1
   try clear hcz29_2
   try clear hcz36_0
   try clear hcz36_1
   try clear hcz36_2
   try clear hcz43_0
   try clear hcz43_1
   try clear hcz43_2
   try clear hcz46_0
   try clear hcz46_1
   try clear hcz46_2
   try clear hcz51_0
   try clear hcz51_1
   try clear hcz51_2
   try clear hcz54_0
   try clear hcz54_1
   try clear hcz54_2
   try clear hcz6_0
   try clear hcz6_1
   try clear hcz6_2
   try clear hfz14_0
   try clear hfz14_1
   try clear hfz14_2
   try clear hfz16_0
   try clear hfz16_1
   try clear hfz16_2
   try clear hfz22_0
   try clear hfz22_1
   try clear hfz22_2
   try clear hfz24_0
   try clear hfz24_1
   try clear hfz24_2
   try clear hfz29_0
   try clear hfz29_1
   try clear hfz29_2
   try clear hfz36_0
   try clear hfz36_1
   try clear hfz36_2
   try clear hfz43_0
   try clear hfz43_1
   try clear hfz43_2
   try clear hfz46_0
   try clear hfz46_1
   try clear hfz46_2
   try clear hfz51_0
   try clear hfz51_1
   try clear hfz51_2
   try clear hfz54_0
   try clear hfz54_1
   try clear hfz54_2
   try clear hfz6_0
   try clear hfz6_1
   try clear hfz6_2
   obtain ⟨kq, x44_11, rfl, HA, HJ11, HO_666002, HO_672002, HO_679002, BK652, BK665, BK671, BK678, HB⟩ := hcut
   cases kq with
   | zero => exact absurd HA.out (by simp [laws_FnExactDropClue.j0])
   | succ kj11 =>
    have H := HA.out
    clear HA
    simp only [laws_FnExactDropClue.j0] at H
    by_cases c56 : x44_11 = true
    ·subst c56
     have H1 : (some false) = some r := by rw [if_pos rfl] at H; exact H
     clear H
     have H := H1
     clear H1
     obtain rfl := Option.some.inj H
     go_wp2
     go_ret
     exact ⟨by first | rfl | (simp [errW_none, errW_some] <;> rfl) | (simp [*, errW_none, errW_some] <;> rfl), by repeat (first | (with_reducible first | exact HB.out | apply below_alloc | apply pw_below_drewN | apply below_drew1 | refine below_set ?_ GE652.out | refine below_set ?_ GE665.out | refine below_set ?_ GE671.out | refine below_set ?_ GE678.out) | exact HB.out)⟩
    ·replace c56 := Bool.eq_false_iff.mpr c56
     subst c56
     have H1 : ((laws_toPuzzle.f kj11 a0_0 a0_1 l0_2).bind fun bt680 => ((laws_eqPuzzle.f kj11 t666 t667 t668 bt680.1 bt680.2.1 bt680.2.2).bind fun t685 => (if t685 = true then ((laws_markPuzzle.f kj11 t666 t667 t668 1).bind fun bt686 => (if bt686.1 < 0 then (laws_FnExactDropClue.j1 kj11 a1 t664 true a0_0 a0_1 l0_2 t659 t660 t661 t672 t673 t674) else ((laws_eqPuzzle.f kj11 t672 t673 t674 t659 t660 t661).bind fun t688 => (if t688 = true then (laws_FnExactDropClue.j1 kj11 a1 t664 (t677 != t664) a0_0 a0_1 l0_2 t659 t660 t661 t672 t673 t674) else (laws_FnExactDropClue.j1 kj11 a1 t664 true a0_0 a0_1 l0_2 t659 t660 t661 t672 t673 t674))))) else (some false)))) = some r := by rw [if_neg (show ¬ (false = true) by decide)] at H; exact H
     clear H
     have H := H1
     clear H1
     replace H := Option.bind_eq_some_iff.mp H
     obtain ⟨⟨t680, t681, t682⟩, A570, H⟩ := H
     replace H : ((laws_eqPuzzle.f kj11 t666 t667 t668 t680 t681 t682).bind fun t685 => (if t685 = true then ((laws_markPuzzle.f kj11 t666 t667 t668 1).bind fun bt686 => (if bt686.1 < 0 then (laws_FnExactDropClue.j1 kj11 a1 t664 true a0_0 a0_1 l0_2 t659 t660 t661 t672 t673 t674) else ((laws_eqPuzzle.f kj11 t672 t673 t674 t659 t660 t661).bind fun t688 => (if t688 = true then (laws_FnExactDropClue.j1 kj11 a1 t664 (t677 != t664) a0_0 a0_1 l0_2 t659 t660 t661 t672 t673 t674) else (laws_FnExactDropClue.j1 kj11 a1 t664 true a0_0 a0_1 l0_2 t659 t660 t661 t672 t673 t674))))) else (some false))) = some r := H
     have A57 := Aside0.mk A570
     clear A570
     replace H := Option.bind_eq_some_iff.mp H
     obtain ⟨t685, A580, H⟩ := H
     replace H : (if t685 = true then ((laws_markPuzzle.f kj11 t666 t667 t668 1).bind fun bt686 => (if bt686.1 < 0 then (laws_FnExactDropClue.j1 kj11 a1 t664 true a0_0 a0_1 l0_2 t659 t660 t661 t672 t673 t674) else ((laws_eqPuzzle.f kj11 t672 t673 t674 t659 t660 t661).bind fun t688 => (if t688 = true then (laws_FnExactDropClue.j1 kj11 a1 t664 (t677 != t664) a0_0 a0_1 l0_2 t659 t660 t661 t672 t673 t674) else (laws_FnExactDropClue.j1 kj11 a1 t664 true a0_0 a0_1 l0_2 t659 t660 t661 t672 t673 t674))))) else (some false)) = some r := H
     have A58 := Aside0.mk A580
     clear A580
     by_cases c59 : t685 = true
     ·subst c59
      have H1 : ((laws_markPuzzle.f kj11 t666 t667 t668 1).bind fun bt686 => (if bt686.1 < 0 then (laws_FnExactDropClue.j1 kj11 a1 t664 true a0_0 a0_1 l0_2 t659 t660 t661 t672 t673 t674) else ((laws_eqPuzzle.f kj11 t672 t673 t674 t659 t660 t661).bind fun t688 => (if t688 = true then (laws_FnExactDropClue.j1 kj11 a1 t664 (t677 != t664) a0_0 a0_1 l0_2 t659 t660 t661 t672 t673 t674) else (laws_FnExactDropClue.j1 kj11 a1 t664 true a0_0 a0_1 l0_2 t659 t660 t661 t672 t673 t674))))) = some r := by rw [if_pos rfl] at H; exact H
      clear H
      have H := H1
      clear H1
      replace H := Option.bind_eq_some_iff.mp H
      obtain ⟨⟨t686, t687⟩, A600, H⟩ := H
      replace H : (if t686 < 0 then (laws_FnExactDropClue.j1 kj11 a1 t664 true a0_0 a0_1 l0_2 t659 t660 t661 t672 t673 t674) else ((laws_eqPuzzle.f kj11 t672 t673 t674 t659 t660 t661).bind fun t688 => (if t688 = true then (laws_FnExactDropClue.j1 kj11 a1 t664 (t677 != t664) a0_0 a0_1 l0_2 t659 t660 t661 t672 t673 t674) else (laws_FnExactDropClue.j1 kj11 a1 t664 true a0_0 a0_1 l0_2 t659 t660 t661 t672 t673 t674)))) = some r := H
      have A60 := Aside0.mk A600
      clear A600
      have HC61 := Aside0.mk H
      clear H
      try go_wp2
      have n0_ := Aside0.mk (Kd.R_drew HO_666002.out)
      have n1_ := Aside0.mk (Kd.R_drew HO_672002.out)
      have n2_ := Aside0.mk (Kd.R_drew HO_679002.out)
      have n3_ := Aside0.mk (blk_drew BK652.out)
      have n4_ := Aside0.mk (blk_drew BK665.out)
      have n5_ := Aside0.mk (blk_drew BK671.out)
      have n6_ := Aside0.mk (blk_drew BK678.out)
      have n7_ := Aside0.mk (below_drew1 HB.out)
      clear HO_666002
      clear HO_672002
      clear HO_679002
      clear BK652
      clear BK665
      clear BK671
      clear BK678
      clear HB
      have HO_666002 := n0_
      have HO_672002 := n1_
      have HO_679002 := n2_
      have BK652 := n3_
      have BK665 := n4_
      have BK671 := n5_
      have BK678 := n6_
      have HB := n7_
      clear n0_ n1_ n2_ n3_ n4_ n5_ n6_ n7_
      refine start_ (n := 5) (S := fun w' => w'.cell? ⟨gb671, 0, none⟩ = some (.int .i64 t666) ∧ w'.cell? ⟨gb671, 1, none⟩ = some (.int .i64 t667) ∧ w'.cell? ⟨gb671, 2, none⟩ = some (.slice Ao30 t668.length co30) ∧ w'.cell? ⟨gb652, 0, none⟩ = some (.int .i64 a0_0) ∧ w'.cell? ⟨gb652, 1, none⟩ = some (.int .i64 a0_1) ∧ w'.cell? ⟨gb652, 2, none⟩ = some (.slice A0_2 l0_2.length c0_2)) (ds := []) #[false, false, false, false, false] (by kernel_rfl) rfl rfl ⟨(blk_cell BK671.out 0).trans rfl, (blk_cell BK671.out 1).trans rfl, (blk_cell BK671.out 2).trans rfl, (blk_cell BK652.out 0).trans rfl, (blk_cell BK652.out 1).trans rfl, (blk_cell BK652.out 2).trans rfl⟩ (fun hHeld => ?_)
      generalize wc.drew = w62 at HO_666002 HO_672002 HO_679002 BK652 BK665 BK671 BK678 HB hHeld ⊢
      refine take_ (i := 0) (N := some 45) (v := ?_) (a' := ?_) #[true, false, false, false, false] rfl rfl (by kernel_rfl) (fun _ _ _ h => h) (Or.inl ⟨by rfl, ?_⟩) hHeld ?_ ?_
      rotate_left
      ·rintro w' ⟨s0, s1, s2, s3, s4, s5⟩
       go_simp
       with_reducible rfl
      rotate_left
      ·simp only [Act.put, List.setIfInBounds_toArray, List.set_cons_zero, List.set_cons_succ, i64_w, i32_w]
       rfl
      refine take_ (i := 1) (N := some 46) (v := ?_) (a' := ?_) #[true, true, false, false, false] rfl rfl (by kernel_rfl) (fun _ _ _ h => h) (Or.inl ⟨by rfl, ?_⟩) hHeld ?_ ?_
      rotate_left
      ·rintro w' ⟨s0, s1, s2, s3, s4, s5⟩
       go_simp
       with_reducible rfl
      rotate_left
      ·simp only [Act.put, List.setIfInBounds_toArray, List.set_cons_zero, List.set_cons_succ, i64_w, i32_w]
       rfl
      refine one_ (i := 2) (N := some 47) #[true, true, true, false, false] rfl rfl (by kernel_rfl) (by decide) (fun K hK => ?_)
      refine goes_ Try.func26 (by kernel_rfl) rfl #[.agg #[.int .i64 a0_0, .int .i64 a0_1, .slice A0_2 l0_2.length c0_2]] (by rfl) rfl rfl (by (try simp only [List.map_toArray, List.map_cons, List.map_nil]); first | done | rfl | (simp only [List.length_drop, List.length_take]; rfl)) ?_
      with_reducible refine (laws_toPuzzle.calls kj11 a0_0 a0_1 _ _ l0_2 t680 t681 t682 _ ?side1 ?side2 A57.out).mono ?_
      (case side1 => repeat (first | exact (Kd.C_below HR0_2.out HB.out) | (with_reducible refine Kd.C_alloc ?_ _) | (with_reducible refine Kd.C_drewN ?_ _) | (with_reducible refine Kd.C_drew ?_)))
      (case side2 => exact HC0_2.out)
      rintro e w63 ⟨v683, rfl, ho0, hb⟩
      refine ⟨_, rfl, ?_⟩
      have n0_ := Aside0.mk (Kd.R_elder' (by (with_reducible repeat (first | apply Kd.R_alloc | apply Kd.R_drewN | apply Kd.R_drew)); exact HO_666002.out) (Kd.R_base ho0) hb)
      have n1_ := Aside0.mk (Kd.R_elder' (by (with_reducible repeat (first | apply Kd.R_alloc | apply Kd.R_drewN | apply Kd.R_drew)); exact HO_672002.out) (Kd.R_base ho0) hb)
      have n2_ := Aside0.mk (Kd.R_elder' (by (with_reducible repeat (first | apply Kd.R_alloc | apply Kd.R_drewN | apply Kd.R_drew)); exact HO_679002.out) (Kd.R_base ho0) hb)
      have n3_ := Aside0.mk (Kd.R_lower (Kd.R_new' (Kd.R_new' (Kd.R_new' ho0 (Kd.R_lt (by (with_reducible repeat (first | apply Kd.R_alloc | apply Kd.R_drewN | apply Kd.R_drew)); exact HO_666002.out))) (Kd.R_lt (by (with_reducible repeat (first | apply Kd.R_alloc | apply Kd.R_drewN | apply Kd.R_drew)); exact HO_672002.out))) (Kd.R_lt (by (with_reducible repeat (first | apply Kd.R_alloc | apply Kd.R_drewN | apply Kd.R_drew)); exact HO_679002.out))) (below_size (by repeat (first | (with_reducible first | exact HB.out | apply below_alloc | apply pw_below_drewN | apply below_drew1 | refine below_set ?_ GE652.out | refine below_set ?_ GE665.out | refine below_set ?_ GE671.out | refine below_set ?_ GE678.out) | exact HB.out))))
      have n4_ := Aside0.mk (blk_below (g := gb652) (o := .cells #[.int .i64 a0_0, .int .i64 a0_1, .slice A0_2 l0_2.length c0_2] 33 (0, 0)) (by (with_reducible repeat (first | refine blk_drewN ?_ _ | refine blk_drew ?_ | refine blk_alloc ?_ _)); exact BK652.out) hb)
      have n5_ := Aside0.mk (blk_below (g := gb665) (o := .cells #[.int .i64 t659, .int .i64 t660, .slice Ao23 t661.length co23] 42 (0, 0)) (by (with_reducible repeat (first | refine blk_drewN ?_ _ | refine blk_drew ?_ | refine blk_alloc ?_ _)); exact BK665.out) hb)
      have n6_ := Aside0.mk (blk_below (g := gb671) (o := .cells #[.int .i64 t666, .int .i64 t667, .slice Ao30 t668.length co30] 42 (0, 0)) (by (with_reducible repeat (first | refine blk_drewN ?_ _ | refine blk_drew ?_ | refine blk_alloc ?_ _)); exact BK671.out) hb)
      have n7_ := Aside0.mk (blk_below (g := gb678) (o := .cells #[.int .i64 t672, .int .i64 t673, .slice Ao37 t674.length co37] 42 (0, 0)) (by (with_reducible repeat (first | refine blk_drewN ?_ _ | refine blk_drew ?_ | refine blk_alloc ?_ _)); exact BK678.out) hb)
      have n8_ := Aside0.mk (below_step (by repeat (first | (with_reducible first | exact HB.out | apply below_alloc | apply pw_below_drewN | apply below_drew1 | refine below_set ?_ GE652.out | refine below_set ?_ GE665.out | refine below_set ?_ GE671.out | refine below_set ?_ GE678.out) | exact HB.out)) hb)
      clear HO_666002
      clear HO_672002
      clear HO_679002
      clear BK652
      clear BK665
      clear BK671
      clear BK678
      clear HB
      have HO_666002 := n0_
      have HO_672002 := n1_
      have HO_679002 := n2_
      have HO684 := n3_
      have BK652 := n4_
      have BK665 := n5_
      have BK671 := n6_
      have BK678 := n7_
      have HB := n8_
      clear n0_ n1_ n2_ n3_ n4_ n5_ n6_ n7_ n8_
      (try clear hb)
      (try clear hb2)
      (try clear hk)
      (try clear hi)
      (try clear ho0)
      obtain ⟨Ao64, co64, eo64⟩ := Kd.R_slice HO684.out
      (first | subst eo64 | (injection eo64 with f1_ f2_ f3_; have f4_ := f1_.symm; have f5_ := f3_.symm; clear f1_ f2_ f3_; subst f4_; subst f5_))
      refine hK.out _ _ ⟨(blk_cell BK671.out 0).trans rfl, (blk_cell BK671.out 1).trans rfl, (blk_cell BK671.out 2).trans rfl, (blk_cell BK652.out 0).trans rfl, (blk_cell BK652.out 1).trans rfl, (blk_cell BK652.out 2).trans rfl⟩ (fun hHeld => ?_)
      clear hK K
      refine norm_ (a' := ?_) ?_ ?_
      rotate_left
      ·show Act.put _ (some 47) _ = _
       simp only [Act.put, List.setIfInBounds_toArray, List.set_cons_zero, List.set_cons_succ, i64_w, i32_w]
       rfl
      refine one_ (i := 3) (N := some 48) #[true, true, true, true, false] rfl rfl (by kernel_rfl) (by decide) (fun K hK => ?_)
      refine goes_ Try.func29 (by kernel_rfl) rfl #[.agg #[.int .i64 t666, .int .i64 t667, .slice Ao30 t668.length co30], .agg #[.int .i64 t680, .int .i64 t681, .slice Ao64 t682.length co64]] (by rfl) rfl rfl (by (try simp only [List.map_toArray, List.map_cons, List.map_nil]); first | done | rfl | (simp only [List.length_drop, List.length_take]; rfl)) ?_
      with_reducible refine (laws_eqPuzzle.calls kj11 t666 t667 _ _ t668 t680 t681 _ _ t682 true _ ?side1 ?side2 ?side3 ?side4 A58.out).mono ?_
      (case side1 => repeat (first | exact (Kd.R_reads' HO_672002.out).2.2 | (with_reducible refine Kd.C_alloc ?_ _) | (with_reducible refine Kd.C_drewN ?_ _) | (with_reducible refine Kd.C_drew ?_)))
      (case side2 => exact (Kd.R_reads' HO_672002.out).2.1)
      (case side3 => repeat (first | exact (Kd.R_reads' HO684.out).2.2 | (with_reducible refine Kd.C_alloc ?_ _) | (with_reducible refine Kd.C_drewN ?_ _) | (with_reducible refine Kd.C_drew ?_)))
      (case side4 => exact (Kd.R_reads' HO684.out).2.1)
      rintro e w65 ⟨rfl, hb⟩
      refine ⟨_, rfl, ?_⟩
      have n0_ := Aside0.mk (Kd.R_below (by (with_reducible repeat (first | apply Kd.R_alloc | apply Kd.R_drewN | apply Kd.R_drew)); exact HO_666002.out) hb)
      have n1_ := Aside0.mk (Kd.R_below (by (with_reducible repeat (first | apply Kd.R_alloc | apply Kd.R_drewN | apply Kd.R_drew)); exact HO_672002.out) hb)
      have n2_ := Aside0.mk (Kd.R_below (by (with_reducible repeat (first | apply Kd.R_alloc | apply Kd.R_drewN | apply Kd.R_drew)); exact HO_679002.out) hb)
      have n3_ := Aside0.mk (Kd.R_below (by (with_reducible repeat (first | apply Kd.R_alloc | apply Kd.R_drewN | apply Kd.R_drew)); exact HO684.out) hb)
      have n4_ := Aside0.mk (blk_below (g := gb652) (o := .cells #[.int .i64 a0_0, .int .i64 a0_1, .slice A0_2 l0_2.length c0_2] 33 (0, 0)) (by (with_reducible repeat (first | refine blk_drewN ?_ _ | refine blk_drew ?_ | refine blk_alloc ?_ _)); exact BK652.out) hb)
      have n5_ := Aside0.mk (blk_below (g := gb665) (o := .cells #[.int .i64 t659, .int .i64 t660, .slice Ao23 t661.length co23] 42 (0, 0)) (by (with_reducible repeat (first | refine blk_drewN ?_ _ | refine blk_drew ?_ | refine blk_alloc ?_ _)); exact BK665.out) hb)
      have n6_ := Aside0.mk (blk_below (g := gb671) (o := .cells #[.int .i64 t666, .int .i64 t667, .slice Ao30 t668.length co30] 42 (0, 0)) (by (with_reducible repeat (first | refine blk_drewN ?_ _ | refine blk_drew ?_ | refine blk_alloc ?_ _)); exact BK671.out) hb)
      have n7_ := Aside0.mk (blk_below (g := gb678) (o := .cells #[.int .i64 t672, .int .i64 t673, .slice Ao37 t674.length co37] 42 (0, 0)) (by (with_reducible repeat (first | refine blk_drewN ?_ _ | refine blk_drew ?_ | refine blk_alloc ?_ _)); exact BK678.out) hb)
      have n8_ := Aside0.mk (below_step (by repeat (first | (with_reducible first | exact HB.out | apply below_alloc | apply pw_below_drewN | apply below_drew1 | refine below_set ?_ GE652.out | refine below_set ?_ GE665.out | refine below_set ?_ GE671.out | refine below_set ?_ GE678.out) | exact HB.out)) hb)
      clear HO_666002
      clear HO_672002
      clear HO_679002
      clear HO684
      clear BK652
      clear BK665
      clear BK671
      clear BK678
      clear HB
      have HO_666002 := n0_
      have HO_672002 := n1_
      have HO_679002 := n2_
      have HO684 := n3_
      have BK652 := n4_
      have BK665 := n5_
      have BK671 := n6_
      have BK678 := n7_
      have HB := n8_
      clear n0_ n1_ n2_ n3_ n4_ n5_ n6_ n7_ n8_
      (try clear hb)
      (try clear hb2)
      (try clear hk)
      (try clear hi)
      refine hK.out _ _ ⟨(blk_cell BK671.out 0).trans rfl, (blk_cell BK671.out 1).trans rfl, (blk_cell BK671.out 2).trans rfl, (blk_cell BK652.out 0).trans rfl, (blk_cell BK652.out 1).trans rfl, (blk_cell BK652.out 2).trans rfl⟩ (fun hHeld => ?_)
      clear hK K
      refine norm_ (a' := ?_) ?_ ?_
      rotate_left
      ·show Act.put _ (some 48) _ = _
       simp only [Act.put, List.setIfInBounds_toArray, List.set_cons_zero, List.set_cons_succ, i64_w, i32_w]
       rfl
      refine pure_ (i := 4) (N := some 49) (v := ?_) (a' := ?_) #[true, true, true, true, true] rfl rfl (by kernel_rfl) (fun _ _ _ h => h) (Or.inl ⟨by rfl, ?_⟩) ?_ ?_
      rotate_left
      ·intro w'
       go_simp
       with_reducible rfl
      rotate_left
      ·simp only [Act.put, List.setIfInBounds_toArray, List.set_cons_zero, List.set_cons_succ, i64_w, i32_w]
       rfl
      refine done_ (by kernel_rfl) ?_
      have hnb66 := NB671_652.out
      have hnc66 := NB652_671.out
      have hnb67 := NB671_665.out
      have hnc67 := NB665_671.out
      have hnb68 := NB671_678.out
      have hnc68 := NB678_671.out
      have hcz69_0 : w65.cell? ⟨gb671, 0, none⟩ = some (.int .i64 t666) := (blk_cell BK671.out 0).trans rfl
      have hcz69_1 : w65.cell? ⟨gb671, 1, none⟩ = some (.int .i64 t667) := (blk_cell BK671.out 1).trans rfl
      have hcz69_2 : w65.cell? ⟨gb671, 2, none⟩ = some (.slice Ao30 t668.length co30) := (blk_cell BK671.out 2).trans rfl
      have hfz69_0 := blk_frozen BK671.out 0
      have hfz69_1 := blk_frozen BK671.out 1
      have hfz69_2 := blk_frozen BK671.out 2
      go_upto_region 14 with (first | ((with_reducible refine gate_callee (f := 30) rfl ?_); refine goesL_ (some 52) rfl rfl Try.func30 (by kernel_rfl) rfl #[.agg #[.int .i64 t666, .int .i64 t667, .slice Ao30 t668.length co30], .int .i64 1] rfl (by (try simp only [List.map_toArray, List.map_cons, List.map_nil]); first | done | rfl | (simp only [List.length_drop, List.length_take]; rfl)) ?_; (with_reducible refine (laws_markPuzzle.calls kj11 t666 t667 (fun k_ => some k_ = (.slice Ao30 t668.length co30 : Value).ownBlock) (.slice Ao30 t668.length co30) t668 1 t686 t687 w _ ?side1 ?side2 A60.out).mono ?_); (case side1 => repeat (first | (with_reducible first | exact HB.out | apply below_alloc | apply pw_below_drewN | apply below_drew1 | refine below_set ?_ GE652.out | refine below_set ?_ GE665.out | refine below_set ?_ GE671.out | refine below_set ?_ GE678.out) | exact HB.out)); (case side2 => exact Kd.R_tight rfl HO_672002.out); rintro e w70 ⟨rfl, hy0, hb, hkp⟩; refine ⟨_, rfl, ?_⟩; have n0_ := Aside0.mk (Kd.R_mono (ok' := fun k_ => some k_ ≠ (.slice Ao30 t668.length co30 : Value).ownBlock ∧ some k_ ≠ (.slice Ao37 t674.length co37 : Value).ownBlock ∧ some k_ ≠ (.slice Ao64 t682.length co64 : Value).ownBlock) (Kd.R_keptB (HO_666002.out) hkp (fun k_ hk_ hs_ => (hk_.1.1) hs_)) (fun k_ hk_ => ⟨hk_.1.1.1, hk_.1.1.2, hk_.1.2⟩)); have n1_ := Aside0.mk (Kd.R_reok rfl hy0 (fun k_ e_ => HO_672002.out.1 k_ e_)); have n2_ := Aside0.mk (Kd.R_mono (ok' := fun k_ => some k_ ≠ (.slice Ao23 t661.length co23 : Value).ownBlock ∧ some k_ ≠ (.slice Ao30 t668.length co30 : Value).ownBlock ∧ some k_ ≠ (.slice Ao64 t682.length co64 : Value).ownBlock) (Kd.R_keptB (HO_679002.out) hkp (fun k_ hk_ hs_ => (hk_.1.2) hs_)) (fun k_ hk_ => ⟨hk_.1.1.1, hk_.1.1.2, hk_.1.2⟩)); have n3_ := Aside0.mk (blk_kept (by (with_reducible repeat (first | refine blk_drewN ?_ _ | refine blk_drew ?_ | refine blk_alloc ?_ _)); exact BK652.out) hkp (fun hs_ => (fun e_ => (Kd.R_ne HO_672002.out BK652.out (by decide)) e_) hs_)); have n4_ := Aside0.mk (blk_kept (by (with_reducible repeat (first | refine blk_drewN ?_ _ | refine blk_drew ?_ | refine blk_alloc ?_ _)); exact BK665.out) hkp (fun hs_ => (fun e_ => (Kd.R_ne HO_672002.out BK665.out (by decide)) e_) hs_)); have n5_ := Aside0.mk (blk_kept (by (with_reducible repeat (first | refine blk_drewN ?_ _ | refine blk_drew ?_ | refine blk_alloc ?_ _)); exact BK671.out) hkp (fun hs_ => (fun e_ => (Kd.R_ne HO_672002.out BK671.out (by decide)) e_) hs_)); have n6_ := Aside0.mk (blk_kept (by (with_reducible repeat (first | refine blk_drewN ?_ _ | refine blk_drew ?_ | refine blk_alloc ?_ _)); exact BK678.out) hkp (fun hs_ => (fun e_ => (Kd.R_ne HO_672002.out BK678.out (by decide)) e_) hs_)); have n7_ := Aside0.mk (Kd.R_mono (ok' := fun k_ => some k_ ≠ (.slice Ao23 t661.length co23 : Value).ownBlock ∧ some k_ ≠ (.slice Ao30 t668.length co30 : Value).ownBlock ∧ some k_ ≠ (.slice Ao37 t674.length co37 : Value).ownBlock) (Kd.R_keptB (HO684.out) hkp (fun k_ hk_ hs_ => (hk_.1.2) hs_)) (fun k_ hk_ => ⟨hk_.1.1.1.2, hk_.1.1.2, hk_.1.2⟩)); have n8_ := Aside0.mk (hb); clear HO_666002; clear HO_672002; clear HO_679002; clear BK652; clear BK665; clear BK671; clear BK678; clear HO684; clear HB; have HO_666002 := n0_; have HO_672002 := n1_; have HO_679002 := n2_; have BK652 := n3_; have BK665 := n4_; have BK671 := n5_; have BK678 := n6_; have HO684 := n7_; have HB := n8_; clear n0_ n1_ n2_ n3_ n4_ n5_ n6_ n7_ n8_; (try clear hb); (try clear hkp); (try clear hy0)))
      (try simp only [Act.put, List.setIfInBounds_toArray, List.set_cons_zero, List.set_cons_succ])
      go_cut [65] (fun v65 wc => ∃ (kq : Nat) (x65_60 : Bool), v65 = .bool x65_60 ∧ Aside0 (laws_FnExactDropClue.j1 kq a1 t664 x65_60 a0_0 a0_1 l0_2 t659 t660 t661 t672 t673 t674 = some r) ∧ Aside0 (kq ≤ kj11) ∧ Aside0 (Kd.R k28 28 wc w.heap.size (fun k_ => some k_ ≠ ((.slice Ao30 t668.length co30) : Value).ownBlock ∧ some k_ ≠ ((.slice Ao37 t674.length co37) : Value).ownBlock) (.slice Ao23 t661.length co23) t661) ∧ Aside0 (Kd.R k28 28 wc w.heap.size (fun k_ => some k_ ≠ ((.slice Ao23 t661.length co23) : Value).ownBlock ∧ some k_ ≠ ((.slice Ao37 t674.length co37) : Value).ownBlock) (.slice Ao30 t668.length co30) t687) ∧ Aside0 (Kd.R k28 28 wc w.heap.size (fun k_ => some k_ ≠ ((.slice Ao23 t661.length co23) : Value).ownBlock ∧ some k_ ≠ ((.slice Ao30 t668.length co30) : Value).ownBlock) (.slice Ao37 t674.length co37) t674) ∧ Aside0 (wc.heap[gb652]? = some (.cells #[.int .i64 a0_0, .int .i64 a0_1, (.slice A0_2 l0_2.length c0_2)] 33 (0, 0))) ∧ Aside0 (wc.heap[gb665]? = some (.cells #[.int .i64 t659, .int .i64 t660, (.slice Ao23 t661.length co23)] 42 (0, 0))) ∧ Aside0 (wc.heap[gb671]? = some (.cells #[.int .i64 t666, .int .i64 t667, (.slice Ao30 t668.length co30)] 42 (0, 0))) ∧ Aside0 (wc.heap[gb678]? = some (.cells #[.int .i64 t672, .int .i64 t673, (.slice Ao37 t674.length co37)] 42 (0, 0))) ∧ Aside0 (Below w.heap.size w wc))
      case first =>
       have H := HC61.out
       clear HC61
       by_cases c71 : t686 < 0
       ·rw [if_pos c71] at H
        have c71b0 : decide (t686 < 0) = true := decide_eq_true c71
        clear c71
        (first | rw [c71b0] | (simp only [i64_w, i32_w]; rw [c71b0]) | skip)
        have H' := Aside0.mk H
        clear H
        go_wp2
        go_meet
        case rel => exact ⟨_, (true), (by first | rfl | (simp; done) | (simp [*]; done)), H', ⟨by have := HJ11.out; first | omega | exact Nat.le_refl _⟩, ⟨by (with_reducible repeat (first | apply Kd.R_alloc | apply Kd.R_drewN | apply Kd.R_drew)); exact Kd.R_mono HO_666002.out (fun _ hk => ⟨hk.1, hk.2.1⟩)⟩, ⟨by (with_reducible repeat (first | apply Kd.R_alloc | apply Kd.R_drewN | apply Kd.R_drew)); exact Kd.R_mono HO_672002.out (fun _ hk => ⟨hk.1.1, hk.1.2⟩)⟩, ⟨by (with_reducible repeat (first | apply Kd.R_alloc | apply Kd.R_drewN | apply Kd.R_drew)); exact Kd.R_mono HO_679002.out (fun _ hk => ⟨hk.1, hk.2.1⟩)⟩, ⟨by (with_reducible repeat (first | refine blk_drewN ?_ _ | refine blk_drew ?_ | refine blk_alloc ?_ _)); exact BK652.out⟩, ⟨by (with_reducible repeat (first | refine blk_drewN ?_ _ | refine blk_drew ?_ | refine blk_alloc ?_ _)); exact BK665.out⟩, ⟨by (with_reducible repeat (first | refine blk_drewN ?_ _ | refine blk_drew ?_ | refine blk_alloc ?_ _)); exact BK671.out⟩, ⟨by (with_reducible repeat (first | refine blk_drewN ?_ _ | refine blk_drew ?_ | refine blk_alloc ?_ _)); exact BK678.out⟩, ⟨by repeat (first | (with_reducible first | exact HB.out | apply below_alloc | apply pw_below_drewN | apply below_drew1 | refine below_set ?_ GE652.out | refine below_set ?_ GE665.out | refine below_set ?_ GE671.out | refine below_set ?_ GE678.out) | exact HB.out)⟩⟩
       ·rw [if_neg c71] at H
        have c71b0 : decide (t686 < 0) = false := decide_eq_false c71
        clear c71
        (first | rw [c71b0] | (simp only [i64_w, i32_w]; rw [c71b0]) | skip)
        replace H := Option.bind_eq_some_iff.mp H
        obtain ⟨t688, A720, H⟩ := H
        replace H : (if t688 = true then (laws_FnExactDropClue.j1 kj11 a1 t664 (t677 != t664) a0_0 a0_1 l0_2 t659 t660 t661 t672 t673 t674) else (laws_FnExactDropClue.j1 kj11 a1 t664 true a0_0 a0_1 l0_2 t659 t660 t661 t672 t673 t674)) = some r := H
        have A72 := Aside0.mk A720
        clear A720
        by_cases c73 : t688 = true
        ·subst c73
         have H1 : (laws_FnExactDropClue.j1 kj11 a1 t664 (t677 != t664) a0_0 a0_1 l0_2 t659 t660 t661 t672 t673 t674) = some r := by rw [if_pos rfl] at H; exact H
         clear H
         have H := H1
         clear H1
         have H' := Aside0.mk H
         clear H
         have hnb74 := NB678_652.out
         have hnc74 := NB652_678.out
         have hnb75 := NB678_665.out
         have hnc75 := NB665_678.out
         have hnb76 := NB678_671.out
         have hnc76 := NB671_678.out
         have hcz77_0 : w70.cell? ⟨gb678, 0, none⟩ = some (.int .i64 t672) := (blk_cell BK678.out 0).trans rfl
         have hcz77_1 : w70.cell? ⟨gb678, 1, none⟩ = some (.int .i64 t673) := (blk_cell BK678.out 1).trans rfl
         have hcz77_2 : w70.cell? ⟨gb678, 2, none⟩ = some (.slice Ao37 t674.length co37) := (blk_cell BK678.out 2).trans rfl
         have hfz77_0 := blk_frozen BK678.out 0
         have hfz77_1 := blk_frozen BK678.out 1
         have hfz77_2 := blk_frozen BK678.out 2
         have hnb78 := NB665_652.out
         have hnc78 := NB652_665.out
         have hnb79 := NB665_671.out
         have hnc79 := NB671_665.out
         have hcz80_0 : w70.cell? ⟨gb665, 0, none⟩ = some (.int .i64 t659) := (blk_cell BK665.out 0).trans rfl
         have hcz80_1 : w70.cell? ⟨gb665, 1, none⟩ = some (.int .i64 t660) := (blk_cell BK665.out 1).trans rfl
         have hcz80_2 : w70.cell? ⟨gb665, 2, none⟩ = some (.slice Ao23 t661.length co23) := (blk_cell BK665.out 2).trans rfl
         have hfz80_0 := blk_frozen BK665.out 0
         have hfz80_1 := blk_frozen BK665.out 1
         have hfz80_2 := blk_frozen BK665.out 2
         go_wp2_with (first | (go_at_call 29; (with_reducible refine (laws_eqPuzzle.calls kj11 t672 t673 _ _ t674 t659 t660 _ _ t661 true _ ?side1 ?side2 ?side3 ?side4 A72.out).mono ?_); (case side1 => repeat (first | exact (Kd.R_reads' HO_679002.out).2.2 | (with_reducible refine Kd.C_alloc ?_ _) | (with_reducible refine Kd.C_drewN ?_ _) | (with_reducible refine Kd.C_drew ?_))); (case side2 => exact (Kd.R_reads' HO_679002.out).2.1); (case side3 => repeat (first | exact (Kd.R_reads' HO_666002.out).2.2 | (with_reducible refine Kd.C_alloc ?_ _) | (with_reducible refine Kd.C_drewN ?_ _) | (with_reducible refine Kd.C_drew ?_))); (case side4 => exact (Kd.R_reads' HO_666002.out).2.1); rintro e w81 ⟨rfl, hb⟩; have n0_ := Aside0.mk (Kd.R_below (by (with_reducible repeat (first | apply Kd.R_alloc | apply Kd.R_drewN | apply Kd.R_drew)); exact HO_666002.out) hb); have n1_ := Aside0.mk (Kd.R_below (by (with_reducible repeat (first | apply Kd.R_alloc | apply Kd.R_drewN | apply Kd.R_drew)); exact HO_672002.out) hb); have n2_ := Aside0.mk (Kd.R_below (by (with_reducible repeat (first | apply Kd.R_alloc | apply Kd.R_drewN | apply Kd.R_drew)); exact HO_679002.out) hb); have n3_ := Aside0.mk (Kd.R_below (by (with_reducible repeat (first | apply Kd.R_alloc | apply Kd.R_drewN | apply Kd.R_drew)); exact HO684.out) hb); have n4_ := Aside0.mk (blk_below (g := gb652) (o := .cells #[.int .i64 a0_0, .int .i64 a0_1, .slice A0_2 l0_2.length c0_2] 33 (0, 0)) (by (with_reducible repeat (first | refine blk_drewN ?_ _ | refine blk_drew ?_ | refine blk_alloc ?_ _)); exact BK652.out) hb); have n5_ := Aside0.mk (blk_below (g := gb665) (o := .cells #[.int .i64 t659, .int .i64 t660, .slice Ao23 t661.length co23] 42 (0, 0)) (by (with_reducible repeat (first | refine blk_drewN ?_ _ | refine blk_drew ?_ | refine blk_alloc ?_ _)); exact BK665.out) hb); have n6_ := Aside0.mk (blk_below (g := gb671) (o := .cells #[.int .i64 t666, .int .i64 t667, .slice Ao30 t668.length co30] 42 (0, 0)) (by (with_reducible repeat (first | refine blk_drewN ?_ _ | refine blk_drew ?_ | refine blk_alloc ?_ _)); exact BK671.out) hb); have n7_ := Aside0.mk (blk_below (g := gb678) (o := .cells #[.int .i64 t672, .int .i64 t673, .slice Ao37 t674.length co37] 42 (0, 0)) (by (with_reducible repeat (first | refine blk_drewN ?_ _ | refine blk_drew ?_ | refine blk_alloc ?_ _)); exact BK678.out) hb); have n8_ := Aside0.mk (below_step (by repeat (first | (with_reducible first | exact HB.out | apply below_alloc | apply pw_below_drewN | apply below_drew1 | refine below_set ?_ GE652.out | refine below_set ?_ GE665.out | refine below_set ?_ GE671.out | refine below_set ?_ GE678.out) | exact HB.out)) hb); clear HO_666002; clear HO_672002; clear HO_679002; clear HO684; clear BK652; clear BK665; clear BK671; clear BK678; clear HB; have HO_666002 := n0_; have HO_672002 := n1_; have HO_679002 := n2_; have HO684 := n3_; have BK652 := n4_; have BK665 := n5_; have BK671 := n6_; have BK678 := n7_; have HB := n8_; clear n0_ n1_ n2_ n3_ n4_ n5_ n6_ n7_ n8_; (try clear hb); (try clear hb2); (try clear hk); (try clear hi)))
         go_meet
         case rel => exact ⟨_, ((t677 != t664)), (by first | rfl | (simp; done) | (simp [*]; done)), H', ⟨by have := HJ11.out; first | omega | exact Nat.le_refl _⟩, ⟨by (with_reducible repeat (first | apply Kd.R_alloc | apply Kd.R_drewN | apply Kd.R_drew)); exact Kd.R_mono HO_666002.out (fun _ hk => ⟨hk.1, hk.2.1⟩)⟩, ⟨by (with_reducible repeat (first | apply Kd.R_alloc | apply Kd.R_drewN | apply Kd.R_drew)); exact Kd.R_mono HO_672002.out (fun _ hk => ⟨hk.1.1, hk.1.2⟩)⟩, ⟨by (with_reducible repeat (first | apply Kd.R_alloc | apply Kd.R_drewN | apply Kd.R_drew)); exact Kd.R_mono HO_679002.out (fun _ hk => ⟨hk.1, hk.2.1⟩)⟩, ⟨by (with_reducible repeat (first | refine blk_drewN ?_ _ | refine blk_drew ?_ | refine blk_alloc ?_ _)); exact BK652.out⟩, ⟨by (with_reducible repeat (first | refine blk_drewN ?_ _ | refine blk_drew ?_ | refine blk_alloc ?_ _)); exact BK665.out⟩, ⟨by (with_reducible repeat (first | refine blk_drewN ?_ _ | refine blk_drew ?_ | refine blk_alloc ?_ _)); exact BK671.out⟩, ⟨by (with_reducible repeat (first | refine blk_drewN ?_ _ | refine blk_drew ?_ | refine blk_alloc ?_ _)); exact BK678.out⟩, ⟨by repeat (first | (with_reducible first | exact HB.out | apply below_alloc | apply pw_below_drewN | apply below_drew1 | refine below_set ?_ GE652.out | refine below_set ?_ GE665.out | refine below_set ?_ GE671.out | refine below_set ?_ GE678.out) | exact HB.out)⟩⟩
        ·replace c73 := Bool.eq_false_iff.mpr c73
         subst c73
         have H1 : (laws_FnExactDropClue.j1 kj11 a1 t664 true a0_0 a0_1 l0_2 t659 t660 t661 t672 t673 t674) = some r := by rw [if_neg (show ¬ (false = true) by decide)] at H; exact H
         clear H
         have H := H1
         clear H1
         have H' := Aside0.mk H
         clear H
         have hnb82 := NB678_652.out
         have hnc82 := NB652_678.out
         have hnb83 := NB678_665.out
         have hnc83 := NB665_678.out
         have hnb84 := NB678_671.out
         have hnc84 := NB671_678.out
         have hcz85_0 : w70.cell? ⟨gb678, 0, none⟩ = some (.int .i64 t672) := (blk_cell BK678.out 0).trans rfl
         have hcz85_1 : w70.cell? ⟨gb678, 1, none⟩ = some (.int .i64 t673) := (blk_cell BK678.out 1).trans rfl
         have hcz85_2 : w70.cell? ⟨gb678, 2, none⟩ = some (.slice Ao37 t674.length co37) := (blk_cell BK678.out 2).trans rfl
         have hfz85_0 := blk_frozen BK678.out 0
         have hfz85_1 := blk_frozen BK678.out 1
         have hfz85_2 := blk_frozen BK678.out 2
         have hnb86 := NB665_652.out
         have hnc86 := NB652_665.out
         have hnb87 := NB665_671.out
         have hnc87 := NB671_665.out
         have hcz88_0 : w70.cell? ⟨gb665, 0, none⟩ = some (.int .i64 t659) := (blk_cell BK665.out 0).trans rfl
         have hcz88_1 : w70.cell? ⟨gb665, 1, none⟩ = some (.int .i64 t660) := (blk_cell BK665.out 1).trans rfl
         have hcz88_2 : w70.cell? ⟨gb665, 2, none⟩ = some (.slice Ao23 t661.length co23) := (blk_cell BK665.out 2).trans rfl
         have hfz88_0 := blk_frozen BK665.out 0
         have hfz88_1 := blk_frozen BK665.out 1
         have hfz88_2 := blk_frozen BK665.out 2
         go_wp2_with (first | (go_at_call 29; (with_reducible refine (laws_eqPuzzle.calls kj11 t672 t673 _ _ t674 t659 t660 _ _ t661 false _ ?side1 ?side2 ?side3 ?side4 A72.out).mono ?_); (case side1 => repeat (first | exact (Kd.R_reads' HO_679002.out).2.2 | (with_reducible refine Kd.C_alloc ?_ _) | (with_reducible refine Kd.C_drewN ?_ _) | (with_reducible refine Kd.C_drew ?_))); (case side2 => exact (Kd.R_reads' HO_679002.out).2.1); (case side3 => repeat (first | exact (Kd.R_reads' HO_666002.out).2.2 | (with_reducible refine Kd.C_alloc ?_ _) | (with_reducible refine Kd.C_drewN ?_ _) | (with_reducible refine Kd.C_drew ?_))); (case side4 => exact (Kd.R_reads' HO_666002.out).2.1); rintro e w89 ⟨rfl, hb⟩; have n0_ := Aside0.mk (Kd.R_below (by (with_reducible repeat (first | apply Kd.R_alloc | apply Kd.R_drewN | apply Kd.R_drew)); exact HO_666002.out) hb); have n1_ := Aside0.mk (Kd.R_below (by (with_reducible repeat (first | apply Kd.R_alloc | apply Kd.R_drewN | apply Kd.R_drew)); exact HO_672002.out) hb); have n2_ := Aside0.mk (Kd.R_below (by (with_reducible repeat (first | apply Kd.R_alloc | apply Kd.R_drewN | apply Kd.R_drew)); exact HO_679002.out) hb); have n3_ := Aside0.mk (Kd.R_below (by (with_reducible repeat (first | apply Kd.R_alloc | apply Kd.R_drewN | apply Kd.R_drew)); exact HO684.out) hb); have n4_ := Aside0.mk (blk_below (g := gb652) (o := .cells #[.int .i64 a0_0, .int .i64 a0_1, .slice A0_2 l0_2.length c0_2] 33 (0, 0)) (by (with_reducible repeat (first | refine blk_drewN ?_ _ | refine blk_drew ?_ | refine blk_alloc ?_ _)); exact BK652.out) hb); have n5_ := Aside0.mk (blk_below (g := gb665) (o := .cells #[.int .i64 t659, .int .i64 t660, .slice Ao23 t661.length co23] 42 (0, 0)) (by (with_reducible repeat (first | refine blk_drewN ?_ _ | refine blk_drew ?_ | refine blk_alloc ?_ _)); exact BK665.out) hb); have n6_ := Aside0.mk (blk_below (g := gb671) (o := .cells #[.int .i64 t666, .int .i64 t667, .slice Ao30 t668.length co30] 42 (0, 0)) (by (with_reducible repeat (first | refine blk_drewN ?_ _ | refine blk_drew ?_ | refine blk_alloc ?_ _)); exact BK671.out) hb); have n7_ := Aside0.mk (blk_below (g := gb678) (o := .cells #[.int .i64 t672, .int .i64 t673, .slice Ao37 t674.length co37] 42 (0, 0)) (by (with_reducible repeat (first | refine blk_drewN ?_ _ | refine blk_drew ?_ | refine blk_alloc ?_ _)); exact BK678.out) hb); have n8_ := Aside0.mk (below_step (by repeat (first | (with_reducible first | exact HB.out | apply below_alloc | apply pw_below_drewN | apply below_drew1 | refine below_set ?_ GE652.out | refine below_set ?_ GE665.out | refine below_set ?_ GE671.out | refine below_set ?_ GE678.out) | exact HB.out)) hb); clear HO_666002; clear HO_672002; clear HO_679002; clear HO684; clear BK652; clear BK665; clear BK671; clear BK678; clear HB; have HO_666002 := n0_; have HO_672002 := n1_; have HO_679002 := n2_; have HO684 := n3_; have BK652 := n4_; have BK665 := n5_; have BK671 := n6_; have BK678 := n7_; have HB := n8_; clear n0_ n1_ n2_ n3_ n4_ n5_ n6_ n7_ n8_; (try clear hb); (try clear hb2); (try clear hk); (try clear hi)))
         go_meet
         case rel => exact ⟨_, (true), (by first | rfl | (simp; done) | (simp [*]; done)), H', ⟨by have := HJ11.out; first | omega | exact Nat.le_refl _⟩, ⟨by (with_reducible repeat (first | apply Kd.R_alloc | apply Kd.R_drewN | apply Kd.R_drew)); exact Kd.R_mono HO_666002.out (fun _ hk => ⟨hk.1, hk.2.1⟩)⟩, ⟨by (with_reducible repeat (first | apply Kd.R_alloc | apply Kd.R_drewN | apply Kd.R_drew)); exact Kd.R_mono HO_672002.out (fun _ hk => ⟨hk.1.1, hk.1.2⟩)⟩, ⟨by (with_reducible repeat (first | apply Kd.R_alloc | apply Kd.R_drewN | apply Kd.R_drew)); exact Kd.R_mono HO_679002.out (fun _ hk => ⟨hk.1, hk.2.1⟩)⟩, ⟨by (with_reducible repeat (first | refine blk_drewN ?_ _ | refine blk_drew ?_ | refine blk_alloc ?_ _)); exact BK652.out⟩, ⟨by (with_reducible repeat (first | refine blk_drewN ?_ _ | refine blk_drew ?_ | refine blk_alloc ?_ _)); exact BK665.out⟩, ⟨by (with_reducible repeat (first | refine blk_drewN ?_ _ | refine blk_drew ?_ | refine blk_alloc ?_ _)); exact BK671.out⟩, ⟨by (with_reducible repeat (first | refine blk_drewN ?_ _ | refine blk_drew ?_ | refine blk_alloc ?_ _)); exact BK678.out⟩, ⟨by repeat (first | (with_reducible first | exact HB.out | apply below_alloc | apply pw_below_drewN | apply below_drew1 | refine below_set ?_ GE652.out | refine below_set ?_ GE665.out | refine below_set ?_ GE671.out | refine below_set ?_ GE678.out) | exact HB.out)⟩⟩
      case rest =>
       clear HC61
       try clear c2
       try clear p2
       try clear c3
       try clear c4
       try clear c4b0
       try clear c5
       try clear c6
       try clear c7
       try clear c8
       try clear c9
       try clear c21
       try clear c24
       try clear c26
       try clear c27
       try clear c28
       try clear c29
       try clear c30
       try clear c33
       try clear c34
       try clear c35
       try clear c39
       try clear c40
       try clear c41
       try clear c42
       try clear c43
       try clear c44
       try clear c45
       try clear c48
       try clear c49
       try clear c50
       try clear c52
       try clear c53
       try clear c56
       try clear c59
       try clear c66
       try clear c67
       try clear c68
       try clear c71
       try clear c71b0
       try clear c73
       try clear c74
       try clear c75
       try clear c76
       try clear c78
       try clear c79
       try clear c82
       try clear c83
       try clear c84
       try clear c86
       try clear c87
       try clear hcz14_0
       try clear hcz14_1
       try clear hcz14_2
       try clear hcz16_0
       try clear hcz16_1
       try clear hcz16_2
       try clear hcz22_0
       try clear hcz22_1
       try clear hcz22_2
       try clear hcz24_0
       try clear hcz24_1
       try clear hcz24_2
       try clear hcz29_0
       try clear hcz29_1
       try clear hcz29_2
       try clear hcz36_0
       try clear hcz36_1
       try clear hcz36_2
       try clear hcz43_0
       try clear hcz43_1
       try clear hcz43_2
       try clear hcz46_0
       try clear hcz46_1
       try clear hcz46_2
       try clear hcz51_0
       try clear hcz51_1
       try clear hcz51_2
       try clear hcz54_0
       try clear hcz54_1
       try clear hcz54_2
       try clear hcz69_0
       try clear hcz69_1
       try clear hcz69_2
       try clear hcz6_0
       try clear hcz6_1
       try clear hcz6_2
       try clear hcz77_0
       try clear hcz77_1
       try clear hcz77_2
       try clear hcz80_0
       try clear hcz80_1
       try clear hcz80_2
       try clear hcz85_0
       try clear hcz85_1
       try clear hcz85_2
       try clear hcz88_0
       try clear hcz88_1
       try clear hcz88_2
       try clear hfz14_0
       try clear hfz14_1
       try clear hfz14_2
       try clear hfz16_0
       try clear hfz16_1
       try clear hfz16_2
       try clear hfz22_0
       try clear hfz22_1
       try clear hfz22_2
       try clear hfz24_0
       try clear hfz24_1
       try clear hfz24_2
       try clear hfz29_0
       try clear hfz29_1
       try clear hfz29_2
       try clear hfz36_0
       try clear hfz36_1
       try clear hfz36_2
       try clear hfz43_0
       try clear hfz43_1
       try clear hfz43_2
       try clear hfz46_0
       try clear hfz46_1
       try clear hfz46_2
       try clear hfz51_0
       try clear hfz51_1
       try clear hfz51_2
       try clear hfz54_0
       try clear hfz54_1
       try clear hfz54_2
       try clear hfz69_0
       try clear hfz69_1
       try clear hfz69_2
       try clear hfz6_0
       try clear hfz6_1
       try clear hfz6_2
       try clear hfz77_0
       try clear hfz77_1
       try clear hfz77_2
       try clear hfz80_0
       try clear hfz80_1
       try clear hfz80_2
       try clear hfz85_0
       try clear hfz85_1
       try clear hfz85_2
       try clear hfz88_0
       try clear hfz88_1
       try clear hfz88_2
       try clear p2
       obtain ⟨kq, x65_60, rfl, HA, HJ60, HO_666002, HO_672002, HO_679002, BK652, BK665, BK671, BK678, HB⟩ := hcut
       have hl672002_60 := (Kd.R_reads' HO_672002.out).1
       rw [hl672002_60] at HO_672002
       (try simp only [hl672002_60])
       (try simp only [hl672002_60] at BK652)
       (try simp only [hl672002_60] at BK665)
       (try simp only [hl672002_60] at BK671)
       (try simp only [hl672002_60] at BK678)
       (try simp only [hl672002_60] at HO_666002)
       (try simp only [hl672002_60] at HO_679002)
       cases kq with
       | zero => exact absurd HA.out (by simp [laws_FnExactDropClue.j1])
       | succ kj60 =>
        have H := HA.out
        clear HA
        simp only [laws_FnExactDropClue.j1] at H
        by_cases c90 : x65_60 = true
        ·subst c90
         have H1 : (some false) = some r := by rw [if_pos rfl] at H; exact H
         clear H
         have H := H1
         clear H1
         obtain rfl := Option.some.inj H
         go_wp2
         go_ret
         exact ⟨by first | rfl | (simp [errW_none, errW_some] <;> rfl) | (simp [*, errW_none, errW_some] <;> rfl), by repeat (first | (with_reducible first | exact HB.out | apply below_alloc | apply pw_below_drewN | apply below_drew1 | refine below_set ?_ GE652.out | refine below_set ?_ GE665.out | refine below_set ?_ GE671.out | refine below_set ?_ GE678.out) | exact HB.out)⟩
        ·replace c90 := Bool.eq_false_iff.mpr c90
         subst c90
         have H1 : ((laws_markPuzzle.f kj60 t672 t673 t674 1).bind fun bt689 => ((laws_heldPuzzle.f kj60 t672 t673 bt689.2 1).bind fun t691 => (if t691 < 0 then (some false) else (if t691 = bt689.1 then ((laws_toPuzzle.f kj60 a0_0 a0_1 l0_2).bind fun bt692 => ((impl_DropClue.f bt692.1 bt692.2.1 bt692.2.2 a1).bind fun bt697 => ((laws_eqPuzzle.f kj60 bt697.1 bt697.2.1 bt697.2.2.1 t659 t660 t661).bind fun t704 => (if t704 = true then (laws_FnExactDropClue.j2 kj60 bt689.1 (bt697.2.2.2 != t664) t672 t673 bt689.2) else (laws_FnExactDropClue.j2 kj60 bt689.1 true t672 t673 bt689.2))))) else (some false))))) = some r := by rw [if_neg (show ¬ (false = true) by decide)] at H; exact H
         clear H
         have H := H1
         clear H1
         replace H := Option.bind_eq_some_iff.mp H
         obtain ⟨⟨t689, t690⟩, A910, H⟩ := H
         replace H : ((laws_heldPuzzle.f kj60 t672 t673 t690 1).bind fun t691 => (if t691 < 0 then (some false) else (if t691 = t689 then ((laws_toPuzzle.f kj60 a0_0 a0_1 l0_2).bind fun bt692 => ((impl_DropClue.f bt692.1 bt692.2.1 bt692.2.2 a1).bind fun bt697 => ((laws_eqPuzzle.f kj60 bt697.1 bt697.2.1 bt697.2.2.1 t659 t660 t661).bind fun t704 => (if t704 = true then (laws_FnExactDropClue.j2 kj60 t689 (bt697.2.2.2 != t664) t672 t673 t690) else (laws_FnExactDropClue.j2 kj60 t689 true t672 t673 t690))))) else (some false)))) = some r := H
         have A91 := Aside0.mk A910
         clear A910
         replace H := Option.bind_eq_some_iff.mp H
         obtain ⟨t691, A920, H⟩ := H
         replace H : (if t691 < 0 then (some false) else (if t691 = t689 then ((laws_toPuzzle.f kj60 a0_0 a0_1 l0_2).bind fun bt692 => ((impl_DropClue.f bt692.1 bt692.2.1 bt692.2.2 a1).bind fun bt697 => ((laws_eqPuzzle.f kj60 bt697.1 bt697.2.1 bt697.2.2.1 t659 t660 t661).bind fun t704 => (if t704 = true then (laws_FnExactDropClue.j2 kj60 t689 (bt697.2.2.2 != t664) t672 t673 t690) else (laws_FnExactDropClue.j2 kj60 t689 true t672 t673 t690))))) else (some false))) = some r := H
         have A92 := Aside0.mk A920
         clear A920
         by_cases c93 : t691 < 0
         ·rw [if_pos c93] at H
          have c93b0 : decide (t691 < 0) = true := decide_eq_true c93
          clear c93
          obtain rfl := Option.some.inj H
          have hnb94 := NB678_652.out
          have hnc94 := NB652_678.out
          have hnb95 := NB678_665.out
          have hnc95 := NB665_678.out
          have hnb96 := NB678_671.out
          have hnc96 := NB671_678.out
          have hcz97_0 : wc.cell? ⟨gb678, 0, none⟩ = some (.int .i64 t672) := (blk_cell BK678.out 0).trans rfl
          have hcz97_1 : wc.cell? ⟨gb678, 1, none⟩ = some (.int .i64 t673) := (blk_cell BK678.out 1).trans rfl
          have hcz97_2 : wc.cell? ⟨gb678, 2, none⟩ = some (.slice Ao37 t674.length co37) := (blk_cell BK678.out 2).trans rfl
          have hfz97_0 := blk_frozen BK678.out 0
          have hfz97_1 := blk_frozen BK678.out 1
          have hfz97_2 := blk_frozen BK678.out 2
          go_wp2_with (first | ((with_reducible refine gate_callee (f := 30) rfl ?_); refine goesL_ (some 68) rfl rfl Try.func30 (by kernel_rfl) rfl #[.agg #[.int .i64 t672, .int .i64 t673, .slice Ao37 t674.length co37], .int .i64 1] rfl (by (try simp only [List.map_toArray, List.map_cons, List.map_nil]); first | done | rfl | (simp only [List.length_drop, List.length_take]; rfl)) ?_; (with_reducible refine (laws_markPuzzle.calls kj60 t672 t673 (fun k_ => some k_ = (.slice Ao37 t674.length co37 : Value).ownBlock) (.slice Ao37 t674.length co37) t674 1 t689 t690 w _ ?side1 ?side2 A91.out).mono ?_); (case side1 => repeat (first | (with_reducible first | exact HB.out | apply below_alloc | apply pw_below_drewN | apply below_drew1 | refine below_set ?_ GE652.out | refine below_set ?_ GE665.out | refine below_set ?_ GE671.out | refine below_set ?_ GE678.out) | exact HB.out)); (case side2 => exact Kd.R_tight rfl HO_679002.out); rintro e w98 ⟨rfl, hy0, hb, hkp⟩; refine ⟨_, rfl, ?_⟩; have n0_ := Aside0.mk (Kd.R_mono (ok' := fun k_ => some k_ ≠ (.slice Ao30 t687.length co30 : Value).ownBlock ∧ some k_ ≠ (.slice Ao37 t674.length co37 : Value).ownBlock) (Kd.R_keptB (HO_666002.out) hkp (fun k_ hk_ hs_ => (hk_.2) hs_)) (fun k_ hk_ => ⟨hk_.1.1, hk_.1.2⟩)); have n1_ := Aside0.mk (Kd.R_mono (ok' := fun k_ => some k_ ≠ (.slice Ao23 t661.length co23 : Value).ownBlock ∧ some k_ ≠ (.slice Ao37 t674.length co37 : Value).ownBlock) (Kd.R_keptB (HO_672002.out) hkp (fun k_ hk_ hs_ => (hk_.2) hs_)) (fun k_ hk_ => ⟨hk_.1.1, hk_.1.2⟩)); have n2_ := Aside0.mk (Kd.R_reok rfl hy0 (fun k_ e_ => HO_679002.out.1 k_ e_)); have n3_ := Aside0.mk (blk_kept (by (with_reducible repeat (first | refine blk_drewN ?_ _ | refine blk_drew ?_ | refine blk_alloc ?_ _)); exact BK652.out) hkp (fun hs_ => (fun e_ => (Kd.R_ne HO_679002.out BK652.out (by decide)) e_) hs_)); have n4_ := Aside0.mk (blk_kept (by (with_reducible repeat (first | refine blk_drewN ?_ _ | refine blk_drew ?_ | refine blk_alloc ?_ _)); exact BK665.out) hkp (fun hs_ => (fun e_ => (Kd.R_ne HO_679002.out BK665.out (by decide)) e_) hs_)); have n5_ := Aside0.mk (blk_kept (by (with_reducible repeat (first | refine blk_drewN ?_ _ | refine blk_drew ?_ | refine blk_alloc ?_ _)); exact BK671.out) hkp (fun hs_ => (fun e_ => (Kd.R_ne HO_679002.out BK671.out (by decide)) e_) hs_)); have n6_ := Aside0.mk (blk_kept (by (with_reducible repeat (first | refine blk_drewN ?_ _ | refine blk_drew ?_ | refine blk_alloc ?_ _)); exact BK678.out) hkp (fun hs_ => (fun e_ => (Kd.R_ne HO_679002.out BK678.out (by decide)) e_) hs_)); have n7_ := Aside0.mk (hb); clear HO_666002; clear HO_672002; clear HO_679002; clear BK652; clear BK665; clear BK671; clear BK678; clear HB; have HO_666002 := n0_; have HO_672002 := n1_; have HO_679002 := n2_; have BK652 := n3_; have BK665 := n4_; have BK671 := n5_; have BK678 := n6_; have HB := n7_; clear n0_ n1_ n2_ n3_ n4_ n5_ n6_ n7_; (try clear hb); (try clear hkp); (try clear hy0); have hcz99_0 : w98.cell? ⟨gb678, 0, none⟩ = some (.int .i64 t672) := (blk_cell BK678.out 0).trans rfl; have hcz99_1 : w98.cell? ⟨gb678, 1, none⟩ = some (.int .i64 t673) := (blk_cell BK678.out 1).trans rfl; have hcz99_2 : w98.cell? ⟨gb678, 2, none⟩ = some (.slice Ao37 t674.length co37) := (blk_cell BK678.out 2).trans rfl; have hfz99_0 := blk_frozen BK678.out 0; have hfz99_1 := blk_frozen BK678.out 1; have hfz99_2 := blk_frozen BK678.out 2) | ((with_reducible refine gate_callee (f := 37) rfl ?_); refine goesL_ (some 71) rfl rfl Try.func37 (by kernel_rfl) rfl #[.agg #[.int .i64 t672, .int .i64 t673, .slice Ao37 t690.length co37], .int .i64 1] rfl (by (try simp only [List.map_toArray, List.map_cons, List.map_nil]); first | done | (rw [show t690.length = t674.length from (Kd.R_reads' HO_679002.out).1.symm] <;> rfl) | rfl | (simp only [List.length_drop, List.length_take]; rfl)) ?_; (with_reducible refine (laws_heldPuzzle.calls kj60 t672 t673 _ _ t690 1 t691 _ ?side1 ?side2 A92.out).mono ?_); (case side1 => repeat (first | exact (Kd.R_reads' HO_679002.out).2.2 | (with_reducible refine Kd.C_alloc ?_ _) | (with_reducible refine Kd.C_drewN ?_ _) | (with_reducible refine Kd.C_drew ?_))); (case side2 => rw [show t690.length = t674.length from (Kd.R_reads' HO_679002.out).1.symm]; exact (Kd.R_reads' HO_679002.out).2.1); rintro e w100 ⟨rfl, hb⟩; refine ⟨_, rfl, ?_⟩; have n0_ := Aside0.mk (Kd.R_below (by (with_reducible repeat (first | apply Kd.R_alloc | apply Kd.R_drewN | apply Kd.R_drew)); exact HO_666002.out) hb); have n1_ := Aside0.mk (Kd.R_below (by (with_reducible repeat (first | apply Kd.R_alloc | apply Kd.R_drewN | apply Kd.R_drew)); exact HO_672002.out) hb); have n2_ := Aside0.mk (Kd.R_below (by (with_reducible repeat (first | apply Kd.R_alloc | apply Kd.R_drewN | apply Kd.R_drew)); exact HO_679002.out) hb); have n3_ := Aside0.mk (blk_below (g := gb652) (o := .cells #[.int .i64 a0_0, .int .i64 a0_1, .slice A0_2 l0_2.length c0_2] 33 (0, 0)) (by (with_reducible repeat (first | refine blk_drewN ?_ _ | refine blk_drew ?_ | refine blk_alloc ?_ _)); exact BK652.out) hb); have n4_ := Aside0.mk (blk_below (g := gb665) (o := .cells #[.int .i64 t659, .int .i64 t660, .slice Ao23 t661.length co23] 42 (0, 0)) (by (with_reducible repeat (first | refine blk_drewN ?_ _ | refine blk_drew ?_ | refine blk_alloc ?_ _)); exact BK665.out) hb); have n5_ := Aside0.mk (blk_below (g := gb671) (o := .cells #[.int .i64 t666, .int .i64 t667, .slice Ao30 t687.length co30] 42 (0, 0)) (by (with_reducible repeat (first | refine blk_drewN ?_ _ | refine blk_drew ?_ | refine blk_alloc ?_ _)); exact BK671.out) hb); have n6_ := Aside0.mk (blk_below (g := gb678) (o := .cells #[.int .i64 t672, .int .i64 t673, .slice Ao37 t674.length co37] 42 (0, 0)) (by (with_reducible repeat (first | refine blk_drewN ?_ _ | refine blk_drew ?_ | refine blk_alloc ?_ _)); exact BK678.out) hb); have n7_ := Aside0.mk (below_step (by repeat (first | (with_reducible first | exact HB.out | apply below_alloc | apply pw_below_drewN | apply below_drew1 | refine below_set ?_ GE652.out | refine below_set ?_ GE665.out | refine below_set ?_ GE671.out | refine below_set ?_ GE678.out) | exact HB.out)) hb); clear HO_666002; clear HO_672002; clear HO_679002; clear BK652; clear BK665; clear BK671; clear BK678; clear HB; have HO_666002 := n0_; have HO_672002 := n1_; have HO_679002 := n2_; have BK652 := n3_; have BK665 := n4_; have BK671 := n5_; have BK678 := n6_; have HB := n7_; clear n0_ n1_ n2_ n3_ n4_ n5_ n6_ n7_; (try clear hb); (try clear hb2); (try clear hk); (try clear hi)))
          go_ret
          exact ⟨by first | rfl | (simp [errW_none, errW_some] <;> rfl) | (simp [*, errW_none, errW_some] <;> rfl), by repeat (first | (with_reducible first | exact HB.out | apply below_alloc | apply pw_below_drewN | apply below_drew1 | refine below_set ?_ GE652.out | refine below_set ?_ GE665.out | refine below_set ?_ GE671.out | refine below_set ?_ GE678.out) | exact HB.out)⟩
         ·rw [if_neg c93] at H
          have c93b0 : decide (t691 < 0) = false := decide_eq_false c93
          clear c93
          by_cases c101 : t691 = t689
          ·rw [if_pos c101] at H
           have c101b0 : (t691 == t689) = true := beq_iff_eq.mpr c101
           have c101b1 : (t691 != t689) = false := bne_eq_false_iff_eq.mpr c101
           clear c101
           replace H := Option.bind_eq_some_iff.mp H
           obtain ⟨⟨t692, t693, t694⟩, A1020, H⟩ := H
           replace H : ((impl_DropClue.f t692 t693 t694 a1).bind fun bt697 => ((laws_eqPuzzle.f kj60 bt697.1 bt697.2.1 bt697.2.2.1 t659 t660 t661).bind fun t704 => (if t704 = true then (laws_FnExactDropClue.j2 kj60 t689 (bt697.2.2.2 != t664) t672 t673 t690) else (laws_FnExactDropClue.j2 kj60 t689 true t672 t673 t690)))) = some r := H
           have A102 := Aside0.mk A1020
           clear A1020
           replace H := Option.bind_eq_some_iff.mp H
           obtain ⟨⟨t697, t698, t699, t702⟩, A1030, H⟩ := H
           replace H : ((laws_eqPuzzle.f kj60 t697 t698 t699 t659 t660 t661).bind fun t704 => (if t704 = true then (laws_FnExactDropClue.j2 kj60 t689 (t702 != t664) t672 t673 t690) else (laws_FnExactDropClue.j2 kj60 t689 true t672 t673 t690))) = some r := H
           have A103 := Aside0.mk A1030
           clear A1030
           have HC104 := Aside0.mk H
           clear H
           have hnb105 := NB678_652.out
           have hnc105 := NB652_678.out
           have hnb106 := NB678_665.out
           have hnc106 := NB665_678.out
           have hnb107 := NB678_671.out
           have hnc107 := NB671_678.out
           have hcz108_0 : wc.cell? ⟨gb678, 0, none⟩ = some (.int .i64 t672) := (blk_cell BK678.out 0).trans rfl
           have hcz108_1 : wc.cell? ⟨gb678, 1, none⟩ = some (.int .i64 t673) := (blk_cell BK678.out 1).trans rfl
           have hcz108_2 : wc.cell? ⟨gb678, 2, none⟩ = some (.slice Ao37 t674.length co37) := (blk_cell BK678.out 2).trans rfl
           have hfz108_0 := blk_frozen BK678.out 0
           have hfz108_1 := blk_frozen BK678.out 1
           have hfz108_2 := blk_frozen BK678.out 2
           go_upto_region 25 with (first | ((with_reducible refine gate_callee (f := 30) rfl ?_); refine goesL_ (some 68) rfl rfl Try.func30 (by kernel_rfl) rfl #[.agg #[.int .i64 t672, .int .i64 t673, .slice Ao37 t674.length co37], .int .i64 1] rfl (by (try simp only [List.map_toArray, List.map_cons, List.map_nil]); first | done | rfl | (simp only [List.length_drop, List.length_take]; rfl)) ?_; (with_reducible refine (laws_markPuzzle.calls kj60 t672 t673 (fun k_ => some k_ = (.slice Ao37 t674.length co37 : Value).ownBlock) (.slice Ao37 t674.length co37) t674 1 t689 t690 w _ ?side1 ?side2 A91.out).mono ?_); (case side1 => repeat (first | (with_reducible first | exact HB.out | apply below_alloc | apply pw_below_drewN | apply below_drew1 | refine below_set ?_ GE652.out | refine below_set ?_ GE665.out | refine below_set ?_ GE671.out | refine below_set ?_ GE678.out) | exact HB.out)); (case side2 => exact Kd.R_tight rfl HO_679002.out); rintro e w109 ⟨rfl, hy0, hb, hkp⟩; refine ⟨_, rfl, ?_⟩; have n0_ := Aside0.mk (Kd.R_mono (ok' := fun k_ => some k_ ≠ (.slice Ao30 t687.length co30 : Value).ownBlock ∧ some k_ ≠ (.slice Ao37 t674.length co37 : Value).ownBlock) (Kd.R_keptB (HO_666002.out) hkp (fun k_ hk_ hs_ => (hk_.2) hs_)) (fun k_ hk_ => ⟨hk_.1.1, hk_.1.2⟩)); have n1_ := Aside0.mk (Kd.R_mono (ok' := fun k_ => some k_ ≠ (.slice Ao23 t661.length co23 : Value).ownBlock ∧ some k_ ≠ (.slice Ao37 t674.length co37 : Value).ownBlock) (Kd.R_keptB (HO_672002.out) hkp (fun k_ hk_ hs_ => (hk_.2) hs_)) (fun k_ hk_ => ⟨hk_.1.1, hk_.1.2⟩)); have n2_ := Aside0.mk (Kd.R_reok rfl hy0 (fun k_ e_ => HO_679002.out.1 k_ e_)); have n3_ := Aside0.mk (blk_kept (by (with_reducible repeat (first | refine blk_drewN ?_ _ | refine blk_drew ?_ | refine blk_alloc ?_ _)); exact BK652.out) hkp (fun hs_ => (fun e_ => (Kd.R_ne HO_679002.out BK652.out (by decide)) e_) hs_)); have n4_ := Aside0.mk (blk_kept (by (with_reducible repeat (first | refine blk_drewN ?_ _ | refine blk_drew ?_ | refine blk_alloc ?_ _)); exact BK665.out) hkp (fun hs_ => (fun e_ => (Kd.R_ne HO_679002.out BK665.out (by decide)) e_) hs_)); have n5_ := Aside0.mk (blk_kept (by (with_reducible repeat (first | refine blk_drewN ?_ _ | refine blk_drew ?_ | refine blk_alloc ?_ _)); exact BK671.out) hkp (fun hs_ => (fun e_ => (Kd.R_ne HO_679002.out BK671.out (by decide)) e_) hs_)); have n6_ := Aside0.mk (blk_kept (by (with_reducible repeat (first | refine blk_drewN ?_ _ | refine blk_drew ?_ | refine blk_alloc ?_ _)); exact BK678.out) hkp (fun hs_ => (fun e_ => (Kd.R_ne HO_679002.out BK678.out (by decide)) e_) hs_)); have n7_ := Aside0.mk (hb); clear HO_666002; clear HO_672002; clear HO_679002; clear BK652; clear BK665; clear BK671; clear BK678; clear HB; have HO_666002 := n0_; have HO_672002 := n1_; have HO_679002 := n2_; have BK652 := n3_; have BK665 := n4_; have BK671 := n5_; have BK678 := n6_; have HB := n7_; clear n0_ n1_ n2_ n3_ n4_ n5_ n6_ n7_; (try clear hb); (try clear hkp); (try clear hy0); have hcz110_0 : w109.cell? ⟨gb678, 0, none⟩ = some (.int .i64 t672) := (blk_cell BK678.out 0).trans rfl; have hcz110_1 : w109.cell? ⟨gb678, 1, none⟩ = some (.int .i64 t673) := (blk_cell BK678.out 1).trans rfl; have hcz110_2 : w109.cell? ⟨gb678, 2, none⟩ = some (.slice Ao37 t674.length co37) := (blk_cell BK678.out 2).trans rfl; have hfz110_0 := blk_frozen BK678.out 0; have hfz110_1 := blk_frozen BK678.out 1; have hfz110_2 := blk_frozen BK678.out 2) | ((with_reducible refine gate_callee (f := 37) rfl ?_); refine goesL_ (some 71) rfl rfl Try.func37 (by kernel_rfl) rfl #[.agg #[.int .i64 t672, .int .i64 t673, .slice Ao37 t690.length co37], .int .i64 1] rfl (by (try simp only [List.map_toArray, List.map_cons, List.map_nil]); first | done | (rw [show t690.length = t674.length from (Kd.R_reads' HO_679002.out).1.symm] <;> rfl) | rfl | (simp only [List.length_drop, List.length_take]; rfl)) ?_; (with_reducible refine (laws_heldPuzzle.calls kj60 t672 t673 _ _ t690 1 t691 _ ?side1 ?side2 A92.out).mono ?_); (case side1 => repeat (first | exact (Kd.R_reads' HO_679002.out).2.2 | (with_reducible refine Kd.C_alloc ?_ _) | (with_reducible refine Kd.C_drewN ?_ _) | (with_reducible refine Kd.C_drew ?_))); (case side2 => rw [show t690.length = t674.length from (Kd.R_reads' HO_679002.out).1.symm]; exact (Kd.R_reads' HO_679002.out).2.1); rintro e w111 ⟨rfl, hb⟩; refine ⟨_, rfl, ?_⟩; have n0_ := Aside0.mk (Kd.R_below (by (with_reducible repeat (first | apply Kd.R_alloc | apply Kd.R_drewN | apply Kd.R_drew)); exact HO_666002.out) hb); have n1_ := Aside0.mk (Kd.R_below (by (with_reducible repeat (first | apply Kd.R_alloc | apply Kd.R_drewN | apply Kd.R_drew)); exact HO_672002.out) hb); have n2_ := Aside0.mk (Kd.R_below (by (with_reducible repeat (first | apply Kd.R_alloc | apply Kd.R_drewN | apply Kd.R_drew)); exact HO_679002.out) hb); have n3_ := Aside0.mk (blk_below (g := gb652) (o := .cells #[.int .i64 a0_0, .int .i64 a0_1, .slice A0_2 l0_2.length c0_2] 33 (0, 0)) (by (with_reducible repeat (first | refine blk_drewN ?_ _ | refine blk_drew ?_ | refine blk_alloc ?_ _)); exact BK652.out) hb); have n4_ := Aside0.mk (blk_below (g := gb665) (o := .cells #[.int .i64 t659, .int .i64 t660, .slice Ao23 t661.length co23] 42 (0, 0)) (by (with_reducible repeat (first | refine blk_drewN ?_ _ | refine blk_drew ?_ | refine blk_alloc ?_ _)); exact BK665.out) hb); have n5_ := Aside0.mk (blk_below (g := gb671) (o := .cells #[.int .i64 t666, .int .i64 t667, .slice Ao30 t687.length co30] 42 (0, 0)) (by (with_reducible repeat (first | refine blk_drewN ?_ _ | refine blk_drew ?_ | refine blk_alloc ?_ _)); exact BK671.out) hb); have n6_ := Aside0.mk (blk_below (g := gb678) (o := .cells #[.int .i64 t672, .int .i64 t673, .slice Ao37 t674.length co37] 42 (0, 0)) (by (with_reducible repeat (first | refine blk_drewN ?_ _ | refine blk_drew ?_ | refine blk_alloc ?_ _)); exact BK678.out) hb); have n7_ := Aside0.mk (below_step (by repeat (first | (with_reducible first | exact HB.out | apply below_alloc | apply pw_below_drewN | apply below_drew1 | refine below_set ?_ GE652.out | refine below_set ?_ GE665.out | refine below_set ?_ GE671.out | refine below_set ?_ GE678.out) | exact HB.out)) hb); clear HO_666002; clear HO_672002; clear HO_679002; clear BK652; clear BK665; clear BK671; clear BK678; clear HB; have HO_666002 := n0_; have HO_672002 := n1_; have HO_679002 := n2_; have BK652 := n3_; have BK665 := n4_; have BK671 := n5_; have BK678 := n6_; have HB := n7_; clear n0_ n1_ n2_ n3_ n4_ n5_ n6_ n7_; (try clear hb); (try clear hb2); (try clear hk); (try clear hi); have hnb112 := NB652_665.out; have hnc112 := NB665_652.out; have hnb113 := NB652_671.out; have hnc113 := NB671_652.out; have hcz114_0 : w111.cell? ⟨gb652, 0, none⟩ = some (.int .i64 a0_0) := (blk_cell BK652.out 0).trans rfl; have hcz114_1 : w111.cell? ⟨gb652, 1, none⟩ = some (.int .i64 a0_1) := (blk_cell BK652.out 1).trans rfl; have hcz114_2 : w111.cell? ⟨gb652, 2, none⟩ = some (.slice A0_2 l0_2.length c0_2) := (blk_cell BK652.out 2).trans rfl; have hfz114_0 := blk_frozen BK652.out 0; have hfz114_1 := blk_frozen BK652.out 1; have hfz114_2 := blk_frozen BK652.out 2) | ((with_reducible refine gate_callee (f := 26) rfl ?_); refine goesL_ (some 79) rfl rfl Try.func26 (by kernel_rfl) rfl #[.agg #[.int .i64 a0_0, .int .i64 a0_1, .slice A0_2 l0_2.length c0_2]] rfl (by (try simp only [List.map_toArray, List.map_cons, List.map_nil]); first | done | rfl | (simp only [List.length_drop, List.length_take]; rfl)) ?_; (with_reducible refine (laws_toPuzzle.calls kj60 a0_0 a0_1 _ _ l0_2 t692 t693 t694 _ ?side1 ?side2 A102.out).mono ?_); (case side1 => repeat (first | exact (Kd.C_below HR0_2.out HB.out) | (with_reducible refine Kd.C_alloc ?_ _) | (with_reducible refine Kd.C_drewN ?_ _) | (with_reducible refine Kd.C_drew ?_))); (case side2 => exact HC0_2.out); rintro e w115 ⟨v695, rfl, ho0, hb⟩; refine ⟨_, rfl, ?_⟩; have n0_ := Aside0.mk (Kd.R_elder' (by (with_reducible repeat (first | apply Kd.R_alloc | apply Kd.R_drewN | apply Kd.R_drew)); exact HO_666002.out) (Kd.R_base ho0) hb); have n1_ := Aside0.mk (Kd.R_elder' (by (with_reducible repeat (first | apply Kd.R_alloc | apply Kd.R_drewN | apply Kd.R_drew)); exact HO_672002.out) (Kd.R_base ho0) hb); have n2_ := Aside0.mk (Kd.R_elder' (by (with_reducible repeat (first | apply Kd.R_alloc | apply Kd.R_drewN | apply Kd.R_drew)); exact HO_679002.out) (Kd.R_base ho0) hb); have n3_ := Aside0.mk (Kd.R_lower (Kd.R_new' (Kd.R_new' (Kd.R_new' ho0 (Kd.R_lt (by (with_reducible repeat (first | apply Kd.R_alloc | apply Kd.R_drewN | apply Kd.R_drew)); exact HO_666002.out))) (Kd.R_lt (by (with_reducible repeat (first | apply Kd.R_alloc | apply Kd.R_drewN | apply Kd.R_drew)); exact HO_672002.out))) (Kd.R_lt (by (with_reducible repeat (first | apply Kd.R_alloc | apply Kd.R_drewN | apply Kd.R_drew)); exact HO_679002.out))) (below_size (by repeat (first | (with_reducible first | exact HB.out | apply below_alloc | apply pw_below_drewN | apply below_drew1 | refine below_set ?_ GE652.out | refine below_set ?_ GE665.out | refine below_set ?_ GE671.out | refine below_set ?_ GE678.out) | exact HB.out)))); have n4_ := Aside0.mk (blk_below (g := gb652) (o := .cells #[.int .i64 a0_0, .int .i64 a0_1, .slice A0_2 l0_2.length c0_2] 33 (0, 0)) (by (with_reducible repeat (first | refine blk_drewN ?_ _ | refine blk_drew ?_ | refine blk_alloc ?_ _)); exact BK652.out) hb); have n5_ := Aside0.mk (blk_below (g := gb665) (o := .cells #[.int .i64 t659, .int .i64 t660, .slice Ao23 t661.length co23] 42 (0, 0)) (by (with_reducible repeat (first | refine blk_drewN ?_ _ | refine blk_drew ?_ | refine blk_alloc ?_ _)); exact BK665.out) hb); have n6_ := Aside0.mk (blk_below (g := gb671) (o := .cells #[.int .i64 t666, .int .i64 t667, .slice Ao30 t687.length co30] 42 (0, 0)) (by (with_reducible repeat (first | refine blk_drewN ?_ _ | refine blk_drew ?_ | refine blk_alloc ?_ _)); exact BK671.out) hb); have n7_ := Aside0.mk (blk_below (g := gb678) (o := .cells #[.int .i64 t672, .int .i64 t673, .slice Ao37 t674.length co37] 42 (0, 0)) (by (with_reducible repeat (first | refine blk_drewN ?_ _ | refine blk_drew ?_ | refine blk_alloc ?_ _)); exact BK678.out) hb); have n8_ := Aside0.mk (below_step (by repeat (first | (with_reducible first | exact HB.out | apply below_alloc | apply pw_below_drewN | apply below_drew1 | refine below_set ?_ GE652.out | refine below_set ?_ GE665.out | refine below_set ?_ GE671.out | refine below_set ?_ GE678.out) | exact HB.out)) hb); clear HO_666002; clear HO_672002; clear HO_679002; clear BK652; clear BK665; clear BK671; clear BK678; clear HB; have HO_666002 := n0_; have HO_672002 := n1_; have HO_679002 := n2_; have HO696 := n3_; have BK652 := n4_; have BK665 := n5_; have BK671 := n6_; have BK678 := n7_; have HB := n8_; clear n0_ n1_ n2_ n3_ n4_ n5_ n6_ n7_ n8_; (try clear hb); (try clear hb2); (try clear hk); (try clear hi); (try clear ho0); obtain ⟨Ao116, co116, eo116⟩ := Kd.R_slice HO696.out; subst eo116) | ((with_reducible refine gate_callee (f := 44) rfl ?_); refine goesL_ (some 81) rfl rfl Try.func44 (by kernel_rfl) rfl #[.agg #[.int .i64 t692, .int .i64 t693, .slice Ao116 t694.length co116], .int .i64 a1] rfl (by (try simp only [List.map_toArray, List.map_cons, List.map_nil]); first | done | rfl | (simp only [List.length_drop, List.length_take]; rfl)) ?_; (with_reducible refine (impl_DropClue.calls t692 t693 _ _ t694 a1 t697 t698 t699 t702 _ ?side1 ?side2 A103.out).mono ?_); (case side1 => repeat (first | exact (Kd.R_reads' HO696.out).2.2 | (with_reducible refine Kd.C_alloc ?_ _) | (with_reducible refine Kd.C_drewN ?_ _) | (with_reducible refine Kd.C_drew ?_))); (case side2 => exact (Kd.R_reads' HO696.out).2.1); rintro e w117 ⟨v700, rfl, ho0, hb⟩; refine ⟨_, rfl, ?_⟩; have n0_ := Aside0.mk (Kd.R_elder' (by (with_reducible repeat (first | apply Kd.R_alloc | apply Kd.R_drewN | apply Kd.R_drew)); exact HO_666002.out) (Kd.R_base ho0) hb); have n1_ := Aside0.mk (Kd.R_elder' (by (with_reducible repeat (first | apply Kd.R_alloc | apply Kd.R_drewN | apply Kd.R_drew)); exact HO_672002.out) (Kd.R_base ho0) hb); have n2_ := Aside0.mk (Kd.R_elder' (by (with_reducible repeat (first | apply Kd.R_alloc | apply Kd.R_drewN | apply Kd.R_drew)); exact HO_679002.out) (Kd.R_base ho0) hb); have n3_ := Aside0.mk (Kd.R_elder' (by (with_reducible repeat (first | apply Kd.R_alloc | apply Kd.R_drewN | apply Kd.R_drew)); exact HO696.out) (Kd.R_base ho0) hb); have n4_ := Aside0.mk (Kd.R_lower (Kd.R_new' (Kd.R_new' (Kd.R_new' (Kd.R_new' ho0 (Kd.R_lt (by (with_reducible repeat (first | apply Kd.R_alloc | apply Kd.R_drewN | apply Kd.R_drew)); exact HO_666002.out))) (Kd.R_lt (by (with_reducible repeat (first | apply Kd.R_alloc | apply Kd.R_drewN | apply Kd.R_drew)); exact HO_672002.out))) (Kd.R_lt (by (with_reducible repeat (first | apply Kd.R_alloc | apply Kd.R_drewN | apply Kd.R_drew)); exact HO_679002.out))) (Kd.R_lt (by (with_reducible repeat (first | apply Kd.R_alloc | apply Kd.R_drewN | apply Kd.R_drew)); exact HO696.out))) (below_size (by repeat (first | (with_reducible first | exact HB.out | apply below_alloc | apply pw_below_drewN | apply below_drew1 | refine below_set ?_ GE652.out | refine below_set ?_ GE665.out | refine below_set ?_ GE671.out | refine below_set ?_ GE678.out) | exact HB.out)))); have n5_ := Aside0.mk (blk_below (g := gb652) (o := .cells #[.int .i64 a0_0, .int .i64 a0_1, .slice A0_2 l0_2.length c0_2] 33 (0, 0)) (by (with_reducible repeat (first | refine blk_drewN ?_ _ | refine blk_drew ?_ | refine blk_alloc ?_ _)); exact BK652.out) hb); have n6_ := Aside0.mk (blk_below (g := gb665) (o := .cells #[.int .i64 t659, .int .i64 t660, .slice Ao23 t661.length co23] 42 (0, 0)) (by (with_reducible repeat (first | refine blk_drewN ?_ _ | refine blk_drew ?_ | refine blk_alloc ?_ _)); exact BK665.out) hb); have n7_ := Aside0.mk (blk_below (g := gb671) (o := .cells #[.int .i64 t666, .int .i64 t667, .slice Ao30 t687.length co30] 42 (0, 0)) (by (with_reducible repeat (first | refine blk_drewN ?_ _ | refine blk_drew ?_ | refine blk_alloc ?_ _)); exact BK671.out) hb); have n8_ := Aside0.mk (blk_below (g := gb678) (o := .cells #[.int .i64 t672, .int .i64 t673, .slice Ao37 t674.length co37] 42 (0, 0)) (by (with_reducible repeat (first | refine blk_drewN ?_ _ | refine blk_drew ?_ | refine blk_alloc ?_ _)); exact BK678.out) hb); have n9_ := Aside0.mk (below_step (by repeat (first | (with_reducible first | exact HB.out | apply below_alloc | apply pw_below_drewN | apply below_drew1 | refine below_set ?_ GE652.out | refine below_set ?_ GE665.out | refine below_set ?_ GE671.out | refine below_set ?_ GE678.out) | exact HB.out)) hb); clear HO_666002; clear HO_672002; clear HO_679002; clear HO696; clear BK652; clear BK665; clear BK671; clear BK678; clear HB; have HO_666002 := n0_; have HO_672002 := n1_; have HO_679002 := n2_; have HO696 := n3_; have HO701 := n4_; have BK652 := n5_; have BK665 := n6_; have BK671 := n7_; have BK678 := n8_; have HB := n9_; clear n0_ n1_ n2_ n3_ n4_ n5_ n6_ n7_ n8_ n9_; (try clear hb); (try clear hb2); (try clear hk); (try clear hi); (try clear ho0)) | ((with_reducible refine gate_dst (N := 14) rfl ?_); refine box_event ?hg (N := 14) ?hd (cs := #[.int .i64 0, .int .i64 0, .slice none 0 0]) (t := 42) ?hr ?_; (case hd => rfl); (case hg => rfl); (case hr => first | (go_simp; done) | (go_simp; rfl)); intro gb703 hg w118 hbox hb; have n0_ := Aside0.mk (Kd.R_below (by (with_reducible repeat (first | apply Kd.R_alloc | apply Kd.R_drewN | apply Kd.R_drew)); exact HO_666002.out) hb); have n1_ := Aside0.mk (Kd.R_below (by (with_reducible repeat (first | apply Kd.R_alloc | apply Kd.R_drewN | apply Kd.R_drew)); exact HO_672002.out) hb); have n2_ := Aside0.mk (Kd.R_below (by (with_reducible repeat (first | apply Kd.R_alloc | apply Kd.R_drewN | apply Kd.R_drew)); exact HO_679002.out) hb); have n3_ := Aside0.mk (Kd.R_below (by (with_reducible repeat (first | apply Kd.R_alloc | apply Kd.R_drewN | apply Kd.R_drew)); exact HO696.out) hb); have n4_ := Aside0.mk (Kd.R_below (by (with_reducible repeat (first | apply Kd.R_alloc | apply Kd.R_drewN | apply Kd.R_drew)); exact HO701.out) hb); have n5_ := Aside0.mk (blk_below (g := gb652) (o := .cells #[.int .i64 a0_0, .int .i64 a0_1, .slice A0_2 l0_2.length c0_2] 33 (0, 0)) (by (with_reducible repeat (first | refine blk_drewN ?_ _ | refine blk_drew ?_ | refine blk_alloc ?_ _)); exact BK652.out) hb); have n6_ := Aside0.mk (blk_below (g := gb665) (o := .cells #[.int .i64 t659, .int .i64 t660, .slice Ao23 t661.length co23] 42 (0, 0)) (by (with_reducible repeat (first | refine blk_drewN ?_ _ | refine blk_drew ?_ | refine blk_alloc ?_ _)); exact BK665.out) hb); have n7_ := Aside0.mk (blk_below (g := gb671) (o := .cells #[.int .i64 t666, .int .i64 t667, .slice Ao30 t687.length co30] 42 (0, 0)) (by (with_reducible repeat (first | refine blk_drewN ?_ _ | refine blk_drew ?_ | refine blk_alloc ?_ _)); exact BK671.out) hb); have n8_ := Aside0.mk (blk_below (g := gb678) (o := .cells #[.int .i64 t672, .int .i64 t673, .slice Ao37 t674.length co37] 42 (0, 0)) (by (with_reducible repeat (first | refine blk_drewN ?_ _ | refine blk_drew ?_ | refine blk_alloc ?_ _)); exact BK678.out) hb); have n9_ := Aside0.mk (below_step (by repeat (first | (with_reducible first | exact HB.out | apply below_alloc | apply pw_below_drewN | apply below_drew1 | refine below_set ?_ GE652.out | refine below_set ?_ GE665.out | refine below_set ?_ GE671.out | refine below_set ?_ GE678.out) | exact HB.out)) hb); have n10_ := Aside0.mk (hbox); have n11_ := Aside0.mk ((by rw [hg]; exact (below_size (by repeat (first | (with_reducible first | exact HB.out | apply below_alloc | apply pw_below_drewN | apply below_drew1 | refine below_set ?_ GE652.out | refine below_set ?_ GE665.out | refine below_set ?_ GE671.out | refine below_set ?_ GE678.out) | exact HB.out))) : w.heap.size ≤ gb703)); have n12_ := Aside0.mk ((by rw [hg]; exact (below_size (by repeat (first | (with_reducible first | exact HB.out | apply below_alloc | apply pw_below_drewN | apply below_drew1 | refine below_set ?_ GE652.out | refine below_set ?_ GE665.out | refine below_set ?_ GE671.out | refine below_set ?_ GE678.out) | exact HB.out))) : w.heap.size ≤ gb703)); have n13_ := Aside0.mk ((by rw [hg]; exact Nat.ne_of_lt (blk_lt (g := gb652) (o := .cells #[.int .i64 a0_0, .int .i64 a0_1, .slice A0_2 l0_2.length c0_2] 33 (0, 0)) (by (with_reducible repeat (first | refine blk_drewN ?_ _ | refine blk_drew ?_ | refine blk_alloc ?_ _)); exact BK652.out)) : gb652 ≠ gb703)); have n14_ := Aside0.mk ((by rw [hg]; exact Nat.ne_of_gt (blk_lt (g := gb652) (o := .cells #[.int .i64 a0_0, .int .i64 a0_1, .slice A0_2 l0_2.length c0_2] 33 (0, 0)) (by (with_reducible repeat (first | refine blk_drewN ?_ _ | refine blk_drew ?_ | refine blk_alloc ?_ _)); exact BK652.out)) : gb703 ≠ gb652)); have n15_ := Aside0.mk ((by rw [hg]; exact Nat.ne_of_lt (blk_lt (g := gb665) (o := .cells #[.int .i64 t659, .int .i64 t660, .slice Ao23 t661.length co23] 42 (0, 0)) (by (with_reducible repeat (first | refine blk_drewN ?_ _ | refine blk_drew ?_ | refine blk_alloc ?_ _)); exact BK665.out)) : gb665 ≠ gb703)); have n16_ := Aside0.mk ((by rw [hg]; exact Nat.ne_of_gt (blk_lt (g := gb665) (o := .cells #[.int .i64 t659, .int .i64 t660, .slice Ao23 t661.length co23] 42 (0, 0)) (by (with_reducible repeat (first | refine blk_drewN ?_ _ | refine blk_drew ?_ | refine blk_alloc ?_ _)); exact BK665.out)) : gb703 ≠ gb665)); have n17_ := Aside0.mk ((by rw [hg]; exact Nat.ne_of_lt (blk_lt (g := gb671) (o := .cells #[.int .i64 t666, .int .i64 t667, .slice Ao30 t687.length co30] 42 (0, 0)) (by (with_reducible repeat (first | refine blk_drewN ?_ _ | refine blk_drew ?_ | refine blk_alloc ?_ _)); exact BK671.out)) : gb671 ≠ gb703)); have n18_ := Aside0.mk ((by rw [hg]; exact Nat.ne_of_gt (blk_lt (g := gb671) (o := .cells #[.int .i64 t666, .int .i64 t667, .slice Ao30 t687.length co30] 42 (0, 0)) (by (with_reducible repeat (first | refine blk_drewN ?_ _ | refine blk_drew ?_ | refine blk_alloc ?_ _)); exact BK671.out)) : gb703 ≠ gb671)); have n19_ := Aside0.mk ((by rw [hg]; exact Nat.ne_of_lt (blk_lt (g := gb678) (o := .cells #[.int .i64 t672, .int .i64 t673, .slice Ao37 t674.length co37] 42 (0, 0)) (by (with_reducible repeat (first | refine blk_drewN ?_ _ | refine blk_drew ?_ | refine blk_alloc ?_ _)); exact BK678.out)) : gb678 ≠ gb703)); have n20_ := Aside0.mk ((by rw [hg]; exact Nat.ne_of_gt (blk_lt (g := gb678) (o := .cells #[.int .i64 t672, .int .i64 t673, .slice Ao37 t674.length co37] 42 (0, 0)) (by (with_reducible repeat (first | refine blk_drewN ?_ _ | refine blk_drew ?_ | refine blk_alloc ?_ _)); exact BK678.out)) : gb703 ≠ gb678)); clear HO_666002; clear HO_672002; clear HO_679002; clear HO696; clear HO701; clear BK652; clear BK665; clear BK671; clear BK678; clear HB; have HO_666002 := n0_; have HO_672002 := n1_; have HO_679002 := n2_; have HO696 := n3_; have HO701 := n4_; have BK652 := n5_; have BK665 := n6_; have BK671 := n7_; have BK678 := n8_; have HB := n9_; have BK703 := n10_; have GW703 := n11_; have GE703 := n12_; have NB652_703 := n13_; have NB703_652 := n14_; have NB665_703 := n15_; have NB703_665 := n16_; have NB671_703 := n17_; have NB703_671 := n18_; have NB678_703 := n19_; have NB703_678 := n20_; clear n0_ n1_ n2_ n3_ n4_ n5_ n6_ n7_ n8_ n9_ n10_ n11_ n12_ n13_ n14_ n15_ n16_ n17_ n18_ n19_ n20_; clear hb hbox hg; have hnb119 := NB703_652.out; have hnc119 := NB652_703.out; have hnb120 := NB703_665.out; have hnc120 := NB665_703.out; have hnb121 := NB703_671.out; have hnc121 := NB671_703.out; have hnb122 := NB703_678.out; have hnc122 := NB678_703.out; have hcz123_0 : w118.cell? ⟨gb703, 0, none⟩ = some (.int .i64 0) := (blk_cell BK703.out 0).trans rfl; have hcz123_1 : w118.cell? ⟨gb703, 1, none⟩ = some (.int .i64 0) := (blk_cell BK703.out 1).trans rfl; have hcz123_2 : w118.cell? ⟨gb703, 2, none⟩ = some (.slice none 0 0) := (blk_cell BK703.out 2).trans rfl; have hfz123_0 := blk_frozen BK703.out 0; have hfz123_1 := blk_frozen BK703.out 1; have hfz123_2 := blk_frozen BK703.out 2; obtain ⟨Ao124, co124, eo124⟩ := Kd.R_slice HO701.out; subst eo124))
           (try simp only [Act.put, List.setIfInBounds_toArray, List.set_cons_zero, List.set_cons_succ])
           go_cut [92] (fun v92 wc => ∃ (kq : Nat) (x92_103 : Bool), v92 = .bool x92_103 ∧ Aside0 (laws_FnExactDropClue.j2 kq t689 x92_103 t672 t673 t690 = some r) ∧ Aside0 (kq ≤ kj60) ∧ Aside0 (Kd.R k28 28 wc w.heap.size (fun k_ => some k_ ≠ ((.slice Ao30 t687.length co30) : Value).ownBlock ∧ some k_ ≠ ((.slice Ao37 t674.length co37) : Value).ownBlock ∧ some k_ ≠ ((.slice Ao124 t699.length co124) : Value).ownBlock) (.slice Ao23 t661.length co23) t661) ∧ Aside0 (Kd.R k28 28 wc w.heap.size (fun k_ => some k_ ≠ ((.slice Ao23 t661.length co23) : Value).ownBlock ∧ some k_ ≠ ((.slice Ao37 t674.length co37) : Value).ownBlock ∧ some k_ ≠ ((.slice Ao124 t699.length co124) : Value).ownBlock) (.slice Ao30 t687.length co30) t687) ∧ Aside0 (Kd.R k28 28 wc w.heap.size (fun k_ => some k_ ≠ ((.slice Ao23 t661.length co23) : Value).ownBlock ∧ some k_ ≠ ((.slice Ao30 t687.length co30) : Value).ownBlock ∧ some k_ ≠ ((.slice Ao124 t699.length co124) : Value).ownBlock) (.slice Ao37 t674.length co37) t690) ∧ Aside0 (Kd.R k28 28 wc w.heap.size (fun k_ => some k_ ≠ ((.slice Ao23 t661.length co23) : Value).ownBlock ∧ some k_ ≠ ((.slice Ao30 t687.length co30) : Value).ownBlock ∧ some k_ ≠ ((.slice Ao37 t674.length co37) : Value).ownBlock) (.slice Ao124 t699.length co124) t699) ∧ Aside0 (wc.heap[gb652]? = some (.cells #[.int .i64 a0_0, .int .i64 a0_1, (.slice A0_2 l0_2.length c0_2)] 33 (0, 0))) ∧ Aside0 (wc.heap[gb665]? = some (.cells #[.int .i64 t659, .int .i64 t660, (.slice Ao23 t661.length co23)] 42 (0, 0))) ∧ Aside0 (wc.heap[gb671]? = some (.cells #[.int .i64 t666, .int .i64 t667, (.slice Ao30 t687.length co30)] 42 (0, 0))) ∧ Aside0 (wc.heap[gb678]? = some (.cells #[.int .i64 t672, .int .i64 t673, (.slice Ao37 t674.length co37)] 42 (0, 0))) ∧ Aside0 (wc.heap[gb703]? = some (.cells #[.int .i64 t697, .int .i64 t698, (.slice Ao124 t699.length co124)] 42 (0, 0))) ∧ Aside0 (Below w.heap.size w wc))
           case first =>
            have H := HC104.out
            clear HC104
            replace H := Option.bind_eq_some_iff.mp H
            obtain ⟨t704, A1250, H⟩ := H
            replace H : (if t704 = true then (laws_FnExactDropClue.j2 kj60 t689 (t702 != t664) t672 t673 t690) else (laws_FnExactDropClue.j2 kj60 t689 true t672 t673 t690)) = some r := H
            have A125 := Aside0.mk A1250
            clear A1250
            by_cases c126 : t704 = true
            ·subst c126
             have H1 : (laws_FnExactDropClue.j2 kj60 t689 (t702 != t664) t672 t673 t690) = some r := by rw [if_pos rfl] at H; exact H
             clear H
             have H := H1
             clear H1
             have H' := Aside0.mk H
             clear H
             have hnb127 := NB703_652.out
             have hnc127 := NB652_703.out
             have hnb128 := NB703_665.out
             have hnc128 := NB665_703.out
             have hnb129 := NB703_671.out
             have hnc129 := NB671_703.out
             have hnb130 := NB703_678.out
             have hnc130 := NB678_703.out
             have hcz131_0 : w118.cell? ⟨gb703, 0, none⟩ = some (.int .i64 0) := (blk_cell BK703.out 0).trans rfl
             have hcz131_1 : w118.cell? ⟨gb703, 1, none⟩ = some (.int .i64 0) := (blk_cell BK703.out 1).trans rfl
             have hcz131_2 : w118.cell? ⟨gb703, 2, none⟩ = some (.slice none 0 0) := (blk_cell BK703.out 2).trans rfl
             have hfz131_0 := blk_frozen BK703.out 0
             have hfz131_1 := blk_frozen BK703.out 1
             have hfz131_2 := blk_frozen BK703.out 2
             have hnb132 := NB665_652.out
             have hnc132 := NB652_665.out
             have hnb133 := NB665_671.out
             have hnc133 := NB671_665.out
             have hnb134 := NB665_678.out
             have hnc134 := NB678_665.out
             have hcz135_0 : w118.cell? ⟨gb665, 0, none⟩ = some (.int .i64 t659) := (blk_cell BK665.out 0).trans rfl
             have hcz135_1 : w118.cell? ⟨gb665, 1, none⟩ = some (.int .i64 t660) := (blk_cell BK665.out 1).trans rfl
             have hcz135_2 : w118.cell? ⟨gb665, 2, none⟩ = some (.slice Ao23 t661.length co23) := (blk_cell BK665.out 2).trans rfl
             have hfz135_0 := blk_frozen BK665.out 0
             have hfz135_1 := blk_frozen BK665.out 1
             have hfz135_2 := blk_frozen BK665.out 2
             go_wp2_with (first | ((with_reducible refine gate_callee (f := 29) rfl ?_); refine goesL_ (some 86) rfl rfl Try.func29 (by kernel_rfl) rfl #[.agg #[.int .i64 t697, .int .i64 t698, .slice Ao124 t699.length co124], .agg #[.int .i64 t659, .int .i64 t660, .slice Ao23 t661.length co23]] rfl (by (try simp only [List.map_toArray, List.map_cons, List.map_nil]); first | done | rfl | (simp only [List.length_drop, List.length_take]; rfl)) ?_; (with_reducible refine (laws_eqPuzzle.calls kj60 t697 t698 _ _ t699 t659 t660 _ _ t661 true _ ?side1 ?side2 ?side3 ?side4 A125.out).mono ?_); (case side1 => refine (Kd.R_reads' (e := 28) (base := w.heap.size) (ok := fun k_ => ((((True ∧ some k_ ≠ (.slice Ao23 t661.length co23 : Value).ownBlock) ∧ some k_ ≠ (.slice Ao30 t687.length co30 : Value).ownBlock) ∧ some k_ ≠ (.slice Ao37 t674.length co37 : Value).ownBlock) ∧ some k_ ≠ (.slice Ao116 t694.length co116 : Value).ownBlock)) (n := t699.length) (c := co124) ?_).2.2; exact (by (with_reducible repeat (first | apply Kd.R_alloc | apply Kd.R_drewN | apply Kd.R_drew)); exact (Kd.R_mono (Kd.R_far (p := ⟨gb703, 2, none⟩) (Kd.R_far (p := ⟨gb703, 1, none⟩) (Kd.R_far (p := ⟨gb703, 0, none⟩) (Kd.R_types HO701.out BK703.out (by decide)) (fun _ hk => hk.2) (.int .i64 t697)) (fun _ hk => hk.2) (.int .i64 t698)) (fun _ hk => hk.2) (.slice Ao124 t699.length co124)) (fun _ h_ => h_.1)))); (case side2 => exact (Kd.R_reads' HO701.out).2.1); (case side3 => refine (Kd.R_reads' (e := 28) (base := w.heap.size) (ok := fun k_ => (((some k_ ≠ (.slice Ao30 t687.length co30 : Value).ownBlock ∧ some k_ ≠ (.slice Ao37 t674.length co37 : Value).ownBlock) ∧ some k_ ≠ (.slice Ao116 t694.length co116 : Value).ownBlock) ∧ some k_ ≠ (.slice Ao124 t699.length co124 : Value).ownBlock)) (n := t661.length) (c := co23) ?_).2.2; exact (by (with_reducible repeat (first | apply Kd.R_alloc | apply Kd.R_drewN | apply Kd.R_drew)); exact (Kd.R_mono (Kd.R_far (p := ⟨gb703, 2, none⟩) (Kd.R_far (p := ⟨gb703, 1, none⟩) (Kd.R_far (p := ⟨gb703, 0, none⟩) (Kd.R_types HO_666002.out BK703.out (by decide)) (fun _ hk => hk.2) (.int .i64 t697)) (fun _ hk => hk.2) (.int .i64 t698)) (fun _ hk => hk.2) (.slice Ao124 t699.length co124)) (fun _ h_ => h_.1)))); (case side4 => exact (Kd.R_reads' HO_666002.out).2.1); rintro e w136 ⟨rfl, hb⟩; refine ⟨_, rfl, ?_⟩; have n0_ := Aside0.mk (Kd.R_below (by (with_reducible repeat (first | apply Kd.R_alloc | apply Kd.R_drewN | apply Kd.R_drew)); exact (Kd.R_mono (Kd.R_far (p := ⟨gb703, 2, none⟩) (Kd.R_far (p := ⟨gb703, 1, none⟩) (Kd.R_far (p := ⟨gb703, 0, none⟩) (Kd.R_types HO_666002.out BK703.out (by decide)) (fun _ hk => hk.2) (.int .i64 t697)) (fun _ hk => hk.2) (.int .i64 t698)) (fun _ hk => hk.2) (.slice Ao124 t699.length co124)) (fun _ h_ => h_.1))) hb); have n1_ := Aside0.mk (Kd.R_below (by (with_reducible repeat (first | apply Kd.R_alloc | apply Kd.R_drewN | apply Kd.R_drew)); exact (Kd.R_mono (Kd.R_far (p := ⟨gb703, 2, none⟩) (Kd.R_far (p := ⟨gb703, 1, none⟩) (Kd.R_far (p := ⟨gb703, 0, none⟩) (Kd.R_types HO_672002.out BK703.out (by decide)) (fun _ hk => hk.2) (.int .i64 t697)) (fun _ hk => hk.2) (.int .i64 t698)) (fun _ hk => hk.2) (.slice Ao124 t699.length co124)) (fun _ h_ => h_.1))) hb); have n2_ := Aside0.mk (Kd.R_below (by (with_reducible repeat (first | apply Kd.R_alloc | apply Kd.R_drewN | apply Kd.R_drew)); exact (Kd.R_mono (Kd.R_far (p := ⟨gb703, 2, none⟩) (Kd.R_far (p := ⟨gb703, 1, none⟩) (Kd.R_far (p := ⟨gb703, 0, none⟩) (Kd.R_types HO_679002.out BK703.out (by decide)) (fun _ hk => hk.2) (.int .i64 t697)) (fun _ hk => hk.2) (.int .i64 t698)) (fun _ hk => hk.2) (.slice Ao124 t699.length co124)) (fun _ h_ => h_.1))) hb); have n3_ := Aside0.mk (Kd.R_below (by (with_reducible repeat (first | apply Kd.R_alloc | apply Kd.R_drewN | apply Kd.R_drew)); exact (Kd.R_mono (Kd.R_far (p := ⟨gb703, 2, none⟩) (Kd.R_far (p := ⟨gb703, 1, none⟩) (Kd.R_far (p := ⟨gb703, 0, none⟩) (Kd.R_types HO696.out BK703.out (by decide)) (fun _ hk => hk.2) (.int .i64 t697)) (fun _ hk => hk.2) (.int .i64 t698)) (fun _ hk => hk.2) (.slice Ao124 t699.length co124)) (fun _ h_ => h_.1))) hb); have n4_ := Aside0.mk (Kd.R_below (by (with_reducible repeat (first | apply Kd.R_alloc | apply Kd.R_drewN | apply Kd.R_drew)); exact (Kd.R_mono (Kd.R_far (p := ⟨gb703, 2, none⟩) (Kd.R_far (p := ⟨gb703, 1, none⟩) (Kd.R_far (p := ⟨gb703, 0, none⟩) (Kd.R_types HO701.out BK703.out (by decide)) (fun _ hk => hk.2) (.int .i64 t697)) (fun _ hk => hk.2) (.int .i64 t698)) (fun _ hk => hk.2) (.slice Ao124 t699.length co124)) (fun _ h_ => h_.1))) hb); have n5_ := Aside0.mk (blk_below (g := gb652) (o := .cells #[.int .i64 a0_0, .int .i64 a0_1, .slice A0_2 l0_2.length c0_2] 33 (0, 0)) (by (with_reducible repeat (first | refine blk_drewN ?_ _ | refine blk_drew ?_ | refine blk_alloc ?_ _)); refine blk_far ?_ NB652_703.out _; (with_reducible repeat (first | refine blk_drewN ?_ _ | refine blk_drew ?_ | refine blk_alloc ?_ _)); refine blk_far ?_ NB652_703.out _; (with_reducible repeat (first | refine blk_drewN ?_ _ | refine blk_drew ?_ | refine blk_alloc ?_ _)); refine blk_far ?_ NB652_703.out _; (with_reducible repeat (first | refine blk_drewN ?_ _ | refine blk_drew ?_ | refine blk_alloc ?_ _)); exact BK652.out) hb); have n6_ := Aside0.mk (blk_below (g := gb665) (o := .cells #[.int .i64 t659, .int .i64 t660, .slice Ao23 t661.length co23] 42 (0, 0)) (by (with_reducible repeat (first | refine blk_drewN ?_ _ | refine blk_drew ?_ | refine blk_alloc ?_ _)); refine blk_far ?_ NB665_703.out _; (with_reducible repeat (first | refine blk_drewN ?_ _ | refine blk_drew ?_ | refine blk_alloc ?_ _)); refine blk_far ?_ NB665_703.out _; (with_reducible repeat (first | refine blk_drewN ?_ _ | refine blk_drew ?_ | refine blk_alloc ?_ _)); refine blk_far ?_ NB665_703.out _; (with_reducible repeat (first | refine blk_drewN ?_ _ | refine blk_drew ?_ | refine blk_alloc ?_ _)); exact BK665.out) hb); have n7_ := Aside0.mk (blk_below (g := gb671) (o := .cells #[.int .i64 t666, .int .i64 t667, .slice Ao30 t687.length co30] 42 (0, 0)) (by (with_reducible repeat (first | refine blk_drewN ?_ _ | refine blk_drew ?_ | refine blk_alloc ?_ _)); refine blk_far ?_ NB671_703.out _; (with_reducible repeat (first | refine blk_drewN ?_ _ | refine blk_drew ?_ | refine blk_alloc ?_ _)); refine blk_far ?_ NB671_703.out _; (with_reducible repeat (first | refine blk_drewN ?_ _ | refine blk_drew ?_ | refine blk_alloc ?_ _)); refine blk_far ?_ NB671_703.out _; (with_reducible repeat (first | refine blk_drewN ?_ _ | refine blk_drew ?_ | refine blk_alloc ?_ _)); exact BK671.out) hb); have n8_ := Aside0.mk (blk_below (g := gb678) (o := .cells #[.int .i64 t672, .int .i64 t673, .slice Ao37 t674.length co37] 42 (0, 0)) (by (with_reducible repeat (first | refine blk_drewN ?_ _ | refine blk_drew ?_ | refine blk_alloc ?_ _)); refine blk_far ?_ NB678_703.out _; (with_reducible repeat (first | refine blk_drewN ?_ _ | refine blk_drew ?_ | refine blk_alloc ?_ _)); refine blk_far ?_ NB678_703.out _; (with_reducible repeat (first | refine blk_drewN ?_ _ | refine blk_drew ?_ | refine blk_alloc ?_ _)); refine blk_far ?_ NB678_703.out _; (with_reducible repeat (first | refine blk_drewN ?_ _ | refine blk_drew ?_ | refine blk_alloc ?_ _)); exact BK678.out) hb); have n9_ := Aside0.mk (blk_below (g := gb703) (o := .cells #[.int .i64 t697, .int .i64 t698, .slice Ao124 t699.length co124] 42 (0, 0)) (by (with_reducible repeat (first | refine blk_drewN ?_ _ | refine blk_drew ?_ | refine blk_alloc ?_ _)); refine blk_put (cs := #[.int .i64 t697, .int .i64 t698, .slice none 0 0]) ?_ 2 _ rfl; (with_reducible repeat (first | refine blk_drewN ?_ _ | refine blk_drew ?_ | refine blk_alloc ?_ _)); refine blk_put (cs := #[.int .i64 t697, .int .i64 0, .slice none 0 0]) ?_ 1 _ rfl; (with_reducible repeat (first | refine blk_drewN ?_ _ | refine blk_drew ?_ | refine blk_alloc ?_ _)); refine blk_put (cs := #[.int .i64 0, .int .i64 0, .slice none 0 0]) ?_ 0 _ rfl; (with_reducible repeat (first | refine blk_drewN ?_ _ | refine blk_drew ?_ | refine blk_alloc ?_ _)); exact BK703.out) hb); have n10_ := Aside0.mk (below_step (by repeat (first | (with_reducible first | exact HB.out | apply below_alloc | apply pw_below_drewN | apply below_drew1 | refine below_set ?_ GE652.out | refine below_set ?_ GE665.out | refine below_set ?_ GE671.out | refine below_set ?_ GE678.out | refine below_set ?_ GE703.out) | exact HB.out)) hb); clear HO_666002; clear HO_672002; clear HO_679002; clear HO696; clear HO701; clear BK652; clear BK665; clear BK671; clear BK678; clear BK703; clear HB; have HO_666002 := n0_; have HO_672002 := n1_; have HO_679002 := n2_; have HO696 := n3_; have HO701 := n4_; have BK652 := n5_; have BK665 := n6_; have BK671 := n7_; have BK678 := n8_; have BK703 := n9_; have HB := n10_; clear n0_ n1_ n2_ n3_ n4_ n5_ n6_ n7_ n8_ n9_ n10_; (try clear hb); (try clear hb2); (try clear hk); (try clear hi)))
             go_meet
             case rel => exact ⟨_, ((t702 != t664)), (by first | rfl | (simp; done) | (simp [*]; done)), H', ⟨by have := HJ11.out; have := HJ60.out; first | omega | exact Nat.le_refl _⟩, ⟨by (try simp only [hl672002_60]); (with_reducible repeat (first | apply Kd.R_alloc | apply Kd.R_drewN | apply Kd.R_drew)); exact Kd.R_mono HO_666002.out (fun _ hk => ⟨hk.1.1.1, ⟨hk.1.1.2, hk.2⟩⟩)⟩, ⟨by (try simp only [hl672002_60]); (with_reducible repeat (first | apply Kd.R_alloc | apply Kd.R_drewN | apply Kd.R_drew)); exact Kd.R_mono HO_672002.out (fun _ hk => ⟨hk.1.1.1, ⟨hk.1.1.2, hk.2⟩⟩)⟩, ⟨by (try simp only [hl672002_60]); (with_reducible repeat (first | apply Kd.R_alloc | apply Kd.R_drewN | apply Kd.R_drew)); exact Kd.R_mono HO_679002.out (fun _ hk => ⟨hk.1.1.1, ⟨hk.1.1.2, hk.2⟩⟩)⟩, ⟨by (try simp only [hl672002_60]); (with_reducible repeat (first | apply Kd.R_alloc | apply Kd.R_drewN | apply Kd.R_drew)); exact Kd.R_mono HO701.out (fun _ hk => ⟨hk.1.1.1.2, ⟨hk.1.1.2, hk.1.2⟩⟩)⟩, ⟨by (try simp only [hl672002_60]); (with_reducible repeat (first | refine blk_drewN ?_ _ | refine blk_drew ?_ | refine blk_alloc ?_ _)); exact BK652.out⟩, ⟨by (try simp only [hl672002_60]); (with_reducible repeat (first | refine blk_drewN ?_ _ | refine blk_drew ?_ | refine blk_alloc ?_ _)); exact BK665.out⟩, ⟨by (try simp only [hl672002_60]); (with_reducible repeat (first | refine blk_drewN ?_ _ | refine blk_drew ?_ | refine blk_alloc ?_ _)); exact BK671.out⟩, ⟨by (try simp only [hl672002_60]); (with_reducible repeat (first | refine blk_drewN ?_ _ | refine blk_drew ?_ | refine blk_alloc ?_ _)); exact BK678.out⟩, ⟨by (try simp only [hl672002_60]); (with_reducible repeat (first | refine blk_drewN ?_ _ | refine blk_drew ?_ | refine blk_alloc ?_ _)); exact BK703.out⟩, ⟨by repeat (first | (with_reducible first | exact HB.out | apply below_alloc | apply pw_below_drewN | apply below_drew1 | refine below_set ?_ GE652.out | refine below_set ?_ GE665.out | refine below_set ?_ GE671.out | refine below_set ?_ GE678.out | refine below_set ?_ GE703.out) | exact HB.out)⟩⟩
            ·replace c126 := Bool.eq_false_iff.mpr c126
             subst c126
             have H1 : (laws_FnExactDropClue.j2 kj60 t689 true t672 t673 t690) = some r := by rw [if_neg (show ¬ (false = true) by decide)] at H; exact H
             clear H
             have H := H1
             clear H1
             have H' := Aside0.mk H
             clear H
             have hnb137 := NB703_652.out
             have hnc137 := NB652_703.out
             have hnb138 := NB703_665.out
             have hnc138 := NB665_703.out
             have hnb139 := NB703_671.out
             have hnc139 := NB671_703.out
             have hnb140 := NB703_678.out
             have hnc140 := NB678_703.out
             have hcz141_0 : w118.cell? ⟨gb703, 0, none⟩ = some (.int .i64 0) := (blk_cell BK703.out 0).trans rfl
             have hcz141_1 : w118.cell? ⟨gb703, 1, none⟩ = some (.int .i64 0) := (blk_cell BK703.out 1).trans rfl
             have hcz141_2 : w118.cell? ⟨gb703, 2, none⟩ = some (.slice none 0 0) := (blk_cell BK703.out 2).trans rfl
             have hfz141_0 := blk_frozen BK703.out 0
             have hfz141_1 := blk_frozen BK703.out 1
             have hfz141_2 := blk_frozen BK703.out 2
             have hnb142 := NB665_652.out
             have hnc142 := NB652_665.out
             have hnb143 := NB665_671.out
             have hnc143 := NB671_665.out
             have hnb144 := NB665_678.out
             have hnc144 := NB678_665.out
             have hcz145_0 : w118.cell? ⟨gb665, 0, none⟩ = some (.int .i64 t659) := (blk_cell BK665.out 0).trans rfl
             have hcz145_1 : w118.cell? ⟨gb665, 1, none⟩ = some (.int .i64 t660) := (blk_cell BK665.out 1).trans rfl
             have hcz145_2 : w118.cell? ⟨gb665, 2, none⟩ = some (.slice Ao23 t661.length co23) := (blk_cell BK665.out 2).trans rfl
             have hfz145_0 := blk_frozen BK665.out 0
             have hfz145_1 := blk_frozen BK665.out 1
             have hfz145_2 := blk_frozen BK665.out 2
             go_wp2_with (first | ((with_reducible refine gate_callee (f := 29) rfl ?_); refine goesL_ (some 86) rfl rfl Try.func29 (by kernel_rfl) rfl #[.agg #[.int .i64 t697, .int .i64 t698, .slice Ao124 t699.length co124], .agg #[.int .i64 t659, .int .i64 t660, .slice Ao23 t661.length co23]] rfl (by (try simp only [List.map_toArray, List.map_cons, List.map_nil]); first | done | rfl | (simp only [List.length_drop, List.length_take]; rfl)) ?_; (with_reducible refine (laws_eqPuzzle.calls kj60 t697 t698 _ _ t699 t659 t660 _ _ t661 false _ ?side1 ?side2 ?side3 ?side4 A125.out).mono ?_); (case side1 => refine (Kd.R_reads' (e := 28) (base := w.heap.size) (ok := fun k_ => ((((True ∧ some k_ ≠ (.slice Ao23 t661.length co23 : Value).ownBlock) ∧ some k_ ≠ (.slice Ao30 t687.length co30 : Value).ownBlock) ∧ some k_ ≠ (.slice Ao37 t674.length co37 : Value).ownBlock) ∧ some k_ ≠ (.slice Ao116 t694.length co116 : Value).ownBlock)) (n := t699.length) (c := co124) ?_).2.2; exact (by (with_reducible repeat (first | apply Kd.R_alloc | apply Kd.R_drewN | apply Kd.R_drew)); exact (Kd.R_mono (Kd.R_far (p := ⟨gb703, 2, none⟩) (Kd.R_far (p := ⟨gb703, 1, none⟩) (Kd.R_far (p := ⟨gb703, 0, none⟩) (Kd.R_types HO701.out BK703.out (by decide)) (fun _ hk => hk.2) (.int .i64 t697)) (fun _ hk => hk.2) (.int .i64 t698)) (fun _ hk => hk.2) (.slice Ao124 t699.length co124)) (fun _ h_ => h_.1)))); (case side2 => exact (Kd.R_reads' HO701.out).2.1); (case side3 => refine (Kd.R_reads' (e := 28) (base := w.heap.size) (ok := fun k_ => (((some k_ ≠ (.slice Ao30 t687.length co30 : Value).ownBlock ∧ some k_ ≠ (.slice Ao37 t674.length co37 : Value).ownBlock) ∧ some k_ ≠ (.slice Ao116 t694.length co116 : Value).ownBlock) ∧ some k_ ≠ (.slice Ao124 t699.length co124 : Value).ownBlock)) (n := t661.length) (c := co23) ?_).2.2; exact (by (with_reducible repeat (first | apply Kd.R_alloc | apply Kd.R_drewN | apply Kd.R_drew)); exact (Kd.R_mono (Kd.R_far (p := ⟨gb703, 2, none⟩) (Kd.R_far (p := ⟨gb703, 1, none⟩) (Kd.R_far (p := ⟨gb703, 0, none⟩) (Kd.R_types HO_666002.out BK703.out (by decide)) (fun _ hk => hk.2) (.int .i64 t697)) (fun _ hk => hk.2) (.int .i64 t698)) (fun _ hk => hk.2) (.slice Ao124 t699.length co124)) (fun _ h_ => h_.1)))); (case side4 => exact (Kd.R_reads' HO_666002.out).2.1); rintro e w146 ⟨rfl, hb⟩; refine ⟨_, rfl, ?_⟩; have n0_ := Aside0.mk (Kd.R_below (by (with_reducible repeat (first | apply Kd.R_alloc | apply Kd.R_drewN | apply Kd.R_drew)); exact (Kd.R_mono (Kd.R_far (p := ⟨gb703, 2, none⟩) (Kd.R_far (p := ⟨gb703, 1, none⟩) (Kd.R_far (p := ⟨gb703, 0, none⟩) (Kd.R_types HO_666002.out BK703.out (by decide)) (fun _ hk => hk.2) (.int .i64 t697)) (fun _ hk => hk.2) (.int .i64 t698)) (fun _ hk => hk.2) (.slice Ao124 t699.length co124)) (fun _ h_ => h_.1))) hb); have n1_ := Aside0.mk (Kd.R_below (by (with_reducible repeat (first | apply Kd.R_alloc | apply Kd.R_drewN | apply Kd.R_drew)); exact (Kd.R_mono (Kd.R_far (p := ⟨gb703, 2, none⟩) (Kd.R_far (p := ⟨gb703, 1, none⟩) (Kd.R_far (p := ⟨gb703, 0, none⟩) (Kd.R_types HO_672002.out BK703.out (by decide)) (fun _ hk => hk.2) (.int .i64 t697)) (fun _ hk => hk.2) (.int .i64 t698)) (fun _ hk => hk.2) (.slice Ao124 t699.length co124)) (fun _ h_ => h_.1))) hb); have n2_ := Aside0.mk (Kd.R_below (by (with_reducible repeat (first | apply Kd.R_alloc | apply Kd.R_drewN | apply Kd.R_drew)); exact (Kd.R_mono (Kd.R_far (p := ⟨gb703, 2, none⟩) (Kd.R_far (p := ⟨gb703, 1, none⟩) (Kd.R_far (p := ⟨gb703, 0, none⟩) (Kd.R_types HO_679002.out BK703.out (by decide)) (fun _ hk => hk.2) (.int .i64 t697)) (fun _ hk => hk.2) (.int .i64 t698)) (fun _ hk => hk.2) (.slice Ao124 t699.length co124)) (fun _ h_ => h_.1))) hb); have n3_ := Aside0.mk (Kd.R_below (by (with_reducible repeat (first | apply Kd.R_alloc | apply Kd.R_drewN | apply Kd.R_drew)); exact (Kd.R_mono (Kd.R_far (p := ⟨gb703, 2, none⟩) (Kd.R_far (p := ⟨gb703, 1, none⟩) (Kd.R_far (p := ⟨gb703, 0, none⟩) (Kd.R_types HO696.out BK703.out (by decide)) (fun _ hk => hk.2) (.int .i64 t697)) (fun _ hk => hk.2) (.int .i64 t698)) (fun _ hk => hk.2) (.slice Ao124 t699.length co124)) (fun _ h_ => h_.1))) hb); have n4_ := Aside0.mk (Kd.R_below (by (with_reducible repeat (first | apply Kd.R_alloc | apply Kd.R_drewN | apply Kd.R_drew)); exact (Kd.R_mono (Kd.R_far (p := ⟨gb703, 2, none⟩) (Kd.R_far (p := ⟨gb703, 1, none⟩) (Kd.R_far (p := ⟨gb703, 0, none⟩) (Kd.R_types HO701.out BK703.out (by decide)) (fun _ hk => hk.2) (.int .i64 t697)) (fun _ hk => hk.2) (.int .i64 t698)) (fun _ hk => hk.2) (.slice Ao124 t699.length co124)) (fun _ h_ => h_.1))) hb); have n5_ := Aside0.mk (blk_below (g := gb652) (o := .cells #[.int .i64 a0_0, .int .i64 a0_1, .slice A0_2 l0_2.length c0_2] 33 (0, 0)) (by (with_reducible repeat (first | refine blk_drewN ?_ _ | refine blk_drew ?_ | refine blk_alloc ?_ _)); refine blk_far ?_ NB652_703.out _; (with_reducible repeat (first | refine blk_drewN ?_ _ | refine blk_drew ?_ | refine blk_alloc ?_ _)); refine blk_far ?_ NB652_703.out _; (with_reducible repeat (first | refine blk_drewN ?_ _ | refine blk_drew ?_ | refine blk_alloc ?_ _)); refine blk_far ?_ NB652_703.out _; (with_reducible repeat (first | refine blk_drewN ?_ _ | refine blk_drew ?_ | refine blk_alloc ?_ _)); exact BK652.out) hb); have n6_ := Aside0.mk (blk_below (g := gb665) (o := .cells #[.int .i64 t659, .int .i64 t660, .slice Ao23 t661.length co23] 42 (0, 0)) (by (with_reducible repeat (first | refine blk_drewN ?_ _ | refine blk_drew ?_ | refine blk_alloc ?_ _)); refine blk_far ?_ NB665_703.out _; (with_reducible repeat (first | refine blk_drewN ?_ _ | refine blk_drew ?_ | refine blk_alloc ?_ _)); refine blk_far ?_ NB665_703.out _; (with_reducible repeat (first | refine blk_drewN ?_ _ | refine blk_drew ?_ | refine blk_alloc ?_ _)); refine blk_far ?_ NB665_703.out _; (with_reducible repeat (first | refine blk_drewN ?_ _ | refine blk_drew ?_ | refine blk_alloc ?_ _)); exact BK665.out) hb); have n7_ := Aside0.mk (blk_below (g := gb671) (o := .cells #[.int .i64 t666, .int .i64 t667, .slice Ao30 t687.length co30] 42 (0, 0)) (by (with_reducible repeat (first | refine blk_drewN ?_ _ | refine blk_drew ?_ | refine blk_alloc ?_ _)); refine blk_far ?_ NB671_703.out _; (with_reducible repeat (first | refine blk_drewN ?_ _ | refine blk_drew ?_ | refine blk_alloc ?_ _)); refine blk_far ?_ NB671_703.out _; (with_reducible repeat (first | refine blk_drewN ?_ _ | refine blk_drew ?_ | refine blk_alloc ?_ _)); refine blk_far ?_ NB671_703.out _; (with_reducible repeat (first | refine blk_drewN ?_ _ | refine blk_drew ?_ | refine blk_alloc ?_ _)); exact BK671.out) hb); have n8_ := Aside0.mk (blk_below (g := gb678) (o := .cells #[.int .i64 t672, .int .i64 t673, .slice Ao37 t674.length co37] 42 (0, 0)) (by (with_reducible repeat (first | refine blk_drewN ?_ _ | refine blk_drew ?_ | refine blk_alloc ?_ _)); refine blk_far ?_ NB678_703.out _; (with_reducible repeat (first | refine blk_drewN ?_ _ | refine blk_drew ?_ | refine blk_alloc ?_ _)); refine blk_far ?_ NB678_703.out _; (with_reducible repeat (first | refine blk_drewN ?_ _ | refine blk_drew ?_ | refine blk_alloc ?_ _)); refine blk_far ?_ NB678_703.out _; (with_reducible repeat (first | refine blk_drewN ?_ _ | refine blk_drew ?_ | refine blk_alloc ?_ _)); exact BK678.out) hb); have n9_ := Aside0.mk (blk_below (g := gb703) (o := .cells #[.int .i64 t697, .int .i64 t698, .slice Ao124 t699.length co124] 42 (0, 0)) (by (with_reducible repeat (first | refine blk_drewN ?_ _ | refine blk_drew ?_ | refine blk_alloc ?_ _)); refine blk_put (cs := #[.int .i64 t697, .int .i64 t698, .slice none 0 0]) ?_ 2 _ rfl; (with_reducible repeat (first | refine blk_drewN ?_ _ | refine blk_drew ?_ | refine blk_alloc ?_ _)); refine blk_put (cs := #[.int .i64 t697, .int .i64 0, .slice none 0 0]) ?_ 1 _ rfl; (with_reducible repeat (first | refine blk_drewN ?_ _ | refine blk_drew ?_ | refine blk_alloc ?_ _)); refine blk_put (cs := #[.int .i64 0, .int .i64 0, .slice none 0 0]) ?_ 0 _ rfl; (with_reducible repeat (first | refine blk_drewN ?_ _ | refine blk_drew ?_ | refine blk_alloc ?_ _)); exact BK703.out) hb); have n10_ := Aside0.mk (below_step (by repeat (first | (with_reducible first | exact HB.out | apply below_alloc | apply pw_below_drewN | apply below_drew1 | refine below_set ?_ GE652.out | refine below_set ?_ GE665.out | refine below_set ?_ GE671.out | refine below_set ?_ GE678.out | refine below_set ?_ GE703.out) | exact HB.out)) hb); clear HO_666002; clear HO_672002; clear HO_679002; clear HO696; clear HO701; clear BK652; clear BK665; clear BK671; clear BK678; clear BK703; clear HB; have HO_666002 := n0_; have HO_672002 := n1_; have HO_679002 := n2_; have HO696 := n3_; have HO701 := n4_; have BK652 := n5_; have BK665 := n6_; have BK671 := n7_; have BK678 := n8_; have BK703 := n9_; have HB := n10_; clear n0_ n1_ n2_ n3_ n4_ n5_ n6_ n7_ n8_ n9_ n10_; (try clear hb); (try clear hb2); (try clear hk); (try clear hi)))
             go_meet
             case rel => exact ⟨_, (true), (by first | rfl | (simp; done) | (simp [*]; done)), H', ⟨by have := HJ11.out; have := HJ60.out; first | omega | exact Nat.le_refl _⟩, ⟨by (try simp only [hl672002_60]); (with_reducible repeat (first | apply Kd.R_alloc | apply Kd.R_drewN | apply Kd.R_drew)); exact Kd.R_mono HO_666002.out (fun _ hk => ⟨hk.1.1.1, ⟨hk.1.1.2, hk.2⟩⟩)⟩, ⟨by (try simp only [hl672002_60]); (with_reducible repeat (first | apply Kd.R_alloc | apply Kd.R_drewN | apply Kd.R_drew)); exact Kd.R_mono HO_672002.out (fun _ hk => ⟨hk.1.1.1, ⟨hk.1.1.2, hk.2⟩⟩)⟩, ⟨by (try simp only [hl672002_60]); (with_reducible repeat (first | apply Kd.R_alloc | apply Kd.R_drewN | apply Kd.R_drew)); exact Kd.R_mono HO_679002.out (fun _ hk => ⟨hk.1.1.1, ⟨hk.1.1.2, hk.2⟩⟩)⟩, ⟨by (try simp only [hl672002_60]); (with_reducible repeat (first | apply Kd.R_alloc | apply Kd.R_drewN | apply Kd.R_drew)); exact Kd.R_mono HO701.out (fun _ hk => ⟨hk.1.1.1.2, ⟨hk.1.1.2, hk.1.2⟩⟩)⟩, ⟨by (try simp only [hl672002_60]); (with_reducible repeat (first | refine blk_drewN ?_ _ | refine blk_drew ?_ | refine blk_alloc ?_ _)); exact BK652.out⟩, ⟨by (try simp only [hl672002_60]); (with_reducible repeat (first | refine blk_drewN ?_ _ | refine blk_drew ?_ | refine blk_alloc ?_ _)); exact BK665.out⟩, ⟨by (try simp only [hl672002_60]); (with_reducible repeat (first | refine blk_drewN ?_ _ | refine blk_drew ?_ | refine blk_alloc ?_ _)); exact BK671.out⟩, ⟨by (try simp only [hl672002_60]); (with_reducible repeat (first | refine blk_drewN ?_ _ | refine blk_drew ?_ | refine blk_alloc ?_ _)); exact BK678.out⟩, ⟨by (try simp only [hl672002_60]); (with_reducible repeat (first | refine blk_drewN ?_ _ | refine blk_drew ?_ | refine blk_alloc ?_ _)); exact BK703.out⟩, ⟨by repeat (first | (with_reducible first | exact HB.out | apply below_alloc | apply pw_below_drewN | apply below_drew1 | refine below_set ?_ GE652.out | refine below_set ?_ GE665.out | refine below_set ?_ GE671.out | refine below_set ?_ GE678.out | refine below_set ?_ GE703.out) | exact HB.out)⟩⟩
           case rest =>
            clear HC104
            try clear c1
            try clear c2
            try clear p2
            try clear c3
            try clear c4
            try clear c4b0
            try clear c5
            try clear c6
            try clear c7
            try clear c8
            try clear c9
            try clear c10
            try clear c11
            try clear c12
            try clear c13
            try clear c14
            try clear c21
            try clear c24
            try clear c26
            try clear c27
            try clear c28
            try clear c29
            try clear c30
            try clear c33
            try clear c34
            try clear c35
            try clear c37
            try clear c39
            try clear c40
            try clear c41
            try clear c42
            try clear c43
            try clear c44
            try clear c45
            try clear c48
            try clear c49
            try clear c50
            try clear c52
            try clear c53
            try clear c56
            try clear c59
            try clear c66
            try clear c67
            try clear c68
            try clear c71
            try clear c71b0
            try clear c73
            try clear c74
            try clear c75
            try clear c76
            try clear c78
            try clear c79
            try clear c82
            try clear c83
            try clear c84
            try clear c86
            try clear c87
            try clear c90
            try clear c93
            try clear c93b0
            try clear c94
            try clear c95
            try clear c96
            try clear c101
            try clear c101b0
            try clear c101b1
            try clear c105
            try clear c106
            try clear c107
            try clear c112
            try clear c113
            try clear c119
            try clear c120
            try clear c121
            try clear c122
            try clear c126
            try clear c127
            try clear c128
            try clear c129
            try clear c130
            try clear c132
            try clear c133
            try clear c134
            try clear c137
            try clear c138
            try clear c139
            try clear c140
            try clear c142
            try clear c143
            try clear c144
            try clear hcz108_0
            try clear hcz108_1
            try clear hcz108_2
            try clear hcz110_0
            try clear hcz110_1
            try clear hcz110_2
            try clear hcz114_0
            try clear hcz114_1
            try clear hcz114_2
            try clear hcz123_0
            try clear hcz123_1
            try clear hcz123_2
            try clear hcz131_0
            try clear hcz131_1
            try clear hcz131_2
            try clear hcz135_0
            try clear hcz135_1
            try clear hcz135_2
            try clear hcz141_0
            try clear hcz141_1
            try clear hcz141_2
            try clear hcz145_0
            try clear hcz145_1
            try clear hcz145_2
            try clear hcz14_0
            try clear hcz14_1
            try clear hcz14_2
            try clear hcz16_0
            try clear hcz16_1
            try clear hcz16_2
            try clear hcz22_0
            try clear hcz22_1
            try clear hcz22_2
            try clear hcz24_0
            try clear hcz24_1
            try clear hcz24_2
            try clear hcz29_0
            try clear hcz29_1
            try clear hcz29_2
            try clear hcz36_0
            try clear hcz36_1
            try clear hcz36_2
            try clear hcz43_0
            try clear hcz43_1
            try clear hcz43_2
            try clear hcz46_0
            try clear hcz46_1
            try clear hcz46_2
            try clear hcz51_0
            try clear hcz51_1
            try clear hcz51_2
            try clear hcz54_0
            try clear hcz54_1
            try clear hcz54_2
            try clear hcz69_0
            try clear hcz69_1
            try clear hcz69_2
            try clear hcz6_0
            try clear hcz6_1
            try clear hcz6_2
            try clear hcz77_0
            try clear hcz77_1
            try clear hcz77_2
            try clear hcz80_0
            try clear hcz80_1
            try clear hcz80_2
            try clear hcz85_0
            try clear hcz85_1
            try clear hcz85_2
            try clear hcz88_0
            try clear hcz88_1
            try clear hcz88_2
            try clear hcz97_0
            try clear hcz97_1
            try clear hcz97_2
            try clear hcz99_0
            try clear hcz99_1
            try clear hcz99_2
            try clear hfz108_0
            try clear hfz108_1
            try clear hfz108_2
            try clear hfz110_0
            try clear hfz110_1
            try clear hfz110_2
            try clear hfz114_0
            try clear hfz114_1
            try clear hfz114_2
            try clear hfz123_0
            try clear hfz123_1
            try clear hfz123_2
            try clear hfz131_0
            try clear hfz131_1
            try clear hfz131_2
            try clear hfz135_0
            try clear hfz135_1
            try clear hfz135_2
            try clear hfz141_0
            try clear hfz141_1
            try clear hfz141_2
            try clear hfz145_0
            try clear hfz145_1
            try clear hfz145_2
            try clear hfz14_0
            try clear hfz14_1
            try clear hfz14_2
            try clear hfz16_0
            try clear hfz16_1
            try clear hfz16_2
            try clear hfz22_0
            try clear hfz22_1
            try clear hfz22_2
            try clear hfz24_0
            try clear hfz24_1
            try clear hfz24_2
            try clear hfz29_0
            try clear hfz29_1
            try clear hfz29_2
            try clear hfz36_0
            try clear hfz36_1
            try clear hfz36_2
            try clear hfz43_0
            try clear hfz43_1
            try clear hfz43_2
            try clear hfz46_0
            try clear hfz46_1
            try clear hfz46_2
            try clear hfz51_0
            try clear hfz51_1
            try clear hfz51_2
            try clear hfz54_0
            try clear hfz54_1
            try clear hfz54_2
            try clear hfz69_0
            try clear hfz69_1
            try clear hfz69_2
            try clear hfz6_0
            try clear hfz6_1
            try clear hfz6_2
            try clear hfz77_0
            try clear hfz77_1
            try clear hfz77_2
            try clear hfz80_0
            try clear hfz80_1
            try clear hfz80_2
            try clear hfz85_0
            try clear hfz85_1
            try clear hfz85_2
            try clear hfz88_0
            try clear hfz88_1
            try clear hfz88_2
            try clear hfz97_0
            try clear hfz97_1
            try clear hfz97_2
            try clear hfz99_0
            try clear hfz99_1
            try clear hfz99_2
            try clear p2
            obtain ⟨kq, x92_103, rfl, HA, HJ103, HO_666002, HO_672002, HO_679002, HO_704002, BK652, BK665, BK671, BK678, BK703, HB⟩ := hcut
            have hl679002_103 := (Kd.R_reads' HO_679002.out).1
            rw [hl679002_103] at HO_679002
            (try simp only [hl679002_103])
            (try simp only [hl679002_103] at BK652)
            (try simp only [hl679002_103] at BK665)
            (try simp only [hl679002_103] at BK671)
            (try simp only [hl679002_103] at BK678)
            (try simp only [hl679002_103] at BK703)
            (try simp only [hl679002_103] at HO_666002)
            (try simp only [hl679002_103] at HO_672002)
            (try simp only [hl679002_103] at HO_704002)
            cases kq with
            | zero => exact absurd HA.out (by simp [laws_FnExactDropClue.j2])
            | succ kj103 =>
             have H := HA.out
             clear HA
             simp only [laws_FnExactDropClue.j2] at H
             by_cases c147 : x92_103 = true
             ·subst c147
              have H1 : (some false) = some r := by rw [if_pos rfl] at H; exact H
              clear H
              have H := H1
              clear H1
              obtain rfl := Option.some.inj H
              go_wp2
              go_ret
              exact ⟨by first | rfl | (simp [errW_none, errW_some] <;> rfl) | (simp [*, errW_none, errW_some] <;> rfl), by repeat (first | (with_reducible first | exact HB.out | apply below_alloc | apply pw_below_drewN | apply below_drew1 | refine below_set ?_ GE652.out | refine below_set ?_ GE665.out | refine below_set ?_ GE671.out | refine below_set ?_ GE678.out | refine below_set ?_ GE703.out) | exact HB.out)⟩
             ·replace c147 := Bool.eq_false_iff.mpr c147
              subst c147
              have H1 : ((laws_heldPuzzle.f kj103 t672 t673 t690 1).bind fun t705 => (if t705 < 0 then (some false) else (if t705 = t689 then (some true) else (some false)))) = some r := by rw [if_neg (show ¬ (false = true) by decide)] at H; exact H
              clear H
              have H := H1
              clear H1
              replace H := Option.bind_eq_some_iff.mp H
              obtain ⟨t705, A1480, H⟩ := H
              replace H : (if t705 < 0 then (some false) else (if t705 = t689 then (some true) else (some false))) = some r := H
              have A148 := Aside0.mk A1480
              clear A1480
              by_cases c149 : t705 < 0
              ·rw [if_pos c149] at H
               have c149b0 : decide (t705 < 0) = true := decide_eq_true c149
               clear c149
               obtain rfl := Option.some.inj H
               have hnb150 := NB678_652.out
               have hnc150 := NB652_678.out
               have hnb151 := NB678_665.out
               have hnc151 := NB665_678.out
               have hnb152 := NB678_671.out
               have hnc152 := NB671_678.out
               have hnb153 := NB678_703.out
               have hnc153 := NB703_678.out
               have hcz154_0 : wc.cell? ⟨gb678, 0, none⟩ = some (.int .i64 t672) := (blk_cell BK678.out 0).trans rfl
               have hcz154_1 : wc.cell? ⟨gb678, 1, none⟩ = some (.int .i64 t673) := (blk_cell BK678.out 1).trans rfl
               have hcz154_2 : wc.cell? ⟨gb678, 2, none⟩ = some (.slice Ao37 t690.length co37) := (blk_cell BK678.out 2).trans rfl
               have hfz154_0 := blk_frozen BK678.out 0
               have hfz154_1 := blk_frozen BK678.out 1
               have hfz154_2 := blk_frozen BK678.out 2
               go_wp2_with (first | ((with_reducible refine gate_callee (f := 37) rfl ?_); refine goesL_ (some 95) rfl rfl Try.func37 (by kernel_rfl) rfl #[.agg #[.int .i64 t672, .int .i64 t673, .slice Ao37 t690.length co37], .int .i64 1] rfl (by (try simp only [List.map_toArray, List.map_cons, List.map_nil]); first | done | rfl | (simp only [List.length_drop, List.length_take]; rfl)) ?_; (with_reducible refine (laws_heldPuzzle.calls kj103 t672 t673 _ _ t690 1 t705 _ ?side1 ?side2 A148.out).mono ?_); (case side1 => repeat (first | exact (Kd.R_reads' HO_679002.out).2.2 | (with_reducible refine Kd.C_alloc ?_ _) | (with_reducible refine Kd.C_drewN ?_ _) | (with_reducible refine Kd.C_drew ?_))); (case side2 => exact (Kd.R_reads' HO_679002.out).2.1); rintro e w155 ⟨rfl, hb⟩; refine ⟨_, rfl, ?_⟩; have n0_ := Aside0.mk (Kd.R_below (by (with_reducible repeat (first | apply Kd.R_alloc | apply Kd.R_drewN | apply Kd.R_drew)); exact HO_666002.out) hb); have n1_ := Aside0.mk (Kd.R_below (by (with_reducible repeat (first | apply Kd.R_alloc | apply Kd.R_drewN | apply Kd.R_drew)); exact HO_672002.out) hb); have n2_ := Aside0.mk (Kd.R_below (by (with_reducible repeat (first | apply Kd.R_alloc | apply Kd.R_drewN | apply Kd.R_drew)); exact HO_679002.out) hb); have n3_ := Aside0.mk (Kd.R_below (by (with_reducible repeat (first | apply Kd.R_alloc | apply Kd.R_drewN | apply Kd.R_drew)); exact HO_704002.out) hb); have n4_ := Aside0.mk (blk_below (g := gb652) (o := .cells #[.int .i64 a0_0, .int .i64 a0_1, .slice A0_2 l0_2.length c0_2] 33 (0, 0)) (by (with_reducible repeat (first | refine blk_drewN ?_ _ | refine blk_drew ?_ | refine blk_alloc ?_ _)); exact BK652.out) hb); have n5_ := Aside0.mk (blk_below (g := gb665) (o := .cells #[.int .i64 t659, .int .i64 t660, .slice Ao23 t661.length co23] 42 (0, 0)) (by (with_reducible repeat (first | refine blk_drewN ?_ _ | refine blk_drew ?_ | refine blk_alloc ?_ _)); exact BK665.out) hb); have n6_ := Aside0.mk (blk_below (g := gb671) (o := .cells #[.int .i64 t666, .int .i64 t667, .slice Ao30 t687.length co30] 42 (0, 0)) (by (with_reducible repeat (first | refine blk_drewN ?_ _ | refine blk_drew ?_ | refine blk_alloc ?_ _)); exact BK671.out) hb); have n7_ := Aside0.mk (blk_below (g := gb678) (o := .cells #[.int .i64 t672, .int .i64 t673, .slice Ao37 t690.length co37] 42 (0, 0)) (by (with_reducible repeat (first | refine blk_drewN ?_ _ | refine blk_drew ?_ | refine blk_alloc ?_ _)); exact BK678.out) hb); have n8_ := Aside0.mk (blk_below (g := gb703) (o := .cells #[.int .i64 t697, .int .i64 t698, .slice Ao124 t699.length co124] 42 (0, 0)) (by (with_reducible repeat (first | refine blk_drewN ?_ _ | refine blk_drew ?_ | refine blk_alloc ?_ _)); exact BK703.out) hb); have n9_ := Aside0.mk (below_step (by repeat (first | (with_reducible first | exact HB.out | apply below_alloc | apply pw_below_drewN | apply below_drew1 | refine below_set ?_ GE652.out | refine below_set ?_ GE665.out | refine below_set ?_ GE671.out | refine below_set ?_ GE678.out | refine below_set ?_ GE703.out) | exact HB.out)) hb); clear HO_666002; clear HO_672002; clear HO_679002; clear HO_704002; clear BK652; clear BK665; clear BK671; clear BK678; clear BK703; clear HB; have HO_666002 := n0_; have HO_672002 := n1_; have HO_679002 := n2_; have HO_704002 := n3_; have BK652 := n4_; have BK665 := n5_; have BK671 := n6_; have BK678 := n7_; have BK703 := n8_; have HB := n9_; clear n0_ n1_ n2_ n3_ n4_ n5_ n6_ n7_ n8_ n9_; (try clear hb); (try clear hb2); (try clear hk); (try clear hi)))
               go_ret
               exact ⟨by first | rfl | (simp [errW_none, errW_some] <;> rfl) | (simp [*, errW_none, errW_some] <;> rfl), by repeat (first | (with_reducible first | exact HB.out | apply below_alloc | apply pw_below_drewN | apply below_drew1 | refine below_set ?_ GE652.out | refine below_set ?_ GE665.out | refine below_set ?_ GE671.out | refine below_set ?_ GE678.out | refine below_set ?_ GE703.out) | exact HB.out)⟩
              ·rw [if_neg c149] at H
               have c149b0 : decide (t705 < 0) = false := decide_eq_false c149
               clear c149
               by_cases c156 : t705 = t689
               ·rw [if_pos c156] at H
                have c156b0 : (t705 == t689) = true := beq_iff_eq.mpr c156
                have c156b1 : (t705 != t689) = false := bne_eq_false_iff_eq.mpr c156
                clear c156
                obtain rfl := Option.some.inj H
                have hnb157 := NB678_652.out
                have hnc157 := NB652_678.out
                have hnb158 := NB678_665.out
                have hnc158 := NB665_678.out
                have hnb159 := NB678_671.out
                have hnc159 := NB671_678.out
                have hnb160 := NB678_703.out
                have hnc160 := NB703_678.out
                have hcz161_0 : wc.cell? ⟨gb678, 0, none⟩ = some (.int .i64 t672) := (blk_cell BK678.out 0).trans rfl
                have hcz161_1 : wc.cell? ⟨gb678, 1, none⟩ = some (.int .i64 t673) := (blk_cell BK678.out 1).trans rfl
                have hcz161_2 : wc.cell? ⟨gb678, 2, none⟩ = some (.slice Ao37 t690.length co37) := (blk_cell BK678.out 2).trans rfl
                have hfz161_0 := blk_frozen BK678.out 0
                have hfz161_1 := blk_frozen BK678.out 1
                have hfz161_2 := blk_frozen BK678.out 2
                go_wp2_with (first | ((with_reducible refine gate_callee (f := 37) rfl ?_); refine goesL_ (some 95) rfl rfl Try.func37 (by kernel_rfl) rfl #[.agg #[.int .i64 t672, .int .i64 t673, .slice Ao37 t690.length co37], .int .i64 1] rfl (by (try simp only [List.map_toArray, List.map_cons, List.map_nil]); first | done | rfl | (simp only [List.length_drop, List.length_take]; rfl)) ?_; (with_reducible refine (laws_heldPuzzle.calls kj103 t672 t673 _ _ t690 1 t705 _ ?side1 ?side2 A148.out).mono ?_); (case side1 => repeat (first | exact (Kd.R_reads' HO_679002.out).2.2 | (with_reducible refine Kd.C_alloc ?_ _) | (with_reducible refine Kd.C_drewN ?_ _) | (with_reducible refine Kd.C_drew ?_))); (case side2 => exact (Kd.R_reads' HO_679002.out).2.1); rintro e w162 ⟨rfl, hb⟩; refine ⟨_, rfl, ?_⟩; have n0_ := Aside0.mk (Kd.R_below (by (with_reducible repeat (first | apply Kd.R_alloc | apply Kd.R_drewN | apply Kd.R_drew)); exact HO_666002.out) hb); have n1_ := Aside0.mk (Kd.R_below (by (with_reducible repeat (first | apply Kd.R_alloc | apply Kd.R_drewN | apply Kd.R_drew)); exact HO_672002.out) hb); have n2_ := Aside0.mk (Kd.R_below (by (with_reducible repeat (first | apply Kd.R_alloc | apply Kd.R_drewN | apply Kd.R_drew)); exact HO_679002.out) hb); have n3_ := Aside0.mk (Kd.R_below (by (with_reducible repeat (first | apply Kd.R_alloc | apply Kd.R_drewN | apply Kd.R_drew)); exact HO_704002.out) hb); have n4_ := Aside0.mk (blk_below (g := gb652) (o := .cells #[.int .i64 a0_0, .int .i64 a0_1, .slice A0_2 l0_2.length c0_2] 33 (0, 0)) (by (with_reducible repeat (first | refine blk_drewN ?_ _ | refine blk_drew ?_ | refine blk_alloc ?_ _)); exact BK652.out) hb); have n5_ := Aside0.mk (blk_below (g := gb665) (o := .cells #[.int .i64 t659, .int .i64 t660, .slice Ao23 t661.length co23] 42 (0, 0)) (by (with_reducible repeat (first | refine blk_drewN ?_ _ | refine blk_drew ?_ | refine blk_alloc ?_ _)); exact BK665.out) hb); have n6_ := Aside0.mk (blk_below (g := gb671) (o := .cells #[.int .i64 t666, .int .i64 t667, .slice Ao30 t687.length co30] 42 (0, 0)) (by (with_reducible repeat (first | refine blk_drewN ?_ _ | refine blk_drew ?_ | refine blk_alloc ?_ _)); exact BK671.out) hb); have n7_ := Aside0.mk (blk_below (g := gb678) (o := .cells #[.int .i64 t672, .int .i64 t673, .slice Ao37 t690.length co37] 42 (0, 0)) (by (with_reducible repeat (first | refine blk_drewN ?_ _ | refine blk_drew ?_ | refine blk_alloc ?_ _)); exact BK678.out) hb); have n8_ := Aside0.mk (blk_below (g := gb703) (o := .cells #[.int .i64 t697, .int .i64 t698, .slice Ao124 t699.length co124] 42 (0, 0)) (by (with_reducible repeat (first | refine blk_drewN ?_ _ | refine blk_drew ?_ | refine blk_alloc ?_ _)); exact BK703.out) hb); have n9_ := Aside0.mk (below_step (by repeat (first | (with_reducible first | exact HB.out | apply below_alloc | apply pw_below_drewN | apply below_drew1 | refine below_set ?_ GE652.out | refine below_set ?_ GE665.out | refine below_set ?_ GE671.out | refine below_set ?_ GE678.out | refine below_set ?_ GE703.out) | exact HB.out)) hb); clear HO_666002; clear HO_672002; clear HO_679002; clear HO_704002; clear BK652; clear BK665; clear BK671; clear BK678; clear BK703; clear HB; have HO_666002 := n0_; have HO_672002 := n1_; have HO_679002 := n2_; have HO_704002 := n3_; have BK652 := n4_; have BK665 := n5_; have BK671 := n6_; have BK678 := n7_; have BK703 := n8_; have HB := n9_; clear n0_ n1_ n2_ n3_ n4_ n5_ n6_ n7_ n8_ n9_; (try clear hb); (try clear hb2); (try clear hk); (try clear hi)))
                go_ret
                exact ⟨by first | rfl | (simp [errW_none, errW_some] <;> rfl) | (simp [*, errW_none, errW_some] <;> rfl), by repeat (first | (with_reducible first | exact HB.out | apply below_alloc | apply pw_below_drewN | apply below_drew1 | refine below_set ?_ GE652.out | refine below_set ?_ GE665.out | refine below_set ?_ GE671.out | refine below_set ?_ GE678.out | refine below_set ?_ GE703.out) | exact HB.out)⟩
               ·rw [if_neg c156] at H
                have c156b0 : (t705 == t689) = false := beq_eq_false_iff_ne.mpr c156
                have c156b1 : (t705 != t689) = true := bne_iff_ne.mpr c156
                obtain rfl := Option.some.inj H
                have hnb163 := NB678_652.out
                have hnc163 := NB652_678.out
                have hnb164 := NB678_665.out
                have hnc164 := NB665_678.out
                have hnb165 := NB678_671.out
                have hnc165 := NB671_678.out
                have hnb166 := NB678_703.out
                have hnc166 := NB703_678.out
                have hcz167_0 : wc.cell? ⟨gb678, 0, none⟩ = some (.int .i64 t672) := (blk_cell BK678.out 0).trans rfl
                have hcz167_1 : wc.cell? ⟨gb678, 1, none⟩ = some (.int .i64 t673) := (blk_cell BK678.out 1).trans rfl
                have hcz167_2 : wc.cell? ⟨gb678, 2, none⟩ = some (.slice Ao37 t690.length co37) := (blk_cell BK678.out 2).trans rfl
                have hfz167_0 := blk_frozen BK678.out 0
                have hfz167_1 := blk_frozen BK678.out 1
                have hfz167_2 := blk_frozen BK678.out 2
                go_wp2_with (first | ((with_reducible refine gate_callee (f := 37) rfl ?_); refine goesL_ (some 95) rfl rfl Try.func37 (by kernel_rfl) rfl #[.agg #[.int .i64 t672, .int .i64 t673, .slice Ao37 t690.length co37], .int .i64 1] rfl (by (try simp only [List.map_toArray, List.map_cons, List.map_nil]); first | done | rfl | (simp only [List.length_drop, List.length_take]; rfl)) ?_; (with_reducible refine (laws_heldPuzzle.calls kj103 t672 t673 _ _ t690 1 t705 _ ?side1 ?side2 A148.out).mono ?_); (case side1 => repeat (first | exact (Kd.R_reads' HO_679002.out).2.2 | (with_reducible refine Kd.C_alloc ?_ _) | (with_reducible refine Kd.C_drewN ?_ _) | (with_reducible refine Kd.C_drew ?_))); (case side2 => exact (Kd.R_reads' HO_679002.out).2.1); rintro e w168 ⟨rfl, hb⟩; refine ⟨_, rfl, ?_⟩; have n0_ := Aside0.mk (Kd.R_below (by (with_reducible repeat (first | apply Kd.R_alloc | apply Kd.R_drewN | apply Kd.R_drew)); exact HO_666002.out) hb); have n1_ := Aside0.mk (Kd.R_below (by (with_reducible repeat (first | apply Kd.R_alloc | apply Kd.R_drewN | apply Kd.R_drew)); exact HO_672002.out) hb); have n2_ := Aside0.mk (Kd.R_below (by (with_reducible repeat (first | apply Kd.R_alloc | apply Kd.R_drewN | apply Kd.R_drew)); exact HO_679002.out) hb); have n3_ := Aside0.mk (Kd.R_below (by (with_reducible repeat (first | apply Kd.R_alloc | apply Kd.R_drewN | apply Kd.R_drew)); exact HO_704002.out) hb); have n4_ := Aside0.mk (blk_below (g := gb652) (o := .cells #[.int .i64 a0_0, .int .i64 a0_1, .slice A0_2 l0_2.length c0_2] 33 (0, 0)) (by (with_reducible repeat (first | refine blk_drewN ?_ _ | refine blk_drew ?_ | refine blk_alloc ?_ _)); exact BK652.out) hb); have n5_ := Aside0.mk (blk_below (g := gb665) (o := .cells #[.int .i64 t659, .int .i64 t660, .slice Ao23 t661.length co23] 42 (0, 0)) (by (with_reducible repeat (first | refine blk_drewN ?_ _ | refine blk_drew ?_ | refine blk_alloc ?_ _)); exact BK665.out) hb); have n6_ := Aside0.mk (blk_below (g := gb671) (o := .cells #[.int .i64 t666, .int .i64 t667, .slice Ao30 t687.length co30] 42 (0, 0)) (by (with_reducible repeat (first | refine blk_drewN ?_ _ | refine blk_drew ?_ | refine blk_alloc ?_ _)); exact BK671.out) hb); have n7_ := Aside0.mk (blk_below (g := gb678) (o := .cells #[.int .i64 t672, .int .i64 t673, .slice Ao37 t690.length co37] 42 (0, 0)) (by (with_reducible repeat (first | refine blk_drewN ?_ _ | refine blk_drew ?_ | refine blk_alloc ?_ _)); exact BK678.out) hb); have n8_ := Aside0.mk (blk_below (g := gb703) (o := .cells #[.int .i64 t697, .int .i64 t698, .slice Ao124 t699.length co124] 42 (0, 0)) (by (with_reducible repeat (first | refine blk_drewN ?_ _ | refine blk_drew ?_ | refine blk_alloc ?_ _)); exact BK703.out) hb); have n9_ := Aside0.mk (below_step (by repeat (first | (with_reducible first | exact HB.out | apply below_alloc | apply pw_below_drewN | apply below_drew1 | refine below_set ?_ GE652.out | refine below_set ?_ GE665.out | refine below_set ?_ GE671.out | refine below_set ?_ GE678.out | refine below_set ?_ GE703.out) | exact HB.out)) hb); clear HO_666002; clear HO_672002; clear HO_679002; clear HO_704002; clear BK652; clear BK665; clear BK671; clear BK678; clear BK703; clear HB; have HO_666002 := n0_; have HO_672002 := n1_; have HO_679002 := n2_; have HO_704002 := n3_; have BK652 := n4_; have BK665 := n5_; have BK671 := n6_; have BK678 := n7_; have BK703 := n8_; have HB := n9_; clear n0_ n1_ n2_ n3_ n4_ n5_ n6_ n7_ n8_ n9_; (try clear hb); (try clear hb2); (try clear hk); (try clear hi)))
                go_ret
                exact ⟨by first | rfl | (simp [errW_none, errW_some] <;> rfl) | (simp [*, errW_none, errW_some] <;> rfl), by repeat (first | (with_reducible first | exact HB.out | apply below_alloc | apply pw_below_drewN | apply below_drew1 | refine below_set ?_ GE652.out | refine below_set ?_ GE665.out | refine below_set ?_ GE671.out | refine below_set ?_ GE678.out | refine below_set ?_ GE703.out) | exact HB.out)⟩
          ·rw [if_neg c101] at H
           have c101b0 : (t691 == t689) = false := beq_eq_false_iff_ne.mpr c101
           have c101b1 : (t691 != t689) = true := bne_iff_ne.mpr c101
           obtain rfl := Option.some.inj H
           have hnb169 := NB678_652.out
           have hnc169 := NB652_678.out
           have hnb170 := NB678_665.out
           have hnc170 := NB665_678.out
           have hnb171 := NB678_671.out
           have hnc171 := NB671_678.out
           have hcz172_0 : wc.cell? ⟨gb678, 0, none⟩ = some (.int .i64 t672) := (blk_cell BK678.out 0).trans rfl
           have hcz172_1 : wc.cell? ⟨gb678, 1, none⟩ = some (.int .i64 t673) := (blk_cell BK678.out 1).trans rfl
           have hcz172_2 : wc.cell? ⟨gb678, 2, none⟩ = some (.slice Ao37 t674.length co37) := (blk_cell BK678.out 2).trans rfl
           have hfz172_0 := blk_frozen BK678.out 0
           have hfz172_1 := blk_frozen BK678.out 1
           have hfz172_2 := blk_frozen BK678.out 2
           go_wp2_with (first | ((with_reducible refine gate_callee (f := 30) rfl ?_); refine goesL_ (some 68) rfl rfl Try.func30 (by kernel_rfl) rfl #[.agg #[.int .i64 t672, .int .i64 t673, .slice Ao37 t674.length co37], .int .i64 1] rfl (by (try simp only [List.map_toArray, List.map_cons, List.map_nil]); first | done | rfl | (simp only [List.length_drop, List.length_take]; rfl)) ?_; (with_reducible refine (laws_markPuzzle.calls kj60 t672 t673 (fun k_ => some k_ = (.slice Ao37 t674.length co37 : Value).ownBlock) (.slice Ao37 t674.length co37) t674 1 t689 t690 w _ ?side1 ?side2 A91.out).mono ?_); (case side1 => repeat (first | (with_reducible first | exact HB.out | apply below_alloc | apply pw_below_drewN | apply below_drew1 | refine below_set ?_ GE652.out | refine below_set ?_ GE665.out | refine below_set ?_ GE671.out | refine below_set ?_ GE678.out) | exact HB.out)); (case side2 => exact Kd.R_tight rfl HO_679002.out); rintro e w173 ⟨rfl, hy0, hb, hkp⟩; refine ⟨_, rfl, ?_⟩; have n0_ := Aside0.mk (Kd.R_mono (ok' := fun k_ => some k_ ≠ (.slice Ao30 t687.length co30 : Value).ownBlock ∧ some k_ ≠ (.slice Ao37 t674.length co37 : Value).ownBlock) (Kd.R_keptB (HO_666002.out) hkp (fun k_ hk_ hs_ => (hk_.2) hs_)) (fun k_ hk_ => ⟨hk_.1.1, hk_.1.2⟩)); have n1_ := Aside0.mk (Kd.R_mono (ok' := fun k_ => some k_ ≠ (.slice Ao23 t661.length co23 : Value).ownBlock ∧ some k_ ≠ (.slice Ao37 t674.length co37 : Value).ownBlock) (Kd.R_keptB (HO_672002.out) hkp (fun k_ hk_ hs_ => (hk_.2) hs_)) (fun k_ hk_ => ⟨hk_.1.1, hk_.1.2⟩)); have n2_ := Aside0.mk (Kd.R_reok rfl hy0 (fun k_ e_ => HO_679002.out.1 k_ e_)); have n3_ := Aside0.mk (blk_kept (by (with_reducible repeat (first | refine blk_drewN ?_ _ | refine blk_drew ?_ | refine blk_alloc ?_ _)); exact BK652.out) hkp (fun hs_ => (fun e_ => (Kd.R_ne HO_679002.out BK652.out (by decide)) e_) hs_)); have n4_ := Aside0.mk (blk_kept (by (with_reducible repeat (first | refine blk_drewN ?_ _ | refine blk_drew ?_ | refine blk_alloc ?_ _)); exact BK665.out) hkp (fun hs_ => (fun e_ => (Kd.R_ne HO_679002.out BK665.out (by decide)) e_) hs_)); have n5_ := Aside0.mk (blk_kept (by (with_reducible repeat (first | refine blk_drewN ?_ _ | refine blk_drew ?_ | refine blk_alloc ?_ _)); exact BK671.out) hkp (fun hs_ => (fun e_ => (Kd.R_ne HO_679002.out BK671.out (by decide)) e_) hs_)); have n6_ := Aside0.mk (blk_kept (by (with_reducible repeat (first | refine blk_drewN ?_ _ | refine blk_drew ?_ | refine blk_alloc ?_ _)); exact BK678.out) hkp (fun hs_ => (fun e_ => (Kd.R_ne HO_679002.out BK678.out (by decide)) e_) hs_)); have n7_ := Aside0.mk (hb); clear HO_666002; clear HO_672002; clear HO_679002; clear BK652; clear BK665; clear BK671; clear BK678; clear HB; have HO_666002 := n0_; have HO_672002 := n1_; have HO_679002 := n2_; have BK652 := n3_; have BK665 := n4_; have BK671 := n5_; have BK678 := n6_; have HB := n7_; clear n0_ n1_ n2_ n3_ n4_ n5_ n6_ n7_; (try clear hb); (try clear hkp); (try clear hy0); have hcz174_0 : w173.cell? ⟨gb678, 0, none⟩ = some (.int .i64 t672) := (blk_cell BK678.out 0).trans rfl; have hcz174_1 : w173.cell? ⟨gb678, 1, none⟩ = some (.int .i64 t673) := (blk_cell BK678.out 1).trans rfl; have hcz174_2 : w173.cell? ⟨gb678, 2, none⟩ = some (.slice Ao37 t674.length co37) := (blk_cell BK678.out 2).trans rfl; have hfz174_0 := blk_frozen BK678.out 0; have hfz174_1 := blk_frozen BK678.out 1; have hfz174_2 := blk_frozen BK678.out 2) | ((with_reducible refine gate_callee (f := 37) rfl ?_); refine goesL_ (some 71) rfl rfl Try.func37 (by kernel_rfl) rfl #[.agg #[.int .i64 t672, .int .i64 t673, .slice Ao37 t690.length co37], .int .i64 1] rfl (by (try simp only [List.map_toArray, List.map_cons, List.map_nil]); first | done | (rw [show t690.length = t674.length from (Kd.R_reads' HO_679002.out).1.symm] <;> rfl) | rfl | (simp only [List.length_drop, List.length_take]; rfl)) ?_; (with_reducible refine (laws_heldPuzzle.calls kj60 t672 t673 _ _ t690 1 t691 _ ?side1 ?side2 A92.out).mono ?_); (case side1 => repeat (first | exact (Kd.R_reads' HO_679002.out).2.2 | (with_reducible refine Kd.C_alloc ?_ _) | (with_reducible refine Kd.C_drewN ?_ _) | (with_reducible refine Kd.C_drew ?_))); (case side2 => rw [show t690.length = t674.length from (Kd.R_reads' HO_679002.out).1.symm]; exact (Kd.R_reads' HO_679002.out).2.1); rintro e w175 ⟨rfl, hb⟩; refine ⟨_, rfl, ?_⟩; have n0_ := Aside0.mk (Kd.R_below (by (with_reducible repeat (first | apply Kd.R_alloc | apply Kd.R_drewN | apply Kd.R_drew)); exact HO_666002.out) hb); have n1_ := Aside0.mk (Kd.R_below (by (with_reducible repeat (first | apply Kd.R_alloc | apply Kd.R_drewN | apply Kd.R_drew)); exact HO_672002.out) hb); have n2_ := Aside0.mk (Kd.R_below (by (with_reducible repeat (first | apply Kd.R_alloc | apply Kd.R_drewN | apply Kd.R_drew)); exact HO_679002.out) hb); have n3_ := Aside0.mk (blk_below (g := gb652) (o := .cells #[.int .i64 a0_0, .int .i64 a0_1, .slice A0_2 l0_2.length c0_2] 33 (0, 0)) (by (with_reducible repeat (first | refine blk_drewN ?_ _ | refine blk_drew ?_ | refine blk_alloc ?_ _)); exact BK652.out) hb); have n4_ := Aside0.mk (blk_below (g := gb665) (o := .cells #[.int .i64 t659, .int .i64 t660, .slice Ao23 t661.length co23] 42 (0, 0)) (by (with_reducible repeat (first | refine blk_drewN ?_ _ | refine blk_drew ?_ | refine blk_alloc ?_ _)); exact BK665.out) hb); have n5_ := Aside0.mk (blk_below (g := gb671) (o := .cells #[.int .i64 t666, .int .i64 t667, .slice Ao30 t687.length co30] 42 (0, 0)) (by (with_reducible repeat (first | refine blk_drewN ?_ _ | refine blk_drew ?_ | refine blk_alloc ?_ _)); exact BK671.out) hb); have n6_ := Aside0.mk (blk_below (g := gb678) (o := .cells #[.int .i64 t672, .int .i64 t673, .slice Ao37 t674.length co37] 42 (0, 0)) (by (with_reducible repeat (first | refine blk_drewN ?_ _ | refine blk_drew ?_ | refine blk_alloc ?_ _)); exact BK678.out) hb); have n7_ := Aside0.mk (below_step (by repeat (first | (with_reducible first | exact HB.out | apply below_alloc | apply pw_below_drewN | apply below_drew1 | refine below_set ?_ GE652.out | refine below_set ?_ GE665.out | refine below_set ?_ GE671.out | refine below_set ?_ GE678.out) | exact HB.out)) hb); clear HO_666002; clear HO_672002; clear HO_679002; clear BK652; clear BK665; clear BK671; clear BK678; clear HB; have HO_666002 := n0_; have HO_672002 := n1_; have HO_679002 := n2_; have BK652 := n3_; have BK665 := n4_; have BK671 := n5_; have BK678 := n6_; have HB := n7_; clear n0_ n1_ n2_ n3_ n4_ n5_ n6_ n7_; (try clear hb); (try clear hb2); (try clear hk); (try clear hi)))
           go_ret
           exact ⟨by first | rfl | (simp [errW_none, errW_some] <;> rfl) | (simp [*, errW_none, errW_some] <;> rfl), by repeat (first | (with_reducible first | exact HB.out | apply below_alloc | apply pw_below_drewN | apply below_drew1 | refine below_set ?_ GE652.out | refine below_set ?_ GE665.out | refine below_set ?_ GE671.out | refine below_set ?_ GE678.out) | exact HB.out)⟩
     ·replace c59 := Bool.eq_false_iff.mpr c59
      subst c59
      have H1 : (some false) = some r := by rw [if_neg (show ¬ (false = true) by decide)] at H; exact H
      clear H
      have H := H1
      clear H1
      obtain rfl := Option.some.inj H
      try go_wp2
      have n0_ := Aside0.mk (Kd.R_drew HO_666002.out)
      have n1_ := Aside0.mk (Kd.R_drew HO_672002.out)
      have n2_ := Aside0.mk (Kd.R_drew HO_679002.out)
      have n3_ := Aside0.mk (blk_drew BK652.out)
      have n4_ := Aside0.mk (blk_drew BK665.out)
      have n5_ := Aside0.mk (blk_drew BK671.out)
      have n6_ := Aside0.mk (blk_drew BK678.out)
      have n7_ := Aside0.mk (below_drew1 HB.out)
      clear HO_666002
      clear HO_672002
      clear HO_679002
      clear BK652
      clear BK665
      clear BK671
      clear BK678
      clear HB
      have HO_666002 := n0_
      have HO_672002 := n1_
      have HO_679002 := n2_
      have BK652 := n3_
      have BK665 := n4_
      have BK671 := n5_
      have BK678 := n6_
      have HB := n7_
      clear n0_ n1_ n2_ n3_ n4_ n5_ n6_ n7_
      refine start_ (n := 5) (S := fun w' => w'.cell? ⟨gb671, 0, none⟩ = some (.int .i64 t666) ∧ w'.cell? ⟨gb671, 1, none⟩ = some (.int .i64 t667) ∧ w'.cell? ⟨gb671, 2, none⟩ = some (.slice Ao30 t668.length co30) ∧ w'.cell? ⟨gb652, 0, none⟩ = some (.int .i64 a0_0) ∧ w'.cell? ⟨gb652, 1, none⟩ = some (.int .i64 a0_1) ∧ w'.cell? ⟨gb652, 2, none⟩ = some (.slice A0_2 l0_2.length c0_2)) (ds := []) #[false, false, false, false, false] (by kernel_rfl) rfl rfl ⟨(blk_cell BK671.out 0).trans rfl, (blk_cell BK671.out 1).trans rfl, (blk_cell BK671.out 2).trans rfl, (blk_cell BK652.out 0).trans rfl, (blk_cell BK652.out 1).trans rfl, (blk_cell BK652.out 2).trans rfl⟩ (fun hHeld => ?_)
      generalize wc.drew = w176 at HO_666002 HO_672002 HO_679002 BK652 BK665 BK671 BK678 HB hHeld ⊢
      refine take_ (i := 0) (N := some 45) (v := ?_) (a' := ?_) #[true, false, false, false, false] rfl rfl (by kernel_rfl) (fun _ _ _ h => h) (Or.inl ⟨by rfl, ?_⟩) hHeld ?_ ?_
      rotate_left
      ·rintro w' ⟨s0, s1, s2, s3, s4, s5⟩
       go_simp
       with_reducible rfl
      rotate_left
      ·simp only [Act.put, List.setIfInBounds_toArray, List.set_cons_zero, List.set_cons_succ, i64_w, i32_w]
       rfl
      refine take_ (i := 1) (N := some 46) (v := ?_) (a' := ?_) #[true, true, false, false, false] rfl rfl (by kernel_rfl) (fun _ _ _ h => h) (Or.inl ⟨by rfl, ?_⟩) hHeld ?_ ?_
      rotate_left
      ·rintro w' ⟨s0, s1, s2, s3, s4, s5⟩
       go_simp
       with_reducible rfl
      rotate_left
      ·simp only [Act.put, List.setIfInBounds_toArray, List.set_cons_zero, List.set_cons_succ, i64_w, i32_w]
       rfl
      refine one_ (i := 2) (N := some 47) #[true, true, true, false, false] rfl rfl (by kernel_rfl) (by decide) (fun K hK => ?_)
      refine goes_ Try.func26 (by kernel_rfl) rfl #[.agg #[.int .i64 a0_0, .int .i64 a0_1, .slice A0_2 l0_2.length c0_2]] (by rfl) rfl rfl (by (try simp only [List.map_toArray, List.map_cons, List.map_nil]); first | done | rfl | (simp only [List.length_drop, List.length_take]; rfl)) ?_
      with_reducible refine (laws_toPuzzle.calls kj11 a0_0 a0_1 _ _ l0_2 t680 t681 t682 _ ?side1 ?side2 A57.out).mono ?_
      (case side1 => repeat (first | exact (Kd.C_below HR0_2.out HB.out) | (with_reducible refine Kd.C_alloc ?_ _) | (with_reducible refine Kd.C_drewN ?_ _) | (with_reducible refine Kd.C_drew ?_)))
      (case side2 => exact HC0_2.out)
      rintro e w177 ⟨v683, rfl, ho0, hb⟩
      refine ⟨_, rfl, ?_⟩
      have n0_ := Aside0.mk (Kd.R_elder' (by (with_reducible repeat (first | apply Kd.R_alloc | apply Kd.R_drewN | apply Kd.R_drew)); exact HO_666002.out) (Kd.R_base ho0) hb)
      have n1_ := Aside0.mk (Kd.R_elder' (by (with_reducible repeat (first | apply Kd.R_alloc | apply Kd.R_drewN | apply Kd.R_drew)); exact HO_672002.out) (Kd.R_base ho0) hb)
      have n2_ := Aside0.mk (Kd.R_elder' (by (with_reducible repeat (first | apply Kd.R_alloc | apply Kd.R_drewN | apply Kd.R_drew)); exact HO_679002.out) (Kd.R_base ho0) hb)
      have n3_ := Aside0.mk (Kd.R_lower (Kd.R_new' (Kd.R_new' (Kd.R_new' ho0 (Kd.R_lt (by (with_reducible repeat (first | apply Kd.R_alloc | apply Kd.R_drewN | apply Kd.R_drew)); exact HO_666002.out))) (Kd.R_lt (by (with_reducible repeat (first | apply Kd.R_alloc | apply Kd.R_drewN | apply Kd.R_drew)); exact HO_672002.out))) (Kd.R_lt (by (with_reducible repeat (first | apply Kd.R_alloc | apply Kd.R_drewN | apply Kd.R_drew)); exact HO_679002.out))) (below_size (by repeat (first | (with_reducible first | exact HB.out | apply below_alloc | apply pw_below_drewN | apply below_drew1 | refine below_set ?_ GE652.out | refine below_set ?_ GE665.out | refine below_set ?_ GE671.out | refine below_set ?_ GE678.out) | exact HB.out))))
      have n4_ := Aside0.mk (blk_below (g := gb652) (o := .cells #[.int .i64 a0_0, .int .i64 a0_1, .slice A0_2 l0_2.length c0_2] 33 (0, 0)) (by (with_reducible repeat (first | refine blk_drewN ?_ _ | refine blk_drew ?_ | refine blk_alloc ?_ _)); exact BK652.out) hb)
      have n5_ := Aside0.mk (blk_below (g := gb665) (o := .cells #[.int .i64 t659, .int .i64 t660, .slice Ao23 t661.length co23] 42 (0, 0)) (by (with_reducible repeat (first | refine blk_drewN ?_ _ | refine blk_drew ?_ | refine blk_alloc ?_ _)); exact BK665.out) hb)
      have n6_ := Aside0.mk (blk_below (g := gb671) (o := .cells #[.int .i64 t666, .int .i64 t667, .slice Ao30 t668.length co30] 42 (0, 0)) (by (with_reducible repeat (first | refine blk_drewN ?_ _ | refine blk_drew ?_ | refine blk_alloc ?_ _)); exact BK671.out) hb)
      have n7_ := Aside0.mk (blk_below (g := gb678) (o := .cells #[.int .i64 t672, .int .i64 t673, .slice Ao37 t674.length co37] 42 (0, 0)) (by (with_reducible repeat (first | refine blk_drewN ?_ _ | refine blk_drew ?_ | refine blk_alloc ?_ _)); exact BK678.out) hb)
      have n8_ := Aside0.mk (below_step (by repeat (first | (with_reducible first | exact HB.out | apply below_alloc | apply pw_below_drewN | apply below_drew1 | refine below_set ?_ GE652.out | refine below_set ?_ GE665.out | refine below_set ?_ GE671.out | refine below_set ?_ GE678.out) | exact HB.out)) hb)
      clear HO_666002
      clear HO_672002
      clear HO_679002
      clear BK652
      clear BK665
      clear BK671
      clear BK678
      clear HB
      have HO_666002 := n0_
      have HO_672002 := n1_
      have HO_679002 := n2_
      have HO684 := n3_
      have BK652 := n4_
      have BK665 := n5_
      have BK671 := n6_
      have BK678 := n7_
      have HB := n8_
      clear n0_ n1_ n2_ n3_ n4_ n5_ n6_ n7_ n8_
      (try clear hb)
      (try clear hb2)
      (try clear hk)
      (try clear hi)
      (try clear ho0)
      obtain ⟨Ao178, co178, eo178⟩ := Kd.R_slice HO684.out
      (first | subst eo178 | (injection eo178 with f1_ f2_ f3_; have f4_ := f1_.symm; have f5_ := f3_.symm; clear f1_ f2_ f3_; subst f4_; subst f5_))
      refine hK.out _ _ ⟨(blk_cell BK671.out 0).trans rfl, (blk_cell BK671.out 1).trans rfl, (blk_cell BK671.out 2).trans rfl, (blk_cell BK652.out 0).trans rfl, (blk_cell BK652.out 1).trans rfl, (blk_cell BK652.out 2).trans rfl⟩ (fun hHeld => ?_)
      clear hK K
      refine norm_ (a' := ?_) ?_ ?_
      rotate_left
      ·show Act.put _ (some 47) _ = _
       simp only [Act.put, List.setIfInBounds_toArray, List.set_cons_zero, List.set_cons_succ, i64_w, i32_w]
       rfl
      refine one_ (i := 3) (N := some 48) #[true, true, true, true, false] rfl rfl (by kernel_rfl) (by decide) (fun K hK => ?_)
      refine goes_ Try.func29 (by kernel_rfl) rfl #[.agg #[.int .i64 t666, .int .i64 t667, .slice Ao30 t668.length co30], .agg #[.int .i64 t680, .int .i64 t681, .slice Ao178 t682.length co178]] (by rfl) rfl rfl (by (try simp only [List.map_toArray, List.map_cons, List.map_nil]); first | done | rfl | (simp only [List.length_drop, List.length_take]; rfl)) ?_
      with_reducible refine (laws_eqPuzzle.calls kj11 t666 t667 _ _ t668 t680 t681 _ _ t682 false _ ?side1 ?side2 ?side3 ?side4 A58.out).mono ?_
      (case side1 => repeat (first | exact (Kd.R_reads' HO_672002.out).2.2 | (with_reducible refine Kd.C_alloc ?_ _) | (with_reducible refine Kd.C_drewN ?_ _) | (with_reducible refine Kd.C_drew ?_)))
      (case side2 => exact (Kd.R_reads' HO_672002.out).2.1)
      (case side3 => repeat (first | exact (Kd.R_reads' HO684.out).2.2 | (with_reducible refine Kd.C_alloc ?_ _) | (with_reducible refine Kd.C_drewN ?_ _) | (with_reducible refine Kd.C_drew ?_)))
      (case side4 => exact (Kd.R_reads' HO684.out).2.1)
      rintro e w179 ⟨rfl, hb⟩
      refine ⟨_, rfl, ?_⟩
      have n0_ := Aside0.mk (Kd.R_below (by (with_reducible repeat (first | apply Kd.R_alloc | apply Kd.R_drewN | apply Kd.R_drew)); exact HO_666002.out) hb)
      have n1_ := Aside0.mk (Kd.R_below (by (with_reducible repeat (first | apply Kd.R_alloc | apply Kd.R_drewN | apply Kd.R_drew)); exact HO_672002.out) hb)
      have n2_ := Aside0.mk (Kd.R_below (by (with_reducible repeat (first | apply Kd.R_alloc | apply Kd.R_drewN | apply Kd.R_drew)); exact HO_679002.out) hb)
      have n3_ := Aside0.mk (Kd.R_below (by (with_reducible repeat (first | apply Kd.R_alloc | apply Kd.R_drewN | apply Kd.R_drew)); exact HO684.out) hb)
      have n4_ := Aside0.mk (blk_below (g := gb652) (o := .cells #[.int .i64 a0_0, .int .i64 a0_1, .slice A0_2 l0_2.length c0_2] 33 (0, 0)) (by (with_reducible repeat (first | refine blk_drewN ?_ _ | refine blk_drew ?_ | refine blk_alloc ?_ _)); exact BK652.out) hb)
      have n5_ := Aside0.mk (blk_below (g := gb665) (o := .cells #[.int .i64 t659, .int .i64 t660, .slice Ao23 t661.length co23] 42 (0, 0)) (by (with_reducible repeat (first | refine blk_drewN ?_ _ | refine blk_drew ?_ | refine blk_alloc ?_ _)); exact BK665.out) hb)
      have n6_ := Aside0.mk (blk_below (g := gb671) (o := .cells #[.int .i64 t666, .int .i64 t667, .slice Ao30 t668.length co30] 42 (0, 0)) (by (with_reducible repeat (first | refine blk_drewN ?_ _ | refine blk_drew ?_ | refine blk_alloc ?_ _)); exact BK671.out) hb)
      have n7_ := Aside0.mk (blk_below (g := gb678) (o := .cells #[.int .i64 t672, .int .i64 t673, .slice Ao37 t674.length co37] 42 (0, 0)) (by (with_reducible repeat (first | refine blk_drewN ?_ _ | refine blk_drew ?_ | refine blk_alloc ?_ _)); exact BK678.out) hb)
      have n8_ := Aside0.mk (below_step (by repeat (first | (with_reducible first | exact HB.out | apply below_alloc | apply pw_below_drewN | apply below_drew1 | refine below_set ?_ GE652.out | refine below_set ?_ GE665.out | refine below_set ?_ GE671.out | refine below_set ?_ GE678.out) | exact HB.out)) hb)
      clear HO_666002
      clear HO_672002
      clear HO_679002
      clear HO684
      clear BK652
      clear BK665
      clear BK671
      clear BK678
      clear HB
      have HO_666002 := n0_
      have HO_672002 := n1_
      have HO_679002 := n2_
      have HO684 := n3_
      have BK652 := n4_
      have BK665 := n5_
      have BK671 := n6_
      have BK678 := n7_
      have HB := n8_
      clear n0_ n1_ n2_ n3_ n4_ n5_ n6_ n7_ n8_
      (try clear hb)
      (try clear hb2)
      (try clear hk)
      (try clear hi)
      refine hK.out _ _ ⟨(blk_cell BK671.out 0).trans rfl, (blk_cell BK671.out 1).trans rfl, (blk_cell BK671.out 2).trans rfl, (blk_cell BK652.out 0).trans rfl, (blk_cell BK652.out 1).trans rfl, (blk_cell BK652.out 2).trans rfl⟩ (fun hHeld => ?_)
      clear hK K
      refine norm_ (a' := ?_) ?_ ?_
      rotate_left
      ·show Act.put _ (some 48) _ = _
       simp only [Act.put, List.setIfInBounds_toArray, List.set_cons_zero, List.set_cons_succ, i64_w, i32_w]
       rfl
      refine pure_ (i := 4) (N := some 49) (v := ?_) (a' := ?_) #[true, true, true, true, true] rfl rfl (by kernel_rfl) (fun _ _ _ h => h) (Or.inl ⟨by rfl, ?_⟩) ?_ ?_
      rotate_left
      ·intro w'
       go_simp
       with_reducible rfl
      rotate_left
      ·simp only [Act.put, List.setIfInBounds_toArray, List.set_cons_zero, List.set_cons_succ, i64_w, i32_w]
       rfl
      refine done_ (by kernel_rfl) ?_
      try go_wp2
      go_ret
      exact ⟨by first | rfl | (simp [errW_none, errW_some] <;> rfl) | (simp [*, errW_none, errW_some] <;> rfl), by repeat (first | (with_reducible first | exact HB.out | apply below_alloc | apply pw_below_drewN | apply below_drew1 | refine below_set ?_ GE652.out | refine below_set ?_ GE665.out | refine below_set ?_ GE671.out | refine below_set ?_ GE678.out) | exact HB.out)⟩

end Go.Proofs.Ytifgjihjcloloaa.P
