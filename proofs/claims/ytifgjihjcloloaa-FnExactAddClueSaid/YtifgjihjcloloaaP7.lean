-- written for this claim by a program of this session (wip/tools/xprint.py), which runs the kit's print with other cuts
import Derived.Test.YtifgjihjcloloaaP
import Derived.Test.YtifgjihjcloloaaP35
import Derived.Test.YtifgjihjcloloaaP36
import Derived.Test.YtifgjihjcloloaaP7d
import Derived.Test.YtifgjihjcloloaaP82
import Derived.Test.YtifgjihjcloloaaP89
import Derived.Test.YtifgjihjcloloaaP91
namespace Go.Proofs.Ytifgjihjcloloaa.P
open Go.RowKit Go.Proofs.YtifgjihjcloloaaW.PrintWords Go.Proofs.YtifgjihjcloloaaW.PrintLast Go.Proofs.YtifgjihjcloloaaW.PrintMore
attribute [local go_sem] max2_int min2_int max_two min_two max_three min_three max_four min_four   -- for this text's walks alone
set_option linter.unusedVariables false
set_option linter.unusedSimpArgs false

set_option maxHeartbeats 8000000 in
set_option maxRecDepth 100000 in
theorem laws_FnExactAddClue.calls (k : Nat) (a0_0 : Int) (a0_1 : Int) (A0_2 : Option Addr) (c0_2 : Nat) (l0_2 : List (S26)) (a1_0 : Int) (a1_1 : Int) (a1_2 : Int) (a1_3 : Int) (r : Bool) (w : World) (hr0_2 : Kd.C k26 w A0_2 l0_2.length l0_2) (hc0_2 : l0_2.length ≤ c0_2) (h : laws_FnExactAddClue.f k a0_0 a0_1 l0_2 a1_0 a1_1 a1_2 a1_3 = some r) :
  Calls Try.prog 7 #[.agg #[.int .i64 a0_0, .int .i64 a0_1, .slice A0_2 l0_2.length c0_2], .agg #[.int .i64 a1_0, .int .i64 a1_1, .int .i64 a1_2, .int .i64 a1_3]] w fun e w' => e = .returned (.bool r) ∧ Below w.heap.size w w' := by
 have hu33 := Try.underlying33
 have hu26 := Try.underlying26
 have hu42 := Try.underlying42
 have HR0_2 := Aside0.mk hr0_2
 have HC0_2 := Aside0.mk hc0_2
 clear hr0_2 hc0_2
 have HB := Aside0.mk (Below.refl w.heap.size w)
 have H : ((laws_szPuzzle.f a0_0 a0_1 l0_2 1048576).bind fun t516 => (if t516 < 0 then (some true) else ((laws_toPuzzle.f k a0_0 a0_1 l0_2).bind fun bt517 => ((laws_toClue.f a1_0 a1_1 a1_2 a1_3).bind fun bt522 => ((spec_AddClue.f k bt517.1 bt517.2.1 bt517.2.2 bt522.1 bt522.2.1 bt522.2.2.1 bt522.2.2.2).bind fun bt526 => ((laws_toPuzzle.f k a0_0 a0_1 l0_2).bind fun bt533 => ((laws_toClue.f a1_0 a1_1 a1_2 a1_3).bind fun bt539 => ((impl_AddClue.f bt533.1 bt533.2.1 bt533.2.2 bt539.1 bt539.2.1 bt539.2.2.1 bt539.2.2.2).bind fun bt543 => ((laws_eqPuzzle.f k bt543.1 bt543.2.1 bt543.2.2.1 bt526.1 bt526.2.1 bt526.2.2.1).bind fun t550 => (if t550 = true then (laws_FnExactAddClue.j0 k bt526.2.2.2 bt543.2.2.2 (bt543.2.2.2 != bt526.2.2.2) a0_0 a0_1 l0_2 a1_0 a1_1 a1_2 a1_3 bt526.1 bt526.2.1 bt526.2.2.1 bt533.1 bt533.2.1 bt533.2.2 bt543.1 bt543.2.1 bt543.2.2.1) else (laws_FnExactAddClue.j0 k bt526.2.2.2 bt543.2.2.2 true a0_0 a0_1 l0_2 a1_0 a1_1 a1_2 a1_3 bt526.1 bt526.2.1 bt526.2.2.1 bt533.1 bt533.2.1 bt533.2.2 bt543.1 bt543.2.1 bt543.2.2.1))))))))))) = some r := h
 clear h
 replace H := Option.bind_eq_some_iff.mp H
 obtain ⟨t516, A30, H⟩ := H
 replace H : (if t516 < 0 then (some true) else ((laws_toPuzzle.f k a0_0 a0_1 l0_2).bind fun bt517 => ((laws_toClue.f a1_0 a1_1 a1_2 a1_3).bind fun bt522 => ((spec_AddClue.f k bt517.1 bt517.2.1 bt517.2.2 bt522.1 bt522.2.1 bt522.2.2.1 bt522.2.2.2).bind fun bt526 => ((laws_toPuzzle.f k a0_0 a0_1 l0_2).bind fun bt533 => ((laws_toClue.f a1_0 a1_1 a1_2 a1_3).bind fun bt539 => ((impl_AddClue.f bt533.1 bt533.2.1 bt533.2.2 bt539.1 bt539.2.1 bt539.2.2.1 bt539.2.2.2).bind fun bt543 => ((laws_eqPuzzle.f k bt543.1 bt543.2.1 bt543.2.2.1 bt526.1 bt526.2.1 bt526.2.2.1).bind fun t550 => (if t550 = true then (laws_FnExactAddClue.j0 k bt526.2.2.2 bt543.2.2.2 (bt543.2.2.2 != bt526.2.2.2) a0_0 a0_1 l0_2 a1_0 a1_1 a1_2 a1_3 bt526.1 bt526.2.1 bt526.2.2.1 bt533.1 bt533.2.1 bt533.2.2 bt543.1 bt543.2.1 bt543.2.2.1) else (laws_FnExactAddClue.j0 k bt526.2.2.2 bt543.2.2.2 true a0_0 a0_1 l0_2 a1_0 a1_1 a1_2 a1_3 bt526.1 bt526.2.1 bt526.2.2.1 bt533.1 bt533.2.1 bt533.2.2 bt543.1 bt543.2.1 bt543.2.2.1)))))))))) = some r := H
 have A3 := Aside0.mk A30
 clear A30
 by_cases c4 : t516 < 0
 ·rw [if_pos c4] at H
  have c4b0 : decide (t516 < 0) = true := decide_eq_true c4
  clear c4
  obtain rfl := Option.some.inj H
  go_enter Try.func7, Try.ntmps7
  go_wp2_with (first | ((with_reducible refine gate_dst (N := 2) rfl ?_); refine box_event ?hg (N := 2) ?hd (cs := #[.int .i64 a0_0, .int .i64 a0_1, .slice A0_2 l0_2.length c0_2]) (t := 33) ?hr ?_; (case hd => rfl); (case hg => rfl); (case hr => first | (go_simp; done) | (go_simp; rfl)); intro gb514 hg w5 hbox hb; have n0_ := Aside0.mk (below_step hb_ hb); have n1_ := Aside0.mk (hbox); have n2_ := Aside0.mk ((by rw [hg]; exact (below_size hb_) : w.heap.size ≤ gb514)); have n3_ := Aside0.mk ((by rw [hg]; exact (below_size hb_) : w.heap.size ≤ gb514)); clear HB; have HB := n0_; have BK514 := n1_; have GW514 := n2_; have GE514 := n3_; clear n0_ n1_ n2_ n3_; clear hb hbox hg) | ((with_reducible refine gate_dst (N := 3) rfl ?_); refine box_event ?hg (N := 3) ?hd (cs := #[.int .i64 a1_0, .int .i64 a1_1, .int .i64 a1_2, .int .i64 a1_3]) (t := 26) ?hr ?_; (case hd => rfl); (case hg => rfl); (case hr => first | (go_simp; done) | (go_simp; rfl)); intro gb515 hg w6 hbox hb; have n0_ := Aside0.mk (bb_ hb BK514.out); have n1_ := Aside0.mk (below_step hb_ hb); have n2_ := Aside0.mk (hbox); have n3_ := Aside0.mk ((by rw [hg]; exact (below_size hb_) : w.heap.size ≤ gb515)); have n4_ := Aside0.mk ((by rw [hg]; exact (below_size hb_) : w.heap.size ≤ gb515)); have n5_ := Aside0.mk ((by rw [hg]; exact bnlt_ BK514.out : gb514 ≠ gb515)); have n6_ := Aside0.mk ((by rw [hg]; exact bngt_ BK514.out : gb515 ≠ gb514)); clear BK514; clear HB; have BK514 := n0_; have HB := n1_; have BK515 := n2_; have GW515 := n3_; have GE515 := n4_; have NB514_515 := n5_; have NB515_514 := n6_; clear n0_ n1_ n2_ n3_ n4_ n5_ n6_; clear hb hbox hg; have hnb7 := NB514_515.out; have hnc7 := NB515_514.out; have hcz8_0 : w6.cell? ⟨gb514, 0, none⟩ = some (.int .i64 a0_0) := bc_ BK514.out 0; have hcz8_1 : w6.cell? ⟨gb514, 1, none⟩ = some (.int .i64 a0_1) := bc_ BK514.out 1; have hcz8_2 : w6.cell? ⟨gb514, 2, none⟩ = some (.slice A0_2 l0_2.length c0_2) := bc_ BK514.out 2; have hfz8_0 := blk_frozen BK514.out 0; have hfz8_1 := blk_frozen BK514.out 1; have hfz8_2 := blk_frozen BK514.out 2) | ((with_reducible refine gate_callee (f := 24) rfl ?_); refine goesL_ (some 18) rfl rfl Try.func24 (by kernel_rfl) rfl #[.agg #[.int .i64 a0_0, .int .i64 a0_1, .slice A0_2 l0_2.length c0_2], .int .i64 1048576] rfl (by (try simp only [List.map_toArray, List.map_cons, List.map_nil]); first | done | rfl | (simp only [List.length_drop, List.length_take]; rfl)) ?_; (with_reducible refine (laws_szPuzzle.calls a0_0 a0_1 _ _ l0_2 1048576 t516 _ ?side1 ?side2 A3.out).mono ?_); (case side1 => exact Kd.C_below HR0_2.out hb_); (case side2 => exact HC0_2.out); rintro e w9 ⟨rfl, hb⟩; refine ⟨_, rfl, ?_⟩; have n0_ := Aside0.mk (bb_ hb BK514.out); have n1_ := Aside0.mk (bb_ hb BK515.out); have n2_ := Aside0.mk (below_step hb_ hb); clear BK514; clear BK515; clear HB; have BK514 := n0_; have BK515 := n1_; have HB := n2_; clear n0_ n1_ n2_; (try clear hb)))
  go_ret
  exact ⟨by first | rfl | (simp [errW_none, errW_some] <;> rfl) | (simp [*, errW_none, errW_some] <;> rfl), hb_⟩
 rw [if_neg c4] at H
 have c4b0 : decide (t516 < 0) = false := decide_eq_false c4
 clear c4
 replace H := Option.bind_eq_some_iff.mp H
 obtain ⟨⟨t517, t518, t519⟩, A100, H⟩ := H
 replace H : ((laws_toClue.f a1_0 a1_1 a1_2 a1_3).bind fun bt522 => ((spec_AddClue.f k t517 t518 t519 bt522.1 bt522.2.1 bt522.2.2.1 bt522.2.2.2).bind fun bt526 => ((laws_toPuzzle.f k a0_0 a0_1 l0_2).bind fun bt533 => ((laws_toClue.f a1_0 a1_1 a1_2 a1_3).bind fun bt539 => ((impl_AddClue.f bt533.1 bt533.2.1 bt533.2.2 bt539.1 bt539.2.1 bt539.2.2.1 bt539.2.2.2).bind fun bt543 => ((laws_eqPuzzle.f k bt543.1 bt543.2.1 bt543.2.2.1 bt526.1 bt526.2.1 bt526.2.2.1).bind fun t550 => (if t550 = true then (laws_FnExactAddClue.j0 k bt526.2.2.2 bt543.2.2.2 (bt543.2.2.2 != bt526.2.2.2) a0_0 a0_1 l0_2 a1_0 a1_1 a1_2 a1_3 bt526.1 bt526.2.1 bt526.2.2.1 bt533.1 bt533.2.1 bt533.2.2 bt543.1 bt543.2.1 bt543.2.2.1) else (laws_FnExactAddClue.j0 k bt526.2.2.2 bt543.2.2.2 true a0_0 a0_1 l0_2 a1_0 a1_1 a1_2 a1_3 bt526.1 bt526.2.1 bt526.2.2.1 bt533.1 bt533.2.1 bt533.2.2 bt543.1 bt543.2.1 bt543.2.2.1)))))))) = some r := H
 have A10 := Aside0.mk A100
 clear A100
 replace H := Option.bind_eq_some_iff.mp H
 obtain ⟨⟨t522, t523, t524, t525⟩, A110, H⟩ := H
 replace H : ((spec_AddClue.f k t517 t518 t519 t522 t523 t524 t525).bind fun bt526 => ((laws_toPuzzle.f k a0_0 a0_1 l0_2).bind fun bt533 => ((laws_toClue.f a1_0 a1_1 a1_2 a1_3).bind fun bt539 => ((impl_AddClue.f bt533.1 bt533.2.1 bt533.2.2 bt539.1 bt539.2.1 bt539.2.2.1 bt539.2.2.2).bind fun bt543 => ((laws_eqPuzzle.f k bt543.1 bt543.2.1 bt543.2.2.1 bt526.1 bt526.2.1 bt526.2.2.1).bind fun t550 => (if t550 = true then (laws_FnExactAddClue.j0 k bt526.2.2.2 bt543.2.2.2 (bt543.2.2.2 != bt526.2.2.2) a0_0 a0_1 l0_2 a1_0 a1_1 a1_2 a1_3 bt526.1 bt526.2.1 bt526.2.2.1 bt533.1 bt533.2.1 bt533.2.2 bt543.1 bt543.2.1 bt543.2.2.1) else (laws_FnExactAddClue.j0 k bt526.2.2.2 bt543.2.2.2 true a0_0 a0_1 l0_2 a1_0 a1_1 a1_2 a1_3 bt526.1 bt526.2.1 bt526.2.2.1 bt533.1 bt533.2.1 bt533.2.2 bt543.1 bt543.2.1 bt543.2.2.1))))))) = some r := H
 have A11 := Aside0.mk A110
 clear A110
 replace H := Option.bind_eq_some_iff.mp H
 obtain ⟨⟨t526, t527, t528, t531⟩, A120, H⟩ := H
 replace H : ((laws_toPuzzle.f k a0_0 a0_1 l0_2).bind fun bt533 => ((laws_toClue.f a1_0 a1_1 a1_2 a1_3).bind fun bt539 => ((impl_AddClue.f bt533.1 bt533.2.1 bt533.2.2 bt539.1 bt539.2.1 bt539.2.2.1 bt539.2.2.2).bind fun bt543 => ((laws_eqPuzzle.f k bt543.1 bt543.2.1 bt543.2.2.1 t526 t527 t528).bind fun t550 => (if t550 = true then (laws_FnExactAddClue.j0 k t531 bt543.2.2.2 (bt543.2.2.2 != t531) a0_0 a0_1 l0_2 a1_0 a1_1 a1_2 a1_3 t526 t527 t528 bt533.1 bt533.2.1 bt533.2.2 bt543.1 bt543.2.1 bt543.2.2.1) else (laws_FnExactAddClue.j0 k t531 bt543.2.2.2 true a0_0 a0_1 l0_2 a1_0 a1_1 a1_2 a1_3 t526 t527 t528 bt533.1 bt533.2.1 bt533.2.2 bt543.1 bt543.2.1 bt543.2.2.1)))))) = some r := H
 have A12 := Aside0.mk A120
 clear A120
 replace H := Option.bind_eq_some_iff.mp H
 obtain ⟨⟨t533, t534, t535⟩, A130, H⟩ := H
 replace H : ((laws_toClue.f a1_0 a1_1 a1_2 a1_3).bind fun bt539 => ((impl_AddClue.f t533 t534 t535 bt539.1 bt539.2.1 bt539.2.2.1 bt539.2.2.2).bind fun bt543 => ((laws_eqPuzzle.f k bt543.1 bt543.2.1 bt543.2.2.1 t526 t527 t528).bind fun t550 => (if t550 = true then (laws_FnExactAddClue.j0 k t531 bt543.2.2.2 (bt543.2.2.2 != t531) a0_0 a0_1 l0_2 a1_0 a1_1 a1_2 a1_3 t526 t527 t528 t533 t534 t535 bt543.1 bt543.2.1 bt543.2.2.1) else (laws_FnExactAddClue.j0 k t531 bt543.2.2.2 true a0_0 a0_1 l0_2 a1_0 a1_1 a1_2 a1_3 t526 t527 t528 t533 t534 t535 bt543.1 bt543.2.1 bt543.2.2.1))))) = some r := H
 have A13 := Aside0.mk A130
 clear A130
 replace H := Option.bind_eq_some_iff.mp H
 obtain ⟨⟨t539, t540, t541, t542⟩, A140, H⟩ := H
 replace H : ((impl_AddClue.f t533 t534 t535 t539 t540 t541 t542).bind fun bt543 => ((laws_eqPuzzle.f k bt543.1 bt543.2.1 bt543.2.2.1 t526 t527 t528).bind fun t550 => (if t550 = true then (laws_FnExactAddClue.j0 k t531 bt543.2.2.2 (bt543.2.2.2 != t531) a0_0 a0_1 l0_2 a1_0 a1_1 a1_2 a1_3 t526 t527 t528 t533 t534 t535 bt543.1 bt543.2.1 bt543.2.2.1) else (laws_FnExactAddClue.j0 k t531 bt543.2.2.2 true a0_0 a0_1 l0_2 a1_0 a1_1 a1_2 a1_3 t526 t527 t528 t533 t534 t535 bt543.1 bt543.2.1 bt543.2.2.1)))) = some r := H
 have A14 := Aside0.mk A140
 clear A140
 replace H := Option.bind_eq_some_iff.mp H
 obtain ⟨⟨t543, t544, t545, t548⟩, A150, H⟩ := H
 replace H : ((laws_eqPuzzle.f k t543 t544 t545 t526 t527 t528).bind fun t550 => (if t550 = true then (laws_FnExactAddClue.j0 k t531 t548 (t548 != t531) a0_0 a0_1 l0_2 a1_0 a1_1 a1_2 a1_3 t526 t527 t528 t533 t534 t535 t543 t544 t545) else (laws_FnExactAddClue.j0 k t531 t548 true a0_0 a0_1 l0_2 a1_0 a1_1 a1_2 a1_3 t526 t527 t528 t533 t534 t535 t543 t544 t545))) = some r := H
 have A15 := Aside0.mk A150
 clear A150
 have HC16 := Aside0.mk H
 clear H
 go_enter Try.func7, Try.ntmps7
 try go_wp2_with (first | ((with_reducible refine gate_dst (N := 2) rfl ?_); refine box_event ?hg (N := 2) ?hd (cs := #[.int .i64 a0_0, .int .i64 a0_1, .slice A0_2 l0_2.length c0_2]) (t := 33) ?hr ?_; (case hd => rfl); (case hg => rfl); (case hr => first | (go_simp; done) | (go_simp; rfl)); intro gb514 hg w17 hbox hb; have n0_ := Aside0.mk (below_step hb_ hb); have n1_ := Aside0.mk (hbox); have n2_ := Aside0.mk ((by rw [hg]; exact (below_size hb_) : w.heap.size ≤ gb514)); have n3_ := Aside0.mk ((by rw [hg]; exact (below_size hb_) : w.heap.size ≤ gb514)); clear HB; have HB := n0_; have BK514 := n1_; have GW514 := n2_; have GE514 := n3_; clear n0_ n1_ n2_ n3_; clear hb hbox hg) | ((with_reducible refine gate_dst (N := 3) rfl ?_); refine box_event ?hg (N := 3) ?hd (cs := #[.int .i64 a1_0, .int .i64 a1_1, .int .i64 a1_2, .int .i64 a1_3]) (t := 26) ?hr ?_; (case hd => rfl); (case hg => rfl); (case hr => first | (go_simp; done) | (go_simp; rfl)); intro gb515 hg w18 hbox hb; have n0_ := Aside0.mk (bb_ hb BK514.out); have n1_ := Aside0.mk (below_step hb_ hb); have n2_ := Aside0.mk (hbox); have n3_ := Aside0.mk ((by rw [hg]; exact (below_size hb_) : w.heap.size ≤ gb515)); have n4_ := Aside0.mk ((by rw [hg]; exact (below_size hb_) : w.heap.size ≤ gb515)); have n5_ := Aside0.mk ((by rw [hg]; exact bnlt_ BK514.out : gb514 ≠ gb515)); have n6_ := Aside0.mk ((by rw [hg]; exact bngt_ BK514.out : gb515 ≠ gb514)); clear BK514; clear HB; have BK514 := n0_; have HB := n1_; have BK515 := n2_; have GW515 := n3_; have GE515 := n4_; have NB514_515 := n5_; have NB515_514 := n6_; clear n0_ n1_ n2_ n3_ n4_ n5_ n6_; clear hb hbox hg; have hnb19 := NB514_515.out; have hnc19 := NB515_514.out; have hcz20_0 : w18.cell? ⟨gb514, 0, none⟩ = some (.int .i64 a0_0) := bc_ BK514.out 0; have hcz20_1 : w18.cell? ⟨gb514, 1, none⟩ = some (.int .i64 a0_1) := bc_ BK514.out 1; have hcz20_2 : w18.cell? ⟨gb514, 2, none⟩ = some (.slice A0_2 l0_2.length c0_2) := bc_ BK514.out 2; have hfz20_0 := blk_frozen BK514.out 0; have hfz20_1 := blk_frozen BK514.out 1; have hfz20_2 := blk_frozen BK514.out 2) | ((with_reducible refine gate_callee (f := 24) rfl ?_); refine goesL_ (some 18) rfl rfl Try.func24 (by kernel_rfl) rfl #[.agg #[.int .i64 a0_0, .int .i64 a0_1, .slice A0_2 l0_2.length c0_2], .int .i64 1048576] rfl (by (try simp only [List.map_toArray, List.map_cons, List.map_nil]); first | done | rfl | (simp only [List.length_drop, List.length_take]; rfl)) ?_; (with_reducible refine (laws_szPuzzle.calls a0_0 a0_1 _ _ l0_2 1048576 t516 _ ?side1 ?side2 A3.out).mono ?_); (case side1 => exact Kd.C_below HR0_2.out hb_); (case side2 => exact HC0_2.out); rintro e w21 ⟨rfl, hb⟩; refine ⟨_, rfl, ?_⟩; have n0_ := Aside0.mk (bb_ hb BK514.out); have n1_ := Aside0.mk (bb_ hb BK515.out); have n2_ := Aside0.mk (below_step hb_ hb); clear BK514; clear BK515; clear HB; have BK514 := n0_; have BK515 := n1_; have HB := n2_; clear n0_ n1_ n2_; (try clear hb)))
 have n0_ := Aside0.mk (blk_drew BK514.out)
 have n1_ := Aside0.mk (blk_drew BK515.out)
 have n2_ := Aside0.mk (below_drew1 HB.out)
 clear BK514
 clear BK515
 clear HB
 have BK514 := n0_
 have BK515 := n1_
 have HB := n2_
 clear n0_ n1_ n2_
 refine start_ (n := 11) (S := fun w' => w'.cell? ⟨gb514, 0, none⟩ = some (.int .i64 a0_0) ∧ w'.cell? ⟨gb514, 1, none⟩ = some (.int .i64 a0_1) ∧ w'.cell? ⟨gb514, 2, none⟩ = some (.slice A0_2 l0_2.length c0_2) ∧ w'.cell? ⟨gb515, 0, none⟩ = some (.int .i64 a1_0) ∧ w'.cell? ⟨gb515, 1, none⟩ = some (.int .i64 a1_1) ∧ w'.cell? ⟨gb515, 2, none⟩ = some (.int .i64 a1_2) ∧ w'.cell? ⟨gb515, 3, none⟩ = some (.int .i64 a1_3)) (ds := []) #[false, false, false, false, false, false, false, false, false, false, false] (by kernel_rfl) rfl rfl ⟨bc_ BK514.out 0, bc_ BK514.out 1, bc_ BK514.out 2, bc_ BK515.out 0, bc_ BK515.out 1, bc_ BK515.out 2, bc_ BK515.out 3⟩ (fun hHeld => ?_); refine with_tabW laws_FnExactAddClue.tab5 laws_FnExactAddClue.bits5 (fun HT_ HW_ => ?_)
 generalize w21.drew = w22 at BK514 BK515 HB hHeld ⊢
 refine take_ (i := 0) (N := some 22) (v := ?_) (a' := ?_) #[true, false, false, false, false, false, false, false, false, false, false] rfl rfl (take_ofW HT_.out HW_.out (by kernel_rfl)) (fun _ _ _ h => h) (Or.inl ⟨by rfl, ?_⟩) hHeld ?_ ?_
 rotate_left
 ·rintro w' ⟨s0, s1, s2, s3, s4, s5, s6⟩
  go_simp
  with_reducible rfl
 rotate_left
 ·simp only [Act.put, List.setIfInBounds_toArray, List.set_cons_zero, List.set_cons_succ, i64_w, i32_w]
  rfl
 refine take_ (i := 2) (N := some 24) (v := ?_) (a' := ?_) #[true, false, true, false, false, false, false, false, false, false, false] rfl rfl (take_ofW HT_.out HW_.out (by kernel_rfl)) (fun _ _ _ h => h) (Or.inl ⟨by rfl, ?_⟩) hHeld ?_ ?_
 rotate_left
 ·rintro w' ⟨s0, s1, s2, s3, s4, s5, s6⟩
  go_simp
  with_reducible rfl
 rotate_left
 ·simp only [Act.put, List.setIfInBounds_toArray, List.set_cons_zero, List.set_cons_succ, i64_w, i32_w]
  rfl
 refine join_ (σ := Value × Value × Nat) 2 #[true, true, true, true, true, true, true, true, true, false, false] (fun s_ => [(23, .agg #[.int .i64 t517, .int .i64 t518, s_.1]), (25, .agg #[.int .i64 t522, .int .i64 t523, .int .i64 t524, .int .i64 t525]), (26, .tuple #[.agg #[.int .i64 t526, .int .i64 t527, s_.2.1], .bool t531]), (6, .pointer (some ⟨s_.2.2, 0, none⟩)), (21, .tuple #[.agg #[.int .i64 t526, .int .i64 t527, s_.2.1], .bool t531]), (27, .agg #[.int .i64 t526, .int .i64 t527, s_.2.1]), (28, .bool t531)]) (fun s_ w' => (w'.cell? ⟨gb514, 0, none⟩ = some (.int .i64 a0_0) ∧ w'.cell? ⟨gb514, 1, none⟩ = some (.int .i64 a0_1) ∧ w'.cell? ⟨gb514, 2, none⟩ = some (.slice A0_2 l0_2.length c0_2) ∧ w'.cell? ⟨gb515, 0, none⟩ = some (.int .i64 a1_0) ∧ w'.cell? ⟨gb515, 1, none⟩ = some (.int .i64 a1_1) ∧ w'.cell? ⟨gb515, 2, none⟩ = some (.int .i64 a1_2) ∧ w'.cell? ⟨gb515, 3, none⟩ = some (.int .i64 a1_3)) ∧ (Kd.R k28 28 w' w.heap.size (fun k_ => some k_ ≠ (s_.2.1 : Value).ownBlock) s_.1 t519) ∧ (Kd.R k28 28 w' w.heap.size (fun k_ => some k_ ≠ (s_.1 : Value).ownBlock) s_.2.1 t528) ∧ (w'.heap[gb514]? = some (.cells #[.int .i64 a0_0, .int .i64 a0_1, .slice A0_2 l0_2.length c0_2] 33 (0, 0))) ∧ (w'.heap[gb515]? = some (.cells #[.int .i64 a1_0, .int .i64 a1_1, .int .i64 a1_2, .int .i64 a1_3] 26 (0, 0))) ∧ (w'.heap[s_.2.2]? = some (.cells #[.int .i64 0, .int .i64 0, .slice none 0 0] 42 (0, 0))) ∧ (w.heap.size ≤ s_.2.2) ∧ (w.heap.size ≤ s_.2.2) ∧ (gb514 ≠ s_.2.2) ∧ (s_.2.2 ≠ gb514) ∧ (gb515 ≠ s_.2.2) ∧ (s_.2.2 ≠ gb515) ∧ (Below w.heap.size w w')) ?_ ?_
 rotate_left
 ·intro hCont
  refine two_ (i := 1) (j := 8) (Ni := some 23) (Nj := some 6) #[true, true, true, false, false, false, false, false, false, false, false] #[true, false, true, false, false, false, false, false, true, false, false] rfl rfl rfl rfl (two_of HT_.out (by kernel_rfl)) (by decide) (by decide) (fun K hK => ?_) (fun K hK => ?_)
  ·skip
   refine goes_ Try.func26 (by kernel_rfl) rfl #[.agg #[.int .i64 a0_0, .int .i64 a0_1, .slice A0_2 l0_2.length c0_2]] (by rfl) rfl rfl (by (try simp only [List.map_toArray, List.map_cons, List.map_nil]); first | done | rfl | (simp only [List.length_drop, List.length_take]; rfl)) ?_
   with_reducible refine (laws_toPuzzle.calls k a0_0 a0_1 _ _ l0_2 t517 t518 t519 _ ?side1 ?side2 A10.out).mono ?_
   (case side1 => exact Kd.C_below HR0_2.out hb_)
   (case side2 => exact HC0_2.out)
   rintro e w23 ⟨v520, rfl, ho0, hb⟩
   refine ⟨_, rfl, ?_⟩
   have n0_ := Aside0.mk (Kd.R_lower ho0 (below_size hb_))
   have n1_ := Aside0.mk (bb_ hb BK514.out)
   have n2_ := Aside0.mk (bb_ hb BK515.out)
   have n3_ := Aside0.mk (below_step hb_ hb)
   clear BK514
   clear BK515
   clear HB
   have HO521 := n0_
   have BK514 := n1_
   have BK515 := n2_
   have HB := n3_
   clear n0_ n1_ n2_ n3_
   (try clear hb)
   (try clear ho0)
   refine hK.out _ _ ⟨bc_ BK514.out 0, bc_ BK514.out 1, bc_ BK514.out 2, bc_ BK515.out 0, bc_ BK515.out 1, bc_ BK515.out 2, bc_ BK515.out 3⟩ (fun hHeld => ?_)
   clear hK K
   refine norm_ (a' := ?_) ?_ ?_
   rotate_left
   ·show Act.put _ (some 23) _ = _
    simp only [Act.put, List.setIfInBounds_toArray, List.set_cons_zero, List.set_cons_succ, i64_w, i32_w]
    rfl
   refine two_ (i := 3) (j := 8) (Ni := some 25) (Nj := some 6) #[true, true, true, true, false, false, false, false, false, false, false] #[true, true, true, false, false, false, false, false, true, false, false] rfl rfl rfl rfl (two_of HT_.out (by kernel_rfl)) (by decide) (by decide) (fun K hK => ?_) (fun K hK => ?_)
   ·skip
    refine goes_ Try.func22 (by kernel_rfl) rfl #[.agg #[.int .i64 a1_0, .int .i64 a1_1, .int .i64 a1_2, .int .i64 a1_3]] (by rfl) rfl rfl (by (try simp only [List.map_toArray, List.map_cons, List.map_nil]); first | done | rfl | (simp only [List.length_drop, List.length_take]; rfl)) ?_
    with_reducible refine (laws_toClue.calls a1_0 a1_1 a1_2 a1_3 t522 t523 t524 t525 _ A11.out).mono ?_
    rintro e w24 ⟨rfl, hb⟩
    refine ⟨_, rfl, ?_⟩
    have n0_ := Aside0.mk (Kd.R_below (rh_ HO521.out) hb)
    have n1_ := Aside0.mk (bb_ hb BK514.out)
    have n2_ := Aside0.mk (bb_ hb BK515.out)
    have n3_ := Aside0.mk (below_step hb_ hb)
    clear HO521
    clear BK514
    clear BK515
    clear HB
    have HO521 := n0_
    have BK514 := n1_
    have BK515 := n2_
    have HB := n3_
    clear n0_ n1_ n2_ n3_
    (try clear hb)
    obtain ⟨Ao25, co25, eo25⟩ := Kd.R_slice HO521.out
    (first | subst eo25 | (injection eo25 with f1_ f2_ f3_; have f4_ := f1_.symm; have f5_ := f3_.symm; clear f1_ f2_ f3_; subst f4_; subst f5_))
    refine hK.out _ _ ⟨bc_ BK514.out 0, bc_ BK514.out 1, bc_ BK514.out 2, bc_ BK515.out 0, bc_ BK515.out 1, bc_ BK515.out 2, bc_ BK515.out 3⟩ (fun hHeld => ?_)
    clear hK K
    refine norm_ (a' := ?_) ?_ ?_
    rotate_left
    ·show Act.put _ (some 25) _ = _
     simp only [Act.put, List.setIfInBounds_toArray, List.set_cons_zero, List.set_cons_succ, i64_w, i32_w]
     rfl
    refine two_ (i := 4) (j := 8) (Ni := some 26) (Nj := some 6) #[true, true, true, true, true, false, false, false, false, false, false] #[true, true, true, true, false, false, false, false, true, false, false] rfl rfl rfl rfl (two_of HT_.out (by kernel_rfl)) (by decide) (by decide) (fun K hK => ?_) (fun K hK => ?_)
    ·skip
     refine goes_ Try.func35 (by kernel_rfl) rfl #[.agg #[.int .i64 t517, .int .i64 t518, .slice Ao25 t519.length co25], .agg #[.int .i64 t522, .int .i64 t523, .int .i64 t524, .int .i64 t525]] (by rfl) rfl rfl (by (try simp only [List.map_toArray, List.map_cons, List.map_nil]); first | done | rfl | (simp only [List.length_drop, List.length_take]; rfl)) ?_
     with_reducible refine (spec_AddClue.calls k t517 t518 _ _ t519 t522 t523 t524 t525 t526 t527 t528 t531 _ ?side1 ?side2 A12.out).mono ?_
     (case side1 => repeat (first | exact (Kd.R_reads' HO521.out).2.2 | (with_reducible refine Kd.C_alloc ?_ _) | (with_reducible refine Kd.C_drewN ?_ _) | (with_reducible refine Kd.C_drew ?_)))
     (case side2 => exact (Kd.R_reads' HO521.out).2.1)
     rintro e w26 ⟨v529, rfl, ho0, hb⟩
     refine ⟨_, rfl, ?_⟩
     have n0_ := Aside0.mk (Kd.R_elder' (rh_ HO521.out) (Kd.R_base ho0) hb)
     have n1_ := Aside0.mk (Kd.R_lower (Kd.R_new' ho0 (Kd.R_lt (rh_ HO521.out))) (below_size hb_))
     have n2_ := Aside0.mk (bb_ hb BK514.out)
     have n3_ := Aside0.mk (bb_ hb BK515.out)
     have n4_ := Aside0.mk (below_step hb_ hb)
     clear HO521
     clear BK514
     clear BK515
     clear HB
     have HO521 := n0_
     have HO530 := n1_
     have BK514 := n2_
     have BK515 := n3_
     have HB := n4_
     clear n0_ n1_ n2_ n3_ n4_
     (try clear hb)
     (try clear ho0)
     refine hK.out _ _ ⟨bc_ BK514.out 0, bc_ BK514.out 1, bc_ BK514.out 2, bc_ BK515.out 0, bc_ BK515.out 1, bc_ BK515.out 2, bc_ BK515.out 3⟩ (fun hHeld => ?_)
     clear hK K
     refine norm_ (a' := ?_) ?_ ?_
     rotate_left
     ·show Act.put _ (some 26) _ = _
      simp only [Act.put, List.setIfInBounds_toArray, List.set_cons_zero, List.set_cons_succ, i64_w, i32_w]
      rfl
     refine pure_ (i := 5) (N := some 21) (v := ?_) (a' := ?_) #[true, true, true, true, true, true, false, false, false, false, false] rfl rfl (any_of HT_.out (by kernel_rfl)) (fun _ _ _ h => h) (Or.inl ⟨by rfl, ?_⟩) ?_ ?_
     rotate_left
     ·intro w'
      go_simp
      with_reducible rfl
     rotate_left
     ·simp only [Act.put, List.setIfInBounds_toArray, List.set_cons_zero, List.set_cons_succ, i64_w, i32_w]
      rfl
     refine pure_ (i := 6) (N := some 27) (v := ?_) (a' := ?_) #[true, true, true, true, true, true, true, false, false, false, false] rfl rfl (any_of HT_.out (by kernel_rfl)) (fun _ _ _ h => h) (Or.inl ⟨by rfl, ?_⟩) ?_ ?_
     rotate_left
     ·intro w'
      go_simp
      with_reducible rfl
     rotate_left
     ·simp only [Act.put, List.setIfInBounds_toArray, List.set_cons_zero, List.set_cons_succ, i64_w, i32_w]
      rfl
     refine pure_ (i := 7) (N := some 28) (v := ?_) (a' := ?_) #[true, true, true, true, true, true, true, true, false, false, false] rfl rfl (any_of HT_.out (by kernel_rfl)) (fun _ _ _ h => h) (Or.inl ⟨by rfl, ?_⟩) ?_ ?_
     rotate_left
     ·intro w'
      go_simp
      with_reducible rfl
     rotate_left
     ·simp only [Act.put, List.setIfInBounds_toArray, List.set_cons_zero, List.set_cons_succ, i64_w, i32_w]
      rfl
     refine one_ (i := 8) (N := some 6) #[true, true, true, true, true, true, true, true, true, false, false] rfl rfl (one_of HT_.out (by kernel_rfl)) (by decide) (fun K hK => ?_)
     refine box_step ?hg (N := 6) ?hd (cs := #[.int .i64 0, .int .i64 0, .slice none 0 0]) (t := 42) ?hr ?_; (case hd => rfl); (case hg => rfl); (case hr => first | (go_simp; done) | (go_simp; rfl))
     intro gb532 hg w27 hbox hb
     have n0_ := Aside0.mk (Kd.R_below (rh_ HO521.out) hb)
     have n1_ := Aside0.mk (Kd.R_below (rh_ HO530.out) hb)
     have n2_ := Aside0.mk (bb_ hb BK514.out)
     have n3_ := Aside0.mk (bb_ hb BK515.out)
     have n4_ := Aside0.mk (below_step hb_ hb)
     have n5_ := Aside0.mk (hbox)
     have n6_ := Aside0.mk ((by rw [hg]; exact (below_size hb_) : w.heap.size ≤ gb532))
     have n7_ := Aside0.mk ((by rw [hg]; exact (below_size hb_) : w.heap.size ≤ gb532))
     have n8_ := Aside0.mk ((by rw [hg]; exact bnlt_ BK514.out : gb514 ≠ gb532))
     have n9_ := Aside0.mk ((by rw [hg]; exact bngt_ BK514.out : gb532 ≠ gb514))
     have n10_ := Aside0.mk ((by rw [hg]; exact bnlt_ BK515.out : gb515 ≠ gb532))
     have n11_ := Aside0.mk ((by rw [hg]; exact bngt_ BK515.out : gb532 ≠ gb515))
     clear HO521
     clear HO530
     clear BK514
     clear BK515
     clear HB
     have HO521 := n0_
     have HO530 := n1_
     have BK514 := n2_
     have BK515 := n3_
     have HB := n4_
     have BK532 := n5_
     have GW532 := n6_
     have GE532 := n7_
     have NB514_532 := n8_
     have NB532_514 := n9_
     have NB515_532 := n10_
     have NB532_515 := n11_
     clear n0_ n1_ n2_ n3_ n4_ n5_ n6_ n7_ n8_ n9_ n10_ n11_
     clear hb hbox hg
     refine hK.out _ _ ⟨bc_ BK514.out 0, bc_ BK514.out 1, bc_ BK514.out 2, bc_ BK515.out 0, bc_ BK515.out 1, bc_ BK515.out 2, bc_ BK515.out 3⟩ (fun hHeld => ?_)
     clear hK K
     refine norm_ (a' := ?_) ?_ ?_
     rotate_left
     ·show Act.put _ (some 6) _ = _
      simp only [Act.put, List.setIfInBounds_toArray, List.set_cons_zero, List.set_cons_succ, i64_w, i32_w]
      rfl
     exact norm_ (by simp only [putAll, Act.put, List.setIfInBounds_toArray, List.set_cons_zero, List.set_cons_succ]) (hCont (.slice Ao25 t519.length co25, v529, gb532) _ ⟨hHeld, (rh_ (Kd.R_mono HO521.out (fun _ hk => hk.2))), (rh_ (Kd.R_mono HO530.out (fun _ hk => hk.2))), (bh_ BK514.out), (bh_ BK515.out), (bh_ BK532.out), GW532.out, GE532.out, NB514_532.out, NB532_514.out, NB515_532.out, NB532_515.out, hb_⟩)
    skip
    refine box_step ?hg (N := 6) ?hd (cs := #[.int .i64 0, .int .i64 0, .slice none 0 0]) (t := 42) ?hr ?_; (case hd => rfl); (case hg => rfl); (case hr => first | (go_simp; done) | (go_simp; rfl))
    intro gb532 hg w25 hbox hb
    have n0_ := Aside0.mk (Kd.R_below (rh_ HO521.out) hb)
    have n1_ := Aside0.mk (bb_ hb BK514.out)
    have n2_ := Aside0.mk (bb_ hb BK515.out)
    have n3_ := Aside0.mk (below_step hb_ hb)
    have n4_ := Aside0.mk (hbox)
    have n5_ := Aside0.mk ((by rw [hg]; exact (below_size hb_) : w.heap.size ≤ gb532))
    have n6_ := Aside0.mk ((by rw [hg]; exact (below_size hb_) : w.heap.size ≤ gb532))
    have n7_ := Aside0.mk ((by rw [hg]; exact bnlt_ BK514.out : gb514 ≠ gb532))
    have n8_ := Aside0.mk ((by rw [hg]; exact bngt_ BK514.out : gb532 ≠ gb514))
    have n9_ := Aside0.mk ((by rw [hg]; exact bnlt_ BK515.out : gb515 ≠ gb532))
    have n10_ := Aside0.mk ((by rw [hg]; exact bngt_ BK515.out : gb532 ≠ gb515))
    clear HO521
    clear BK514
    clear BK515
    clear HB
    have HO521 := n0_
    have BK514 := n1_
    have BK515 := n2_
    have HB := n3_
    have BK532 := n4_
    have GW532 := n5_
    have GE532 := n6_
    have NB514_532 := n7_
    have NB532_514 := n8_
    have NB515_532 := n9_
    have NB532_515 := n10_
    clear n0_ n1_ n2_ n3_ n4_ n5_ n6_ n7_ n8_ n9_ n10_
    clear hb hbox hg
    obtain ⟨Ao26, co26, eo26⟩ := Kd.R_slice HO521.out
    (first | subst eo26 | (injection eo26 with f1_ f2_ f3_; have f4_ := f1_.symm; have f5_ := f3_.symm; clear f1_ f2_ f3_; subst f4_; subst f5_))
    refine hK.out _ _ ⟨bc_ BK514.out 0, bc_ BK514.out 1, bc_ BK514.out 2, bc_ BK515.out 0, bc_ BK515.out 1, bc_ BK515.out 2, bc_ BK515.out 3⟩ (fun hHeld => ?_)
    clear hK K
    refine norm_ (a' := ?_) ?_ ?_
    rotate_left
    ·show Act.put _ (some 6) _ = _
     simp only [Act.put, List.setIfInBounds_toArray, List.set_cons_zero, List.set_cons_succ, i64_w, i32_w]
     rfl
    refine one_ (i := 4) (N := some 26) #[true, true, true, true, true, false, false, false, true, false, false] rfl rfl (one_of HT_.out (by kernel_rfl)) (by decide) (fun K hK => ?_)
    refine goes_ Try.func35 (by kernel_rfl) rfl #[.agg #[.int .i64 t517, .int .i64 t518, .slice Ao26 t519.length co26], .agg #[.int .i64 t522, .int .i64 t523, .int .i64 t524, .int .i64 t525]] (by rfl) rfl rfl (by (try simp only [List.map_toArray, List.map_cons, List.map_nil]); first | done | rfl | (simp only [List.length_drop, List.length_take]; rfl)) ?_
    with_reducible refine (spec_AddClue.calls k t517 t518 _ _ t519 t522 t523 t524 t525 t526 t527 t528 t531 _ ?side1 ?side2 A12.out).mono ?_
    (case side1 => repeat (first | exact (Kd.R_reads' HO521.out).2.2 | (with_reducible refine Kd.C_alloc ?_ _) | (with_reducible refine Kd.C_drewN ?_ _) | (with_reducible refine Kd.C_drew ?_)))
    (case side2 => exact (Kd.R_reads' HO521.out).2.1)
    rintro e w27 ⟨v529, rfl, ho0, hb⟩
    refine ⟨_, rfl, ?_⟩
    have n0_ := Aside0.mk (Kd.R_elder' (rh_ HO521.out) (Kd.R_base ho0) hb)
    have n1_ := Aside0.mk (Kd.R_lower (Kd.R_new' ho0 (Kd.R_lt (rh_ HO521.out))) (below_size hb_))
    have n2_ := Aside0.mk (bb_ hb BK514.out)
    have n3_ := Aside0.mk (bb_ hb BK515.out)
    have n4_ := Aside0.mk (bb_ hb BK532.out)
    have n5_ := Aside0.mk (below_step hb_ hb)
    clear HO521
    clear BK514
    clear BK515
    clear BK532
    clear HB
    have HO521 := n0_
    have HO530 := n1_
    have BK514 := n2_
    have BK515 := n3_
    have BK532 := n4_
    have HB := n5_
    clear n0_ n1_ n2_ n3_ n4_ n5_
    (try clear hb)
    (try clear ho0)
    refine hK.out _ _ ⟨bc_ BK514.out 0, bc_ BK514.out 1, bc_ BK514.out 2, bc_ BK515.out 0, bc_ BK515.out 1, bc_ BK515.out 2, bc_ BK515.out 3⟩ (fun hHeld => ?_)
    clear hK K
    refine norm_ (a' := ?_) ?_ ?_
    rotate_left
    ·show Act.put _ (some 26) _ = _
     simp only [Act.put, List.setIfInBounds_toArray, List.set_cons_zero, List.set_cons_succ, i64_w, i32_w]
     rfl
    refine pure_ (i := 5) (N := some 21) (v := ?_) (a' := ?_) #[true, true, true, true, true, true, false, false, true, false, false] rfl rfl (any_of HT_.out (by kernel_rfl)) (fun _ _ _ h => h) (Or.inl ⟨by rfl, ?_⟩) ?_ ?_
    rotate_left
    ·intro w'
     go_simp
     with_reducible rfl
    rotate_left
    ·simp only [Act.put, List.setIfInBounds_toArray, List.set_cons_zero, List.set_cons_succ, i64_w, i32_w]
     rfl
    refine pure_ (i := 6) (N := some 27) (v := ?_) (a' := ?_) #[true, true, true, true, true, true, true, false, true, false, false] rfl rfl (any_of HT_.out (by kernel_rfl)) (fun _ _ _ h => h) (Or.inl ⟨by rfl, ?_⟩) ?_ ?_
    rotate_left
    ·intro w'
     go_simp
     with_reducible rfl
    rotate_left
    ·simp only [Act.put, List.setIfInBounds_toArray, List.set_cons_zero, List.set_cons_succ, i64_w, i32_w]
     rfl
    refine pure_ (i := 7) (N := some 28) (v := ?_) (a' := ?_) #[true, true, true, true, true, true, true, true, true, false, false] rfl rfl (any_of HT_.out (by kernel_rfl)) (fun _ _ _ h => h) (Or.inl ⟨by rfl, ?_⟩) ?_ ?_
    rotate_left
    ·intro w'
     go_simp
     with_reducible rfl
    rotate_left
    ·simp only [Act.put, List.setIfInBounds_toArray, List.set_cons_zero, List.set_cons_succ, i64_w, i32_w]
     rfl
    exact norm_ (by simp only [putAll, Act.put, List.setIfInBounds_toArray, List.set_cons_zero, List.set_cons_succ]) (hCont (.slice Ao26 t519.length co26, v529, gb532) _ ⟨hHeld, (rh_ (Kd.R_mono HO521.out (fun _ hk => hk.2))), (rh_ (Kd.R_mono HO530.out (fun _ hk => hk.2))), (bh_ BK514.out), (bh_ BK515.out), (bh_ BK532.out), GW532.out, GE532.out, NB514_532.out, NB532_514.out, NB515_532.out, NB532_515.out, hb_⟩)
   skip
   refine box_step ?hg (N := 6) ?hd (cs := #[.int .i64 0, .int .i64 0, .slice none 0 0]) (t := 42) ?hr ?_; (case hd => rfl); (case hg => rfl); (case hr => first | (go_simp; done) | (go_simp; rfl))
   intro gb532 hg w24 hbox hb
   have n0_ := Aside0.mk (Kd.R_below (rh_ HO521.out) hb)
   have n1_ := Aside0.mk (bb_ hb BK514.out)
   have n2_ := Aside0.mk (bb_ hb BK515.out)
   have n3_ := Aside0.mk (below_step hb_ hb)
   have n4_ := Aside0.mk (hbox)
   have n5_ := Aside0.mk ((by rw [hg]; exact (below_size hb_) : w.heap.size ≤ gb532))
   have n6_ := Aside0.mk ((by rw [hg]; exact (below_size hb_) : w.heap.size ≤ gb532))
   have n7_ := Aside0.mk ((by rw [hg]; exact bnlt_ BK514.out : gb514 ≠ gb532))
   have n8_ := Aside0.mk ((by rw [hg]; exact bngt_ BK514.out : gb532 ≠ gb514))
   have n9_ := Aside0.mk ((by rw [hg]; exact bnlt_ BK515.out : gb515 ≠ gb532))
   have n10_ := Aside0.mk ((by rw [hg]; exact bngt_ BK515.out : gb532 ≠ gb515))
   clear HO521
   clear BK514
   clear BK515
   clear HB
   have HO521 := n0_
   have BK514 := n1_
   have BK515 := n2_
   have HB := n3_
   have BK532 := n4_
   have GW532 := n5_
   have GE532 := n6_
   have NB514_532 := n7_
   have NB532_514 := n8_
   have NB515_532 := n9_
   have NB532_515 := n10_
   clear n0_ n1_ n2_ n3_ n4_ n5_ n6_ n7_ n8_ n9_ n10_
   clear hb hbox hg
   refine hK.out _ _ ⟨bc_ BK514.out 0, bc_ BK514.out 1, bc_ BK514.out 2, bc_ BK515.out 0, bc_ BK515.out 1, bc_ BK515.out 2, bc_ BK515.out 3⟩ (fun hHeld => ?_)
   clear hK K
   refine norm_ (a' := ?_) ?_ ?_
   rotate_left
   ·show Act.put _ (some 6) _ = _
    simp only [Act.put, List.setIfInBounds_toArray, List.set_cons_zero, List.set_cons_succ, i64_w, i32_w]
    rfl
   refine one_ (i := 3) (N := some 25) #[true, true, true, true, false, false, false, false, true, false, false] rfl rfl (one_of HT_.out (by kernel_rfl)) (by decide) (fun K hK => ?_)
   refine goes_ Try.func22 (by kernel_rfl) rfl #[.agg #[.int .i64 a1_0, .int .i64 a1_1, .int .i64 a1_2, .int .i64 a1_3]] (by rfl) rfl rfl (by (try simp only [List.map_toArray, List.map_cons, List.map_nil]); first | done | rfl | (simp only [List.length_drop, List.length_take]; rfl)) ?_
   with_reducible refine (laws_toClue.calls a1_0 a1_1 a1_2 a1_3 t522 t523 t524 t525 _ A11.out).mono ?_
   rintro e w25 ⟨rfl, hb⟩
   refine ⟨_, rfl, ?_⟩
   have n0_ := Aside0.mk (Kd.R_below (rh_ HO521.out) hb)
   have n1_ := Aside0.mk (bb_ hb BK514.out)
   have n2_ := Aside0.mk (bb_ hb BK515.out)
   have n3_ := Aside0.mk (bb_ hb BK532.out)
   have n4_ := Aside0.mk (below_step hb_ hb)
   clear HO521
   clear BK514
   clear BK515
   clear BK532
   clear HB
   have HO521 := n0_
   have BK514 := n1_
   have BK515 := n2_
   have BK532 := n3_
   have HB := n4_
   clear n0_ n1_ n2_ n3_ n4_
   (try clear hb)
   obtain ⟨Ao26, co26, eo26⟩ := Kd.R_slice HO521.out
   (first | subst eo26 | (injection eo26 with f1_ f2_ f3_; have f4_ := f1_.symm; have f5_ := f3_.symm; clear f1_ f2_ f3_; subst f4_; subst f5_))
   refine hK.out _ _ ⟨bc_ BK514.out 0, bc_ BK514.out 1, bc_ BK514.out 2, bc_ BK515.out 0, bc_ BK515.out 1, bc_ BK515.out 2, bc_ BK515.out 3⟩ (fun hHeld => ?_)
   clear hK K
   refine norm_ (a' := ?_) ?_ ?_
   rotate_left
   ·show Act.put _ (some 25) _ = _
    simp only [Act.put, List.setIfInBounds_toArray, List.set_cons_zero, List.set_cons_succ, i64_w, i32_w]
    rfl
   refine one_ (i := 4) (N := some 26) #[true, true, true, true, true, false, false, false, true, false, false] rfl rfl (one_of HT_.out (by kernel_rfl)) (by decide) (fun K hK => ?_)
   refine goes_ Try.func35 (by kernel_rfl) rfl #[.agg #[.int .i64 t517, .int .i64 t518, .slice Ao26 t519.length co26], .agg #[.int .i64 t522, .int .i64 t523, .int .i64 t524, .int .i64 t525]] (by rfl) rfl rfl (by (try simp only [List.map_toArray, List.map_cons, List.map_nil]); first | done | rfl | (simp only [List.length_drop, List.length_take]; rfl)) ?_
   with_reducible refine (spec_AddClue.calls k t517 t518 _ _ t519 t522 t523 t524 t525 t526 t527 t528 t531 _ ?side1 ?side2 A12.out).mono ?_
   (case side1 => repeat (first | exact (Kd.R_reads' HO521.out).2.2 | (with_reducible refine Kd.C_alloc ?_ _) | (with_reducible refine Kd.C_drewN ?_ _) | (with_reducible refine Kd.C_drew ?_)))
   (case side2 => exact (Kd.R_reads' HO521.out).2.1)
   rintro e w27 ⟨v529, rfl, ho0, hb⟩
   refine ⟨_, rfl, ?_⟩
   have n0_ := Aside0.mk (Kd.R_elder' (rh_ HO521.out) (Kd.R_base ho0) hb)
   have n1_ := Aside0.mk (Kd.R_lower (Kd.R_new' ho0 (Kd.R_lt (rh_ HO521.out))) (below_size hb_))
   have n2_ := Aside0.mk (bb_ hb BK514.out)
   have n3_ := Aside0.mk (bb_ hb BK515.out)
   have n4_ := Aside0.mk (bb_ hb BK532.out)
   have n5_ := Aside0.mk (below_step hb_ hb)
   clear HO521
   clear BK514
   clear BK515
   clear BK532
   clear HB
   have HO521 := n0_
   have HO530 := n1_
   have BK514 := n2_
   have BK515 := n3_
   have BK532 := n4_
   have HB := n5_
   clear n0_ n1_ n2_ n3_ n4_ n5_
   (try clear hb)
   (try clear ho0)
   refine hK.out _ _ ⟨bc_ BK514.out 0, bc_ BK514.out 1, bc_ BK514.out 2, bc_ BK515.out 0, bc_ BK515.out 1, bc_ BK515.out 2, bc_ BK515.out 3⟩ (fun hHeld => ?_)
   clear hK K
   refine norm_ (a' := ?_) ?_ ?_
   rotate_left
   ·show Act.put _ (some 26) _ = _
    simp only [Act.put, List.setIfInBounds_toArray, List.set_cons_zero, List.set_cons_succ, i64_w, i32_w]
    rfl
   refine pure_ (i := 5) (N := some 21) (v := ?_) (a' := ?_) #[true, true, true, true, true, true, false, false, true, false, false] rfl rfl (any_of HT_.out (by kernel_rfl)) (fun _ _ _ h => h) (Or.inl ⟨by rfl, ?_⟩) ?_ ?_
   rotate_left
   ·intro w'
    go_simp
    with_reducible rfl
   rotate_left
   ·simp only [Act.put, List.setIfInBounds_toArray, List.set_cons_zero, List.set_cons_succ, i64_w, i32_w]
    rfl
   refine pure_ (i := 6) (N := some 27) (v := ?_) (a' := ?_) #[true, true, true, true, true, true, true, false, true, false, false] rfl rfl (any_of HT_.out (by kernel_rfl)) (fun _ _ _ h => h) (Or.inl ⟨by rfl, ?_⟩) ?_ ?_
   rotate_left
   ·intro w'
    go_simp
    with_reducible rfl
   rotate_left
   ·simp only [Act.put, List.setIfInBounds_toArray, List.set_cons_zero, List.set_cons_succ, i64_w, i32_w]
    rfl
   refine pure_ (i := 7) (N := some 28) (v := ?_) (a' := ?_) #[true, true, true, true, true, true, true, true, true, false, false] rfl rfl (any_of HT_.out (by kernel_rfl)) (fun _ _ _ h => h) (Or.inl ⟨by rfl, ?_⟩) ?_ ?_
   rotate_left
   ·intro w'
    go_simp
    with_reducible rfl
   rotate_left
   ·simp only [Act.put, List.setIfInBounds_toArray, List.set_cons_zero, List.set_cons_succ, i64_w, i32_w]
    rfl
   exact norm_ (by simp only [putAll, Act.put, List.setIfInBounds_toArray, List.set_cons_zero, List.set_cons_succ]) (hCont (.slice Ao26 t519.length co26, v529, gb532) _ ⟨hHeld, (rh_ (Kd.R_mono HO521.out (fun _ hk => hk.2))), (rh_ (Kd.R_mono HO530.out (fun _ hk => hk.2))), (bh_ BK514.out), (bh_ BK515.out), (bh_ BK532.out), GW532.out, GE532.out, NB514_532.out, NB532_514.out, NB515_532.out, NB532_515.out, hb_⟩)
  skip
  refine box_step ?hg (N := 6) ?hd (cs := #[.int .i64 0, .int .i64 0, .slice none 0 0]) (t := 42) ?hr ?_; (case hd => rfl); (case hg => rfl); (case hr => first | (go_simp; done) | (go_simp; rfl))
  intro gb532 hg w23 hbox hb
  have n0_ := Aside0.mk (bb_ hb BK514.out)
  have n1_ := Aside0.mk (bb_ hb BK515.out)
  have n2_ := Aside0.mk (below_step hb_ hb)
  have n3_ := Aside0.mk (hbox)
  have n4_ := Aside0.mk ((by rw [hg]; exact (below_size hb_) : w.heap.size ≤ gb532))
  have n5_ := Aside0.mk ((by rw [hg]; exact (below_size hb_) : w.heap.size ≤ gb532))
  have n6_ := Aside0.mk ((by rw [hg]; exact bnlt_ BK514.out : gb514 ≠ gb532))
  have n7_ := Aside0.mk ((by rw [hg]; exact bngt_ BK514.out : gb532 ≠ gb514))
  have n8_ := Aside0.mk ((by rw [hg]; exact bnlt_ BK515.out : gb515 ≠ gb532))
  have n9_ := Aside0.mk ((by rw [hg]; exact bngt_ BK515.out : gb532 ≠ gb515))
  clear BK514
  clear BK515
  clear HB
  have BK514 := n0_
  have BK515 := n1_
  have HB := n2_
  have BK532 := n3_
  have GW532 := n4_
  have GE532 := n5_
  have NB514_532 := n6_
  have NB532_514 := n7_
  have NB515_532 := n8_
  have NB532_515 := n9_
  clear n0_ n1_ n2_ n3_ n4_ n5_ n6_ n7_ n8_ n9_
  clear hb hbox hg
  refine hK.out _ _ ⟨bc_ BK514.out 0, bc_ BK514.out 1, bc_ BK514.out 2, bc_ BK515.out 0, bc_ BK515.out 1, bc_ BK515.out 2, bc_ BK515.out 3⟩ (fun hHeld => ?_)
  clear hK K
  refine norm_ (a' := ?_) ?_ ?_
  rotate_left
  ·show Act.put _ (some 6) _ = _
   simp only [Act.put, List.setIfInBounds_toArray, List.set_cons_zero, List.set_cons_succ, i64_w, i32_w]
   rfl
  refine one_ (i := 1) (N := some 23) #[true, true, true, false, false, false, false, false, true, false, false] rfl rfl (one_of HT_.out (by kernel_rfl)) (by decide) (fun K hK => ?_)
  refine goes_ Try.func26 (by kernel_rfl) rfl #[.agg #[.int .i64 a0_0, .int .i64 a0_1, .slice A0_2 l0_2.length c0_2]] (by rfl) rfl rfl (by (try simp only [List.map_toArray, List.map_cons, List.map_nil]); first | done | rfl | (simp only [List.length_drop, List.length_take]; rfl)) ?_
  with_reducible refine (laws_toPuzzle.calls k a0_0 a0_1 _ _ l0_2 t517 t518 t519 _ ?side1 ?side2 A10.out).mono ?_
  (case side1 => exact Kd.C_below HR0_2.out hb_)
  (case side2 => exact HC0_2.out)
  rintro e w24 ⟨v520, rfl, ho0, hb⟩
  refine ⟨_, rfl, ?_⟩
  have n0_ := Aside0.mk (Kd.R_lower ho0 (below_size hb_))
  have n1_ := Aside0.mk (bb_ hb BK514.out)
  have n2_ := Aside0.mk (bb_ hb BK515.out)
  have n3_ := Aside0.mk (bb_ hb BK532.out)
  have n4_ := Aside0.mk (below_step hb_ hb)
  clear BK514
  clear BK515
  clear BK532
  clear HB
  have HO521 := n0_
  have BK514 := n1_
  have BK515 := n2_
  have BK532 := n3_
  have HB := n4_
  clear n0_ n1_ n2_ n3_ n4_
  (try clear hb)
  (try clear ho0)
  refine hK.out _ _ ⟨bc_ BK514.out 0, bc_ BK514.out 1, bc_ BK514.out 2, bc_ BK515.out 0, bc_ BK515.out 1, bc_ BK515.out 2, bc_ BK515.out 3⟩ (fun hHeld => ?_)
  clear hK K
  refine norm_ (a' := ?_) ?_ ?_
  rotate_left
  ·show Act.put _ (some 23) _ = _
   simp only [Act.put, List.setIfInBounds_toArray, List.set_cons_zero, List.set_cons_succ, i64_w, i32_w]
   rfl
  refine one_ (i := 3) (N := some 25) #[true, true, true, true, false, false, false, false, true, false, false] rfl rfl (one_of HT_.out (by kernel_rfl)) (by decide) (fun K hK => ?_)
  refine goes_ Try.func22 (by kernel_rfl) rfl #[.agg #[.int .i64 a1_0, .int .i64 a1_1, .int .i64 a1_2, .int .i64 a1_3]] (by rfl) rfl rfl (by (try simp only [List.map_toArray, List.map_cons, List.map_nil]); first | done | rfl | (simp only [List.length_drop, List.length_take]; rfl)) ?_
  with_reducible refine (laws_toClue.calls a1_0 a1_1 a1_2 a1_3 t522 t523 t524 t525 _ A11.out).mono ?_
  rintro e w25 ⟨rfl, hb⟩
  refine ⟨_, rfl, ?_⟩
  have n0_ := Aside0.mk (Kd.R_below (rh_ HO521.out) hb)
  have n1_ := Aside0.mk (bb_ hb BK514.out)
  have n2_ := Aside0.mk (bb_ hb BK515.out)
  have n3_ := Aside0.mk (bb_ hb BK532.out)
  have n4_ := Aside0.mk (below_step hb_ hb)
  clear HO521
  clear BK514
  clear BK515
  clear BK532
  clear HB
  have HO521 := n0_
  have BK514 := n1_
  have BK515 := n2_
  have BK532 := n3_
  have HB := n4_
  clear n0_ n1_ n2_ n3_ n4_
  (try clear hb)
  obtain ⟨Ao26, co26, eo26⟩ := Kd.R_slice HO521.out
  (first | subst eo26 | (injection eo26 with f1_ f2_ f3_; have f4_ := f1_.symm; have f5_ := f3_.symm; clear f1_ f2_ f3_; subst f4_; subst f5_))
  refine hK.out _ _ ⟨bc_ BK514.out 0, bc_ BK514.out 1, bc_ BK514.out 2, bc_ BK515.out 0, bc_ BK515.out 1, bc_ BK515.out 2, bc_ BK515.out 3⟩ (fun hHeld => ?_)
  clear hK K
  refine norm_ (a' := ?_) ?_ ?_
  rotate_left
  ·show Act.put _ (some 25) _ = _
   simp only [Act.put, List.setIfInBounds_toArray, List.set_cons_zero, List.set_cons_succ, i64_w, i32_w]
   rfl
  refine one_ (i := 4) (N := some 26) #[true, true, true, true, true, false, false, false, true, false, false] rfl rfl (one_of HT_.out (by kernel_rfl)) (by decide) (fun K hK => ?_)
  refine goes_ Try.func35 (by kernel_rfl) rfl #[.agg #[.int .i64 t517, .int .i64 t518, .slice Ao26 t519.length co26], .agg #[.int .i64 t522, .int .i64 t523, .int .i64 t524, .int .i64 t525]] (by rfl) rfl rfl (by (try simp only [List.map_toArray, List.map_cons, List.map_nil]); first | done | rfl | (simp only [List.length_drop, List.length_take]; rfl)) ?_
  with_reducible refine (spec_AddClue.calls k t517 t518 _ _ t519 t522 t523 t524 t525 t526 t527 t528 t531 _ ?side1 ?side2 A12.out).mono ?_
  (case side1 => repeat (first | exact (Kd.R_reads' HO521.out).2.2 | (with_reducible refine Kd.C_alloc ?_ _) | (with_reducible refine Kd.C_drewN ?_ _) | (with_reducible refine Kd.C_drew ?_)))
  (case side2 => exact (Kd.R_reads' HO521.out).2.1)
  rintro e w27 ⟨v529, rfl, ho0, hb⟩
  refine ⟨_, rfl, ?_⟩
  have n0_ := Aside0.mk (Kd.R_elder' (rh_ HO521.out) (Kd.R_base ho0) hb)
  have n1_ := Aside0.mk (Kd.R_lower (Kd.R_new' ho0 (Kd.R_lt (rh_ HO521.out))) (below_size hb_))
  have n2_ := Aside0.mk (bb_ hb BK514.out)
  have n3_ := Aside0.mk (bb_ hb BK515.out)
  have n4_ := Aside0.mk (bb_ hb BK532.out)
  have n5_ := Aside0.mk (below_step hb_ hb)
  clear HO521
  clear BK514
  clear BK515
  clear BK532
  clear HB
  have HO521 := n0_
  have HO530 := n1_
  have BK514 := n2_
  have BK515 := n3_
  have BK532 := n4_
  have HB := n5_
  clear n0_ n1_ n2_ n3_ n4_ n5_
  (try clear hb)
  (try clear ho0)
  refine hK.out _ _ ⟨bc_ BK514.out 0, bc_ BK514.out 1, bc_ BK514.out 2, bc_ BK515.out 0, bc_ BK515.out 1, bc_ BK515.out 2, bc_ BK515.out 3⟩ (fun hHeld => ?_)
  clear hK K
  refine norm_ (a' := ?_) ?_ ?_
  rotate_left
  ·show Act.put _ (some 26) _ = _
   simp only [Act.put, List.setIfInBounds_toArray, List.set_cons_zero, List.set_cons_succ, i64_w, i32_w]
   rfl
  refine pure_ (i := 5) (N := some 21) (v := ?_) (a' := ?_) #[true, true, true, true, true, true, false, false, true, false, false] rfl rfl (any_of HT_.out (by kernel_rfl)) (fun _ _ _ h => h) (Or.inl ⟨by rfl, ?_⟩) ?_ ?_
  rotate_left
  ·intro w'
   go_simp
   with_reducible rfl
  rotate_left
  ·simp only [Act.put, List.setIfInBounds_toArray, List.set_cons_zero, List.set_cons_succ, i64_w, i32_w]
   rfl
  refine pure_ (i := 6) (N := some 27) (v := ?_) (a' := ?_) #[true, true, true, true, true, true, true, false, true, false, false] rfl rfl (any_of HT_.out (by kernel_rfl)) (fun _ _ _ h => h) (Or.inl ⟨by rfl, ?_⟩) ?_ ?_
  rotate_left
  ·intro w'
   go_simp
   with_reducible rfl
  rotate_left
  ·simp only [Act.put, List.setIfInBounds_toArray, List.set_cons_zero, List.set_cons_succ, i64_w, i32_w]
   rfl
  refine pure_ (i := 7) (N := some 28) (v := ?_) (a' := ?_) #[true, true, true, true, true, true, true, true, true, false, false] rfl rfl (any_of HT_.out (by kernel_rfl)) (fun _ _ _ h => h) (Or.inl ⟨by rfl, ?_⟩) ?_ ?_
  rotate_left
  ·intro w'
   go_simp
   with_reducible rfl
  rotate_left
  ·simp only [Act.put, List.setIfInBounds_toArray, List.set_cons_zero, List.set_cons_succ, i64_w, i32_w]
   rfl
  exact norm_ (by simp only [putAll, Act.put, List.setIfInBounds_toArray, List.set_cons_zero, List.set_cons_succ]) (hCont (.slice Ao26 t519.length co26, v529, gb532) _ ⟨hHeld, (rh_ (Kd.R_mono HO521.out (fun _ hk => hk.2))), (rh_ (Kd.R_mono HO530.out (fun _ hk => hk.2))), (bh_ BK514.out), (bh_ BK515.out), (bh_ BK532.out), GW532.out, GE532.out, NB514_532.out, NB532_514.out, NB515_532.out, NB532_515.out, hb_⟩)
 rintro ⟨v520, v529, gb532⟩ w28 ⟨hS_, h0_, h1_, h2_, h3_, h4_, h5_, h6_, h7_, h8_, h9_, h10_, h11_⟩
 have n0_ : Aside0 (Kd.R k28 28 w28 w.heap.size (fun k_ => some k_ ≠ (v529 : Value).ownBlock) v520 t519) := ⟨h0_⟩
 have n1_ : Aside0 (Kd.R k28 28 w28 w.heap.size (fun k_ => some k_ ≠ (v520 : Value).ownBlock) v529 t528) := ⟨h1_⟩
 have n2_ : Aside0 (w28.heap[gb514]? = some (.cells #[.int .i64 a0_0, .int .i64 a0_1, .slice A0_2 l0_2.length c0_2] 33 (0, 0))) := ⟨h2_⟩
 have n3_ : Aside0 (w28.heap[gb515]? = some (.cells #[.int .i64 a1_0, .int .i64 a1_1, .int .i64 a1_2, .int .i64 a1_3] 26 (0, 0))) := ⟨h3_⟩
 have n4_ : Aside0 (w28.heap[gb532]? = some (.cells #[.int .i64 0, .int .i64 0, .slice none 0 0] 42 (0, 0))) := ⟨h4_⟩
 have n5_ : Aside0 (w.heap.size ≤ gb532) := ⟨h5_⟩
 have n6_ : Aside0 (w.heap.size ≤ gb532) := ⟨h6_⟩
 have n7_ : Aside0 (gb514 ≠ gb532) := ⟨h7_⟩
 have n8_ : Aside0 (gb532 ≠ gb514) := ⟨h8_⟩
 have n9_ : Aside0 (gb515 ≠ gb532) := ⟨h9_⟩
 have n10_ : Aside0 (gb532 ≠ gb515) := ⟨h10_⟩
 have n11_ : Aside0 (Below w.heap.size w w28) := ⟨h11_⟩
 clear BK514
 clear BK515
 clear HB
 clear h0_ h1_ h2_ h3_ h4_ h5_ h6_ h7_ h8_ h9_ h10_ h11_
 have HO521 := n0_
 have HO530 := n1_
 have BK514 := n2_
 have BK515 := n3_
 have BK532 := n4_
 have GW532 := n5_
 have GE532 := n6_
 have NB514_532 := n7_
 have NB532_514 := n8_
 have NB515_532 := n9_
 have NB532_515 := n10_
 have HB := n11_
 clear n0_ n1_ n2_ n3_ n4_ n5_ n6_ n7_ n8_ n9_ n10_ n11_
 have hHeld : w28.cell? ⟨gb514, 0, none⟩ = some (.int .i64 a0_0) ∧ w28.cell? ⟨gb514, 1, none⟩ = some (.int .i64 a0_1) ∧ w28.cell? ⟨gb514, 2, none⟩ = some (.slice A0_2 l0_2.length c0_2) ∧ w28.cell? ⟨gb515, 0, none⟩ = some (.int .i64 a1_0) ∧ w28.cell? ⟨gb515, 1, none⟩ = some (.int .i64 a1_1) ∧ w28.cell? ⟨gb515, 2, none⟩ = some (.int .i64 a1_2) ∧ w28.cell? ⟨gb515, 3, none⟩ = some (.int .i64 a1_3) := hS_
 obtain ⟨Ao31, co31, eo31⟩ := Kd.R_slice HO530.out
 (first | subst eo31 | (injection eo31 with f1_ f2_ f3_; have f4_ := f1_.symm; have f5_ := f3_.symm; clear f1_ f2_ f3_; subst f4_; subst f5_))
 refine norm_ (a' := ?_) ?_ ?_
 rotate_left
 ·simp only [putAll, Act.put, List.setIfInBounds_toArray, List.set_cons_zero, List.set_cons_succ]
  rfl
 refine one_ (i := 9) (N := none) #[true, true, true, true, true, true, true, true, true, true, false] rfl rfl (one_of HT_.out (by kernel_rfl)) (by decide) (fun K hK => ?_)
 have hs29 : w28.cell? ⟨gb532, 0, none⟩ = some (.int .i64 0) := bc_ BK532.out 0
 have hfs29 := blk_frozen BK532.out 0
 have hns29_0 := NB514_532.out
 have hns29_1 := NB515_532.out
 have hms29_0 := NB532_514.out
 have hms29_1 := NB532_515.out
 have hs30 : w28.cell? ⟨gb532, 1, none⟩ = some (.int .i64 0) := bc_ BK532.out 1
 have hfs30 := blk_frozen BK532.out 1
 have hns30_0 := NB514_532.out
 have hns30_1 := NB515_532.out
 have hms30_0 := NB532_514.out
 have hms30_1 := NB532_515.out
 have hs32 : w28.cell? ⟨gb532, 2, none⟩ = some (.slice none 0 0) := bc_ BK532.out 2
 have hfs32 := blk_frozen BK532.out 2
 have hns32_0 := NB514_532.out
 have hns32_1 := NB515_532.out
 have hms32_0 := NB532_514.out
 have hms32_1 := NB532_515.out
 refine skip_ (w1 := ?_) (by rfl) rfl ?_ ?_
 rotate_left
 ·go_simp
  rfl
 refine hK.out _ _ ⟨((cell_far (p := ⟨gb532, _, none⟩) NB514_532.out _).trans (((cell_far (p := ⟨gb532, _, none⟩) NB514_532.out _).trans (((cell_far (p := ⟨gb532, _, none⟩) NB514_532.out _).trans (hHeld.1)))))), ((cell_far (p := ⟨gb532, _, none⟩) NB514_532.out _).trans (((cell_far (p := ⟨gb532, _, none⟩) NB514_532.out _).trans (((cell_far (p := ⟨gb532, _, none⟩) NB514_532.out _).trans (hHeld.2.1)))))), ((cell_far (p := ⟨gb532, _, none⟩) NB514_532.out _).trans (((cell_far (p := ⟨gb532, _, none⟩) NB514_532.out _).trans (((cell_far (p := ⟨gb532, _, none⟩) NB514_532.out _).trans (hHeld.2.2.1)))))), ((cell_far (p := ⟨gb532, _, none⟩) NB515_532.out _).trans (((cell_far (p := ⟨gb532, _, none⟩) NB515_532.out _).trans (((cell_far (p := ⟨gb532, _, none⟩) NB515_532.out _).trans (hHeld.2.2.2.1)))))), ((cell_far (p := ⟨gb532, _, none⟩) NB515_532.out _).trans (((cell_far (p := ⟨gb532, _, none⟩) NB515_532.out _).trans (((cell_far (p := ⟨gb532, _, none⟩) NB515_532.out _).trans (hHeld.2.2.2.2.1)))))), ((cell_far (p := ⟨gb532, _, none⟩) NB515_532.out _).trans (((cell_far (p := ⟨gb532, _, none⟩) NB515_532.out _).trans (((cell_far (p := ⟨gb532, _, none⟩) NB515_532.out _).trans (hHeld.2.2.2.2.2.1)))))), ((cell_far (p := ⟨gb532, _, none⟩) NB515_532.out _).trans (((cell_far (p := ⟨gb532, _, none⟩) NB515_532.out _).trans (((cell_far (p := ⟨gb532, _, none⟩) NB515_532.out _).trans (hHeld.2.2.2.2.2.2))))))⟩ (fun hHeld => ?_)
 clear hK K
 refine pure_ (i := 10) (N := some 7) (v := ?_) (a' := ?_) #[true, true, true, true, true, true, true, true, true, true, true] rfl rfl (any_of HT_.out (by kernel_rfl)) (fun _ _ _ h => h) (Or.inl ⟨by rfl, ?_⟩) ?_ ?_
 rotate_left
 ·intro w'
  go_simp
  with_reducible rfl
 rotate_left
 ·simp only [Act.put, List.setIfInBounds_toArray, List.set_cons_zero, List.set_cons_succ, i64_w, i32_w]
  rfl
 refine done_ (done_of HT_.out (by kernel_rfl)) ?_
 have hnb33 := NB514_532.out
 have hnc33 := NB532_514.out
 have hcz34_0 : w28.cell? ⟨gb514, 0, none⟩ = some (.int .i64 a0_0) := bc_ BK514.out 0
 have hcz34_1 : w28.cell? ⟨gb514, 1, none⟩ = some (.int .i64 a0_1) := bc_ BK514.out 1
 have hcz34_2 : w28.cell? ⟨gb514, 2, none⟩ = some (.slice A0_2 l0_2.length c0_2) := bc_ BK514.out 2
 have hfz34_0 := blk_frozen BK514.out 0
 have hfz34_1 := blk_frozen BK514.out 1
 have hfz34_2 := blk_frozen BK514.out 2
 try go_wp2_with (first | ((with_reducible refine gate_callee (f := 26) rfl ?_); refine goesL_ (some 30) rfl rfl Try.func26 (by kernel_rfl) rfl #[.agg #[.int .i64 a0_0, .int .i64 a0_1, .slice A0_2 l0_2.length c0_2]] rfl (by (try simp only [List.map_toArray, List.map_cons, List.map_nil]); first | done | rfl | (simp only [List.length_drop, List.length_take]; rfl)) ?_; (with_reducible refine (laws_toPuzzle.calls k a0_0 a0_1 _ _ l0_2 t533 t534 t535 _ ?side1 ?side2 A13.out).mono ?_); (case side1 => exact Kd.C_below HR0_2.out hb_); (case side2 => exact HC0_2.out); rintro e w35 ⟨v536, rfl, ho0, hb⟩; refine ⟨_, rfl, ?_⟩; have n0_ := Aside0.mk (Kd.R_elder' (by (with_reducible repeat (first | apply Kd.R_alloc | apply Kd.R_drewN | apply Kd.R_drew)); exact (Kd.R_mono (Kd.R_far (p := ⟨gb532, 2, none⟩) (Kd.R_far (p := ⟨gb532, 1, none⟩) (Kd.R_far (p := ⟨gb532, 0, none⟩) (Kd.R_types HO521.out BK532.out (by decide)) (fun _ hk => hk.2) (.int .i64 t526)) (fun _ hk => hk.2) (.int .i64 t527)) (fun _ hk => hk.2) (.slice Ao31 t528.length co31)) (fun _ h_ => h_.1))) (Kd.R_base ho0) hb); have n1_ := Aside0.mk (Kd.R_elder' (by (with_reducible repeat (first | apply Kd.R_alloc | apply Kd.R_drewN | apply Kd.R_drew)); exact (Kd.R_mono (Kd.R_far (p := ⟨gb532, 2, none⟩) (Kd.R_far (p := ⟨gb532, 1, none⟩) (Kd.R_far (p := ⟨gb532, 0, none⟩) (Kd.R_types HO530.out BK532.out (by decide)) (fun _ hk => hk.2) (.int .i64 t526)) (fun _ hk => hk.2) (.int .i64 t527)) (fun _ hk => hk.2) (.slice Ao31 t528.length co31)) (fun _ h_ => h_.1))) (Kd.R_base ho0) hb); have n2_ := Aside0.mk (Kd.R_lower (Kd.R_new' (Kd.R_new' ho0 (Kd.R_lt (by (with_reducible repeat (first | apply Kd.R_alloc | apply Kd.R_drewN | apply Kd.R_drew)); exact (Kd.R_mono (Kd.R_far (p := ⟨gb532, 2, none⟩) (Kd.R_far (p := ⟨gb532, 1, none⟩) (Kd.R_far (p := ⟨gb532, 0, none⟩) (Kd.R_types HO521.out BK532.out (by decide)) (fun _ hk => hk.2) (.int .i64 t526)) (fun _ hk => hk.2) (.int .i64 t527)) (fun _ hk => hk.2) (.slice Ao31 t528.length co31)) (fun _ h_ => h_.1))))) (Kd.R_lt (by (with_reducible repeat (first | apply Kd.R_alloc | apply Kd.R_drewN | apply Kd.R_drew)); exact (Kd.R_mono (Kd.R_far (p := ⟨gb532, 2, none⟩) (Kd.R_far (p := ⟨gb532, 1, none⟩) (Kd.R_far (p := ⟨gb532, 0, none⟩) (Kd.R_types HO530.out BK532.out (by decide)) (fun _ hk => hk.2) (.int .i64 t526)) (fun _ hk => hk.2) (.int .i64 t527)) (fun _ hk => hk.2) (.slice Ao31 t528.length co31)) (fun _ h_ => h_.1))))) (below_size hb_)); have n3_ := Aside0.mk (blk_below (g := gb514) (o := .cells #[.int .i64 a0_0, .int .i64 a0_1, .slice A0_2 l0_2.length c0_2] 33 (0, 0)) (by (with_reducible repeat (first | refine blk_drewN ?_ _ | refine blk_drew ?_ | refine blk_alloc ?_ _)); refine blk_far ?_ NB514_532.out _; (with_reducible repeat (first | refine blk_drewN ?_ _ | refine blk_drew ?_ | refine blk_alloc ?_ _)); refine blk_far ?_ NB514_532.out _; (with_reducible repeat (first | refine blk_drewN ?_ _ | refine blk_drew ?_ | refine blk_alloc ?_ _)); refine blk_far ?_ NB514_532.out _; (with_reducible repeat (first | refine blk_drewN ?_ _ | refine blk_drew ?_ | refine blk_alloc ?_ _)); exact BK514.out) hb); have n4_ := Aside0.mk (blk_below (g := gb515) (o := .cells #[.int .i64 a1_0, .int .i64 a1_1, .int .i64 a1_2, .int .i64 a1_3] 26 (0, 0)) (by (with_reducible repeat (first | refine blk_drewN ?_ _ | refine blk_drew ?_ | refine blk_alloc ?_ _)); refine blk_far ?_ NB515_532.out _; (with_reducible repeat (first | refine blk_drewN ?_ _ | refine blk_drew ?_ | refine blk_alloc ?_ _)); refine blk_far ?_ NB515_532.out _; (with_reducible repeat (first | refine blk_drewN ?_ _ | refine blk_drew ?_ | refine blk_alloc ?_ _)); refine blk_far ?_ NB515_532.out _; (with_reducible repeat (first | refine blk_drewN ?_ _ | refine blk_drew ?_ | refine blk_alloc ?_ _)); exact BK515.out) hb); have n5_ := Aside0.mk (blk_below (g := gb532) (o := .cells #[.int .i64 t526, .int .i64 t527, .slice Ao31 t528.length co31] 42 (0, 0)) (by (with_reducible repeat (first | refine blk_drewN ?_ _ | refine blk_drew ?_ | refine blk_alloc ?_ _)); refine blk_put (cs := #[.int .i64 t526, .int .i64 t527, .slice none 0 0]) ?_ 2 _ rfl; (with_reducible repeat (first | refine blk_drewN ?_ _ | refine blk_drew ?_ | refine blk_alloc ?_ _)); refine blk_put (cs := #[.int .i64 t526, .int .i64 0, .slice none 0 0]) ?_ 1 _ rfl; (with_reducible repeat (first | refine blk_drewN ?_ _ | refine blk_drew ?_ | refine blk_alloc ?_ _)); refine blk_put (cs := #[.int .i64 0, .int .i64 0, .slice none 0 0]) ?_ 0 _ rfl; (with_reducible repeat (first | refine blk_drewN ?_ _ | refine blk_drew ?_ | refine blk_alloc ?_ _)); exact BK532.out) hb); have n6_ := Aside0.mk (below_step hb_ hb); clear HO521; clear HO530; clear BK514; clear BK515; clear BK532; clear HB; have HO521 := n0_; have HO530 := n1_; have HO537 := n2_; have BK514 := n3_; have BK515 := n4_; have BK532 := n5_; have HB := n6_; clear n0_ n1_ n2_ n3_ n4_ n5_ n6_; (try clear hb); (try clear ho0)) | ((with_reducible refine gate_dst (N := 8) rfl ?_); refine box_event ?hg (N := 8) ?hd (cs := #[.int .i64 0, .int .i64 0, .slice none 0 0]) (t := 42) ?hr ?_; (case hd => rfl); (case hg => rfl); (case hr => first | (go_simp; done) | (go_simp; rfl)); intro gb538 hg w36 hbox hb; have n0_ := Aside0.mk (Kd.R_below (rh_ HO521.out) hb); have n1_ := Aside0.mk (Kd.R_below (rh_ HO530.out) hb); have n2_ := Aside0.mk (Kd.R_below (rh_ HO537.out) hb); have n3_ := Aside0.mk (bb_ hb BK514.out); have n4_ := Aside0.mk (bb_ hb BK515.out); have n5_ := Aside0.mk (bb_ hb BK532.out); have n6_ := Aside0.mk (below_step hb_ hb); have n7_ := Aside0.mk (hbox); have n8_ := Aside0.mk ((by rw [hg]; exact (below_size hb_) : w.heap.size ≤ gb538)); have n9_ := Aside0.mk ((by rw [hg]; exact (below_size hb_) : w.heap.size ≤ gb538)); have n10_ := Aside0.mk ((by rw [hg]; exact bnlt_ BK514.out : gb514 ≠ gb538)); have n11_ := Aside0.mk ((by rw [hg]; exact bngt_ BK514.out : gb538 ≠ gb514)); have n12_ := Aside0.mk ((by rw [hg]; exact bnlt_ BK515.out : gb515 ≠ gb538)); have n13_ := Aside0.mk ((by rw [hg]; exact bngt_ BK515.out : gb538 ≠ gb515)); have n14_ := Aside0.mk ((by rw [hg]; exact bnlt_ BK532.out : gb532 ≠ gb538)); have n15_ := Aside0.mk ((by rw [hg]; exact bngt_ BK532.out : gb538 ≠ gb532)); clear HO521; clear HO530; clear HO537; clear BK514; clear BK515; clear BK532; clear HB; have HO521 := n0_; have HO530 := n1_; have HO537 := n2_; have BK514 := n3_; have BK515 := n4_; have BK532 := n5_; have HB := n6_; have BK538 := n7_; have GW538 := n8_; have GE538 := n9_; have NB514_538 := n10_; have NB538_514 := n11_; have NB515_538 := n12_; have NB538_515 := n13_; have NB532_538 := n14_; have NB538_532 := n15_; clear n0_ n1_ n2_ n3_ n4_ n5_ n6_ n7_ n8_ n9_ n10_ n11_ n12_ n13_ n14_ n15_; clear hb hbox hg; have hnb37 := NB538_514.out; have hnc37 := NB514_538.out; have hnb38 := NB538_515.out; have hnc38 := NB515_538.out; have hnb39 := NB538_532.out; have hnc39 := NB532_538.out; have hcz40_0 : w36.cell? ⟨gb538, 0, none⟩ = some (.int .i64 0) := bc_ BK538.out 0; have hcz40_1 : w36.cell? ⟨gb538, 1, none⟩ = some (.int .i64 0) := bc_ BK538.out 1; have hcz40_2 : w36.cell? ⟨gb538, 2, none⟩ = some (.slice none 0 0) := bc_ BK538.out 2; have hfz40_0 := blk_frozen BK538.out 0; have hfz40_1 := blk_frozen BK538.out 1; have hfz40_2 := blk_frozen BK538.out 2; obtain ⟨Ao41, co41, eo41⟩ := Kd.R_slice HO537.out; subst eo41))
 have n0_ : Aside0 (Kd.R k28 28 (((w36.setCell ⟨gb538, 0, none⟩ (.int .i64 t533)).setCell ⟨gb538, 1, none⟩ (.int .i64 t534)).setCell ⟨gb538, 2, none⟩ (.slice Ao41 t535.length co41)) w.heap.size (fun k_ => some k_ ≠ (.slice Ao31 t528.length co31 : Value).ownBlock ∧ some k_ ≠ (.slice Ao41 t535.length co41 : Value).ownBlock) v520 t519) := ⟨by (with_reducible repeat (first | apply Kd.R_alloc | apply Kd.R_drewN | apply Kd.R_drew)); exact Kd.R_mono (Kd.R_far (p := ⟨gb538, 2, none⟩) (Kd.R_far (p := ⟨gb538, 1, none⟩) (Kd.R_far (p := ⟨gb538, 0, none⟩) (Kd.R_types HO521.out BK538.out (by decide)) (fun _ hk => hk.2) (.int .i64 t533)) (fun _ hk => hk.2) (.int .i64 t534)) (fun _ hk => hk.2) (.slice Ao41 t535.length co41)) (fun _ hk => ⟨hk.1.1, hk.1.2⟩)⟩
 have n1_ : Aside0 (Kd.R k28 28 (((w36.setCell ⟨gb538, 0, none⟩ (.int .i64 t533)).setCell ⟨gb538, 1, none⟩ (.int .i64 t534)).setCell ⟨gb538, 2, none⟩ (.slice Ao41 t535.length co41)) w.heap.size (fun k_ => some k_ ≠ (v520 : Value).ownBlock ∧ some k_ ≠ (.slice Ao41 t535.length co41 : Value).ownBlock) (.slice Ao31 t528.length co31) t528) := ⟨by (with_reducible repeat (first | apply Kd.R_alloc | apply Kd.R_drewN | apply Kd.R_drew)); exact Kd.R_mono (Kd.R_far (p := ⟨gb538, 2, none⟩) (Kd.R_far (p := ⟨gb538, 1, none⟩) (Kd.R_far (p := ⟨gb538, 0, none⟩) (Kd.R_types HO530.out BK538.out (by decide)) (fun _ hk => hk.2) (.int .i64 t533)) (fun _ hk => hk.2) (.int .i64 t534)) (fun _ hk => hk.2) (.slice Ao41 t535.length co41)) (fun _ hk => ⟨hk.1.1, hk.1.2⟩)⟩
 have n2_ : Aside0 (Kd.R k28 28 (((w36.setCell ⟨gb538, 0, none⟩ (.int .i64 t533)).setCell ⟨gb538, 1, none⟩ (.int .i64 t534)).setCell ⟨gb538, 2, none⟩ (.slice Ao41 t535.length co41)) w.heap.size (fun k_ => some k_ ≠ (v520 : Value).ownBlock ∧ some k_ ≠ (.slice Ao31 t528.length co31 : Value).ownBlock) (.slice Ao41 t535.length co41) t535) := ⟨by (with_reducible repeat (first | apply Kd.R_alloc | apply Kd.R_drewN | apply Kd.R_drew)); exact Kd.R_mono (Kd.R_far (p := ⟨gb538, 2, none⟩) (Kd.R_far (p := ⟨gb538, 1, none⟩) (Kd.R_far (p := ⟨gb538, 0, none⟩) (Kd.R_types HO537.out BK538.out (by decide)) (fun _ hk => hk.2) (.int .i64 t533)) (fun _ hk => hk.2) (.int .i64 t534)) (fun _ hk => hk.2) (.slice Ao41 t535.length co41)) (fun _ hk => ⟨hk.1.1.2, hk.1.2⟩)⟩
 have n3_ : Aside0 ((((w36.setCell ⟨gb538, 0, none⟩ (.int .i64 t533)).setCell ⟨gb538, 1, none⟩ (.int .i64 t534)).setCell ⟨gb538, 2, none⟩ (.slice Ao41 t535.length co41)).heap[gb514]? = some (.cells #[.int .i64 a0_0, .int .i64 a0_1, .slice A0_2 l0_2.length c0_2] 33 (0, 0))) := ⟨by (with_reducible repeat (first | refine blk_drewN ?_ _ | refine blk_drew ?_ | refine blk_alloc ?_ _)); refine blk_far ?_ NB514_538.out _; (with_reducible repeat (first | refine blk_drewN ?_ _ | refine blk_drew ?_ | refine blk_alloc ?_ _)); refine blk_far ?_ NB514_538.out _; (with_reducible repeat (first | refine blk_drewN ?_ _ | refine blk_drew ?_ | refine blk_alloc ?_ _)); refine blk_far ?_ NB514_538.out _; (with_reducible repeat (first | refine blk_drewN ?_ _ | refine blk_drew ?_ | refine blk_alloc ?_ _)); exact BK514.out⟩
 have n4_ : Aside0 ((((w36.setCell ⟨gb538, 0, none⟩ (.int .i64 t533)).setCell ⟨gb538, 1, none⟩ (.int .i64 t534)).setCell ⟨gb538, 2, none⟩ (.slice Ao41 t535.length co41)).heap[gb515]? = some (.cells #[.int .i64 a1_0, .int .i64 a1_1, .int .i64 a1_2, .int .i64 a1_3] 26 (0, 0))) := ⟨by (with_reducible repeat (first | refine blk_drewN ?_ _ | refine blk_drew ?_ | refine blk_alloc ?_ _)); refine blk_far ?_ NB515_538.out _; (with_reducible repeat (first | refine blk_drewN ?_ _ | refine blk_drew ?_ | refine blk_alloc ?_ _)); refine blk_far ?_ NB515_538.out _; (with_reducible repeat (first | refine blk_drewN ?_ _ | refine blk_drew ?_ | refine blk_alloc ?_ _)); refine blk_far ?_ NB515_538.out _; (with_reducible repeat (first | refine blk_drewN ?_ _ | refine blk_drew ?_ | refine blk_alloc ?_ _)); exact BK515.out⟩
 have n5_ : Aside0 ((((w36.setCell ⟨gb538, 0, none⟩ (.int .i64 t533)).setCell ⟨gb538, 1, none⟩ (.int .i64 t534)).setCell ⟨gb538, 2, none⟩ (.slice Ao41 t535.length co41)).heap[gb532]? = some (.cells #[.int .i64 t526, .int .i64 t527, .slice Ao31 t528.length co31] 42 (0, 0))) := ⟨by (with_reducible repeat (first | refine blk_drewN ?_ _ | refine blk_drew ?_ | refine blk_alloc ?_ _)); refine blk_far ?_ NB532_538.out _; (with_reducible repeat (first | refine blk_drewN ?_ _ | refine blk_drew ?_ | refine blk_alloc ?_ _)); refine blk_far ?_ NB532_538.out _; (with_reducible repeat (first | refine blk_drewN ?_ _ | refine blk_drew ?_ | refine blk_alloc ?_ _)); refine blk_far ?_ NB532_538.out _; (with_reducible repeat (first | refine blk_drewN ?_ _ | refine blk_drew ?_ | refine blk_alloc ?_ _)); exact BK532.out⟩
 have n6_ : Aside0 ((((w36.setCell ⟨gb538, 0, none⟩ (.int .i64 t533)).setCell ⟨gb538, 1, none⟩ (.int .i64 t534)).setCell ⟨gb538, 2, none⟩ (.slice Ao41 t535.length co41)).heap[gb538]? = some (.cells #[.int .i64 t533, .int .i64 t534, .slice Ao41 t535.length co41] 42 (0, 0))) := ⟨by (with_reducible repeat (first | refine blk_drewN ?_ _ | refine blk_drew ?_ | refine blk_alloc ?_ _)); refine blk_put (cs := #[.int .i64 t533, .int .i64 t534, .slice none 0 0]) ?_ 2 _ rfl; (with_reducible repeat (first | refine blk_drewN ?_ _ | refine blk_drew ?_ | refine blk_alloc ?_ _)); refine blk_put (cs := #[.int .i64 t533, .int .i64 0, .slice none 0 0]) ?_ 1 _ rfl; (with_reducible repeat (first | refine blk_drewN ?_ _ | refine blk_drew ?_ | refine blk_alloc ?_ _)); refine blk_put (cs := #[.int .i64 0, .int .i64 0, .slice none 0 0]) ?_ 0 _ rfl; (with_reducible repeat (first | refine blk_drewN ?_ _ | refine blk_drew ?_ | refine blk_alloc ?_ _)); exact BK538.out⟩
 have n7_ : Aside0 (Below w.heap.size w (((w36.setCell ⟨gb538, 0, none⟩ (.int .i64 t533)).setCell ⟨gb538, 1, none⟩ (.int .i64 t534)).setCell ⟨gb538, 2, none⟩ (.slice Ao41 t535.length co41))) := ⟨hb_⟩
 (try clear HO521)
 (try clear HO530)
 (try clear HO537)
 (try clear BK514)
 (try clear BK515)
 (try clear BK532)
 (try clear BK538)
 (try clear HB)
 generalize (((w36.setCell ⟨gb538, 0, none⟩ (.int .i64 t533)).setCell ⟨gb538, 1, none⟩ (.int .i64 t534)).setCell ⟨gb538, 2, none⟩ (.slice Ao41 t535.length co41)) = w42 at n0_ n1_ n2_ n3_ n4_ n5_ n6_ n7_ ⊢
 have HO521 := n0_
 have HO530 := n1_
 have HO537 := n2_
 have BK514 := n3_
 have BK515 := n4_
 have BK532 := n5_
 have BK538 := n6_
 have HB := n7_
 clear n0_ n1_ n2_ n3_ n4_ n5_ n6_ n7_
 have n0_ := Aside0.mk (Kd.R_drew HO521.out)
 have n1_ := Aside0.mk (Kd.R_drew HO530.out)
 have n2_ := Aside0.mk (Kd.R_drew HO537.out)
 have n3_ := Aside0.mk (blk_drew BK514.out)
 have n4_ := Aside0.mk (blk_drew BK515.out)
 have n5_ := Aside0.mk (blk_drew BK532.out)
 have n6_ := Aside0.mk (blk_drew BK538.out)
 have n7_ := Aside0.mk (below_drew1 HB.out)
 clear HO521
 clear HO530
 clear HO537
 clear BK514
 clear BK515
 clear BK532
 clear BK538
 clear HB
 have HO521 := n0_
 have HO530 := n1_
 have HO537 := n2_
 have BK514 := n3_
 have BK515 := n4_
 have BK532 := n5_
 have BK538 := n6_
 have HB := n7_
 clear n0_ n1_ n2_ n3_ n4_ n5_ n6_ n7_
 refine start_ (n := 10) (S := fun w' => w'.cell? ⟨gb538, 0, none⟩ = some (.int .i64 t533) ∧ w'.cell? ⟨gb538, 1, none⟩ = some (.int .i64 t534) ∧ w'.cell? ⟨gb538, 2, none⟩ = some (.slice Ao41 t535.length co41) ∧ w'.cell? ⟨gb515, 0, none⟩ = some (.int .i64 a1_0) ∧ w'.cell? ⟨gb515, 1, none⟩ = some (.int .i64 a1_1) ∧ w'.cell? ⟨gb515, 2, none⟩ = some (.int .i64 a1_2) ∧ w'.cell? ⟨gb515, 3, none⟩ = some (.int .i64 a1_3)) (ds := []) #[false, false, false, false, false, false, false, false, false, false] (by kernel_rfl) rfl rfl ⟨bc_ BK538.out 0, bc_ BK538.out 1, bc_ BK538.out 2, bc_ BK515.out 0, bc_ BK515.out 1, bc_ BK515.out 2, bc_ BK515.out 3⟩ (fun hHeld => ?_); refine with_tabW laws_FnExactAddClue.tab7 laws_FnExactAddClue.bits7 (fun HT_ HW_ => ?_)
 generalize w42.drew = w43 at HO521 HO530 HO537 BK514 BK515 BK532 BK538 HB hHeld ⊢
 refine take_ (i := 0) (N := some 32) (v := ?_) (a' := ?_) #[true, false, false, false, false, false, false, false, false, false] rfl rfl (take_ofW HT_.out HW_.out (by kernel_rfl)) (fun _ _ _ h => h) (Or.inl ⟨by rfl, ?_⟩) hHeld ?_ ?_
 rotate_left
 ·rintro w' ⟨s0, s1, s2, s3, s4, s5, s6⟩
  go_simp
  with_reducible rfl
 rotate_left
 ·simp only [Act.put, List.setIfInBounds_toArray, List.set_cons_zero, List.set_cons_succ, i64_w, i32_w]
  rfl
 refine take_ (i := 1) (N := some 33) (v := ?_) (a' := ?_) #[true, true, false, false, false, false, false, false, false, false] rfl rfl (take_ofW HT_.out HW_.out (by kernel_rfl)) (fun _ _ _ h => h) (Or.inl ⟨by rfl, ?_⟩) hHeld ?_ ?_
 rotate_left
 ·rintro w' ⟨s0, s1, s2, s3, s4, s5, s6⟩
  go_simp
  with_reducible rfl
 rotate_left
 ·simp only [Act.put, List.setIfInBounds_toArray, List.set_cons_zero, List.set_cons_succ, i64_w, i32_w]
  rfl
 refine join_ (σ := Value × Nat) 2 #[true, true, true, true, true, true, true, true, false, false] (fun s_ => [(34, .agg #[.int .i64 t539, .int .i64 t540, .int .i64 t541, .int .i64 t542]), (35, .tuple #[.agg #[.int .i64 t543, .int .i64 t544, s_.1], .bool t548]), (9, .pointer (some ⟨s_.2, 0, none⟩)), (31, .tuple #[.agg #[.int .i64 t543, .int .i64 t544, s_.1], .bool t548]), (36, .agg #[.int .i64 t543, .int .i64 t544, s_.1]), (37, .bool t548)]) (fun s_ w' => (w'.cell? ⟨gb538, 0, none⟩ = some (.int .i64 t533) ∧ w'.cell? ⟨gb538, 1, none⟩ = some (.int .i64 t534) ∧ w'.cell? ⟨gb538, 2, none⟩ = some (.slice Ao41 t535.length co41) ∧ w'.cell? ⟨gb515, 0, none⟩ = some (.int .i64 a1_0) ∧ w'.cell? ⟨gb515, 1, none⟩ = some (.int .i64 a1_1) ∧ w'.cell? ⟨gb515, 2, none⟩ = some (.int .i64 a1_2) ∧ w'.cell? ⟨gb515, 3, none⟩ = some (.int .i64 a1_3)) ∧ (Kd.R k28 28 w' w.heap.size (fun k_ => some k_ ≠ (.slice Ao31 t528.length co31 : Value).ownBlock ∧ some k_ ≠ (.slice Ao41 t535.length co41 : Value).ownBlock ∧ some k_ ≠ (s_.1 : Value).ownBlock) v520 t519) ∧ (Kd.R k28 28 w' w.heap.size (fun k_ => some k_ ≠ (v520 : Value).ownBlock ∧ some k_ ≠ (.slice Ao41 t535.length co41 : Value).ownBlock ∧ some k_ ≠ (s_.1 : Value).ownBlock) (.slice Ao31 t528.length co31) t528) ∧ (Kd.R k28 28 w' w.heap.size (fun k_ => some k_ ≠ (v520 : Value).ownBlock ∧ some k_ ≠ (.slice Ao31 t528.length co31 : Value).ownBlock ∧ some k_ ≠ (s_.1 : Value).ownBlock) (.slice Ao41 t535.length co41) t535) ∧ (Kd.R k28 28 w' w.heap.size (fun k_ => some k_ ≠ (v520 : Value).ownBlock ∧ some k_ ≠ (.slice Ao31 t528.length co31 : Value).ownBlock ∧ some k_ ≠ (.slice Ao41 t535.length co41 : Value).ownBlock) s_.1 t545) ∧ (w'.heap[gb514]? = some (.cells #[.int .i64 a0_0, .int .i64 a0_1, .slice A0_2 l0_2.length c0_2] 33 (0, 0))) ∧ (w'.heap[gb515]? = some (.cells #[.int .i64 a1_0, .int .i64 a1_1, .int .i64 a1_2, .int .i64 a1_3] 26 (0, 0))) ∧ (w'.heap[gb532]? = some (.cells #[.int .i64 t526, .int .i64 t527, .slice Ao31 t528.length co31] 42 (0, 0))) ∧ (w'.heap[gb538]? = some (.cells #[.int .i64 t533, .int .i64 t534, .slice Ao41 t535.length co41] 42 (0, 0))) ∧ (w'.heap[s_.2]? = some (.cells #[.int .i64 0, .int .i64 0, .slice none 0 0] 42 (0, 0))) ∧ (w.heap.size ≤ s_.2) ∧ (w.heap.size ≤ s_.2) ∧ (gb514 ≠ s_.2) ∧ (s_.2 ≠ gb514) ∧ (gb515 ≠ s_.2) ∧ (s_.2 ≠ gb515) ∧ (gb532 ≠ s_.2) ∧ (s_.2 ≠ gb532) ∧ (gb538 ≠ s_.2) ∧ (s_.2 ≠ gb538) ∧ (Below w.heap.size w w')) ?_ ?_
 rotate_left
 ·intro hCont
  refine two_ (i := 2) (j := 7) (Ni := some 34) (Nj := some 9) #[true, true, true, false, false, false, false, false, false, false] #[true, true, false, false, false, false, false, true, false, false] rfl rfl rfl rfl (two_of HT_.out (by kernel_rfl)) (by decide) (by decide) (fun K hK => ?_) (fun K hK => ?_)
  ·skip
   refine goes_ Try.func22 (by kernel_rfl) rfl #[.agg #[.int .i64 a1_0, .int .i64 a1_1, .int .i64 a1_2, .int .i64 a1_3]] (by rfl) rfl rfl (by (try simp only [List.map_toArray, List.map_cons, List.map_nil]); first | done | rfl | (simp only [List.length_drop, List.length_take]; rfl)) ?_
   with_reducible refine (laws_toClue.calls a1_0 a1_1 a1_2 a1_3 t539 t540 t541 t542 _ A14.out).mono ?_
   rintro e w44 ⟨rfl, hb⟩
   refine ⟨_, rfl, ?_⟩
   have n0_ := Aside0.mk (Kd.R_below (rh_ HO521.out) hb)
   have n1_ := Aside0.mk (Kd.R_below (rh_ HO530.out) hb)
   have n2_ := Aside0.mk (Kd.R_below (rh_ HO537.out) hb)
   have n3_ := Aside0.mk (bb_ hb BK514.out)
   have n4_ := Aside0.mk (bb_ hb BK515.out)
   have n5_ := Aside0.mk (bb_ hb BK532.out)
   have n6_ := Aside0.mk (bb_ hb BK538.out)
   have n7_ := Aside0.mk (below_step hb_ hb)
   clear HO521
   clear HO530
   clear HO537
   clear BK514
   clear BK515
   clear BK532
   clear BK538
   clear HB
   have HO521 := n0_
   have HO530 := n1_
   have HO537 := n2_
   have BK514 := n3_
   have BK515 := n4_
   have BK532 := n5_
   have BK538 := n6_
   have HB := n7_
   clear n0_ n1_ n2_ n3_ n4_ n5_ n6_ n7_
   (try clear hb)
   refine hK.out _ _ ⟨bc_ BK538.out 0, bc_ BK538.out 1, bc_ BK538.out 2, bc_ BK515.out 0, bc_ BK515.out 1, bc_ BK515.out 2, bc_ BK515.out 3⟩ (fun hHeld => ?_)
   clear hK K
   refine norm_ (a' := ?_) ?_ ?_
   rotate_left
   ·show Act.put _ (some 34) _ = _
    simp only [Act.put, List.setIfInBounds_toArray, List.set_cons_zero, List.set_cons_succ, i64_w, i32_w]
    rfl
   refine two_ (i := 3) (j := 7) (Ni := some 35) (Nj := some 9) #[true, true, true, true, false, false, false, false, false, false] #[true, true, true, false, false, false, false, true, false, false] rfl rfl rfl rfl (two_of HT_.out (by kernel_rfl)) (by decide) (by decide) (fun K hK => ?_) (fun K hK => ?_)
   ·skip
    refine goes_ Try.func36 (by kernel_rfl) rfl #[.agg #[.int .i64 t533, .int .i64 t534, .slice Ao41 t535.length co41], .agg #[.int .i64 t539, .int .i64 t540, .int .i64 t541, .int .i64 t542]] (by rfl) rfl rfl (by (try simp only [List.map_toArray, List.map_cons, List.map_nil]); first | done | rfl | (simp only [List.length_drop, List.length_take]; rfl)) ?_
    with_reducible refine (impl_AddClue.calls t533 t534 _ _ t535 t539 t540 t541 t542 t543 t544 t545 t548 _ ?side1 ?side2 A15.out).mono ?_
    (case side1 => repeat (first | exact (Kd.R_reads' HO537.out).2.2 | (with_reducible refine Kd.C_alloc ?_ _) | (with_reducible refine Kd.C_drewN ?_ _) | (with_reducible refine Kd.C_drew ?_)))
    (case side2 => exact (Kd.R_reads' HO537.out).2.1)
    rintro e w45 ⟨v546, rfl, ho0, hb⟩
    refine ⟨_, rfl, ?_⟩
    have n0_ := Aside0.mk (Kd.R_elder' (rh_ HO521.out) (Kd.R_base ho0) hb)
    have n1_ := Aside0.mk (Kd.R_elder' (rh_ HO530.out) (Kd.R_base ho0) hb)
    have n2_ := Aside0.mk (Kd.R_elder' (rh_ HO537.out) (Kd.R_base ho0) hb)
    have n3_ := Aside0.mk (Kd.R_lower (Kd.R_new' (Kd.R_new' (Kd.R_new' ho0 (Kd.R_lt (rh_ HO521.out))) (Kd.R_lt (rh_ HO530.out))) (Kd.R_lt (rh_ HO537.out))) (below_size hb_))
    have n4_ := Aside0.mk (bb_ hb BK514.out)
    have n5_ := Aside0.mk (bb_ hb BK515.out)
    have n6_ := Aside0.mk (bb_ hb BK532.out)
    have n7_ := Aside0.mk (bb_ hb BK538.out)
    have n8_ := Aside0.mk (below_step hb_ hb)
    clear HO521
    clear HO530
    clear HO537
    clear BK514
    clear BK515
    clear BK532
    clear BK538
    clear HB
    have HO521 := n0_
    have HO530 := n1_
    have HO537 := n2_
    have HO547 := n3_
    have BK514 := n4_
    have BK515 := n5_
    have BK532 := n6_
    have BK538 := n7_
    have HB := n8_
    clear n0_ n1_ n2_ n3_ n4_ n5_ n6_ n7_ n8_
    (try clear hb)
    (try clear ho0)
    refine hK.out _ _ ⟨bc_ BK538.out 0, bc_ BK538.out 1, bc_ BK538.out 2, bc_ BK515.out 0, bc_ BK515.out 1, bc_ BK515.out 2, bc_ BK515.out 3⟩ (fun hHeld => ?_)
    clear hK K
    refine norm_ (a' := ?_) ?_ ?_
    rotate_left
    ·show Act.put _ (some 35) _ = _
     simp only [Act.put, List.setIfInBounds_toArray, List.set_cons_zero, List.set_cons_succ, i64_w, i32_w]
     rfl
    refine pure_ (i := 4) (N := some 31) (v := ?_) (a' := ?_) #[true, true, true, true, true, false, false, false, false, false] rfl rfl (any_of HT_.out (by kernel_rfl)) (fun _ _ _ h => h) (Or.inl ⟨by rfl, ?_⟩) ?_ ?_
    rotate_left
    ·intro w'
     go_simp
     with_reducible rfl
    rotate_left
    ·simp only [Act.put, List.setIfInBounds_toArray, List.set_cons_zero, List.set_cons_succ, i64_w, i32_w]
     rfl
    refine pure_ (i := 5) (N := some 36) (v := ?_) (a' := ?_) #[true, true, true, true, true, true, false, false, false, false] rfl rfl (any_of HT_.out (by kernel_rfl)) (fun _ _ _ h => h) (Or.inl ⟨by rfl, ?_⟩) ?_ ?_
    rotate_left
    ·intro w'
     go_simp
     with_reducible rfl
    rotate_left
    ·simp only [Act.put, List.setIfInBounds_toArray, List.set_cons_zero, List.set_cons_succ, i64_w, i32_w]
     rfl
    refine pure_ (i := 6) (N := some 37) (v := ?_) (a' := ?_) #[true, true, true, true, true, true, true, false, false, false] rfl rfl (any_of HT_.out (by kernel_rfl)) (fun _ _ _ h => h) (Or.inl ⟨by rfl, ?_⟩) ?_ ?_
    rotate_left
    ·intro w'
     go_simp
     with_reducible rfl
    rotate_left
    ·simp only [Act.put, List.setIfInBounds_toArray, List.set_cons_zero, List.set_cons_succ, i64_w, i32_w]
     rfl
    refine one_ (i := 7) (N := some 9) #[true, true, true, true, true, true, true, true, false, false] rfl rfl (one_of HT_.out (by kernel_rfl)) (by decide) (fun K hK => ?_)
    refine box_step ?hg (N := 9) ?hd (cs := #[.int .i64 0, .int .i64 0, .slice none 0 0]) (t := 42) ?hr ?_; (case hd => rfl); (case hg => rfl); (case hr => first | (go_simp; done) | (go_simp; rfl))
    intro gb549 hg w46 hbox hb
    have n0_ := Aside0.mk (Kd.R_below (rh_ HO521.out) hb)
    have n1_ := Aside0.mk (Kd.R_below (rh_ HO530.out) hb)
    have n2_ := Aside0.mk (Kd.R_below (rh_ HO537.out) hb)
    have n3_ := Aside0.mk (Kd.R_below (rh_ HO547.out) hb)
    have n4_ := Aside0.mk (bb_ hb BK514.out)
    have n5_ := Aside0.mk (bb_ hb BK515.out)
    have n6_ := Aside0.mk (bb_ hb BK532.out)
    have n7_ := Aside0.mk (bb_ hb BK538.out)
    have n8_ := Aside0.mk (below_step hb_ hb)
    have n9_ := Aside0.mk (hbox)
    have n10_ := Aside0.mk ((by rw [hg]; exact (below_size hb_) : w.heap.size ≤ gb549))
    have n11_ := Aside0.mk ((by rw [hg]; exact (below_size hb_) : w.heap.size ≤ gb549))
    have n12_ := Aside0.mk ((by rw [hg]; exact bnlt_ BK514.out : gb514 ≠ gb549))
    have n13_ := Aside0.mk ((by rw [hg]; exact bngt_ BK514.out : gb549 ≠ gb514))
    have n14_ := Aside0.mk ((by rw [hg]; exact bnlt_ BK515.out : gb515 ≠ gb549))
    have n15_ := Aside0.mk ((by rw [hg]; exact bngt_ BK515.out : gb549 ≠ gb515))
    have n16_ := Aside0.mk ((by rw [hg]; exact bnlt_ BK532.out : gb532 ≠ gb549))
    have n17_ := Aside0.mk ((by rw [hg]; exact bngt_ BK532.out : gb549 ≠ gb532))
    have n18_ := Aside0.mk ((by rw [hg]; exact bnlt_ BK538.out : gb538 ≠ gb549))
    have n19_ := Aside0.mk ((by rw [hg]; exact bngt_ BK538.out : gb549 ≠ gb538))
    clear HO521
    clear HO530
    clear HO537
    clear HO547
    clear BK514
    clear BK515
    clear BK532
    clear BK538
    clear HB
    have HO521 := n0_
    have HO530 := n1_
    have HO537 := n2_
    have HO547 := n3_
    have BK514 := n4_
    have BK515 := n5_
    have BK532 := n6_
    have BK538 := n7_
    have HB := n8_
    have BK549 := n9_
    have GW549 := n10_
    have GE549 := n11_
    have NB514_549 := n12_
    have NB549_514 := n13_
    have NB515_549 := n14_
    have NB549_515 := n15_
    have NB532_549 := n16_
    have NB549_532 := n17_
    have NB538_549 := n18_
    have NB549_538 := n19_
    clear n0_ n1_ n2_ n3_ n4_ n5_ n6_ n7_ n8_ n9_ n10_ n11_ n12_ n13_ n14_ n15_ n16_ n17_ n18_ n19_
    clear hb hbox hg
    refine hK.out _ _ ⟨bc_ BK538.out 0, bc_ BK538.out 1, bc_ BK538.out 2, bc_ BK515.out 0, bc_ BK515.out 1, bc_ BK515.out 2, bc_ BK515.out 3⟩ (fun hHeld => ?_)
    clear hK K
    refine norm_ (a' := ?_) ?_ ?_
    rotate_left
    ·show Act.put _ (some 9) _ = _
     simp only [Act.put, List.setIfInBounds_toArray, List.set_cons_zero, List.set_cons_succ, i64_w, i32_w]
     rfl
    exact norm_ (by simp only [putAll, Act.put, List.setIfInBounds_toArray, List.set_cons_zero, List.set_cons_succ]) (hCont (v546, gb549) _ ⟨hHeld, (rh_ (Kd.R_mono HO521.out (fun _ hk => ⟨hk.1.1, ⟨hk.1.2, hk.2⟩⟩))), (rh_ (Kd.R_mono HO530.out (fun _ hk => ⟨hk.1.1, ⟨hk.1.2, hk.2⟩⟩))), (rh_ (Kd.R_mono HO537.out (fun _ hk => ⟨hk.1.1, ⟨hk.1.2, hk.2⟩⟩))), (rh_ (Kd.R_mono HO547.out (fun _ hk => ⟨hk.1.1.2, ⟨hk.1.2, hk.2⟩⟩))), (bh_ BK514.out), (bh_ BK515.out), (bh_ BK532.out), (bh_ BK538.out), (bh_ BK549.out), GW549.out, GE549.out, NB514_549.out, NB549_514.out, NB515_549.out, NB549_515.out, NB532_549.out, NB549_532.out, NB538_549.out, NB549_538.out, hb_⟩)
   skip
   refine box_step ?hg (N := 9) ?hd (cs := #[.int .i64 0, .int .i64 0, .slice none 0 0]) (t := 42) ?hr ?_; (case hd => rfl); (case hg => rfl); (case hr => first | (go_simp; done) | (go_simp; rfl))
   intro gb549 hg w45 hbox hb
   have n0_ := Aside0.mk (Kd.R_below (rh_ HO521.out) hb)
   have n1_ := Aside0.mk (Kd.R_below (rh_ HO530.out) hb)
   have n2_ := Aside0.mk (Kd.R_below (rh_ HO537.out) hb)
   have n3_ := Aside0.mk (bb_ hb BK514.out)
   have n4_ := Aside0.mk (bb_ hb BK515.out)
   have n5_ := Aside0.mk (bb_ hb BK532.out)
   have n6_ := Aside0.mk (bb_ hb BK538.out)
   have n7_ := Aside0.mk (below_step hb_ hb)
   have n8_ := Aside0.mk (hbox)
   have n9_ := Aside0.mk ((by rw [hg]; exact (below_size hb_) : w.heap.size ≤ gb549))
   have n10_ := Aside0.mk ((by rw [hg]; exact (below_size hb_) : w.heap.size ≤ gb549))
   have n11_ := Aside0.mk ((by rw [hg]; exact bnlt_ BK514.out : gb514 ≠ gb549))
   have n12_ := Aside0.mk ((by rw [hg]; exact bngt_ BK514.out : gb549 ≠ gb514))
   have n13_ := Aside0.mk ((by rw [hg]; exact bnlt_ BK515.out : gb515 ≠ gb549))
   have n14_ := Aside0.mk ((by rw [hg]; exact bngt_ BK515.out : gb549 ≠ gb515))
   have n15_ := Aside0.mk ((by rw [hg]; exact bnlt_ BK532.out : gb532 ≠ gb549))
   have n16_ := Aside0.mk ((by rw [hg]; exact bngt_ BK532.out : gb549 ≠ gb532))
   have n17_ := Aside0.mk ((by rw [hg]; exact bnlt_ BK538.out : gb538 ≠ gb549))
   have n18_ := Aside0.mk ((by rw [hg]; exact bngt_ BK538.out : gb549 ≠ gb538))
   clear HO521
   clear HO530
   clear HO537
   clear BK514
   clear BK515
   clear BK532
   clear BK538
   clear HB
   have HO521 := n0_
   have HO530 := n1_
   have HO537 := n2_
   have BK514 := n3_
   have BK515 := n4_
   have BK532 := n5_
   have BK538 := n6_
   have HB := n7_
   have BK549 := n8_
   have GW549 := n9_
   have GE549 := n10_
   have NB514_549 := n11_
   have NB549_514 := n12_
   have NB515_549 := n13_
   have NB549_515 := n14_
   have NB532_549 := n15_
   have NB549_532 := n16_
   have NB538_549 := n17_
   have NB549_538 := n18_
   clear n0_ n1_ n2_ n3_ n4_ n5_ n6_ n7_ n8_ n9_ n10_ n11_ n12_ n13_ n14_ n15_ n16_ n17_ n18_
   clear hb hbox hg
   refine hK.out _ _ ⟨bc_ BK538.out 0, bc_ BK538.out 1, bc_ BK538.out 2, bc_ BK515.out 0, bc_ BK515.out 1, bc_ BK515.out 2, bc_ BK515.out 3⟩ (fun hHeld => ?_)
   clear hK K
   refine norm_ (a' := ?_) ?_ ?_
   rotate_left
   ·show Act.put _ (some 9) _ = _
    simp only [Act.put, List.setIfInBounds_toArray, List.set_cons_zero, List.set_cons_succ, i64_w, i32_w]
    rfl
   refine one_ (i := 3) (N := some 35) #[true, true, true, true, false, false, false, true, false, false] rfl rfl (one_of HT_.out (by kernel_rfl)) (by decide) (fun K hK => ?_)
   refine goes_ Try.func36 (by kernel_rfl) rfl #[.agg #[.int .i64 t533, .int .i64 t534, .slice Ao41 t535.length co41], .agg #[.int .i64 t539, .int .i64 t540, .int .i64 t541, .int .i64 t542]] (by rfl) rfl rfl (by (try simp only [List.map_toArray, List.map_cons, List.map_nil]); first | done | rfl | (simp only [List.length_drop, List.length_take]; rfl)) ?_
   with_reducible refine (impl_AddClue.calls t533 t534 _ _ t535 t539 t540 t541 t542 t543 t544 t545 t548 _ ?side1 ?side2 A15.out).mono ?_
   (case side1 => repeat (first | exact (Kd.R_reads' HO537.out).2.2 | (with_reducible refine Kd.C_alloc ?_ _) | (with_reducible refine Kd.C_drewN ?_ _) | (with_reducible refine Kd.C_drew ?_)))
   (case side2 => exact (Kd.R_reads' HO537.out).2.1)
   rintro e w46 ⟨v546, rfl, ho0, hb⟩
   refine ⟨_, rfl, ?_⟩
   have n0_ := Aside0.mk (Kd.R_elder' (rh_ HO521.out) (Kd.R_base ho0) hb)
   have n1_ := Aside0.mk (Kd.R_elder' (rh_ HO530.out) (Kd.R_base ho0) hb)
   have n2_ := Aside0.mk (Kd.R_elder' (rh_ HO537.out) (Kd.R_base ho0) hb)
   have n3_ := Aside0.mk (Kd.R_lower (Kd.R_new' (Kd.R_new' (Kd.R_new' ho0 (Kd.R_lt (rh_ HO521.out))) (Kd.R_lt (rh_ HO530.out))) (Kd.R_lt (rh_ HO537.out))) (below_size hb_))
   have n4_ := Aside0.mk (bb_ hb BK514.out)
   have n5_ := Aside0.mk (bb_ hb BK515.out)
   have n6_ := Aside0.mk (bb_ hb BK532.out)
   have n7_ := Aside0.mk (bb_ hb BK538.out)
   have n8_ := Aside0.mk (bb_ hb BK549.out)
   have n9_ := Aside0.mk (below_step hb_ hb)
   clear HO521
   clear HO530
   clear HO537
   clear BK514
   clear BK515
   clear BK532
   clear BK538
   clear BK549
   clear HB
   have HO521 := n0_
   have HO530 := n1_
   have HO537 := n2_
   have HO547 := n3_
   have BK514 := n4_
   have BK515 := n5_
   have BK532 := n6_
   have BK538 := n7_
   have BK549 := n8_
   have HB := n9_
   clear n0_ n1_ n2_ n3_ n4_ n5_ n6_ n7_ n8_ n9_
   (try clear hb)
   (try clear ho0)
   refine hK.out _ _ ⟨bc_ BK538.out 0, bc_ BK538.out 1, bc_ BK538.out 2, bc_ BK515.out 0, bc_ BK515.out 1, bc_ BK515.out 2, bc_ BK515.out 3⟩ (fun hHeld => ?_)
   clear hK K
   refine norm_ (a' := ?_) ?_ ?_
   rotate_left
   ·show Act.put _ (some 35) _ = _
    simp only [Act.put, List.setIfInBounds_toArray, List.set_cons_zero, List.set_cons_succ, i64_w, i32_w]
    rfl
   refine pure_ (i := 4) (N := some 31) (v := ?_) (a' := ?_) #[true, true, true, true, true, false, false, true, false, false] rfl rfl (any_of HT_.out (by kernel_rfl)) (fun _ _ _ h => h) (Or.inl ⟨by rfl, ?_⟩) ?_ ?_
   rotate_left
   ·intro w'
    go_simp
    with_reducible rfl
   rotate_left
   ·simp only [Act.put, List.setIfInBounds_toArray, List.set_cons_zero, List.set_cons_succ, i64_w, i32_w]
    rfl
   refine pure_ (i := 5) (N := some 36) (v := ?_) (a' := ?_) #[true, true, true, true, true, true, false, true, false, false] rfl rfl (any_of HT_.out (by kernel_rfl)) (fun _ _ _ h => h) (Or.inl ⟨by rfl, ?_⟩) ?_ ?_
   rotate_left
   ·intro w'
    go_simp
    with_reducible rfl
   rotate_left
   ·simp only [Act.put, List.setIfInBounds_toArray, List.set_cons_zero, List.set_cons_succ, i64_w, i32_w]
    rfl
   refine pure_ (i := 6) (N := some 37) (v := ?_) (a' := ?_) #[true, true, true, true, true, true, true, true, false, false] rfl rfl (any_of HT_.out (by kernel_rfl)) (fun _ _ _ h => h) (Or.inl ⟨by rfl, ?_⟩) ?_ ?_
   rotate_left
   ·intro w'
    go_simp
    with_reducible rfl
   rotate_left
   ·simp only [Act.put, List.setIfInBounds_toArray, List.set_cons_zero, List.set_cons_succ, i64_w, i32_w]
    rfl
   exact norm_ (by simp only [putAll, Act.put, List.setIfInBounds_toArray, List.set_cons_zero, List.set_cons_succ]) (hCont (v546, gb549) _ ⟨hHeld, (rh_ (Kd.R_mono HO521.out (fun _ hk => ⟨hk.1.1, ⟨hk.1.2, hk.2⟩⟩))), (rh_ (Kd.R_mono HO530.out (fun _ hk => ⟨hk.1.1, ⟨hk.1.2, hk.2⟩⟩))), (rh_ (Kd.R_mono HO537.out (fun _ hk => ⟨hk.1.1, ⟨hk.1.2, hk.2⟩⟩))), (rh_ (Kd.R_mono HO547.out (fun _ hk => ⟨hk.1.1.2, ⟨hk.1.2, hk.2⟩⟩))), (bh_ BK514.out), (bh_ BK515.out), (bh_ BK532.out), (bh_ BK538.out), (bh_ BK549.out), GW549.out, GE549.out, NB514_549.out, NB549_514.out, NB515_549.out, NB549_515.out, NB532_549.out, NB549_532.out, NB538_549.out, NB549_538.out, hb_⟩)
  skip
  refine box_step ?hg (N := 9) ?hd (cs := #[.int .i64 0, .int .i64 0, .slice none 0 0]) (t := 42) ?hr ?_; (case hd => rfl); (case hg => rfl); (case hr => first | (go_simp; done) | (go_simp; rfl))
  intro gb549 hg w44 hbox hb
  have n0_ := Aside0.mk (Kd.R_below (rh_ HO521.out) hb)
  have n1_ := Aside0.mk (Kd.R_below (rh_ HO530.out) hb)
  have n2_ := Aside0.mk (Kd.R_below (rh_ HO537.out) hb)
  have n3_ := Aside0.mk (bb_ hb BK514.out)
  have n4_ := Aside0.mk (bb_ hb BK515.out)
  have n5_ := Aside0.mk (bb_ hb BK532.out)
  have n6_ := Aside0.mk (bb_ hb BK538.out)
  have n7_ := Aside0.mk (below_step hb_ hb)
  have n8_ := Aside0.mk (hbox)
  have n9_ := Aside0.mk ((by rw [hg]; exact (below_size hb_) : w.heap.size ≤ gb549))
  have n10_ := Aside0.mk ((by rw [hg]; exact (below_size hb_) : w.heap.size ≤ gb549))
  have n11_ := Aside0.mk ((by rw [hg]; exact bnlt_ BK514.out : gb514 ≠ gb549))
  have n12_ := Aside0.mk ((by rw [hg]; exact bngt_ BK514.out : gb549 ≠ gb514))
  have n13_ := Aside0.mk ((by rw [hg]; exact bnlt_ BK515.out : gb515 ≠ gb549))
  have n14_ := Aside0.mk ((by rw [hg]; exact bngt_ BK515.out : gb549 ≠ gb515))
  have n15_ := Aside0.mk ((by rw [hg]; exact bnlt_ BK532.out : gb532 ≠ gb549))
  have n16_ := Aside0.mk ((by rw [hg]; exact bngt_ BK532.out : gb549 ≠ gb532))
  have n17_ := Aside0.mk ((by rw [hg]; exact bnlt_ BK538.out : gb538 ≠ gb549))
  have n18_ := Aside0.mk ((by rw [hg]; exact bngt_ BK538.out : gb549 ≠ gb538))
  clear HO521
  clear HO530
  clear HO537
  clear BK514
  clear BK515
  clear BK532
  clear BK538
  clear HB
  have HO521 := n0_
  have HO530 := n1_
  have HO537 := n2_
  have BK514 := n3_
  have BK515 := n4_
  have BK532 := n5_
  have BK538 := n6_
  have HB := n7_
  have BK549 := n8_
  have GW549 := n9_
  have GE549 := n10_
  have NB514_549 := n11_
  have NB549_514 := n12_
  have NB515_549 := n13_
  have NB549_515 := n14_
  have NB532_549 := n15_
  have NB549_532 := n16_
  have NB538_549 := n17_
  have NB549_538 := n18_
  clear n0_ n1_ n2_ n3_ n4_ n5_ n6_ n7_ n8_ n9_ n10_ n11_ n12_ n13_ n14_ n15_ n16_ n17_ n18_
  clear hb hbox hg
  refine hK.out _ _ ⟨bc_ BK538.out 0, bc_ BK538.out 1, bc_ BK538.out 2, bc_ BK515.out 0, bc_ BK515.out 1, bc_ BK515.out 2, bc_ BK515.out 3⟩ (fun hHeld => ?_)
  clear hK K
  refine norm_ (a' := ?_) ?_ ?_
  rotate_left
  ·show Act.put _ (some 9) _ = _
   simp only [Act.put, List.setIfInBounds_toArray, List.set_cons_zero, List.set_cons_succ, i64_w, i32_w]
   rfl
  refine one_ (i := 2) (N := some 34) #[true, true, true, false, false, false, false, true, false, false] rfl rfl (one_of HT_.out (by kernel_rfl)) (by decide) (fun K hK => ?_)
  refine goes_ Try.func22 (by kernel_rfl) rfl #[.agg #[.int .i64 a1_0, .int .i64 a1_1, .int .i64 a1_2, .int .i64 a1_3]] (by rfl) rfl rfl (by (try simp only [List.map_toArray, List.map_cons, List.map_nil]); first | done | rfl | (simp only [List.length_drop, List.length_take]; rfl)) ?_
  with_reducible refine (laws_toClue.calls a1_0 a1_1 a1_2 a1_3 t539 t540 t541 t542 _ A14.out).mono ?_
  rintro e w45 ⟨rfl, hb⟩
  refine ⟨_, rfl, ?_⟩
  have n0_ := Aside0.mk (Kd.R_below (rh_ HO521.out) hb)
  have n1_ := Aside0.mk (Kd.R_below (rh_ HO530.out) hb)
  have n2_ := Aside0.mk (Kd.R_below (rh_ HO537.out) hb)
  have n3_ := Aside0.mk (bb_ hb BK514.out)
  have n4_ := Aside0.mk (bb_ hb BK515.out)
  have n5_ := Aside0.mk (bb_ hb BK532.out)
  have n6_ := Aside0.mk (bb_ hb BK538.out)
  have n7_ := Aside0.mk (bb_ hb BK549.out)
  have n8_ := Aside0.mk (below_step hb_ hb)
  clear HO521
  clear HO530
  clear HO537
  clear BK514
  clear BK515
  clear BK532
  clear BK538
  clear BK549
  clear HB
  have HO521 := n0_
  have HO530 := n1_
  have HO537 := n2_
  have BK514 := n3_
  have BK515 := n4_
  have BK532 := n5_
  have BK538 := n6_
  have BK549 := n7_
  have HB := n8_
  clear n0_ n1_ n2_ n3_ n4_ n5_ n6_ n7_ n8_
  (try clear hb)
  refine hK.out _ _ ⟨bc_ BK538.out 0, bc_ BK538.out 1, bc_ BK538.out 2, bc_ BK515.out 0, bc_ BK515.out 1, bc_ BK515.out 2, bc_ BK515.out 3⟩ (fun hHeld => ?_)
  clear hK K
  refine norm_ (a' := ?_) ?_ ?_
  rotate_left
  ·show Act.put _ (some 34) _ = _
   simp only [Act.put, List.setIfInBounds_toArray, List.set_cons_zero, List.set_cons_succ, i64_w, i32_w]
   rfl
  refine one_ (i := 3) (N := some 35) #[true, true, true, true, false, false, false, true, false, false] rfl rfl (one_of HT_.out (by kernel_rfl)) (by decide) (fun K hK => ?_)
  refine goes_ Try.func36 (by kernel_rfl) rfl #[.agg #[.int .i64 t533, .int .i64 t534, .slice Ao41 t535.length co41], .agg #[.int .i64 t539, .int .i64 t540, .int .i64 t541, .int .i64 t542]] (by rfl) rfl rfl (by (try simp only [List.map_toArray, List.map_cons, List.map_nil]); first | done | rfl | (simp only [List.length_drop, List.length_take]; rfl)) ?_
  with_reducible refine (impl_AddClue.calls t533 t534 _ _ t535 t539 t540 t541 t542 t543 t544 t545 t548 _ ?side1 ?side2 A15.out).mono ?_
  (case side1 => repeat (first | exact (Kd.R_reads' HO537.out).2.2 | (with_reducible refine Kd.C_alloc ?_ _) | (with_reducible refine Kd.C_drewN ?_ _) | (with_reducible refine Kd.C_drew ?_)))
  (case side2 => exact (Kd.R_reads' HO537.out).2.1)
  rintro e w46 ⟨v546, rfl, ho0, hb⟩
  refine ⟨_, rfl, ?_⟩
  have n0_ := Aside0.mk (Kd.R_elder' (rh_ HO521.out) (Kd.R_base ho0) hb)
  have n1_ := Aside0.mk (Kd.R_elder' (rh_ HO530.out) (Kd.R_base ho0) hb)
  have n2_ := Aside0.mk (Kd.R_elder' (rh_ HO537.out) (Kd.R_base ho0) hb)
  have n3_ := Aside0.mk (Kd.R_lower (Kd.R_new' (Kd.R_new' (Kd.R_new' ho0 (Kd.R_lt (rh_ HO521.out))) (Kd.R_lt (rh_ HO530.out))) (Kd.R_lt (rh_ HO537.out))) (below_size hb_))
  have n4_ := Aside0.mk (bb_ hb BK514.out)
  have n5_ := Aside0.mk (bb_ hb BK515.out)
  have n6_ := Aside0.mk (bb_ hb BK532.out)
  have n7_ := Aside0.mk (bb_ hb BK538.out)
  have n8_ := Aside0.mk (bb_ hb BK549.out)
  have n9_ := Aside0.mk (below_step hb_ hb)
  clear HO521
  clear HO530
  clear HO537
  clear BK514
  clear BK515
  clear BK532
  clear BK538
  clear BK549
  clear HB
  have HO521 := n0_
  have HO530 := n1_
  have HO537 := n2_
  have HO547 := n3_
  have BK514 := n4_
  have BK515 := n5_
  have BK532 := n6_
  have BK538 := n7_
  have BK549 := n8_
  have HB := n9_
  clear n0_ n1_ n2_ n3_ n4_ n5_ n6_ n7_ n8_ n9_
  (try clear hb)
  (try clear ho0)
  refine hK.out _ _ ⟨bc_ BK538.out 0, bc_ BK538.out 1, bc_ BK538.out 2, bc_ BK515.out 0, bc_ BK515.out 1, bc_ BK515.out 2, bc_ BK515.out 3⟩ (fun hHeld => ?_)
  clear hK K
  refine norm_ (a' := ?_) ?_ ?_
  rotate_left
  ·show Act.put _ (some 35) _ = _
   simp only [Act.put, List.setIfInBounds_toArray, List.set_cons_zero, List.set_cons_succ, i64_w, i32_w]
   rfl
  refine pure_ (i := 4) (N := some 31) (v := ?_) (a' := ?_) #[true, true, true, true, true, false, false, true, false, false] rfl rfl (any_of HT_.out (by kernel_rfl)) (fun _ _ _ h => h) (Or.inl ⟨by rfl, ?_⟩) ?_ ?_
  rotate_left
  ·intro w'
   go_simp
   with_reducible rfl
  rotate_left
  ·simp only [Act.put, List.setIfInBounds_toArray, List.set_cons_zero, List.set_cons_succ, i64_w, i32_w]
   rfl
  refine pure_ (i := 5) (N := some 36) (v := ?_) (a' := ?_) #[true, true, true, true, true, true, false, true, false, false] rfl rfl (any_of HT_.out (by kernel_rfl)) (fun _ _ _ h => h) (Or.inl ⟨by rfl, ?_⟩) ?_ ?_
  rotate_left
  ·intro w'
   go_simp
   with_reducible rfl
  rotate_left
  ·simp only [Act.put, List.setIfInBounds_toArray, List.set_cons_zero, List.set_cons_succ, i64_w, i32_w]
   rfl
  refine pure_ (i := 6) (N := some 37) (v := ?_) (a' := ?_) #[true, true, true, true, true, true, true, true, false, false] rfl rfl (any_of HT_.out (by kernel_rfl)) (fun _ _ _ h => h) (Or.inl ⟨by rfl, ?_⟩) ?_ ?_
  rotate_left
  ·intro w'
   go_simp
   with_reducible rfl
  rotate_left
  ·simp only [Act.put, List.setIfInBounds_toArray, List.set_cons_zero, List.set_cons_succ, i64_w, i32_w]
   rfl
  exact norm_ (by simp only [putAll, Act.put, List.setIfInBounds_toArray, List.set_cons_zero, List.set_cons_succ]) (hCont (v546, gb549) _ ⟨hHeld, (rh_ (Kd.R_mono HO521.out (fun _ hk => ⟨hk.1.1, ⟨hk.1.2, hk.2⟩⟩))), (rh_ (Kd.R_mono HO530.out (fun _ hk => ⟨hk.1.1, ⟨hk.1.2, hk.2⟩⟩))), (rh_ (Kd.R_mono HO537.out (fun _ hk => ⟨hk.1.1, ⟨hk.1.2, hk.2⟩⟩))), (rh_ (Kd.R_mono HO547.out (fun _ hk => ⟨hk.1.1.2, ⟨hk.1.2, hk.2⟩⟩))), (bh_ BK514.out), (bh_ BK515.out), (bh_ BK532.out), (bh_ BK538.out), (bh_ BK549.out), GW549.out, GE549.out, NB514_549.out, NB549_514.out, NB515_549.out, NB549_515.out, NB532_549.out, NB549_532.out, NB538_549.out, NB549_538.out, hb_⟩)
 rintro ⟨v546, gb549⟩ w47 ⟨hS_, h0_, h1_, h2_, h3_, h4_, h5_, h6_, h7_, h8_, h9_, h10_, h11_, h12_, h13_, h14_, h15_, h16_, h17_, h18_, h19_⟩
 have n0_ : Aside0 (Kd.R k28 28 w47 w.heap.size (fun k_ => some k_ ≠ (.slice Ao31 t528.length co31 : Value).ownBlock ∧ some k_ ≠ (.slice Ao41 t535.length co41 : Value).ownBlock ∧ some k_ ≠ (v546 : Value).ownBlock) v520 t519) := ⟨h0_⟩
 have n1_ : Aside0 (Kd.R k28 28 w47 w.heap.size (fun k_ => some k_ ≠ (v520 : Value).ownBlock ∧ some k_ ≠ (.slice Ao41 t535.length co41 : Value).ownBlock ∧ some k_ ≠ (v546 : Value).ownBlock) (.slice Ao31 t528.length co31) t528) := ⟨h1_⟩
 have n2_ : Aside0 (Kd.R k28 28 w47 w.heap.size (fun k_ => some k_ ≠ (v520 : Value).ownBlock ∧ some k_ ≠ (.slice Ao31 t528.length co31 : Value).ownBlock ∧ some k_ ≠ (v546 : Value).ownBlock) (.slice Ao41 t535.length co41) t535) := ⟨h2_⟩
 have n3_ : Aside0 (Kd.R k28 28 w47 w.heap.size (fun k_ => some k_ ≠ (v520 : Value).ownBlock ∧ some k_ ≠ (.slice Ao31 t528.length co31 : Value).ownBlock ∧ some k_ ≠ (.slice Ao41 t535.length co41 : Value).ownBlock) v546 t545) := ⟨h3_⟩
 have n4_ : Aside0 (w47.heap[gb514]? = some (.cells #[.int .i64 a0_0, .int .i64 a0_1, .slice A0_2 l0_2.length c0_2] 33 (0, 0))) := ⟨h4_⟩
 have n5_ : Aside0 (w47.heap[gb515]? = some (.cells #[.int .i64 a1_0, .int .i64 a1_1, .int .i64 a1_2, .int .i64 a1_3] 26 (0, 0))) := ⟨h5_⟩
 have n6_ : Aside0 (w47.heap[gb532]? = some (.cells #[.int .i64 t526, .int .i64 t527, .slice Ao31 t528.length co31] 42 (0, 0))) := ⟨h6_⟩
 have n7_ : Aside0 (w47.heap[gb538]? = some (.cells #[.int .i64 t533, .int .i64 t534, .slice Ao41 t535.length co41] 42 (0, 0))) := ⟨h7_⟩
 have n8_ : Aside0 (w47.heap[gb549]? = some (.cells #[.int .i64 0, .int .i64 0, .slice none 0 0] 42 (0, 0))) := ⟨h8_⟩
 have n9_ : Aside0 (w.heap.size ≤ gb549) := ⟨h9_⟩
 have n10_ : Aside0 (w.heap.size ≤ gb549) := ⟨h10_⟩
 have n11_ : Aside0 (gb514 ≠ gb549) := ⟨h11_⟩
 have n12_ : Aside0 (gb549 ≠ gb514) := ⟨h12_⟩
 have n13_ : Aside0 (gb515 ≠ gb549) := ⟨h13_⟩
 have n14_ : Aside0 (gb549 ≠ gb515) := ⟨h14_⟩
 have n15_ : Aside0 (gb532 ≠ gb549) := ⟨h15_⟩
 have n16_ : Aside0 (gb549 ≠ gb532) := ⟨h16_⟩
 have n17_ : Aside0 (gb538 ≠ gb549) := ⟨h17_⟩
 have n18_ : Aside0 (gb549 ≠ gb538) := ⟨h18_⟩
 have n19_ : Aside0 (Below w.heap.size w w47) := ⟨h19_⟩
 clear HO521
 clear HO530
 clear HO537
 clear BK514
 clear BK515
 clear BK532
 clear BK538
 clear HB
 clear h0_ h1_ h2_ h3_ h4_ h5_ h6_ h7_ h8_ h9_ h10_ h11_ h12_ h13_ h14_ h15_ h16_ h17_ h18_ h19_
 have HO521 := n0_
 have HO530 := n1_
 have HO537 := n2_
 have HO547 := n3_
 have BK514 := n4_
 have BK515 := n5_
 have BK532 := n6_
 have BK538 := n7_
 have BK549 := n8_
 have GW549 := n9_
 have GE549 := n10_
 have NB514_549 := n11_
 have NB549_514 := n12_
 have NB515_549 := n13_
 have NB549_515 := n14_
 have NB532_549 := n15_
 have NB549_532 := n16_
 have NB538_549 := n17_
 have NB549_538 := n18_
 have HB := n19_
 clear n0_ n1_ n2_ n3_ n4_ n5_ n6_ n7_ n8_ n9_ n10_ n11_ n12_ n13_ n14_ n15_ n16_ n17_ n18_ n19_
 have hHeld : w47.cell? ⟨gb538, 0, none⟩ = some (.int .i64 t533) ∧ w47.cell? ⟨gb538, 1, none⟩ = some (.int .i64 t534) ∧ w47.cell? ⟨gb538, 2, none⟩ = some (.slice Ao41 t535.length co41) ∧ w47.cell? ⟨gb515, 0, none⟩ = some (.int .i64 a1_0) ∧ w47.cell? ⟨gb515, 1, none⟩ = some (.int .i64 a1_1) ∧ w47.cell? ⟨gb515, 2, none⟩ = some (.int .i64 a1_2) ∧ w47.cell? ⟨gb515, 3, none⟩ = some (.int .i64 a1_3) := hS_
 obtain ⟨Ao50, co50, eo50⟩ := Kd.R_slice HO547.out
 (first | subst eo50 | (injection eo50 with f1_ f2_ f3_; have f4_ := f1_.symm; have f5_ := f3_.symm; clear f1_ f2_ f3_; subst f4_; subst f5_))
 refine norm_ (a' := ?_) ?_ ?_
 rotate_left
 ·simp only [putAll, Act.put, List.setIfInBounds_toArray, List.set_cons_zero, List.set_cons_succ]
  rfl
 refine one_ (i := 8) (N := none) #[true, true, true, true, true, true, true, true, true, false] rfl rfl (one_of HT_.out (by kernel_rfl)) (by decide) (fun K hK => ?_)
 have hs48 : w47.cell? ⟨gb549, 0, none⟩ = some (.int .i64 0) := bc_ BK549.out 0
 have hfs48 := blk_frozen BK549.out 0
 have hns48_0 := NB514_549.out
 have hns48_1 := NB515_549.out
 have hns48_2 := NB532_549.out
 have hns48_3 := NB538_549.out
 have hms48_0 := NB549_514.out
 have hms48_1 := NB549_515.out
 have hms48_2 := NB549_532.out
 have hms48_3 := NB549_538.out
 have hs49 : w47.cell? ⟨gb549, 1, none⟩ = some (.int .i64 0) := bc_ BK549.out 1
 have hfs49 := blk_frozen BK549.out 1
 have hns49_0 := NB514_549.out
 have hns49_1 := NB515_549.out
 have hns49_2 := NB532_549.out
 have hns49_3 := NB538_549.out
 have hms49_0 := NB549_514.out
 have hms49_1 := NB549_515.out
 have hms49_2 := NB549_532.out
 have hms49_3 := NB549_538.out
 have hs51 : w47.cell? ⟨gb549, 2, none⟩ = some (.slice none 0 0) := bc_ BK549.out 2
 have hfs51 := blk_frozen BK549.out 2
 have hns51_0 := NB514_549.out
 have hns51_1 := NB515_549.out
 have hns51_2 := NB532_549.out
 have hns51_3 := NB538_549.out
 have hms51_0 := NB549_514.out
 have hms51_1 := NB549_515.out
 have hms51_2 := NB549_532.out
 have hms51_3 := NB549_538.out
 refine skip_ (w1 := ?_) (by rfl) rfl ?_ ?_
 rotate_left
 ·go_simp
  rfl
 refine hK.out _ _ ⟨((cell_far (p := ⟨gb549, _, none⟩) NB538_549.out _).trans (((cell_far (p := ⟨gb549, _, none⟩) NB538_549.out _).trans (((cell_far (p := ⟨gb549, _, none⟩) NB538_549.out _).trans (hHeld.1)))))), ((cell_far (p := ⟨gb549, _, none⟩) NB538_549.out _).trans (((cell_far (p := ⟨gb549, _, none⟩) NB538_549.out _).trans (((cell_far (p := ⟨gb549, _, none⟩) NB538_549.out _).trans (hHeld.2.1)))))), ((cell_far (p := ⟨gb549, _, none⟩) NB538_549.out _).trans (((cell_far (p := ⟨gb549, _, none⟩) NB538_549.out _).trans (((cell_far (p := ⟨gb549, _, none⟩) NB538_549.out _).trans (hHeld.2.2.1)))))), ((cell_far (p := ⟨gb549, _, none⟩) NB515_549.out _).trans (((cell_far (p := ⟨gb549, _, none⟩) NB515_549.out _).trans (((cell_far (p := ⟨gb549, _, none⟩) NB515_549.out _).trans (hHeld.2.2.2.1)))))), ((cell_far (p := ⟨gb549, _, none⟩) NB515_549.out _).trans (((cell_far (p := ⟨gb549, _, none⟩) NB515_549.out _).trans (((cell_far (p := ⟨gb549, _, none⟩) NB515_549.out _).trans (hHeld.2.2.2.2.1)))))), ((cell_far (p := ⟨gb549, _, none⟩) NB515_549.out _).trans (((cell_far (p := ⟨gb549, _, none⟩) NB515_549.out _).trans (((cell_far (p := ⟨gb549, _, none⟩) NB515_549.out _).trans (hHeld.2.2.2.2.2.1)))))), ((cell_far (p := ⟨gb549, _, none⟩) NB515_549.out _).trans (((cell_far (p := ⟨gb549, _, none⟩) NB515_549.out _).trans (((cell_far (p := ⟨gb549, _, none⟩) NB515_549.out _).trans (hHeld.2.2.2.2.2.2))))))⟩ (fun hHeld => ?_)
 clear hK K
 refine pure_ (i := 9) (N := some 10) (v := ?_) (a' := ?_) #[true, true, true, true, true, true, true, true, true, true] rfl rfl (any_of HT_.out (by kernel_rfl)) (fun _ _ _ h => h) (Or.inl ⟨by rfl, ?_⟩) ?_ ?_
 rotate_left
 ·intro w'
  go_simp
  with_reducible rfl
 rotate_left
 ·simp only [Act.put, List.setIfInBounds_toArray, List.set_cons_zero, List.set_cons_succ, i64_w, i32_w]
  rfl
 refine done_ (done_of HT_.out (by kernel_rfl)) ?_
 go_upto_region 8 with (fail)
 go_cut [46] (fun v46 wc => ∃ (kq : Nat) (x46_15 : Bool), v46 = .bool x46_15 ∧ Aside0 (laws_FnExactAddClue.j0 kq t531 t548 x46_15 a0_0 a0_1 l0_2 a1_0 a1_1 a1_2 a1_3 t526 t527 t528 t533 t534 t535 t543 t544 t545 = some r) ∧ Aside0 (kq ≤ k) ∧ Aside0 (Kd.R k28 28 wc w.heap.size (fun k_ => some k_ ≠ ((.slice Ao41 t535.length co41) : Value).ownBlock ∧ some k_ ≠ ((.slice Ao50 t545.length co50) : Value).ownBlock) (.slice Ao31 t528.length co31) t528) ∧ Aside0 (Kd.R k28 28 wc w.heap.size (fun k_ => some k_ ≠ ((.slice Ao31 t528.length co31) : Value).ownBlock ∧ some k_ ≠ ((.slice Ao50 t545.length co50) : Value).ownBlock) (.slice Ao41 t535.length co41) t535) ∧ Aside0 (Kd.R k28 28 wc w.heap.size (fun k_ => some k_ ≠ ((.slice Ao31 t528.length co31) : Value).ownBlock ∧ some k_ ≠ ((.slice Ao41 t535.length co41) : Value).ownBlock) (.slice Ao50 t545.length co50) t545) ∧ Aside0 (wc.heap[gb514]? = some (.cells #[.int .i64 a0_0, .int .i64 a0_1, (.slice A0_2 l0_2.length c0_2)] 33 (0, 0))) ∧ Aside0 (wc.heap[gb515]? = some (.cells #[.int .i64 a1_0, .int .i64 a1_1, .int .i64 a1_2, .int .i64 a1_3] 26 (0, 0))) ∧ Aside0 (wc.heap[gb532]? = some (.cells #[.int .i64 t526, .int .i64 t527, (.slice Ao31 t528.length co31)] 42 (0, 0))) ∧ Aside0 (wc.heap[gb538]? = some (.cells #[.int .i64 t533, .int .i64 t534, (.slice Ao41 t535.length co41)] 42 (0, 0))) ∧ Aside0 (wc.heap[gb549]? = some (.cells #[.int .i64 t543, .int .i64 t544, (.slice Ao50 t545.length co50)] 42 (0, 0))) ∧ Aside0 (Below w.heap.size w wc))
 case first =>
  have H := HC16.out
  clear HC16
  replace H := Option.bind_eq_some_iff.mp H
  obtain ⟨t550, A520, H⟩ := H
  replace H : (if t550 = true then (laws_FnExactAddClue.j0 k t531 t548 (t548 != t531) a0_0 a0_1 l0_2 a1_0 a1_1 a1_2 a1_3 t526 t527 t528 t533 t534 t535 t543 t544 t545) else (laws_FnExactAddClue.j0 k t531 t548 true a0_0 a0_1 l0_2 a1_0 a1_1 a1_2 a1_3 t526 t527 t528 t533 t534 t535 t543 t544 t545)) = some r := H
  have A52 := Aside0.mk A520
  clear A520
  by_cases c53 : t550 = true
  ·subst c53
   have H1 : (laws_FnExactAddClue.j0 k t531 t548 (t548 != t531) a0_0 a0_1 l0_2 a1_0 a1_1 a1_2 a1_3 t526 t527 t528 t533 t534 t535 t543 t544 t545) = some r := by rw [if_pos rfl] at H; exact H
   clear H
   have H := H1
   clear H1
   have H' := Aside0.mk H
   clear H
   have hnb54 := NB549_514.out
   have hnc54 := NB514_549.out
   have hnb55 := NB549_515.out
   have hnc55 := NB515_549.out
   have hnb56 := NB549_532.out
   have hnc56 := NB532_549.out
   have hnb57 := NB549_538.out
   have hnc57 := NB538_549.out
   have hcz58_0 : w47.cell? ⟨gb549, 0, none⟩ = some (.int .i64 0) := bc_ BK549.out 0
   have hcz58_1 : w47.cell? ⟨gb549, 1, none⟩ = some (.int .i64 0) := bc_ BK549.out 1
   have hcz58_2 : w47.cell? ⟨gb549, 2, none⟩ = some (.slice none 0 0) := bc_ BK549.out 2
   have hfz58_0 := blk_frozen BK549.out 0
   have hfz58_1 := blk_frozen BK549.out 1
   have hfz58_2 := blk_frozen BK549.out 2
   have hnb59 := NB532_514.out
   have hnc59 := NB514_532.out
   have hnb60 := NB532_515.out
   have hnc60 := NB515_532.out
   have hnb61 := NB532_538.out
   have hnc61 := NB538_532.out
   have hcz62_0 : w47.cell? ⟨gb532, 0, none⟩ = some (.int .i64 t526) := bc_ BK532.out 0
   have hcz62_1 : w47.cell? ⟨gb532, 1, none⟩ = some (.int .i64 t527) := bc_ BK532.out 1
   have hcz62_2 : w47.cell? ⟨gb532, 2, none⟩ = some (.slice Ao31 t528.length co31) := bc_ BK532.out 2
   have hfz62_0 := blk_frozen BK532.out 0
   have hfz62_1 := blk_frozen BK532.out 1
   have hfz62_2 := blk_frozen BK532.out 2
   go_wp2_with (first | ((with_reducible refine gate_callee (f := 29) rfl ?_); refine goesL_ (some 40) rfl rfl Try.func29 (by kernel_rfl) rfl #[.agg #[.int .i64 t543, .int .i64 t544, .slice Ao50 t545.length co50], .agg #[.int .i64 t526, .int .i64 t527, .slice Ao31 t528.length co31]] rfl (by (try simp only [List.map_toArray, List.map_cons, List.map_nil]); first | done | rfl | (simp only [List.length_drop, List.length_take]; rfl)) ?_; (with_reducible refine (laws_eqPuzzle.calls k t543 t544 _ _ t545 t526 t527 _ _ t528 true _ ?side1 ?side2 ?side3 ?side4 A52.out).mono ?_); (case side1 => refine (Kd.R_reads' (e := 28) (base := w.heap.size) (ok := fun k_ => (some k_ ≠ (v520 : Value).ownBlock ∧ (some k_ ≠ (.slice Ao31 t528.length co31 : Value).ownBlock ∧ some k_ ≠ (.slice Ao41 t535.length co41 : Value).ownBlock))) (n := t545.length) (c := co50) ?_).2.2; exact (by (with_reducible repeat (first | apply Kd.R_alloc | apply Kd.R_drewN | apply Kd.R_drew)); exact (Kd.R_mono (Kd.R_far (p := ⟨gb549, 2, none⟩) (Kd.R_far (p := ⟨gb549, 1, none⟩) (Kd.R_far (p := ⟨gb549, 0, none⟩) (Kd.R_types HO547.out BK549.out (by decide)) (fun _ hk => hk.2) (.int .i64 t543)) (fun _ hk => hk.2) (.int .i64 t544)) (fun _ hk => hk.2) (.slice Ao50 t545.length co50)) (fun _ h_ => h_.1)))); (case side2 => exact (Kd.R_reads' HO547.out).2.1); (case side3 => refine (Kd.R_reads' (e := 28) (base := w.heap.size) (ok := fun k_ => (some k_ ≠ (v520 : Value).ownBlock ∧ (some k_ ≠ (.slice Ao41 t535.length co41 : Value).ownBlock ∧ some k_ ≠ (.slice Ao50 t545.length co50 : Value).ownBlock))) (n := t528.length) (c := co31) ?_).2.2; exact (by (with_reducible repeat (first | apply Kd.R_alloc | apply Kd.R_drewN | apply Kd.R_drew)); exact (Kd.R_mono (Kd.R_far (p := ⟨gb549, 2, none⟩) (Kd.R_far (p := ⟨gb549, 1, none⟩) (Kd.R_far (p := ⟨gb549, 0, none⟩) (Kd.R_types HO530.out BK549.out (by decide)) (fun _ hk => hk.2) (.int .i64 t543)) (fun _ hk => hk.2) (.int .i64 t544)) (fun _ hk => hk.2) (.slice Ao50 t545.length co50)) (fun _ h_ => h_.1)))); (case side4 => exact (Kd.R_reads' HO530.out).2.1); rintro e w63 ⟨rfl, hb⟩; refine ⟨_, rfl, ?_⟩; have n0_ := Aside0.mk (Kd.R_below (by (with_reducible repeat (first | apply Kd.R_alloc | apply Kd.R_drewN | apply Kd.R_drew)); exact (Kd.R_mono (Kd.R_far (p := ⟨gb549, 2, none⟩) (Kd.R_far (p := ⟨gb549, 1, none⟩) (Kd.R_far (p := ⟨gb549, 0, none⟩) (Kd.R_types HO521.out BK549.out (by decide)) (fun _ hk => hk.2) (.int .i64 t543)) (fun _ hk => hk.2) (.int .i64 t544)) (fun _ hk => hk.2) (.slice Ao50 t545.length co50)) (fun _ h_ => h_.1))) hb); have n1_ := Aside0.mk (Kd.R_below (by (with_reducible repeat (first | apply Kd.R_alloc | apply Kd.R_drewN | apply Kd.R_drew)); exact (Kd.R_mono (Kd.R_far (p := ⟨gb549, 2, none⟩) (Kd.R_far (p := ⟨gb549, 1, none⟩) (Kd.R_far (p := ⟨gb549, 0, none⟩) (Kd.R_types HO530.out BK549.out (by decide)) (fun _ hk => hk.2) (.int .i64 t543)) (fun _ hk => hk.2) (.int .i64 t544)) (fun _ hk => hk.2) (.slice Ao50 t545.length co50)) (fun _ h_ => h_.1))) hb); have n2_ := Aside0.mk (Kd.R_below (by (with_reducible repeat (first | apply Kd.R_alloc | apply Kd.R_drewN | apply Kd.R_drew)); exact (Kd.R_mono (Kd.R_far (p := ⟨gb549, 2, none⟩) (Kd.R_far (p := ⟨gb549, 1, none⟩) (Kd.R_far (p := ⟨gb549, 0, none⟩) (Kd.R_types HO537.out BK549.out (by decide)) (fun _ hk => hk.2) (.int .i64 t543)) (fun _ hk => hk.2) (.int .i64 t544)) (fun _ hk => hk.2) (.slice Ao50 t545.length co50)) (fun _ h_ => h_.1))) hb); have n3_ := Aside0.mk (Kd.R_below (by (with_reducible repeat (first | apply Kd.R_alloc | apply Kd.R_drewN | apply Kd.R_drew)); exact (Kd.R_mono (Kd.R_far (p := ⟨gb549, 2, none⟩) (Kd.R_far (p := ⟨gb549, 1, none⟩) (Kd.R_far (p := ⟨gb549, 0, none⟩) (Kd.R_types HO547.out BK549.out (by decide)) (fun _ hk => hk.2) (.int .i64 t543)) (fun _ hk => hk.2) (.int .i64 t544)) (fun _ hk => hk.2) (.slice Ao50 t545.length co50)) (fun _ h_ => h_.1))) hb); have n4_ := Aside0.mk (blk_below (g := gb514) (o := .cells #[.int .i64 a0_0, .int .i64 a0_1, .slice A0_2 l0_2.length c0_2] 33 (0, 0)) (by (with_reducible repeat (first | refine blk_drewN ?_ _ | refine blk_drew ?_ | refine blk_alloc ?_ _)); refine blk_far ?_ NB514_549.out _; (with_reducible repeat (first | refine blk_drewN ?_ _ | refine blk_drew ?_ | refine blk_alloc ?_ _)); refine blk_far ?_ NB514_549.out _; (with_reducible repeat (first | refine blk_drewN ?_ _ | refine blk_drew ?_ | refine blk_alloc ?_ _)); refine blk_far ?_ NB514_549.out _; (with_reducible repeat (first | refine blk_drewN ?_ _ | refine blk_drew ?_ | refine blk_alloc ?_ _)); exact BK514.out) hb); have n5_ := Aside0.mk (blk_below (g := gb515) (o := .cells #[.int .i64 a1_0, .int .i64 a1_1, .int .i64 a1_2, .int .i64 a1_3] 26 (0, 0)) (by (with_reducible repeat (first | refine blk_drewN ?_ _ | refine blk_drew ?_ | refine blk_alloc ?_ _)); refine blk_far ?_ NB515_549.out _; (with_reducible repeat (first | refine blk_drewN ?_ _ | refine blk_drew ?_ | refine blk_alloc ?_ _)); refine blk_far ?_ NB515_549.out _; (with_reducible repeat (first | refine blk_drewN ?_ _ | refine blk_drew ?_ | refine blk_alloc ?_ _)); refine blk_far ?_ NB515_549.out _; (with_reducible repeat (first | refine blk_drewN ?_ _ | refine blk_drew ?_ | refine blk_alloc ?_ _)); exact BK515.out) hb); have n6_ := Aside0.mk (blk_below (g := gb532) (o := .cells #[.int .i64 t526, .int .i64 t527, .slice Ao31 t528.length co31] 42 (0, 0)) (by (with_reducible repeat (first | refine blk_drewN ?_ _ | refine blk_drew ?_ | refine blk_alloc ?_ _)); refine blk_far ?_ NB532_549.out _; (with_reducible repeat (first | refine blk_drewN ?_ _ | refine blk_drew ?_ | refine blk_alloc ?_ _)); refine blk_far ?_ NB532_549.out _; (with_reducible repeat (first | refine blk_drewN ?_ _ | refine blk_drew ?_ | refine blk_alloc ?_ _)); refine blk_far ?_ NB532_549.out _; (with_reducible repeat (first | refine blk_drewN ?_ _ | refine blk_drew ?_ | refine blk_alloc ?_ _)); exact BK532.out) hb); have n7_ := Aside0.mk (blk_below (g := gb538) (o := .cells #[.int .i64 t533, .int .i64 t534, .slice Ao41 t535.length co41] 42 (0, 0)) (by (with_reducible repeat (first | refine blk_drewN ?_ _ | refine blk_drew ?_ | refine blk_alloc ?_ _)); refine blk_far ?_ NB538_549.out _; (with_reducible repeat (first | refine blk_drewN ?_ _ | refine blk_drew ?_ | refine blk_alloc ?_ _)); refine blk_far ?_ NB538_549.out _; (with_reducible repeat (first | refine blk_drewN ?_ _ | refine blk_drew ?_ | refine blk_alloc ?_ _)); refine blk_far ?_ NB538_549.out _; (with_reducible repeat (first | refine blk_drewN ?_ _ | refine blk_drew ?_ | refine blk_alloc ?_ _)); exact BK538.out) hb); have n8_ := Aside0.mk (blk_below (g := gb549) (o := .cells #[.int .i64 t543, .int .i64 t544, .slice Ao50 t545.length co50] 42 (0, 0)) (by (with_reducible repeat (first | refine blk_drewN ?_ _ | refine blk_drew ?_ | refine blk_alloc ?_ _)); refine blk_put (cs := #[.int .i64 t543, .int .i64 t544, .slice none 0 0]) ?_ 2 _ rfl; (with_reducible repeat (first | refine blk_drewN ?_ _ | refine blk_drew ?_ | refine blk_alloc ?_ _)); refine blk_put (cs := #[.int .i64 t543, .int .i64 0, .slice none 0 0]) ?_ 1 _ rfl; (with_reducible repeat (first | refine blk_drewN ?_ _ | refine blk_drew ?_ | refine blk_alloc ?_ _)); refine blk_put (cs := #[.int .i64 0, .int .i64 0, .slice none 0 0]) ?_ 0 _ rfl; (with_reducible repeat (first | refine blk_drewN ?_ _ | refine blk_drew ?_ | refine blk_alloc ?_ _)); exact BK549.out) hb); have n9_ := Aside0.mk (below_step hb_ hb); clear HO521; clear HO530; clear HO537; clear HO547; clear BK514; clear BK515; clear BK532; clear BK538; clear BK549; clear HB; have HO521 := n0_; have HO530 := n1_; have HO537 := n2_; have HO547 := n3_; have BK514 := n4_; have BK515 := n5_; have BK532 := n6_; have BK538 := n7_; have BK549 := n8_; have HB := n9_; clear n0_ n1_ n2_ n3_ n4_ n5_ n6_ n7_ n8_ n9_; (try clear hb)))
   go_meet
   case rel => exact ⟨_, ((t548 != t531)), (by first | rfl | (simp; done) | (simp [*]; done)), H', ⟨by first | omega | exact Nat.le_refl _⟩, ⟨by (with_reducible repeat (first | apply Kd.R_alloc | apply Kd.R_drewN | apply Kd.R_drew)); exact Kd.R_mono HO530.out (fun _ hk => ⟨hk.2.1, hk.2.2⟩)⟩, ⟨by (with_reducible repeat (first | apply Kd.R_alloc | apply Kd.R_drewN | apply Kd.R_drew)); exact Kd.R_mono HO537.out (fun _ hk => ⟨hk.2.1, hk.2.2⟩)⟩, ⟨by (with_reducible repeat (first | apply Kd.R_alloc | apply Kd.R_drewN | apply Kd.R_drew)); exact Kd.R_mono HO547.out (fun _ hk => ⟨hk.2.1, hk.2.2⟩)⟩, ⟨by (with_reducible repeat (first | refine blk_drewN ?_ _ | refine blk_drew ?_ | refine blk_alloc ?_ _)); exact BK514.out⟩, ⟨by (with_reducible repeat (first | refine blk_drewN ?_ _ | refine blk_drew ?_ | refine blk_alloc ?_ _)); exact BK515.out⟩, ⟨by (with_reducible repeat (first | refine blk_drewN ?_ _ | refine blk_drew ?_ | refine blk_alloc ?_ _)); exact BK532.out⟩, ⟨by (with_reducible repeat (first | refine blk_drewN ?_ _ | refine blk_drew ?_ | refine blk_alloc ?_ _)); exact BK538.out⟩, ⟨by (with_reducible repeat (first | refine blk_drewN ?_ _ | refine blk_drew ?_ | refine blk_alloc ?_ _)); exact BK549.out⟩, ⟨hb_⟩⟩
  replace c53 := Bool.eq_false_iff.mpr c53
  subst c53
  have H1 : (laws_FnExactAddClue.j0 k t531 t548 true a0_0 a0_1 l0_2 a1_0 a1_1 a1_2 a1_3 t526 t527 t528 t533 t534 t535 t543 t544 t545) = some r := by rw [if_neg (show ¬ (false = true) by decide)] at H; exact H
  clear H
  have H := H1
  clear H1
  have H' := Aside0.mk H
  clear H
  have hnb64 := NB549_514.out
  have hnc64 := NB514_549.out
  have hnb65 := NB549_515.out
  have hnc65 := NB515_549.out
  have hnb66 := NB549_532.out
  have hnc66 := NB532_549.out
  have hnb67 := NB549_538.out
  have hnc67 := NB538_549.out
  have hcz68_0 : w47.cell? ⟨gb549, 0, none⟩ = some (.int .i64 0) := bc_ BK549.out 0
  have hcz68_1 : w47.cell? ⟨gb549, 1, none⟩ = some (.int .i64 0) := bc_ BK549.out 1
  have hcz68_2 : w47.cell? ⟨gb549, 2, none⟩ = some (.slice none 0 0) := bc_ BK549.out 2
  have hfz68_0 := blk_frozen BK549.out 0
  have hfz68_1 := blk_frozen BK549.out 1
  have hfz68_2 := blk_frozen BK549.out 2
  have hnb69 := NB532_514.out
  have hnc69 := NB514_532.out
  have hnb70 := NB532_515.out
  have hnc70 := NB515_532.out
  have hnb71 := NB532_538.out
  have hnc71 := NB538_532.out
  have hcz72_0 : w47.cell? ⟨gb532, 0, none⟩ = some (.int .i64 t526) := bc_ BK532.out 0
  have hcz72_1 : w47.cell? ⟨gb532, 1, none⟩ = some (.int .i64 t527) := bc_ BK532.out 1
  have hcz72_2 : w47.cell? ⟨gb532, 2, none⟩ = some (.slice Ao31 t528.length co31) := bc_ BK532.out 2
  have hfz72_0 := blk_frozen BK532.out 0
  have hfz72_1 := blk_frozen BK532.out 1
  have hfz72_2 := blk_frozen BK532.out 2
  go_wp2_with (first | ((with_reducible refine gate_callee (f := 29) rfl ?_); refine goesL_ (some 40) rfl rfl Try.func29 (by kernel_rfl) rfl #[.agg #[.int .i64 t543, .int .i64 t544, .slice Ao50 t545.length co50], .agg #[.int .i64 t526, .int .i64 t527, .slice Ao31 t528.length co31]] rfl (by (try simp only [List.map_toArray, List.map_cons, List.map_nil]); first | done | rfl | (simp only [List.length_drop, List.length_take]; rfl)) ?_; (with_reducible refine (laws_eqPuzzle.calls k t543 t544 _ _ t545 t526 t527 _ _ t528 false _ ?side1 ?side2 ?side3 ?side4 A52.out).mono ?_); (case side1 => refine (Kd.R_reads' (e := 28) (base := w.heap.size) (ok := fun k_ => (some k_ ≠ (v520 : Value).ownBlock ∧ (some k_ ≠ (.slice Ao31 t528.length co31 : Value).ownBlock ∧ some k_ ≠ (.slice Ao41 t535.length co41 : Value).ownBlock))) (n := t545.length) (c := co50) ?_).2.2; exact (by (with_reducible repeat (first | apply Kd.R_alloc | apply Kd.R_drewN | apply Kd.R_drew)); exact (Kd.R_mono (Kd.R_far (p := ⟨gb549, 2, none⟩) (Kd.R_far (p := ⟨gb549, 1, none⟩) (Kd.R_far (p := ⟨gb549, 0, none⟩) (Kd.R_types HO547.out BK549.out (by decide)) (fun _ hk => hk.2) (.int .i64 t543)) (fun _ hk => hk.2) (.int .i64 t544)) (fun _ hk => hk.2) (.slice Ao50 t545.length co50)) (fun _ h_ => h_.1)))); (case side2 => exact (Kd.R_reads' HO547.out).2.1); (case side3 => refine (Kd.R_reads' (e := 28) (base := w.heap.size) (ok := fun k_ => (some k_ ≠ (v520 : Value).ownBlock ∧ (some k_ ≠ (.slice Ao41 t535.length co41 : Value).ownBlock ∧ some k_ ≠ (.slice Ao50 t545.length co50 : Value).ownBlock))) (n := t528.length) (c := co31) ?_).2.2; exact (by (with_reducible repeat (first | apply Kd.R_alloc | apply Kd.R_drewN | apply Kd.R_drew)); exact (Kd.R_mono (Kd.R_far (p := ⟨gb549, 2, none⟩) (Kd.R_far (p := ⟨gb549, 1, none⟩) (Kd.R_far (p := ⟨gb549, 0, none⟩) (Kd.R_types HO530.out BK549.out (by decide)) (fun _ hk => hk.2) (.int .i64 t543)) (fun _ hk => hk.2) (.int .i64 t544)) (fun _ hk => hk.2) (.slice Ao50 t545.length co50)) (fun _ h_ => h_.1)))); (case side4 => exact (Kd.R_reads' HO530.out).2.1); rintro e w73 ⟨rfl, hb⟩; refine ⟨_, rfl, ?_⟩; have n0_ := Aside0.mk (Kd.R_below (by (with_reducible repeat (first | apply Kd.R_alloc | apply Kd.R_drewN | apply Kd.R_drew)); exact (Kd.R_mono (Kd.R_far (p := ⟨gb549, 2, none⟩) (Kd.R_far (p := ⟨gb549, 1, none⟩) (Kd.R_far (p := ⟨gb549, 0, none⟩) (Kd.R_types HO521.out BK549.out (by decide)) (fun _ hk => hk.2) (.int .i64 t543)) (fun _ hk => hk.2) (.int .i64 t544)) (fun _ hk => hk.2) (.slice Ao50 t545.length co50)) (fun _ h_ => h_.1))) hb); have n1_ := Aside0.mk (Kd.R_below (by (with_reducible repeat (first | apply Kd.R_alloc | apply Kd.R_drewN | apply Kd.R_drew)); exact (Kd.R_mono (Kd.R_far (p := ⟨gb549, 2, none⟩) (Kd.R_far (p := ⟨gb549, 1, none⟩) (Kd.R_far (p := ⟨gb549, 0, none⟩) (Kd.R_types HO530.out BK549.out (by decide)) (fun _ hk => hk.2) (.int .i64 t543)) (fun _ hk => hk.2) (.int .i64 t544)) (fun _ hk => hk.2) (.slice Ao50 t545.length co50)) (fun _ h_ => h_.1))) hb); have n2_ := Aside0.mk (Kd.R_below (by (with_reducible repeat (first | apply Kd.R_alloc | apply Kd.R_drewN | apply Kd.R_drew)); exact (Kd.R_mono (Kd.R_far (p := ⟨gb549, 2, none⟩) (Kd.R_far (p := ⟨gb549, 1, none⟩) (Kd.R_far (p := ⟨gb549, 0, none⟩) (Kd.R_types HO537.out BK549.out (by decide)) (fun _ hk => hk.2) (.int .i64 t543)) (fun _ hk => hk.2) (.int .i64 t544)) (fun _ hk => hk.2) (.slice Ao50 t545.length co50)) (fun _ h_ => h_.1))) hb); have n3_ := Aside0.mk (Kd.R_below (by (with_reducible repeat (first | apply Kd.R_alloc | apply Kd.R_drewN | apply Kd.R_drew)); exact (Kd.R_mono (Kd.R_far (p := ⟨gb549, 2, none⟩) (Kd.R_far (p := ⟨gb549, 1, none⟩) (Kd.R_far (p := ⟨gb549, 0, none⟩) (Kd.R_types HO547.out BK549.out (by decide)) (fun _ hk => hk.2) (.int .i64 t543)) (fun _ hk => hk.2) (.int .i64 t544)) (fun _ hk => hk.2) (.slice Ao50 t545.length co50)) (fun _ h_ => h_.1))) hb); have n4_ := Aside0.mk (blk_below (g := gb514) (o := .cells #[.int .i64 a0_0, .int .i64 a0_1, .slice A0_2 l0_2.length c0_2] 33 (0, 0)) (by (with_reducible repeat (first | refine blk_drewN ?_ _ | refine blk_drew ?_ | refine blk_alloc ?_ _)); refine blk_far ?_ NB514_549.out _; (with_reducible repeat (first | refine blk_drewN ?_ _ | refine blk_drew ?_ | refine blk_alloc ?_ _)); refine blk_far ?_ NB514_549.out _; (with_reducible repeat (first | refine blk_drewN ?_ _ | refine blk_drew ?_ | refine blk_alloc ?_ _)); refine blk_far ?_ NB514_549.out _; (with_reducible repeat (first | refine blk_drewN ?_ _ | refine blk_drew ?_ | refine blk_alloc ?_ _)); exact BK514.out) hb); have n5_ := Aside0.mk (blk_below (g := gb515) (o := .cells #[.int .i64 a1_0, .int .i64 a1_1, .int .i64 a1_2, .int .i64 a1_3] 26 (0, 0)) (by (with_reducible repeat (first | refine blk_drewN ?_ _ | refine blk_drew ?_ | refine blk_alloc ?_ _)); refine blk_far ?_ NB515_549.out _; (with_reducible repeat (first | refine blk_drewN ?_ _ | refine blk_drew ?_ | refine blk_alloc ?_ _)); refine blk_far ?_ NB515_549.out _; (with_reducible repeat (first | refine blk_drewN ?_ _ | refine blk_drew ?_ | refine blk_alloc ?_ _)); refine blk_far ?_ NB515_549.out _; (with_reducible repeat (first | refine blk_drewN ?_ _ | refine blk_drew ?_ | refine blk_alloc ?_ _)); exact BK515.out) hb); have n6_ := Aside0.mk (blk_below (g := gb532) (o := .cells #[.int .i64 t526, .int .i64 t527, .slice Ao31 t528.length co31] 42 (0, 0)) (by (with_reducible repeat (first | refine blk_drewN ?_ _ | refine blk_drew ?_ | refine blk_alloc ?_ _)); refine blk_far ?_ NB532_549.out _; (with_reducible repeat (first | refine blk_drewN ?_ _ | refine blk_drew ?_ | refine blk_alloc ?_ _)); refine blk_far ?_ NB532_549.out _; (with_reducible repeat (first | refine blk_drewN ?_ _ | refine blk_drew ?_ | refine blk_alloc ?_ _)); refine blk_far ?_ NB532_549.out _; (with_reducible repeat (first | refine blk_drewN ?_ _ | refine blk_drew ?_ | refine blk_alloc ?_ _)); exact BK532.out) hb); have n7_ := Aside0.mk (blk_below (g := gb538) (o := .cells #[.int .i64 t533, .int .i64 t534, .slice Ao41 t535.length co41] 42 (0, 0)) (by (with_reducible repeat (first | refine blk_drewN ?_ _ | refine blk_drew ?_ | refine blk_alloc ?_ _)); refine blk_far ?_ NB538_549.out _; (with_reducible repeat (first | refine blk_drewN ?_ _ | refine blk_drew ?_ | refine blk_alloc ?_ _)); refine blk_far ?_ NB538_549.out _; (with_reducible repeat (first | refine blk_drewN ?_ _ | refine blk_drew ?_ | refine blk_alloc ?_ _)); refine blk_far ?_ NB538_549.out _; (with_reducible repeat (first | refine blk_drewN ?_ _ | refine blk_drew ?_ | refine blk_alloc ?_ _)); exact BK538.out) hb); have n8_ := Aside0.mk (blk_below (g := gb549) (o := .cells #[.int .i64 t543, .int .i64 t544, .slice Ao50 t545.length co50] 42 (0, 0)) (by (with_reducible repeat (first | refine blk_drewN ?_ _ | refine blk_drew ?_ | refine blk_alloc ?_ _)); refine blk_put (cs := #[.int .i64 t543, .int .i64 t544, .slice none 0 0]) ?_ 2 _ rfl; (with_reducible repeat (first | refine blk_drewN ?_ _ | refine blk_drew ?_ | refine blk_alloc ?_ _)); refine blk_put (cs := #[.int .i64 t543, .int .i64 0, .slice none 0 0]) ?_ 1 _ rfl; (with_reducible repeat (first | refine blk_drewN ?_ _ | refine blk_drew ?_ | refine blk_alloc ?_ _)); refine blk_put (cs := #[.int .i64 0, .int .i64 0, .slice none 0 0]) ?_ 0 _ rfl; (with_reducible repeat (first | refine blk_drewN ?_ _ | refine blk_drew ?_ | refine blk_alloc ?_ _)); exact BK549.out) hb); have n9_ := Aside0.mk (below_step hb_ hb); clear HO521; clear HO530; clear HO537; clear HO547; clear BK514; clear BK515; clear BK532; clear BK538; clear BK549; clear HB; have HO521 := n0_; have HO530 := n1_; have HO537 := n2_; have HO547 := n3_; have BK514 := n4_; have BK515 := n5_; have BK532 := n6_; have BK538 := n7_; have BK549 := n8_; have HB := n9_; clear n0_ n1_ n2_ n3_ n4_ n5_ n6_ n7_ n8_ n9_; (try clear hb)))
  go_meet
  case rel => exact ⟨_, (true), (by first | rfl | (simp; done) | (simp [*]; done)), H', ⟨by first | omega | exact Nat.le_refl _⟩, ⟨by (with_reducible repeat (first | apply Kd.R_alloc | apply Kd.R_drewN | apply Kd.R_drew)); exact Kd.R_mono HO530.out (fun _ hk => ⟨hk.2.1, hk.2.2⟩)⟩, ⟨by (with_reducible repeat (first | apply Kd.R_alloc | apply Kd.R_drewN | apply Kd.R_drew)); exact Kd.R_mono HO537.out (fun _ hk => ⟨hk.2.1, hk.2.2⟩)⟩, ⟨by (with_reducible repeat (first | apply Kd.R_alloc | apply Kd.R_drewN | apply Kd.R_drew)); exact Kd.R_mono HO547.out (fun _ hk => ⟨hk.2.1, hk.2.2⟩)⟩, ⟨by (with_reducible repeat (first | refine blk_drewN ?_ _ | refine blk_drew ?_ | refine blk_alloc ?_ _)); exact BK514.out⟩, ⟨by (with_reducible repeat (first | refine blk_drewN ?_ _ | refine blk_drew ?_ | refine blk_alloc ?_ _)); exact BK515.out⟩, ⟨by (with_reducible repeat (first | refine blk_drewN ?_ _ | refine blk_drew ?_ | refine blk_alloc ?_ _)); exact BK532.out⟩, ⟨by (with_reducible repeat (first | refine blk_drewN ?_ _ | refine blk_drew ?_ | refine blk_alloc ?_ _)); exact BK538.out⟩, ⟨by (with_reducible repeat (first | refine blk_drewN ?_ _ | refine blk_drew ?_ | refine blk_alloc ?_ _)); exact BK549.out⟩, ⟨hb_⟩⟩
 case rest =>
  clear HC16
  try clear c2
  try clear p2
  try clear c3
  try clear c5
  try clear c6
  try clear c7
  try clear c22
  try clear c29
  try clear c36
  try clear c53
  try clear c54
  try clear c55
  try clear c56
  try clear c57
  try clear c59
  try clear c60
  try clear c61
  try clear c64
  try clear c65
  try clear c66
  try clear c67
  try clear c69
  try clear c70
  try clear c71
  try clear hcz58_0
  try clear hcz58_1
  try clear hcz58_2
  try clear hcz62_0
  try clear hcz62_1
  try clear hcz62_2
  try clear hcz68_0
  try clear hcz68_1
  try clear hcz68_2
  try clear hcz72_0
  try clear hcz72_1
  try clear hcz72_2
  try clear hfz58_0
  try clear hfz58_1
  try clear hfz58_2
  try clear hfz62_0
  try clear hfz62_1
  try clear hfz62_2
  try clear hfz68_0
  try clear hfz68_1
  try clear hfz68_2
  try clear hfz72_0
  try clear hfz72_1
  try clear hfz72_2
  obtain ⟨kq, x46_15, rfl, HA, HJ15, HO_533002, HO_539002, HO_550002, BK514, BK515, BK532, BK538, BK549, HB⟩ := hcut
  cases kq with
  | zero => exact absurd HA.out (by simp [laws_FnExactAddClue.j0])
  | succ kj15 =>
   have H := HA.out
   clear HA
   simp only [laws_FnExactAddClue.j0] at H
   by_cases c74 : x46_15 = true
   ·subst c74
    have H1 : (some false) = some r := by rw [if_pos rfl] at H; exact H
    clear H
    have H := H1
    clear H1
    obtain rfl := Option.some.inj H
    go_wp2
    go_ret
    exact ⟨by first | rfl | (simp [errW_none, errW_some] <;> rfl) | (simp [*, errW_none, errW_some] <;> rfl), hb_⟩
   replace c74 := Bool.eq_false_iff.mpr c74
   subst c74
   have H1 : ((laws_toPuzzle.f kj15 a0_0 a0_1 l0_2).bind fun bt551 => ((laws_eqPuzzle.f kj15 t533 t534 t535 bt551.1 bt551.2.1 bt551.2.2).bind fun t556 => (if t556 = true then ((laws_markPuzzle.f kj15 t533 t534 t535 1).bind fun bt557 => (if bt557.1 < 0 then (laws_FnExactAddClue.j1 kj15 t531 true a0_0 a0_1 l0_2 a1_0 a1_1 a1_2 a1_3 t526 t527 t528 t543 t544 t545) else ((laws_eqPuzzle.f kj15 t543 t544 t545 t526 t527 t528).bind fun t559 => (if t559 = true then (laws_FnExactAddClue.j1 kj15 t531 (t548 != t531) a0_0 a0_1 l0_2 a1_0 a1_1 a1_2 a1_3 t526 t527 t528 t543 t544 t545) else (laws_FnExactAddClue.j1 kj15 t531 true a0_0 a0_1 l0_2 a1_0 a1_1 a1_2 a1_3 t526 t527 t528 t543 t544 t545))))) else (some false)))) = some r := by rw [if_neg (show ¬ (false = true) by decide)] at H; exact H
   clear H
   have H := H1
   clear H1
   replace H := Option.bind_eq_some_iff.mp H
   obtain ⟨⟨t551, t552, t553⟩, A750, H⟩ := H
   replace H : ((laws_eqPuzzle.f kj15 t533 t534 t535 t551 t552 t553).bind fun t556 => (if t556 = true then ((laws_markPuzzle.f kj15 t533 t534 t535 1).bind fun bt557 => (if bt557.1 < 0 then (laws_FnExactAddClue.j1 kj15 t531 true a0_0 a0_1 l0_2 a1_0 a1_1 a1_2 a1_3 t526 t527 t528 t543 t544 t545) else ((laws_eqPuzzle.f kj15 t543 t544 t545 t526 t527 t528).bind fun t559 => (if t559 = true then (laws_FnExactAddClue.j1 kj15 t531 (t548 != t531) a0_0 a0_1 l0_2 a1_0 a1_1 a1_2 a1_3 t526 t527 t528 t543 t544 t545) else (laws_FnExactAddClue.j1 kj15 t531 true a0_0 a0_1 l0_2 a1_0 a1_1 a1_2 a1_3 t526 t527 t528 t543 t544 t545))))) else (some false))) = some r := H
   have A75 := Aside0.mk A750
   clear A750
   replace H := Option.bind_eq_some_iff.mp H
   obtain ⟨t556, A760, H⟩ := H
   replace H : (if t556 = true then ((laws_markPuzzle.f kj15 t533 t534 t535 1).bind fun bt557 => (if bt557.1 < 0 then (laws_FnExactAddClue.j1 kj15 t531 true a0_0 a0_1 l0_2 a1_0 a1_1 a1_2 a1_3 t526 t527 t528 t543 t544 t545) else ((laws_eqPuzzle.f kj15 t543 t544 t545 t526 t527 t528).bind fun t559 => (if t559 = true then (laws_FnExactAddClue.j1 kj15 t531 (t548 != t531) a0_0 a0_1 l0_2 a1_0 a1_1 a1_2 a1_3 t526 t527 t528 t543 t544 t545) else (laws_FnExactAddClue.j1 kj15 t531 true a0_0 a0_1 l0_2 a1_0 a1_1 a1_2 a1_3 t526 t527 t528 t543 t544 t545))))) else (some false)) = some r := H
   have A76 := Aside0.mk A760
   clear A760
   by_cases c77 : t556 = true
   ·subst c77
    have H1 : ((laws_markPuzzle.f kj15 t533 t534 t535 1).bind fun bt557 => (if bt557.1 < 0 then (laws_FnExactAddClue.j1 kj15 t531 true a0_0 a0_1 l0_2 a1_0 a1_1 a1_2 a1_3 t526 t527 t528 t543 t544 t545) else ((laws_eqPuzzle.f kj15 t543 t544 t545 t526 t527 t528).bind fun t559 => (if t559 = true then (laws_FnExactAddClue.j1 kj15 t531 (t548 != t531) a0_0 a0_1 l0_2 a1_0 a1_1 a1_2 a1_3 t526 t527 t528 t543 t544 t545) else (laws_FnExactAddClue.j1 kj15 t531 true a0_0 a0_1 l0_2 a1_0 a1_1 a1_2 a1_3 t526 t527 t528 t543 t544 t545))))) = some r := by rw [if_pos rfl] at H; exact H
    clear H
    have H := H1
    clear H1
    replace H := Option.bind_eq_some_iff.mp H
    obtain ⟨⟨t557, t558⟩, A780, H⟩ := H
    replace H : (if t557 < 0 then (laws_FnExactAddClue.j1 kj15 t531 true a0_0 a0_1 l0_2 a1_0 a1_1 a1_2 a1_3 t526 t527 t528 t543 t544 t545) else ((laws_eqPuzzle.f kj15 t543 t544 t545 t526 t527 t528).bind fun t559 => (if t559 = true then (laws_FnExactAddClue.j1 kj15 t531 (t548 != t531) a0_0 a0_1 l0_2 a1_0 a1_1 a1_2 a1_3 t526 t527 t528 t543 t544 t545) else (laws_FnExactAddClue.j1 kj15 t531 true a0_0 a0_1 l0_2 a1_0 a1_1 a1_2 a1_3 t526 t527 t528 t543 t544 t545)))) = some r := H
    have A78 := Aside0.mk A780
    clear A780
    have HC79 := Aside0.mk H
    clear H
    try go_wp2
    have n0_ := Aside0.mk (Kd.R_drew HO_533002.out)
    have n1_ := Aside0.mk (Kd.R_drew HO_539002.out)
    have n2_ := Aside0.mk (Kd.R_drew HO_550002.out)
    have n3_ := Aside0.mk (blk_drew BK514.out)
    have n4_ := Aside0.mk (blk_drew BK515.out)
    have n5_ := Aside0.mk (blk_drew BK532.out)
    have n6_ := Aside0.mk (blk_drew BK538.out)
    have n7_ := Aside0.mk (blk_drew BK549.out)
    have n8_ := Aside0.mk (below_drew1 HB.out)
    clear HO_533002
    clear HO_539002
    clear HO_550002
    clear BK514
    clear BK515
    clear BK532
    clear BK538
    clear BK549
    clear HB
    have HO_533002 := n0_
    have HO_539002 := n1_
    have HO_550002 := n2_
    have BK514 := n3_
    have BK515 := n4_
    have BK532 := n5_
    have BK538 := n6_
    have BK549 := n7_
    have HB := n8_
    clear n0_ n1_ n2_ n3_ n4_ n5_ n6_ n7_ n8_
    refine start_ (n := 5) (S := fun w' => w'.cell? ⟨gb538, 0, none⟩ = some (.int .i64 t533) ∧ w'.cell? ⟨gb538, 1, none⟩ = some (.int .i64 t534) ∧ w'.cell? ⟨gb538, 2, none⟩ = some (.slice Ao41 t535.length co41) ∧ w'.cell? ⟨gb514, 0, none⟩ = some (.int .i64 a0_0) ∧ w'.cell? ⟨gb514, 1, none⟩ = some (.int .i64 a0_1) ∧ w'.cell? ⟨gb514, 2, none⟩ = some (.slice A0_2 l0_2.length c0_2)) (ds := []) #[false, false, false, false, false] (by kernel_rfl) rfl rfl ⟨bc_ BK538.out 0, bc_ BK538.out 1, bc_ BK538.out 2, bc_ BK514.out 0, bc_ BK514.out 1, bc_ BK514.out 2⟩ (fun hHeld => ?_)
    generalize wc.drew = w80 at HO_533002 HO_539002 HO_550002 BK514 BK515 BK532 BK538 BK549 HB hHeld ⊢
    refine take_ (i := 0) (N := some 47) (v := ?_) (a' := ?_) #[true, false, false, false, false] rfl rfl (by kernel_rfl) (fun _ _ _ h => h) (Or.inl ⟨by rfl, ?_⟩) hHeld ?_ ?_
    rotate_left
    ·rintro w' ⟨s0, s1, s2, s3, s4, s5⟩
     go_simp
     with_reducible rfl
    rotate_left
    ·simp only [Act.put, List.setIfInBounds_toArray, List.set_cons_zero, List.set_cons_succ, i64_w, i32_w]
     rfl
    refine take_ (i := 1) (N := some 48) (v := ?_) (a' := ?_) #[true, true, false, false, false] rfl rfl (by kernel_rfl) (fun _ _ _ h => h) (Or.inl ⟨by rfl, ?_⟩) hHeld ?_ ?_
    rotate_left
    ·rintro w' ⟨s0, s1, s2, s3, s4, s5⟩
     go_simp
     with_reducible rfl
    rotate_left
    ·simp only [Act.put, List.setIfInBounds_toArray, List.set_cons_zero, List.set_cons_succ, i64_w, i32_w]
     rfl
    refine one_ (i := 2) (N := some 49) #[true, true, true, false, false] rfl rfl (by kernel_rfl) (by decide) (fun K hK => ?_)
    refine goes_ Try.func26 (by kernel_rfl) rfl #[.agg #[.int .i64 a0_0, .int .i64 a0_1, .slice A0_2 l0_2.length c0_2]] (by rfl) rfl rfl (by (try simp only [List.map_toArray, List.map_cons, List.map_nil]); first | done | rfl | (simp only [List.length_drop, List.length_take]; rfl)) ?_
    with_reducible refine (laws_toPuzzle.calls kj15 a0_0 a0_1 _ _ l0_2 t551 t552 t553 _ ?side1 ?side2 A75.out).mono ?_
    (case side1 => exact Kd.C_below HR0_2.out hb_)
    (case side2 => exact HC0_2.out)
    rintro e w81 ⟨v554, rfl, ho0, hb⟩
    refine ⟨_, rfl, ?_⟩
    have n0_ := Aside0.mk (Kd.R_elder' (rh_ HO_533002.out) (Kd.R_base ho0) hb)
    have n1_ := Aside0.mk (Kd.R_elder' (rh_ HO_539002.out) (Kd.R_base ho0) hb)
    have n2_ := Aside0.mk (Kd.R_elder' (rh_ HO_550002.out) (Kd.R_base ho0) hb)
    have n3_ := Aside0.mk (Kd.R_lower (Kd.R_new' (Kd.R_new' (Kd.R_new' ho0 (Kd.R_lt (rh_ HO_533002.out))) (Kd.R_lt (rh_ HO_539002.out))) (Kd.R_lt (rh_ HO_550002.out))) (below_size hb_))
    have n4_ := Aside0.mk (bb_ hb BK514.out)
    have n5_ := Aside0.mk (bb_ hb BK515.out)
    have n6_ := Aside0.mk (bb_ hb BK532.out)
    have n7_ := Aside0.mk (bb_ hb BK538.out)
    have n8_ := Aside0.mk (bb_ hb BK549.out)
    have n9_ := Aside0.mk (below_step hb_ hb)
    clear HO_533002
    clear HO_539002
    clear HO_550002
    clear BK514
    clear BK515
    clear BK532
    clear BK538
    clear BK549
    clear HB
    have HO_533002 := n0_
    have HO_539002 := n1_
    have HO_550002 := n2_
    have HO555 := n3_
    have BK514 := n4_
    have BK515 := n5_
    have BK532 := n6_
    have BK538 := n7_
    have BK549 := n8_
    have HB := n9_
    clear n0_ n1_ n2_ n3_ n4_ n5_ n6_ n7_ n8_ n9_
    (try clear hb)
    (try clear ho0)
    obtain ⟨Ao82, co82, eo82⟩ := Kd.R_slice HO555.out
    (first | subst eo82 | (injection eo82 with f1_ f2_ f3_; have f4_ := f1_.symm; have f5_ := f3_.symm; clear f1_ f2_ f3_; subst f4_; subst f5_))
    refine hK.out _ _ ⟨bc_ BK538.out 0, bc_ BK538.out 1, bc_ BK538.out 2, bc_ BK514.out 0, bc_ BK514.out 1, bc_ BK514.out 2⟩ (fun hHeld => ?_)
    clear hK K
    refine norm_ (a' := ?_) ?_ ?_
    rotate_left
    ·show Act.put _ (some 49) _ = _
     simp only [Act.put, List.setIfInBounds_toArray, List.set_cons_zero, List.set_cons_succ, i64_w, i32_w]
     rfl
    refine one_ (i := 3) (N := some 50) #[true, true, true, true, false] rfl rfl (by kernel_rfl) (by decide) (fun K hK => ?_)
    refine goes_ Try.func29 (by kernel_rfl) rfl #[.agg #[.int .i64 t533, .int .i64 t534, .slice Ao41 t535.length co41], .agg #[.int .i64 t551, .int .i64 t552, .slice Ao82 t553.length co82]] (by rfl) rfl rfl (by (try simp only [List.map_toArray, List.map_cons, List.map_nil]); first | done | rfl | (simp only [List.length_drop, List.length_take]; rfl)) ?_
    with_reducible refine (laws_eqPuzzle.calls kj15 t533 t534 _ _ t535 t551 t552 _ _ t553 true _ ?side1 ?side2 ?side3 ?side4 A76.out).mono ?_
    (case side1 => repeat (first | exact (Kd.R_reads' HO_539002.out).2.2 | (with_reducible refine Kd.C_alloc ?_ _) | (with_reducible refine Kd.C_drewN ?_ _) | (with_reducible refine Kd.C_drew ?_)))
    (case side2 => exact (Kd.R_reads' HO_539002.out).2.1)
    (case side3 => repeat (first | exact (Kd.R_reads' HO555.out).2.2 | (with_reducible refine Kd.C_alloc ?_ _) | (with_reducible refine Kd.C_drewN ?_ _) | (with_reducible refine Kd.C_drew ?_)))
    (case side4 => exact (Kd.R_reads' HO555.out).2.1)
    rintro e w83 ⟨rfl, hb⟩
    refine ⟨_, rfl, ?_⟩
    have n0_ := Aside0.mk (Kd.R_below (rh_ HO_533002.out) hb)
    have n1_ := Aside0.mk (Kd.R_below (rh_ HO_539002.out) hb)
    have n2_ := Aside0.mk (Kd.R_below (rh_ HO_550002.out) hb)
    have n3_ := Aside0.mk (Kd.R_below (rh_ HO555.out) hb)
    have n4_ := Aside0.mk (bb_ hb BK514.out)
    have n5_ := Aside0.mk (bb_ hb BK515.out)
    have n6_ := Aside0.mk (bb_ hb BK532.out)
    have n7_ := Aside0.mk (bb_ hb BK538.out)
    have n8_ := Aside0.mk (bb_ hb BK549.out)
    have n9_ := Aside0.mk (below_step hb_ hb)
    clear HO_533002
    clear HO_539002
    clear HO_550002
    clear HO555
    clear BK514
    clear BK515
    clear BK532
    clear BK538
    clear BK549
    clear HB
    have HO_533002 := n0_
    have HO_539002 := n1_
    have HO_550002 := n2_
    have HO555 := n3_
    have BK514 := n4_
    have BK515 := n5_
    have BK532 := n6_
    have BK538 := n7_
    have BK549 := n8_
    have HB := n9_
    clear n0_ n1_ n2_ n3_ n4_ n5_ n6_ n7_ n8_ n9_
    (try clear hb)
    refine hK.out _ _ ⟨bc_ BK538.out 0, bc_ BK538.out 1, bc_ BK538.out 2, bc_ BK514.out 0, bc_ BK514.out 1, bc_ BK514.out 2⟩ (fun hHeld => ?_)
    clear hK K
    refine norm_ (a' := ?_) ?_ ?_
    rotate_left
    ·show Act.put _ (some 50) _ = _
     simp only [Act.put, List.setIfInBounds_toArray, List.set_cons_zero, List.set_cons_succ, i64_w, i32_w]
     rfl
    refine pure_ (i := 4) (N := some 51) (v := ?_) (a' := ?_) #[true, true, true, true, true] rfl rfl (by kernel_rfl) (fun _ _ _ h => h) (Or.inl ⟨by rfl, ?_⟩) ?_ ?_
    rotate_left
    ·intro w'
     go_simp
     with_reducible rfl
    rotate_left
    ·simp only [Act.put, List.setIfInBounds_toArray, List.set_cons_zero, List.set_cons_succ, i64_w, i32_w]
     rfl
    refine done_ (by kernel_rfl) ?_
    have hnb84 := NB538_514.out
    have hnc84 := NB514_538.out
    have hnb85 := NB538_515.out
    have hnc85 := NB515_538.out
    have hnb86 := NB538_532.out
    have hnc86 := NB532_538.out
    have hnb87 := NB538_549.out
    have hnc87 := NB549_538.out
    have hcz88_0 : w83.cell? ⟨gb538, 0, none⟩ = some (.int .i64 t533) := bc_ BK538.out 0
    have hcz88_1 : w83.cell? ⟨gb538, 1, none⟩ = some (.int .i64 t534) := bc_ BK538.out 1
    have hcz88_2 : w83.cell? ⟨gb538, 2, none⟩ = some (.slice Ao41 t535.length co41) := bc_ BK538.out 2
    have hfz88_0 := blk_frozen BK538.out 0
    have hfz88_1 := blk_frozen BK538.out 1
    have hfz88_2 := blk_frozen BK538.out 2
    go_upto_region 14 with (first | ((with_reducible refine gate_callee (f := 30) rfl ?_); refine goesL_ (some 54) rfl rfl Try.func30 (by kernel_rfl) rfl #[.agg #[.int .i64 t533, .int .i64 t534, .slice Ao41 t535.length co41], .int .i64 1] rfl (by (try simp only [List.map_toArray, List.map_cons, List.map_nil]); first | done | rfl | (simp only [List.length_drop, List.length_take]; rfl)) ?_; (with_reducible refine (laws_markPuzzle.calls kj15 t533 t534 (fun k_ => some k_ = (.slice Ao41 t535.length co41 : Value).ownBlock) (.slice Ao41 t535.length co41) t535 1 t557 t558 w _ ?side1 ?side2 A78.out).mono ?_); (case side1 => repeat (first | (with_reducible first | exact HB.out | apply below_alloc | apply pw_below_drewN | apply below_drew1 | refine below_set ?_ GE514.out | refine below_set ?_ GE515.out | refine below_set ?_ GE532.out | refine below_set ?_ GE538.out | refine below_set ?_ GE549.out) | exact HB.out)); (case side2 => exact Kd.R_tight rfl HO_539002.out); rintro e w89 ⟨rfl, hy0, hb, hkp⟩; refine ⟨_, rfl, ?_⟩; have n0_ := Aside0.mk (Kd.R_mono (ok' := fun k_ => some k_ ≠ (.slice Ao41 t535.length co41 : Value).ownBlock ∧ some k_ ≠ (.slice Ao50 t545.length co50 : Value).ownBlock ∧ some k_ ≠ (.slice Ao82 t553.length co82 : Value).ownBlock) (Kd.R_keptB (HO_533002.out) hkp (fun k_ hk_ hs_ => (hk_.1.1) hs_)) (fun k_ hk_ => ⟨hk_.1.1.1, hk_.1.1.2, hk_.1.2⟩)); have n1_ := Aside0.mk (Kd.R_reok rfl hy0 (fun k_ e_ => HO_539002.out.1 k_ e_)); have n2_ := Aside0.mk (Kd.R_mono (ok' := fun k_ => some k_ ≠ (.slice Ao31 t528.length co31 : Value).ownBlock ∧ some k_ ≠ (.slice Ao41 t535.length co41 : Value).ownBlock ∧ some k_ ≠ (.slice Ao82 t553.length co82 : Value).ownBlock) (Kd.R_keptB (HO_550002.out) hkp (fun k_ hk_ hs_ => (hk_.1.2) hs_)) (fun k_ hk_ => ⟨hk_.1.1.1, hk_.1.1.2, hk_.1.2⟩)); have n3_ := Aside0.mk (blk_kept (bh_ BK514.out) hkp (fun hs_ => (fun e_ => (Kd.R_ne HO_539002.out BK514.out (by decide)) e_) hs_)); have n4_ := Aside0.mk (blk_kept (bh_ BK515.out) hkp (fun hs_ => (fun e_ => (Kd.R_ne HO_539002.out BK515.out (by decide)) e_) hs_)); have n5_ := Aside0.mk (blk_kept (bh_ BK532.out) hkp (fun hs_ => (fun e_ => (Kd.R_ne HO_539002.out BK532.out (by decide)) e_) hs_)); have n6_ := Aside0.mk (blk_kept (bh_ BK538.out) hkp (fun hs_ => (fun e_ => (Kd.R_ne HO_539002.out BK538.out (by decide)) e_) hs_)); have n7_ := Aside0.mk (blk_kept (bh_ BK549.out) hkp (fun hs_ => (fun e_ => (Kd.R_ne HO_539002.out BK549.out (by decide)) e_) hs_)); have n8_ := Aside0.mk (Kd.R_mono (ok' := fun k_ => some k_ ≠ (.slice Ao31 t528.length co31 : Value).ownBlock ∧ some k_ ≠ (.slice Ao41 t535.length co41 : Value).ownBlock ∧ some k_ ≠ (.slice Ao50 t545.length co50 : Value).ownBlock) (Kd.R_keptB (HO555.out) hkp (fun k_ hk_ hs_ => (hk_.1.2) hs_)) (fun k_ hk_ => ⟨hk_.1.1.1.2, hk_.1.1.2, hk_.1.2⟩)); have n9_ := Aside0.mk (hb); clear HO_533002; clear HO_539002; clear HO_550002; clear BK514; clear BK515; clear BK532; clear BK538; clear BK549; clear HO555; clear HB; have HO_533002 := n0_; have HO_539002 := n1_; have HO_550002 := n2_; have BK514 := n3_; have BK515 := n4_; have BK532 := n5_; have BK538 := n6_; have BK549 := n7_; have HO555 := n8_; have HB := n9_; clear n0_ n1_ n2_ n3_ n4_ n5_ n6_ n7_ n8_ n9_; (try clear hb); (try clear hkp); (try clear hy0)))
    (try simp only [Act.put, List.setIfInBounds_toArray, List.set_cons_zero, List.set_cons_succ])
    go_cut [67] (fun v67 wc => ∃ (kq : Nat) (x67_78 : Bool), v67 = .bool x67_78 ∧ Aside0 (laws_FnExactAddClue.j1 kq t531 x67_78 a0_0 a0_1 l0_2 a1_0 a1_1 a1_2 a1_3 t526 t527 t528 t543 t544 t545 = some r) ∧ Aside0 (kq ≤ kj15) ∧ Aside0 (Kd.R k28 28 wc w.heap.size (fun k_ => some k_ ≠ ((.slice Ao41 t535.length co41) : Value).ownBlock ∧ some k_ ≠ ((.slice Ao50 t545.length co50) : Value).ownBlock) (.slice Ao31 t528.length co31) t528) ∧ Aside0 (Kd.R k28 28 wc w.heap.size (fun k_ => some k_ ≠ ((.slice Ao31 t528.length co31) : Value).ownBlock ∧ some k_ ≠ ((.slice Ao50 t545.length co50) : Value).ownBlock) (.slice Ao41 t535.length co41) t558) ∧ Aside0 (Kd.R k28 28 wc w.heap.size (fun k_ => some k_ ≠ ((.slice Ao31 t528.length co31) : Value).ownBlock ∧ some k_ ≠ ((.slice Ao41 t535.length co41) : Value).ownBlock) (.slice Ao50 t545.length co50) t545) ∧ Aside0 (wc.heap[gb514]? = some (.cells #[.int .i64 a0_0, .int .i64 a0_1, (.slice A0_2 l0_2.length c0_2)] 33 (0, 0))) ∧ Aside0 (wc.heap[gb515]? = some (.cells #[.int .i64 a1_0, .int .i64 a1_1, .int .i64 a1_2, .int .i64 a1_3] 26 (0, 0))) ∧ Aside0 (wc.heap[gb532]? = some (.cells #[.int .i64 t526, .int .i64 t527, (.slice Ao31 t528.length co31)] 42 (0, 0))) ∧ Aside0 (wc.heap[gb538]? = some (.cells #[.int .i64 t533, .int .i64 t534, (.slice Ao41 t535.length co41)] 42 (0, 0))) ∧ Aside0 (wc.heap[gb549]? = some (.cells #[.int .i64 t543, .int .i64 t544, (.slice Ao50 t545.length co50)] 42 (0, 0))) ∧ Aside0 (Below w.heap.size w wc))
    case first =>
     have H := HC79.out
     clear HC79
     by_cases c90 : t557 < 0
     ·rw [if_pos c90] at H
      have c90b0 : decide (t557 < 0) = true := decide_eq_true c90
      clear c90
      (first | rw [c90b0] | (simp only [i64_w, i32_w]; rw [c90b0]) | skip)
      have H' := Aside0.mk H
      clear H
      go_wp2
      go_meet
      case rel => exact ⟨_, (true), (by first | rfl | (simp; done) | (simp [*]; done)), H', ⟨by have := HJ15.out; first | omega | exact Nat.le_refl _⟩, ⟨by (with_reducible repeat (first | apply Kd.R_alloc | apply Kd.R_drewN | apply Kd.R_drew)); exact Kd.R_mono HO_533002.out (fun _ hk => ⟨hk.1, hk.2.1⟩)⟩, ⟨by (with_reducible repeat (first | apply Kd.R_alloc | apply Kd.R_drewN | apply Kd.R_drew)); exact Kd.R_mono HO_539002.out (fun _ hk => ⟨hk.1.1, hk.1.2⟩)⟩, ⟨by (with_reducible repeat (first | apply Kd.R_alloc | apply Kd.R_drewN | apply Kd.R_drew)); exact Kd.R_mono HO_550002.out (fun _ hk => ⟨hk.1, hk.2.1⟩)⟩, ⟨by (with_reducible repeat (first | refine blk_drewN ?_ _ | refine blk_drew ?_ | refine blk_alloc ?_ _)); exact BK514.out⟩, ⟨by (with_reducible repeat (first | refine blk_drewN ?_ _ | refine blk_drew ?_ | refine blk_alloc ?_ _)); exact BK515.out⟩, ⟨by (with_reducible repeat (first | refine blk_drewN ?_ _ | refine blk_drew ?_ | refine blk_alloc ?_ _)); exact BK532.out⟩, ⟨by (with_reducible repeat (first | refine blk_drewN ?_ _ | refine blk_drew ?_ | refine blk_alloc ?_ _)); exact BK538.out⟩, ⟨by (with_reducible repeat (first | refine blk_drewN ?_ _ | refine blk_drew ?_ | refine blk_alloc ?_ _)); exact BK549.out⟩, ⟨hb_⟩⟩
     rw [if_neg c90] at H
     have c90b0 : decide (t557 < 0) = false := decide_eq_false c90
     clear c90
     (first | rw [c90b0] | (simp only [i64_w, i32_w]; rw [c90b0]) | skip)
     replace H := Option.bind_eq_some_iff.mp H
     obtain ⟨t559, A910, H⟩ := H
     replace H : (if t559 = true then (laws_FnExactAddClue.j1 kj15 t531 (t548 != t531) a0_0 a0_1 l0_2 a1_0 a1_1 a1_2 a1_3 t526 t527 t528 t543 t544 t545) else (laws_FnExactAddClue.j1 kj15 t531 true a0_0 a0_1 l0_2 a1_0 a1_1 a1_2 a1_3 t526 t527 t528 t543 t544 t545)) = some r := H
     have A91 := Aside0.mk A910
     clear A910
     by_cases c92 : t559 = true
     ·subst c92
      have H1 : (laws_FnExactAddClue.j1 kj15 t531 (t548 != t531) a0_0 a0_1 l0_2 a1_0 a1_1 a1_2 a1_3 t526 t527 t528 t543 t544 t545) = some r := by rw [if_pos rfl] at H; exact H
      clear H
      have H := H1
      clear H1
      have H' := Aside0.mk H
      clear H
      have hnb93 := NB549_514.out
      have hnc93 := NB514_549.out
      have hnb94 := NB549_515.out
      have hnc94 := NB515_549.out
      have hnb95 := NB549_532.out
      have hnc95 := NB532_549.out
      have hnb96 := NB549_538.out
      have hnc96 := NB538_549.out
      have hcz97_0 : w89.cell? ⟨gb549, 0, none⟩ = some (.int .i64 t543) := bc_ BK549.out 0
      have hcz97_1 : w89.cell? ⟨gb549, 1, none⟩ = some (.int .i64 t544) := bc_ BK549.out 1
      have hcz97_2 : w89.cell? ⟨gb549, 2, none⟩ = some (.slice Ao50 t545.length co50) := bc_ BK549.out 2
      have hfz97_0 := blk_frozen BK549.out 0
      have hfz97_1 := blk_frozen BK549.out 1
      have hfz97_2 := blk_frozen BK549.out 2
      have hnb98 := NB532_514.out
      have hnc98 := NB514_532.out
      have hnb99 := NB532_515.out
      have hnc99 := NB515_532.out
      have hnb100 := NB532_538.out
      have hnc100 := NB538_532.out
      have hcz101_0 : w89.cell? ⟨gb532, 0, none⟩ = some (.int .i64 t526) := bc_ BK532.out 0
      have hcz101_1 : w89.cell? ⟨gb532, 1, none⟩ = some (.int .i64 t527) := bc_ BK532.out 1
      have hcz101_2 : w89.cell? ⟨gb532, 2, none⟩ = some (.slice Ao31 t528.length co31) := bc_ BK532.out 2
      have hfz101_0 := blk_frozen BK532.out 0
      have hfz101_1 := blk_frozen BK532.out 1
      have hfz101_2 := blk_frozen BK532.out 2
      go_wp2_with (first | (go_at_call 29; (with_reducible refine (laws_eqPuzzle.calls kj15 t543 t544 _ _ t545 t526 t527 _ _ t528 true _ ?side1 ?side2 ?side3 ?side4 A91.out).mono ?_); (case side1 => repeat (first | exact (Kd.R_reads' HO_550002.out).2.2 | (with_reducible refine Kd.C_alloc ?_ _) | (with_reducible refine Kd.C_drewN ?_ _) | (with_reducible refine Kd.C_drew ?_))); (case side2 => exact (Kd.R_reads' HO_550002.out).2.1); (case side3 => repeat (first | exact (Kd.R_reads' HO_533002.out).2.2 | (with_reducible refine Kd.C_alloc ?_ _) | (with_reducible refine Kd.C_drewN ?_ _) | (with_reducible refine Kd.C_drew ?_))); (case side4 => exact (Kd.R_reads' HO_533002.out).2.1); rintro e w102 ⟨rfl, hb⟩; have n0_ := Aside0.mk (Kd.R_below (rh_ HO_533002.out) hb); have n1_ := Aside0.mk (Kd.R_below (rh_ HO_539002.out) hb); have n2_ := Aside0.mk (Kd.R_below (rh_ HO_550002.out) hb); have n3_ := Aside0.mk (Kd.R_below (rh_ HO555.out) hb); have n4_ := Aside0.mk (bb_ hb BK514.out); have n5_ := Aside0.mk (bb_ hb BK515.out); have n6_ := Aside0.mk (bb_ hb BK532.out); have n7_ := Aside0.mk (bb_ hb BK538.out); have n8_ := Aside0.mk (bb_ hb BK549.out); have n9_ := Aside0.mk (below_step hb_ hb); clear HO_533002; clear HO_539002; clear HO_550002; clear HO555; clear BK514; clear BK515; clear BK532; clear BK538; clear BK549; clear HB; have HO_533002 := n0_; have HO_539002 := n1_; have HO_550002 := n2_; have HO555 := n3_; have BK514 := n4_; have BK515 := n5_; have BK532 := n6_; have BK538 := n7_; have BK549 := n8_; have HB := n9_; clear n0_ n1_ n2_ n3_ n4_ n5_ n6_ n7_ n8_ n9_; (try clear hb)))
      go_meet
      case rel => exact ⟨_, ((t548 != t531)), (by first | rfl | (simp; done) | (simp [*]; done)), H', ⟨by have := HJ15.out; first | omega | exact Nat.le_refl _⟩, ⟨by (with_reducible repeat (first | apply Kd.R_alloc | apply Kd.R_drewN | apply Kd.R_drew)); exact Kd.R_mono HO_533002.out (fun _ hk => ⟨hk.1, hk.2.1⟩)⟩, ⟨by (with_reducible repeat (first | apply Kd.R_alloc | apply Kd.R_drewN | apply Kd.R_drew)); exact Kd.R_mono HO_539002.out (fun _ hk => ⟨hk.1.1, hk.1.2⟩)⟩, ⟨by (with_reducible repeat (first | apply Kd.R_alloc | apply Kd.R_drewN | apply Kd.R_drew)); exact Kd.R_mono HO_550002.out (fun _ hk => ⟨hk.1, hk.2.1⟩)⟩, ⟨by (with_reducible repeat (first | refine blk_drewN ?_ _ | refine blk_drew ?_ | refine blk_alloc ?_ _)); exact BK514.out⟩, ⟨by (with_reducible repeat (first | refine blk_drewN ?_ _ | refine blk_drew ?_ | refine blk_alloc ?_ _)); exact BK515.out⟩, ⟨by (with_reducible repeat (first | refine blk_drewN ?_ _ | refine blk_drew ?_ | refine blk_alloc ?_ _)); exact BK532.out⟩, ⟨by (with_reducible repeat (first | refine blk_drewN ?_ _ | refine blk_drew ?_ | refine blk_alloc ?_ _)); exact BK538.out⟩, ⟨by (with_reducible repeat (first | refine blk_drewN ?_ _ | refine blk_drew ?_ | refine blk_alloc ?_ _)); exact BK549.out⟩, ⟨hb_⟩⟩
     replace c92 := Bool.eq_false_iff.mpr c92
     subst c92
     have H1 : (laws_FnExactAddClue.j1 kj15 t531 true a0_0 a0_1 l0_2 a1_0 a1_1 a1_2 a1_3 t526 t527 t528 t543 t544 t545) = some r := by rw [if_neg (show ¬ (false = true) by decide)] at H; exact H
     clear H
     have H := H1
     clear H1
     have H' := Aside0.mk H
     clear H
     have hnb103 := NB549_514.out
     have hnc103 := NB514_549.out
     have hnb104 := NB549_515.out
     have hnc104 := NB515_549.out
     have hnb105 := NB549_532.out
     have hnc105 := NB532_549.out
     have hnb106 := NB549_538.out
     have hnc106 := NB538_549.out
     have hcz107_0 : w89.cell? ⟨gb549, 0, none⟩ = some (.int .i64 t543) := bc_ BK549.out 0
     have hcz107_1 : w89.cell? ⟨gb549, 1, none⟩ = some (.int .i64 t544) := bc_ BK549.out 1
     have hcz107_2 : w89.cell? ⟨gb549, 2, none⟩ = some (.slice Ao50 t545.length co50) := bc_ BK549.out 2
     have hfz107_0 := blk_frozen BK549.out 0
     have hfz107_1 := blk_frozen BK549.out 1
     have hfz107_2 := blk_frozen BK549.out 2
     have hnb108 := NB532_514.out
     have hnc108 := NB514_532.out
     have hnb109 := NB532_515.out
     have hnc109 := NB515_532.out
     have hnb110 := NB532_538.out
     have hnc110 := NB538_532.out
     have hcz111_0 : w89.cell? ⟨gb532, 0, none⟩ = some (.int .i64 t526) := bc_ BK532.out 0
     have hcz111_1 : w89.cell? ⟨gb532, 1, none⟩ = some (.int .i64 t527) := bc_ BK532.out 1
     have hcz111_2 : w89.cell? ⟨gb532, 2, none⟩ = some (.slice Ao31 t528.length co31) := bc_ BK532.out 2
     have hfz111_0 := blk_frozen BK532.out 0
     have hfz111_1 := blk_frozen BK532.out 1
     have hfz111_2 := blk_frozen BK532.out 2
     go_wp2_with (first | (go_at_call 29; (with_reducible refine (laws_eqPuzzle.calls kj15 t543 t544 _ _ t545 t526 t527 _ _ t528 false _ ?side1 ?side2 ?side3 ?side4 A91.out).mono ?_); (case side1 => repeat (first | exact (Kd.R_reads' HO_550002.out).2.2 | (with_reducible refine Kd.C_alloc ?_ _) | (with_reducible refine Kd.C_drewN ?_ _) | (with_reducible refine Kd.C_drew ?_))); (case side2 => exact (Kd.R_reads' HO_550002.out).2.1); (case side3 => repeat (first | exact (Kd.R_reads' HO_533002.out).2.2 | (with_reducible refine Kd.C_alloc ?_ _) | (with_reducible refine Kd.C_drewN ?_ _) | (with_reducible refine Kd.C_drew ?_))); (case side4 => exact (Kd.R_reads' HO_533002.out).2.1); rintro e w112 ⟨rfl, hb⟩; have n0_ := Aside0.mk (Kd.R_below (rh_ HO_533002.out) hb); have n1_ := Aside0.mk (Kd.R_below (rh_ HO_539002.out) hb); have n2_ := Aside0.mk (Kd.R_below (rh_ HO_550002.out) hb); have n3_ := Aside0.mk (Kd.R_below (rh_ HO555.out) hb); have n4_ := Aside0.mk (bb_ hb BK514.out); have n5_ := Aside0.mk (bb_ hb BK515.out); have n6_ := Aside0.mk (bb_ hb BK532.out); have n7_ := Aside0.mk (bb_ hb BK538.out); have n8_ := Aside0.mk (bb_ hb BK549.out); have n9_ := Aside0.mk (below_step hb_ hb); clear HO_533002; clear HO_539002; clear HO_550002; clear HO555; clear BK514; clear BK515; clear BK532; clear BK538; clear BK549; clear HB; have HO_533002 := n0_; have HO_539002 := n1_; have HO_550002 := n2_; have HO555 := n3_; have BK514 := n4_; have BK515 := n5_; have BK532 := n6_; have BK538 := n7_; have BK549 := n8_; have HB := n9_; clear n0_ n1_ n2_ n3_ n4_ n5_ n6_ n7_ n8_ n9_; (try clear hb)))
     go_meet
     case rel => exact ⟨_, (true), (by first | rfl | (simp; done) | (simp [*]; done)), H', ⟨by have := HJ15.out; first | omega | exact Nat.le_refl _⟩, ⟨by (with_reducible repeat (first | apply Kd.R_alloc | apply Kd.R_drewN | apply Kd.R_drew)); exact Kd.R_mono HO_533002.out (fun _ hk => ⟨hk.1, hk.2.1⟩)⟩, ⟨by (with_reducible repeat (first | apply Kd.R_alloc | apply Kd.R_drewN | apply Kd.R_drew)); exact Kd.R_mono HO_539002.out (fun _ hk => ⟨hk.1.1, hk.1.2⟩)⟩, ⟨by (with_reducible repeat (first | apply Kd.R_alloc | apply Kd.R_drewN | apply Kd.R_drew)); exact Kd.R_mono HO_550002.out (fun _ hk => ⟨hk.1, hk.2.1⟩)⟩, ⟨by (with_reducible repeat (first | refine blk_drewN ?_ _ | refine blk_drew ?_ | refine blk_alloc ?_ _)); exact BK514.out⟩, ⟨by (with_reducible repeat (first | refine blk_drewN ?_ _ | refine blk_drew ?_ | refine blk_alloc ?_ _)); exact BK515.out⟩, ⟨by (with_reducible repeat (first | refine blk_drewN ?_ _ | refine blk_drew ?_ | refine blk_alloc ?_ _)); exact BK532.out⟩, ⟨by (with_reducible repeat (first | refine blk_drewN ?_ _ | refine blk_drew ?_ | refine blk_alloc ?_ _)); exact BK538.out⟩, ⟨by (with_reducible repeat (first | refine blk_drewN ?_ _ | refine blk_drew ?_ | refine blk_alloc ?_ _)); exact BK549.out⟩, ⟨hb_⟩⟩
    case rest =>
     clear HC79
     try clear c1
     try clear c2
     try clear p2
     try clear c3
     try clear c5
     try clear c6
     try clear c7
     try clear c8
     try clear c9
     try clear c10
     try clear c11
     try clear c22
     try clear c26
     try clear c29
     try clear c30
     try clear c36
     try clear c53
     try clear c54
     try clear c55
     try clear c56
     try clear c57
     try clear c59
     try clear c60
     try clear c61
     try clear c64
     try clear c65
     try clear c66
     try clear c67
     try clear c69
     try clear c70
     try clear c71
     try clear c74
     try clear c77
     try clear c84
     try clear c85
     try clear c86
     try clear c87
     try clear c90
     try clear c90b0
     try clear c92
     try clear c93
     try clear c94
     try clear c95
     try clear c96
     try clear c98
     try clear c99
     try clear c100
     try clear c103
     try clear c104
     try clear c105
     try clear c106
     try clear c108
     try clear c109
     try clear c110
     try clear hcz101_0
     try clear hcz101_1
     try clear hcz101_2
     try clear hcz107_0
     try clear hcz107_1
     try clear hcz107_2
     try clear hcz111_0
     try clear hcz111_1
     try clear hcz111_2
     try clear hcz58_0
     try clear hcz58_1
     try clear hcz58_2
     try clear hcz62_0
     try clear hcz62_1
     try clear hcz62_2
     try clear hcz68_0
     try clear hcz68_1
     try clear hcz68_2
     try clear hcz72_0
     try clear hcz72_1
     try clear hcz72_2
     try clear hcz88_0
     try clear hcz88_1
     try clear hcz88_2
     try clear hcz97_0
     try clear hcz97_1
     try clear hcz97_2
     try clear hfz101_0
     try clear hfz101_1
     try clear hfz101_2
     try clear hfz107_0
     try clear hfz107_1
     try clear hfz107_2
     try clear hfz111_0
     try clear hfz111_1
     try clear hfz111_2
     try clear hfz58_0
     try clear hfz58_1
     try clear hfz58_2
     try clear hfz62_0
     try clear hfz62_1
     try clear hfz62_2
     try clear hfz68_0
     try clear hfz68_1
     try clear hfz68_2
     try clear hfz72_0
     try clear hfz72_1
     try clear hfz72_2
     try clear hfz88_0
     try clear hfz88_1
     try clear hfz88_2
     try clear hfz97_0
     try clear hfz97_1
     try clear hfz97_2
     try clear p2
     obtain ⟨kq, x67_78, rfl, HA, HJ78, HO_533002, HO_539002, HO_550002, BK514, BK515, BK532, BK538, BK549, HB⟩ := hcut
     have hl539002_78 := (Kd.R_reads' HO_539002.out).1
     rw [hl539002_78] at HO_539002
     (try simp only [hl539002_78])
     (try simp only [hl539002_78] at BK514)
     (try simp only [hl539002_78] at BK515)
     (try simp only [hl539002_78] at BK532)
     (try simp only [hl539002_78] at BK538)
     (try simp only [hl539002_78] at BK549)
     (try simp only [hl539002_78] at HO_533002)
     (try simp only [hl539002_78] at HO_550002)
     cases kq with
     | zero => exact absurd HA.out (by simp [laws_FnExactAddClue.j1])
     | succ kj78 =>
      have H := HA.out
      clear HA
      simp only [laws_FnExactAddClue.j1] at H
      by_cases c113 : x67_78 = true
      ·subst c113
       have H1 : (some false) = some r := by rw [if_pos rfl] at H; exact H
       clear H
       have H := H1
       clear H1
       obtain rfl := Option.some.inj H
       go_wp2
       go_ret
       exact ⟨by first | rfl | (simp [errW_none, errW_some] <;> rfl) | (simp [*, errW_none, errW_some] <;> rfl), hb_⟩
      replace c113 := Bool.eq_false_iff.mpr c113
      subst c113
      have H1 : ((laws_markPuzzle.f kj78 t543 t544 t545 1).bind fun bt560 => ((laws_heldPuzzle.f kj78 t543 t544 bt560.2 1).bind fun t562 => (if t562 < 0 then (some false) else (if t562 = bt560.1 then ((laws_toPuzzle.f kj78 a0_0 a0_1 l0_2).bind fun bt563 => ((laws_toClue.f a1_0 a1_1 a1_2 a1_3).bind fun bt568 => ((impl_AddClue.f bt563.1 bt563.2.1 bt563.2.2 bt568.1 bt568.2.1 bt568.2.2.1 bt568.2.2.2).bind fun bt572 => ((laws_eqPuzzle.f kj78 bt572.1 bt572.2.1 bt572.2.2.1 t526 t527 t528).bind fun t579 => (if t579 = true then (laws_FnExactAddClue.j2 kj78 bt560.1 (bt572.2.2.2 != t531) t543 t544 bt560.2) else (laws_FnExactAddClue.j2 kj78 bt560.1 true t543 t544 bt560.2)))))) else (some false))))) = some r := by rw [if_neg (show ¬ (false = true) by decide)] at H; exact H
      clear H
      have H := H1
      clear H1
      replace H := Option.bind_eq_some_iff.mp H
      obtain ⟨⟨t560, t561⟩, A1140, H⟩ := H
      replace H : ((laws_heldPuzzle.f kj78 t543 t544 t561 1).bind fun t562 => (if t562 < 0 then (some false) else (if t562 = t560 then ((laws_toPuzzle.f kj78 a0_0 a0_1 l0_2).bind fun bt563 => ((laws_toClue.f a1_0 a1_1 a1_2 a1_3).bind fun bt568 => ((impl_AddClue.f bt563.1 bt563.2.1 bt563.2.2 bt568.1 bt568.2.1 bt568.2.2.1 bt568.2.2.2).bind fun bt572 => ((laws_eqPuzzle.f kj78 bt572.1 bt572.2.1 bt572.2.2.1 t526 t527 t528).bind fun t579 => (if t579 = true then (laws_FnExactAddClue.j2 kj78 t560 (bt572.2.2.2 != t531) t543 t544 t561) else (laws_FnExactAddClue.j2 kj78 t560 true t543 t544 t561)))))) else (some false)))) = some r := H
      have A114 := Aside0.mk A1140
      clear A1140
      replace H := Option.bind_eq_some_iff.mp H
      obtain ⟨t562, A1150, H⟩ := H
      replace H : (if t562 < 0 then (some false) else (if t562 = t560 then ((laws_toPuzzle.f kj78 a0_0 a0_1 l0_2).bind fun bt563 => ((laws_toClue.f a1_0 a1_1 a1_2 a1_3).bind fun bt568 => ((impl_AddClue.f bt563.1 bt563.2.1 bt563.2.2 bt568.1 bt568.2.1 bt568.2.2.1 bt568.2.2.2).bind fun bt572 => ((laws_eqPuzzle.f kj78 bt572.1 bt572.2.1 bt572.2.2.1 t526 t527 t528).bind fun t579 => (if t579 = true then (laws_FnExactAddClue.j2 kj78 t560 (bt572.2.2.2 != t531) t543 t544 t561) else (laws_FnExactAddClue.j2 kj78 t560 true t543 t544 t561)))))) else (some false))) = some r := H
      have A115 := Aside0.mk A1150
      clear A1150
      by_cases c116 : t562 < 0
      ·rw [if_pos c116] at H
       have c116b0 : decide (t562 < 0) = true := decide_eq_true c116
       clear c116
       obtain rfl := Option.some.inj H
       have hnb117 := NB549_514.out
       have hnc117 := NB514_549.out
       have hnb118 := NB549_515.out
       have hnc118 := NB515_549.out
       have hnb119 := NB549_532.out
       have hnc119 := NB532_549.out
       have hnb120 := NB549_538.out
       have hnc120 := NB538_549.out
       have hcz121_0 : wc.cell? ⟨gb549, 0, none⟩ = some (.int .i64 t543) := bc_ BK549.out 0
       have hcz121_1 : wc.cell? ⟨gb549, 1, none⟩ = some (.int .i64 t544) := bc_ BK549.out 1
       have hcz121_2 : wc.cell? ⟨gb549, 2, none⟩ = some (.slice Ao50 t545.length co50) := bc_ BK549.out 2
       have hfz121_0 := blk_frozen BK549.out 0
       have hfz121_1 := blk_frozen BK549.out 1
       have hfz121_2 := blk_frozen BK549.out 2
       go_wp2_with (first | ((with_reducible refine gate_callee (f := 30) rfl ?_); refine goesL_ (some 70) rfl rfl Try.func30 (by kernel_rfl) rfl #[.agg #[.int .i64 t543, .int .i64 t544, .slice Ao50 t545.length co50], .int .i64 1] rfl (by (try simp only [List.map_toArray, List.map_cons, List.map_nil]); first | done | rfl | (simp only [List.length_drop, List.length_take]; rfl)) ?_; (with_reducible refine (laws_markPuzzle.calls kj78 t543 t544 (fun k_ => some k_ = (.slice Ao50 t545.length co50 : Value).ownBlock) (.slice Ao50 t545.length co50) t545 1 t560 t561 w _ ?side1 ?side2 A114.out).mono ?_); (case side1 => repeat (first | (with_reducible first | exact HB.out | apply below_alloc | apply pw_below_drewN | apply below_drew1 | refine below_set ?_ GE514.out | refine below_set ?_ GE515.out | refine below_set ?_ GE532.out | refine below_set ?_ GE538.out | refine below_set ?_ GE549.out) | exact HB.out)); (case side2 => exact Kd.R_tight rfl HO_550002.out); rintro e w122 ⟨rfl, hy0, hb, hkp⟩; refine ⟨_, rfl, ?_⟩; have n0_ := Aside0.mk (Kd.R_mono (ok' := fun k_ => some k_ ≠ (.slice Ao41 t558.length co41 : Value).ownBlock ∧ some k_ ≠ (.slice Ao50 t545.length co50 : Value).ownBlock) (Kd.R_keptB (HO_533002.out) hkp (fun k_ hk_ hs_ => (hk_.2) hs_)) (fun k_ hk_ => ⟨hk_.1.1, hk_.1.2⟩)); have n1_ := Aside0.mk (Kd.R_mono (ok' := fun k_ => some k_ ≠ (.slice Ao31 t528.length co31 : Value).ownBlock ∧ some k_ ≠ (.slice Ao50 t545.length co50 : Value).ownBlock) (Kd.R_keptB (HO_539002.out) hkp (fun k_ hk_ hs_ => (hk_.2) hs_)) (fun k_ hk_ => ⟨hk_.1.1, hk_.1.2⟩)); have n2_ := Aside0.mk (Kd.R_reok rfl hy0 (fun k_ e_ => HO_550002.out.1 k_ e_)); have n3_ := Aside0.mk (blk_kept (bh_ BK514.out) hkp (fun hs_ => (fun e_ => (Kd.R_ne HO_550002.out BK514.out (by decide)) e_) hs_)); have n4_ := Aside0.mk (blk_kept (bh_ BK515.out) hkp (fun hs_ => (fun e_ => (Kd.R_ne HO_550002.out BK515.out (by decide)) e_) hs_)); have n5_ := Aside0.mk (blk_kept (bh_ BK532.out) hkp (fun hs_ => (fun e_ => (Kd.R_ne HO_550002.out BK532.out (by decide)) e_) hs_)); have n6_ := Aside0.mk (blk_kept (bh_ BK538.out) hkp (fun hs_ => (fun e_ => (Kd.R_ne HO_550002.out BK538.out (by decide)) e_) hs_)); have n7_ := Aside0.mk (blk_kept (bh_ BK549.out) hkp (fun hs_ => (fun e_ => (Kd.R_ne HO_550002.out BK549.out (by decide)) e_) hs_)); have n8_ := Aside0.mk (hb); clear HO_533002; clear HO_539002; clear HO_550002; clear BK514; clear BK515; clear BK532; clear BK538; clear BK549; clear HB; have HO_533002 := n0_; have HO_539002 := n1_; have HO_550002 := n2_; have BK514 := n3_; have BK515 := n4_; have BK532 := n5_; have BK538 := n6_; have BK549 := n7_; have HB := n8_; clear n0_ n1_ n2_ n3_ n4_ n5_ n6_ n7_ n8_; (try clear hb); (try clear hkp); (try clear hy0); have hcz123_0 : w122.cell? ⟨gb549, 0, none⟩ = some (.int .i64 t543) := bc_ BK549.out 0; have hcz123_1 : w122.cell? ⟨gb549, 1, none⟩ = some (.int .i64 t544) := bc_ BK549.out 1; have hcz123_2 : w122.cell? ⟨gb549, 2, none⟩ = some (.slice Ao50 t545.length co50) := bc_ BK549.out 2; have hfz123_0 := blk_frozen BK549.out 0; have hfz123_1 := blk_frozen BK549.out 1; have hfz123_2 := blk_frozen BK549.out 2) | ((with_reducible refine gate_callee (f := 37) rfl ?_); refine goesL_ (some 73) rfl rfl Try.func37 (by kernel_rfl) rfl #[.agg #[.int .i64 t543, .int .i64 t544, .slice Ao50 t561.length co50], .int .i64 1] rfl (by (try simp only [List.map_toArray, List.map_cons, List.map_nil]); first | done | (rw [show t561.length = t545.length from (Kd.R_reads' HO_550002.out).1.symm] <;> rfl) | rfl | (simp only [List.length_drop, List.length_take]; rfl)) ?_; (with_reducible refine (laws_heldPuzzle.calls kj78 t543 t544 _ _ t561 1 t562 _ ?side1 ?side2 A115.out).mono ?_); (case side1 => repeat (first | exact (Kd.R_reads' HO_550002.out).2.2 | (with_reducible refine Kd.C_alloc ?_ _) | (with_reducible refine Kd.C_drewN ?_ _) | (with_reducible refine Kd.C_drew ?_))); (case side2 => rw [show t561.length = t545.length from (Kd.R_reads' HO_550002.out).1.symm]; exact (Kd.R_reads' HO_550002.out).2.1); rintro e w124 ⟨rfl, hb⟩; refine ⟨_, rfl, ?_⟩; have n0_ := Aside0.mk (Kd.R_below (rh_ HO_533002.out) hb); have n1_ := Aside0.mk (Kd.R_below (rh_ HO_539002.out) hb); have n2_ := Aside0.mk (Kd.R_below (rh_ HO_550002.out) hb); have n3_ := Aside0.mk (bb_ hb BK514.out); have n4_ := Aside0.mk (bb_ hb BK515.out); have n5_ := Aside0.mk (bb_ hb BK532.out); have n6_ := Aside0.mk (bb_ hb BK538.out); have n7_ := Aside0.mk (bb_ hb BK549.out); have n8_ := Aside0.mk (below_step hb_ hb); clear HO_533002; clear HO_539002; clear HO_550002; clear BK514; clear BK515; clear BK532; clear BK538; clear BK549; clear HB; have HO_533002 := n0_; have HO_539002 := n1_; have HO_550002 := n2_; have BK514 := n3_; have BK515 := n4_; have BK532 := n5_; have BK538 := n6_; have BK549 := n7_; have HB := n8_; clear n0_ n1_ n2_ n3_ n4_ n5_ n6_ n7_ n8_; (try clear hb)))
       go_ret
       exact ⟨by first | rfl | (simp [errW_none, errW_some] <;> rfl) | (simp [*, errW_none, errW_some] <;> rfl), hb_⟩
      rw [if_neg c116] at H
      have c116b0 : decide (t562 < 0) = false := decide_eq_false c116
      clear c116
      by_cases c125 : t562 = t560
      ·rw [if_pos c125] at H
       have c125b0 : (t562 == t560) = true := beq_iff_eq.mpr c125
       have c125b1 : (t562 != t560) = false := bne_eq_false_iff_eq.mpr c125
       clear c125
       replace H := Option.bind_eq_some_iff.mp H
       obtain ⟨⟨t563, t564, t565⟩, A1260, H⟩ := H
       replace H : ((laws_toClue.f a1_0 a1_1 a1_2 a1_3).bind fun bt568 => ((impl_AddClue.f t563 t564 t565 bt568.1 bt568.2.1 bt568.2.2.1 bt568.2.2.2).bind fun bt572 => ((laws_eqPuzzle.f kj78 bt572.1 bt572.2.1 bt572.2.2.1 t526 t527 t528).bind fun t579 => (if t579 = true then (laws_FnExactAddClue.j2 kj78 t560 (bt572.2.2.2 != t531) t543 t544 t561) else (laws_FnExactAddClue.j2 kj78 t560 true t543 t544 t561))))) = some r := H
       have A126 := Aside0.mk A1260
       clear A1260
       replace H := Option.bind_eq_some_iff.mp H
       obtain ⟨⟨t568, t569, t570, t571⟩, A1270, H⟩ := H
       replace H : ((impl_AddClue.f t563 t564 t565 t568 t569 t570 t571).bind fun bt572 => ((laws_eqPuzzle.f kj78 bt572.1 bt572.2.1 bt572.2.2.1 t526 t527 t528).bind fun t579 => (if t579 = true then (laws_FnExactAddClue.j2 kj78 t560 (bt572.2.2.2 != t531) t543 t544 t561) else (laws_FnExactAddClue.j2 kj78 t560 true t543 t544 t561)))) = some r := H
       have A127 := Aside0.mk A1270
       clear A1270
       replace H := Option.bind_eq_some_iff.mp H
       obtain ⟨⟨t572, t573, t574, t577⟩, A1280, H⟩ := H
       replace H : ((laws_eqPuzzle.f kj78 t572 t573 t574 t526 t527 t528).bind fun t579 => (if t579 = true then (laws_FnExactAddClue.j2 kj78 t560 (t577 != t531) t543 t544 t561) else (laws_FnExactAddClue.j2 kj78 t560 true t543 t544 t561))) = some r := H
       have A128 := Aside0.mk A1280
       clear A1280
       have HC129 := Aside0.mk H
       clear H
       have hnb130 := NB549_514.out
       have hnc130 := NB514_549.out
       have hnb131 := NB549_515.out
       have hnc131 := NB515_549.out
       have hnb132 := NB549_532.out
       have hnc132 := NB532_549.out
       have hnb133 := NB549_538.out
       have hnc133 := NB538_549.out
       have hcz134_0 : wc.cell? ⟨gb549, 0, none⟩ = some (.int .i64 t543) := bc_ BK549.out 0
       have hcz134_1 : wc.cell? ⟨gb549, 1, none⟩ = some (.int .i64 t544) := bc_ BK549.out 1
       have hcz134_2 : wc.cell? ⟨gb549, 2, none⟩ = some (.slice Ao50 t545.length co50) := bc_ BK549.out 2
       have hfz134_0 := blk_frozen BK549.out 0
       have hfz134_1 := blk_frozen BK549.out 1
       have hfz134_2 := blk_frozen BK549.out 2
       try go_wp2_with (first | ((with_reducible refine gate_callee (f := 30) rfl ?_); refine goesL_ (some 70) rfl rfl Try.func30 (by kernel_rfl) rfl #[.agg #[.int .i64 t543, .int .i64 t544, .slice Ao50 t545.length co50], .int .i64 1] rfl (by (try simp only [List.map_toArray, List.map_cons, List.map_nil]); first | done | rfl | (simp only [List.length_drop, List.length_take]; rfl)) ?_; (with_reducible refine (laws_markPuzzle.calls kj78 t543 t544 (fun k_ => some k_ = (.slice Ao50 t545.length co50 : Value).ownBlock) (.slice Ao50 t545.length co50) t545 1 t560 t561 w _ ?side1 ?side2 A114.out).mono ?_); (case side1 => repeat (first | (with_reducible first | exact HB.out | apply below_alloc | apply pw_below_drewN | apply below_drew1 | refine below_set ?_ GE514.out | refine below_set ?_ GE515.out | refine below_set ?_ GE532.out | refine below_set ?_ GE538.out | refine below_set ?_ GE549.out) | exact HB.out)); (case side2 => exact Kd.R_tight rfl HO_550002.out); rintro e w135 ⟨rfl, hy0, hb, hkp⟩; refine ⟨_, rfl, ?_⟩; have n0_ := Aside0.mk (Kd.R_mono (ok' := fun k_ => some k_ ≠ (.slice Ao41 t558.length co41 : Value).ownBlock ∧ some k_ ≠ (.slice Ao50 t545.length co50 : Value).ownBlock) (Kd.R_keptB (HO_533002.out) hkp (fun k_ hk_ hs_ => (hk_.2) hs_)) (fun k_ hk_ => ⟨hk_.1.1, hk_.1.2⟩)); have n1_ := Aside0.mk (Kd.R_mono (ok' := fun k_ => some k_ ≠ (.slice Ao31 t528.length co31 : Value).ownBlock ∧ some k_ ≠ (.slice Ao50 t545.length co50 : Value).ownBlock) (Kd.R_keptB (HO_539002.out) hkp (fun k_ hk_ hs_ => (hk_.2) hs_)) (fun k_ hk_ => ⟨hk_.1.1, hk_.1.2⟩)); have n2_ := Aside0.mk (Kd.R_reok rfl hy0 (fun k_ e_ => HO_550002.out.1 k_ e_)); have n3_ := Aside0.mk (blk_kept (bh_ BK514.out) hkp (fun hs_ => (fun e_ => (Kd.R_ne HO_550002.out BK514.out (by decide)) e_) hs_)); have n4_ := Aside0.mk (blk_kept (bh_ BK515.out) hkp (fun hs_ => (fun e_ => (Kd.R_ne HO_550002.out BK515.out (by decide)) e_) hs_)); have n5_ := Aside0.mk (blk_kept (bh_ BK532.out) hkp (fun hs_ => (fun e_ => (Kd.R_ne HO_550002.out BK532.out (by decide)) e_) hs_)); have n6_ := Aside0.mk (blk_kept (bh_ BK538.out) hkp (fun hs_ => (fun e_ => (Kd.R_ne HO_550002.out BK538.out (by decide)) e_) hs_)); have n7_ := Aside0.mk (blk_kept (bh_ BK549.out) hkp (fun hs_ => (fun e_ => (Kd.R_ne HO_550002.out BK549.out (by decide)) e_) hs_)); have n8_ := Aside0.mk (hb); clear HO_533002; clear HO_539002; clear HO_550002; clear BK514; clear BK515; clear BK532; clear BK538; clear BK549; clear HB; have HO_533002 := n0_; have HO_539002 := n1_; have HO_550002 := n2_; have BK514 := n3_; have BK515 := n4_; have BK532 := n5_; have BK538 := n6_; have BK549 := n7_; have HB := n8_; clear n0_ n1_ n2_ n3_ n4_ n5_ n6_ n7_ n8_; (try clear hb); (try clear hkp); (try clear hy0); have hcz136_0 : w135.cell? ⟨gb549, 0, none⟩ = some (.int .i64 t543) := bc_ BK549.out 0; have hcz136_1 : w135.cell? ⟨gb549, 1, none⟩ = some (.int .i64 t544) := bc_ BK549.out 1; have hcz136_2 : w135.cell? ⟨gb549, 2, none⟩ = some (.slice Ao50 t545.length co50) := bc_ BK549.out 2; have hfz136_0 := blk_frozen BK549.out 0; have hfz136_1 := blk_frozen BK549.out 1; have hfz136_2 := blk_frozen BK549.out 2) | ((with_reducible refine gate_callee (f := 37) rfl ?_); refine goesL_ (some 73) rfl rfl Try.func37 (by kernel_rfl) rfl #[.agg #[.int .i64 t543, .int .i64 t544, .slice Ao50 t561.length co50], .int .i64 1] rfl (by (try simp only [List.map_toArray, List.map_cons, List.map_nil]); first | done | (rw [show t561.length = t545.length from (Kd.R_reads' HO_550002.out).1.symm] <;> rfl) | rfl | (simp only [List.length_drop, List.length_take]; rfl)) ?_; (with_reducible refine (laws_heldPuzzle.calls kj78 t543 t544 _ _ t561 1 t562 _ ?side1 ?side2 A115.out).mono ?_); (case side1 => repeat (first | exact (Kd.R_reads' HO_550002.out).2.2 | (with_reducible refine Kd.C_alloc ?_ _) | (with_reducible refine Kd.C_drewN ?_ _) | (with_reducible refine Kd.C_drew ?_))); (case side2 => rw [show t561.length = t545.length from (Kd.R_reads' HO_550002.out).1.symm]; exact (Kd.R_reads' HO_550002.out).2.1); rintro e w137 ⟨rfl, hb⟩; refine ⟨_, rfl, ?_⟩; have n0_ := Aside0.mk (Kd.R_below (rh_ HO_533002.out) hb); have n1_ := Aside0.mk (Kd.R_below (rh_ HO_539002.out) hb); have n2_ := Aside0.mk (Kd.R_below (rh_ HO_550002.out) hb); have n3_ := Aside0.mk (bb_ hb BK514.out); have n4_ := Aside0.mk (bb_ hb BK515.out); have n5_ := Aside0.mk (bb_ hb BK532.out); have n6_ := Aside0.mk (bb_ hb BK538.out); have n7_ := Aside0.mk (bb_ hb BK549.out); have n8_ := Aside0.mk (below_step hb_ hb); clear HO_533002; clear HO_539002; clear HO_550002; clear BK514; clear BK515; clear BK532; clear BK538; clear BK549; clear HB; have HO_533002 := n0_; have HO_539002 := n1_; have HO_550002 := n2_; have BK514 := n3_; have BK515 := n4_; have BK532 := n5_; have BK538 := n6_; have BK549 := n7_; have HB := n8_; clear n0_ n1_ n2_ n3_ n4_ n5_ n6_ n7_ n8_; (try clear hb)))
       have n0_ := Aside0.mk (Kd.R_drew HO_533002.out)
       have n1_ := Aside0.mk (Kd.R_drew HO_539002.out)
       have n2_ := Aside0.mk (Kd.R_drew HO_550002.out)
       have n3_ := Aside0.mk (blk_drew BK514.out)
       have n4_ := Aside0.mk (blk_drew BK515.out)
       have n5_ := Aside0.mk (blk_drew BK532.out)
       have n6_ := Aside0.mk (blk_drew BK538.out)
       have n7_ := Aside0.mk (blk_drew BK549.out)
       have n8_ := Aside0.mk (below_drew1 HB.out)
       clear HO_533002
       clear HO_539002
       clear HO_550002
       clear BK514
       clear BK515
       clear BK532
       clear BK538
       clear BK549
       clear HB
       have HO_533002 := n0_
       have HO_539002 := n1_
       have HO_550002 := n2_
       have BK514 := n3_
       have BK515 := n4_
       have BK532 := n5_
       have BK538 := n6_
       have BK549 := n7_
       have HB := n8_
       clear n0_ n1_ n2_ n3_ n4_ n5_ n6_ n7_ n8_
       refine start_ (n := 11) (S := fun w' => w'.cell? ⟨gb514, 0, none⟩ = some (.int .i64 a0_0) ∧ w'.cell? ⟨gb514, 1, none⟩ = some (.int .i64 a0_1) ∧ w'.cell? ⟨gb514, 2, none⟩ = some (.slice A0_2 l0_2.length c0_2) ∧ w'.cell? ⟨gb515, 0, none⟩ = some (.int .i64 a1_0) ∧ w'.cell? ⟨gb515, 1, none⟩ = some (.int .i64 a1_1) ∧ w'.cell? ⟨gb515, 2, none⟩ = some (.int .i64 a1_2) ∧ w'.cell? ⟨gb515, 3, none⟩ = some (.int .i64 a1_3)) (ds := []) #[false, false, false, false, false, false, false, false, false, false, false] (by kernel_rfl) rfl rfl ⟨bc_ BK514.out 0, bc_ BK514.out 1, bc_ BK514.out 2, bc_ BK515.out 0, bc_ BK515.out 1, bc_ BK515.out 2, bc_ BK515.out 3⟩ (fun hHeld => ?_); refine with_tabW laws_FnExactAddClue.tab24 laws_FnExactAddClue.bits24 (fun HT_ HW_ => ?_)
       generalize w137.drew = w138 at HO_533002 HO_539002 HO_550002 BK514 BK515 BK532 BK538 BK549 HB hHeld ⊢
       refine take_ (i := 0) (N := some 80) (v := ?_) (a' := ?_) #[true, false, false, false, false, false, false, false, false, false, false] rfl rfl (take_ofW HT_.out HW_.out (by kernel_rfl)) (fun _ _ _ h => h) (Or.inl ⟨by rfl, ?_⟩) hHeld ?_ ?_
       rotate_left
       ·rintro w' ⟨s0, s1, s2, s3, s4, s5, s6⟩
        go_simp
        with_reducible rfl
       rotate_left
       ·simp only [Act.put, List.setIfInBounds_toArray, List.set_cons_zero, List.set_cons_succ, i64_w, i32_w]
        rfl
       refine take_ (i := 2) (N := some 82) (v := ?_) (a' := ?_) #[true, false, true, false, false, false, false, false, false, false, false] rfl rfl (take_ofW HT_.out HW_.out (by kernel_rfl)) (fun _ _ _ h => h) (Or.inl ⟨by rfl, ?_⟩) hHeld ?_ ?_
       rotate_left
       ·rintro w' ⟨s0, s1, s2, s3, s4, s5, s6⟩
        go_simp
        with_reducible rfl
       rotate_left
       ·simp only [Act.put, List.setIfInBounds_toArray, List.set_cons_zero, List.set_cons_succ, i64_w, i32_w]
        rfl
       refine join_ (σ := Value × Value × Nat) 2 #[true, true, true, true, true, true, true, true, true, false, false] (fun s_ => [(81, .agg #[.int .i64 t563, .int .i64 t564, s_.1]), (83, .agg #[.int .i64 t568, .int .i64 t569, .int .i64 t570, .int .i64 t571]), (84, .tuple #[.agg #[.int .i64 t572, .int .i64 t573, s_.2.1], .bool t577]), (14, .pointer (some ⟨s_.2.2, 0, none⟩)), (79, .tuple #[.agg #[.int .i64 t572, .int .i64 t573, s_.2.1], .bool t577]), (85, .agg #[.int .i64 t572, .int .i64 t573, s_.2.1]), (86, .bool t577)]) (fun s_ w' => (w'.cell? ⟨gb514, 0, none⟩ = some (.int .i64 a0_0) ∧ w'.cell? ⟨gb514, 1, none⟩ = some (.int .i64 a0_1) ∧ w'.cell? ⟨gb514, 2, none⟩ = some (.slice A0_2 l0_2.length c0_2) ∧ w'.cell? ⟨gb515, 0, none⟩ = some (.int .i64 a1_0) ∧ w'.cell? ⟨gb515, 1, none⟩ = some (.int .i64 a1_1) ∧ w'.cell? ⟨gb515, 2, none⟩ = some (.int .i64 a1_2) ∧ w'.cell? ⟨gb515, 3, none⟩ = some (.int .i64 a1_3)) ∧ (Kd.R k28 28 w' w.heap.size (fun k_ => some k_ ≠ (s_.2.1 : Value).ownBlock ∧ some k_ ≠ (.slice Ao31 t528.length co31 : Value).ownBlock ∧ some k_ ≠ (.slice Ao41 t558.length co41 : Value).ownBlock ∧ some k_ ≠ (.slice Ao50 t545.length co50 : Value).ownBlock) s_.1 t565) ∧ (Kd.R k28 28 w' w.heap.size (fun k_ => some k_ ≠ (s_.1 : Value).ownBlock ∧ some k_ ≠ (.slice Ao31 t528.length co31 : Value).ownBlock ∧ some k_ ≠ (.slice Ao41 t558.length co41 : Value).ownBlock ∧ some k_ ≠ (.slice Ao50 t545.length co50 : Value).ownBlock) s_.2.1 t574) ∧ (Kd.R k28 28 w' w.heap.size (fun k_ => some k_ ≠ (s_.1 : Value).ownBlock ∧ some k_ ≠ (s_.2.1 : Value).ownBlock ∧ some k_ ≠ (.slice Ao41 t558.length co41 : Value).ownBlock ∧ some k_ ≠ (.slice Ao50 t545.length co50 : Value).ownBlock) (.slice Ao31 t528.length co31) t528) ∧ (Kd.R k28 28 w' w.heap.size (fun k_ => some k_ ≠ (s_.1 : Value).ownBlock ∧ some k_ ≠ (s_.2.1 : Value).ownBlock ∧ some k_ ≠ (.slice Ao31 t528.length co31 : Value).ownBlock ∧ some k_ ≠ (.slice Ao50 t545.length co50 : Value).ownBlock) (.slice Ao41 t558.length co41) t558) ∧ (Kd.R k28 28 w' w.heap.size (fun k_ => some k_ ≠ (s_.1 : Value).ownBlock ∧ some k_ ≠ (s_.2.1 : Value).ownBlock ∧ some k_ ≠ (.slice Ao31 t528.length co31 : Value).ownBlock ∧ some k_ ≠ (.slice Ao41 t558.length co41 : Value).ownBlock) (.slice Ao50 t545.length co50) t561) ∧ (w'.heap[gb514]? = some (.cells #[.int .i64 a0_0, .int .i64 a0_1, .slice A0_2 l0_2.length c0_2] 33 (0, 0))) ∧ (w'.heap[gb515]? = some (.cells #[.int .i64 a1_0, .int .i64 a1_1, .int .i64 a1_2, .int .i64 a1_3] 26 (0, 0))) ∧ (w'.heap[gb532]? = some (.cells #[.int .i64 t526, .int .i64 t527, .slice Ao31 t528.length co31] 42 (0, 0))) ∧ (w'.heap[gb538]? = some (.cells #[.int .i64 t533, .int .i64 t534, .slice Ao41 t558.length co41] 42 (0, 0))) ∧ (w'.heap[gb549]? = some (.cells #[.int .i64 t543, .int .i64 t544, .slice Ao50 t545.length co50] 42 (0, 0))) ∧ (w'.heap[s_.2.2]? = some (.cells #[.int .i64 0, .int .i64 0, .slice none 0 0] 42 (0, 0))) ∧ (w.heap.size ≤ s_.2.2) ∧ (w.heap.size ≤ s_.2.2) ∧ (gb514 ≠ s_.2.2) ∧ (s_.2.2 ≠ gb514) ∧ (gb515 ≠ s_.2.2) ∧ (s_.2.2 ≠ gb515) ∧ (gb532 ≠ s_.2.2) ∧ (s_.2.2 ≠ gb532) ∧ (gb538 ≠ s_.2.2) ∧ (s_.2.2 ≠ gb538) ∧ (gb549 ≠ s_.2.2) ∧ (s_.2.2 ≠ gb549) ∧ (Below w.heap.size w w')) ?_ ?_
       rotate_left
       ·intro hCont
        refine two_ (i := 1) (j := 8) (Ni := some 81) (Nj := some 14) #[true, true, true, false, false, false, false, false, false, false, false] #[true, false, true, false, false, false, false, false, true, false, false] rfl rfl rfl rfl (two_of HT_.out (by kernel_rfl)) (by decide) (by decide) (fun K hK => ?_) (fun K hK => ?_)
        ·skip
         refine goes_ Try.func26 (by kernel_rfl) rfl #[.agg #[.int .i64 a0_0, .int .i64 a0_1, .slice A0_2 l0_2.length c0_2]] (by rfl) rfl rfl (by (try simp only [List.map_toArray, List.map_cons, List.map_nil]); first | done | rfl | (simp only [List.length_drop, List.length_take]; rfl)) ?_
         with_reducible refine (laws_toPuzzle.calls kj78 a0_0 a0_1 _ _ l0_2 t563 t564 t565 _ ?side1 ?side2 A126.out).mono ?_
         (case side1 => exact Kd.C_below HR0_2.out hb_)
         (case side2 => exact HC0_2.out)
         rintro e w139 ⟨v566, rfl, ho0, hb⟩
         refine ⟨_, rfl, ?_⟩
         have n0_ := Aside0.mk (Kd.R_elder' (rh_ HO_533002.out) (Kd.R_base ho0) hb)
         have n1_ := Aside0.mk (Kd.R_elder' (rh_ HO_539002.out) (Kd.R_base ho0) hb)
         have n2_ := Aside0.mk (Kd.R_elder' (rh_ HO_550002.out) (Kd.R_base ho0) hb)
         have n3_ := Aside0.mk (Kd.R_lower (Kd.R_new' (Kd.R_new' (Kd.R_new' ho0 (Kd.R_lt (rh_ HO_533002.out))) (Kd.R_lt (rh_ HO_539002.out))) (Kd.R_lt (rh_ HO_550002.out))) (below_size hb_))
         have n4_ := Aside0.mk (bb_ hb BK514.out)
         have n5_ := Aside0.mk (bb_ hb BK515.out)
         have n6_ := Aside0.mk (bb_ hb BK532.out)
         have n7_ := Aside0.mk (bb_ hb BK538.out)
         have n8_ := Aside0.mk (bb_ hb BK549.out)
         have n9_ := Aside0.mk (below_step hb_ hb)
         clear HO_533002
         clear HO_539002
         clear HO_550002
         clear BK514
         clear BK515
         clear BK532
         clear BK538
         clear BK549
         clear HB
         have HO_533002 := n0_
         have HO_539002 := n1_
         have HO_550002 := n2_
         have HO567 := n3_
         have BK514 := n4_
         have BK515 := n5_
         have BK532 := n6_
         have BK538 := n7_
         have BK549 := n8_
         have HB := n9_
         clear n0_ n1_ n2_ n3_ n4_ n5_ n6_ n7_ n8_ n9_
         (try clear hb)
         (try clear ho0)
         refine hK.out _ _ ⟨bc_ BK514.out 0, bc_ BK514.out 1, bc_ BK514.out 2, bc_ BK515.out 0, bc_ BK515.out 1, bc_ BK515.out 2, bc_ BK515.out 3⟩ (fun hHeld => ?_)
         clear hK K
         refine norm_ (a' := ?_) ?_ ?_
         rotate_left
         ·show Act.put _ (some 81) _ = _
          simp only [Act.put, List.setIfInBounds_toArray, List.set_cons_zero, List.set_cons_succ, i64_w, i32_w]
          rfl
         refine two_ (i := 3) (j := 8) (Ni := some 83) (Nj := some 14) #[true, true, true, true, false, false, false, false, false, false, false] #[true, true, true, false, false, false, false, false, true, false, false] rfl rfl rfl rfl (two_of HT_.out (by kernel_rfl)) (by decide) (by decide) (fun K hK => ?_) (fun K hK => ?_)
         ·skip
          refine goes_ Try.func22 (by kernel_rfl) rfl #[.agg #[.int .i64 a1_0, .int .i64 a1_1, .int .i64 a1_2, .int .i64 a1_3]] (by rfl) rfl rfl (by (try simp only [List.map_toArray, List.map_cons, List.map_nil]); first | done | rfl | (simp only [List.length_drop, List.length_take]; rfl)) ?_
          with_reducible refine (laws_toClue.calls a1_0 a1_1 a1_2 a1_3 t568 t569 t570 t571 _ A127.out).mono ?_
          rintro e w140 ⟨rfl, hb⟩
          refine ⟨_, rfl, ?_⟩
          have n0_ := Aside0.mk (Kd.R_below (rh_ HO_533002.out) hb)
          have n1_ := Aside0.mk (Kd.R_below (rh_ HO_539002.out) hb)
          have n2_ := Aside0.mk (Kd.R_below (rh_ HO_550002.out) hb)
          have n3_ := Aside0.mk (Kd.R_below (rh_ HO567.out) hb)
          have n4_ := Aside0.mk (bb_ hb BK514.out)
          have n5_ := Aside0.mk (bb_ hb BK515.out)
          have n6_ := Aside0.mk (bb_ hb BK532.out)
          have n7_ := Aside0.mk (bb_ hb BK538.out)
          have n8_ := Aside0.mk (bb_ hb BK549.out)
          have n9_ := Aside0.mk (below_step hb_ hb)
          clear HO_533002
          clear HO_539002
          clear HO_550002
          clear HO567
          clear BK514
          clear BK515
          clear BK532
          clear BK538
          clear BK549
          clear HB
          have HO_533002 := n0_
          have HO_539002 := n1_
          have HO_550002 := n2_
          have HO567 := n3_
          have BK514 := n4_
          have BK515 := n5_
          have BK532 := n6_
          have BK538 := n7_
          have BK549 := n8_
          have HB := n9_
          clear n0_ n1_ n2_ n3_ n4_ n5_ n6_ n7_ n8_ n9_
          (try clear hb)
          obtain ⟨Ao141, co141, eo141⟩ := Kd.R_slice HO567.out
          (first | subst eo141 | (injection eo141 with f1_ f2_ f3_; have f4_ := f1_.symm; have f5_ := f3_.symm; clear f1_ f2_ f3_; subst f4_; subst f5_))
          refine hK.out _ _ ⟨bc_ BK514.out 0, bc_ BK514.out 1, bc_ BK514.out 2, bc_ BK515.out 0, bc_ BK515.out 1, bc_ BK515.out 2, bc_ BK515.out 3⟩ (fun hHeld => ?_)
          clear hK K
          refine norm_ (a' := ?_) ?_ ?_
          rotate_left
          ·show Act.put _ (some 83) _ = _
           simp only [Act.put, List.setIfInBounds_toArray, List.set_cons_zero, List.set_cons_succ, i64_w, i32_w]
           rfl
          refine two_ (i := 4) (j := 8) (Ni := some 84) (Nj := some 14) #[true, true, true, true, true, false, false, false, false, false, false] #[true, true, true, true, false, false, false, false, true, false, false] rfl rfl rfl rfl (two_of HT_.out (by kernel_rfl)) (by decide) (by decide) (fun K hK => ?_) (fun K hK => ?_)
          ·skip
           refine goes_ Try.func36 (by kernel_rfl) rfl #[.agg #[.int .i64 t563, .int .i64 t564, .slice Ao141 t565.length co141], .agg #[.int .i64 t568, .int .i64 t569, .int .i64 t570, .int .i64 t571]] (by rfl) rfl rfl (by (try simp only [List.map_toArray, List.map_cons, List.map_nil]); first | done | rfl | (simp only [List.length_drop, List.length_take]; rfl)) ?_
           with_reducible refine (impl_AddClue.calls t563 t564 _ _ t565 t568 t569 t570 t571 t572 t573 t574 t577 _ ?side1 ?side2 A128.out).mono ?_
           (case side1 => repeat (first | exact (Kd.R_reads' HO567.out).2.2 | (with_reducible refine Kd.C_alloc ?_ _) | (with_reducible refine Kd.C_drewN ?_ _) | (with_reducible refine Kd.C_drew ?_)))
           (case side2 => exact (Kd.R_reads' HO567.out).2.1)
           rintro e w142 ⟨v575, rfl, ho0, hb⟩
           refine ⟨_, rfl, ?_⟩
           have n0_ := Aside0.mk (Kd.R_elder' (rh_ HO_533002.out) (Kd.R_base ho0) hb)
           have n1_ := Aside0.mk (Kd.R_elder' (rh_ HO_539002.out) (Kd.R_base ho0) hb)
           have n2_ := Aside0.mk (Kd.R_elder' (rh_ HO_550002.out) (Kd.R_base ho0) hb)
           have n3_ := Aside0.mk (Kd.R_elder' (rh_ HO567.out) (Kd.R_base ho0) hb)
           have n4_ := Aside0.mk (Kd.R_lower (Kd.R_new' (Kd.R_new' (Kd.R_new' (Kd.R_new' ho0 (Kd.R_lt (rh_ HO_533002.out))) (Kd.R_lt (rh_ HO_539002.out))) (Kd.R_lt (rh_ HO_550002.out))) (Kd.R_lt (rh_ HO567.out))) (below_size hb_))
           have n5_ := Aside0.mk (bb_ hb BK514.out)
           have n6_ := Aside0.mk (bb_ hb BK515.out)
           have n7_ := Aside0.mk (bb_ hb BK532.out)
           have n8_ := Aside0.mk (bb_ hb BK538.out)
           have n9_ := Aside0.mk (bb_ hb BK549.out)
           have n10_ := Aside0.mk (below_step hb_ hb)
           clear HO_533002
           clear HO_539002
           clear HO_550002
           clear HO567
           clear BK514
           clear BK515
           clear BK532
           clear BK538
           clear BK549
           clear HB
           have HO_533002 := n0_
           have HO_539002 := n1_
           have HO_550002 := n2_
           have HO567 := n3_
           have HO576 := n4_
           have BK514 := n5_
           have BK515 := n6_
           have BK532 := n7_
           have BK538 := n8_
           have BK549 := n9_
           have HB := n10_
           clear n0_ n1_ n2_ n3_ n4_ n5_ n6_ n7_ n8_ n9_ n10_
           (try clear hb)
           (try clear ho0)
           refine hK.out _ _ ⟨bc_ BK514.out 0, bc_ BK514.out 1, bc_ BK514.out 2, bc_ BK515.out 0, bc_ BK515.out 1, bc_ BK515.out 2, bc_ BK515.out 3⟩ (fun hHeld => ?_)
           clear hK K
           refine norm_ (a' := ?_) ?_ ?_
           rotate_left
           ·show Act.put _ (some 84) _ = _
            simp only [Act.put, List.setIfInBounds_toArray, List.set_cons_zero, List.set_cons_succ, i64_w, i32_w]
            rfl
           refine pure_ (i := 5) (N := some 79) (v := ?_) (a' := ?_) #[true, true, true, true, true, true, false, false, false, false, false] rfl rfl (any_of HT_.out (by kernel_rfl)) (fun _ _ _ h => h) (Or.inl ⟨by rfl, ?_⟩) ?_ ?_
           rotate_left
           ·intro w'
            go_simp
            with_reducible rfl
           rotate_left
           ·simp only [Act.put, List.setIfInBounds_toArray, List.set_cons_zero, List.set_cons_succ, i64_w, i32_w]
            rfl
           refine pure_ (i := 6) (N := some 85) (v := ?_) (a' := ?_) #[true, true, true, true, true, true, true, false, false, false, false] rfl rfl (any_of HT_.out (by kernel_rfl)) (fun _ _ _ h => h) (Or.inl ⟨by rfl, ?_⟩) ?_ ?_
           rotate_left
           ·intro w'
            go_simp
            with_reducible rfl
           rotate_left
           ·simp only [Act.put, List.setIfInBounds_toArray, List.set_cons_zero, List.set_cons_succ, i64_w, i32_w]
            rfl
           refine pure_ (i := 7) (N := some 86) (v := ?_) (a' := ?_) #[true, true, true, true, true, true, true, true, false, false, false] rfl rfl (any_of HT_.out (by kernel_rfl)) (fun _ _ _ h => h) (Or.inl ⟨by rfl, ?_⟩) ?_ ?_
           rotate_left
           ·intro w'
            go_simp
            with_reducible rfl
           rotate_left
           ·simp only [Act.put, List.setIfInBounds_toArray, List.set_cons_zero, List.set_cons_succ, i64_w, i32_w]
            rfl
           refine one_ (i := 8) (N := some 14) #[true, true, true, true, true, true, true, true, true, false, false] rfl rfl (one_of HT_.out (by kernel_rfl)) (by decide) (fun K hK => ?_)
           refine box_step ?hg (N := 14) ?hd (cs := #[.int .i64 0, .int .i64 0, .slice none 0 0]) (t := 42) ?hr ?_; (case hd => rfl); (case hg => rfl); (case hr => first | (go_simp; done) | (go_simp; rfl))
           intro gb578 hg w143 hbox hb
           have n0_ := Aside0.mk (Kd.R_below (rh_ HO_533002.out) hb)
           have n1_ := Aside0.mk (Kd.R_below (rh_ HO_539002.out) hb)
           have n2_ := Aside0.mk (Kd.R_below (rh_ HO_550002.out) hb)
           have n3_ := Aside0.mk (Kd.R_below (rh_ HO567.out) hb)
           have n4_ := Aside0.mk (Kd.R_below (rh_ HO576.out) hb)
           have n5_ := Aside0.mk (bb_ hb BK514.out)
           have n6_ := Aside0.mk (bb_ hb BK515.out)
           have n7_ := Aside0.mk (bb_ hb BK532.out)
           have n8_ := Aside0.mk (bb_ hb BK538.out)
           have n9_ := Aside0.mk (bb_ hb BK549.out)
           have n10_ := Aside0.mk (below_step hb_ hb)
           have n11_ := Aside0.mk (hbox)
           have n12_ := Aside0.mk ((by rw [hg]; exact (below_size hb_) : w.heap.size ≤ gb578))
           have n13_ := Aside0.mk ((by rw [hg]; exact (below_size hb_) : w.heap.size ≤ gb578))
           have n14_ := Aside0.mk ((by rw [hg]; exact bnlt_ BK514.out : gb514 ≠ gb578))
           have n15_ := Aside0.mk ((by rw [hg]; exact bngt_ BK514.out : gb578 ≠ gb514))
           have n16_ := Aside0.mk ((by rw [hg]; exact bnlt_ BK515.out : gb515 ≠ gb578))
           have n17_ := Aside0.mk ((by rw [hg]; exact bngt_ BK515.out : gb578 ≠ gb515))
           have n18_ := Aside0.mk ((by rw [hg]; exact bnlt_ BK532.out : gb532 ≠ gb578))
           have n19_ := Aside0.mk ((by rw [hg]; exact bngt_ BK532.out : gb578 ≠ gb532))
           have n20_ := Aside0.mk ((by rw [hg]; exact bnlt_ BK538.out : gb538 ≠ gb578))
           have n21_ := Aside0.mk ((by rw [hg]; exact bngt_ BK538.out : gb578 ≠ gb538))
           have n22_ := Aside0.mk ((by rw [hg]; exact bnlt_ BK549.out : gb549 ≠ gb578))
           have n23_ := Aside0.mk ((by rw [hg]; exact bngt_ BK549.out : gb578 ≠ gb549))
           clear HO_533002
           clear HO_539002
           clear HO_550002
           clear HO567
           clear HO576
           clear BK514
           clear BK515
           clear BK532
           clear BK538
           clear BK549
           clear HB
           have HO_533002 := n0_
           have HO_539002 := n1_
           have HO_550002 := n2_
           have HO567 := n3_
           have HO576 := n4_
           have BK514 := n5_
           have BK515 := n6_
           have BK532 := n7_
           have BK538 := n8_
           have BK549 := n9_
           have HB := n10_
           have BK578 := n11_
           have GW578 := n12_
           have GE578 := n13_
           have NB514_578 := n14_
           have NB578_514 := n15_
           have NB515_578 := n16_
           have NB578_515 := n17_
           have NB532_578 := n18_
           have NB578_532 := n19_
           have NB538_578 := n20_
           have NB578_538 := n21_
           have NB549_578 := n22_
           have NB578_549 := n23_
           clear n0_ n1_ n2_ n3_ n4_ n5_ n6_ n7_ n8_ n9_ n10_ n11_ n12_ n13_ n14_ n15_ n16_ n17_ n18_ n19_ n20_ n21_ n22_ n23_
           clear hb hbox hg
           refine hK.out _ _ ⟨bc_ BK514.out 0, bc_ BK514.out 1, bc_ BK514.out 2, bc_ BK515.out 0, bc_ BK515.out 1, bc_ BK515.out 2, bc_ BK515.out 3⟩ (fun hHeld => ?_)
           clear hK K
           refine norm_ (a' := ?_) ?_ ?_
           rotate_left
           ·show Act.put _ (some 14) _ = _
            simp only [Act.put, List.setIfInBounds_toArray, List.set_cons_zero, List.set_cons_succ, i64_w, i32_w]
            rfl
           exact norm_ (by simp only [putAll, Act.put, List.setIfInBounds_toArray, List.set_cons_zero, List.set_cons_succ]) (hCont (.slice Ao141 t565.length co141, v575, gb578) _ ⟨hHeld, (rh_ (Kd.R_mono HO567.out (fun _ hk => ⟨hk.2, ⟨hk.1.1.1.2, ⟨hk.1.1.2, hk.1.2⟩⟩⟩))), (rh_ (Kd.R_mono HO576.out (fun _ hk => ⟨hk.2, ⟨hk.1.1.1.2, ⟨hk.1.1.2, hk.1.2⟩⟩⟩))), (rh_ (Kd.R_mono HO_533002.out (fun _ hk => ⟨hk.1.2, ⟨hk.2, ⟨hk.1.1.1, hk.1.1.2⟩⟩⟩))), (rh_ (Kd.R_mono HO_539002.out (fun _ hk => ⟨hk.1.2, ⟨hk.2, ⟨hk.1.1.1, hk.1.1.2⟩⟩⟩))), (rh_ (Kd.R_mono HO_550002.out (fun _ hk => ⟨hk.1.2, ⟨hk.2, ⟨hk.1.1.1, hk.1.1.2⟩⟩⟩))), (bh_ BK514.out), (bh_ BK515.out), (bh_ BK532.out), (bh_ BK538.out), (bh_ BK549.out), (bh_ BK578.out), GW578.out, GE578.out, NB514_578.out, NB578_514.out, NB515_578.out, NB578_515.out, NB532_578.out, NB578_532.out, NB538_578.out, NB578_538.out, NB549_578.out, NB578_549.out, hb_⟩)
          skip
          refine box_step ?hg (N := 14) ?hd (cs := #[.int .i64 0, .int .i64 0, .slice none 0 0]) (t := 42) ?hr ?_; (case hd => rfl); (case hg => rfl); (case hr => first | (go_simp; done) | (go_simp; rfl))
          intro gb578 hg w141 hbox hb
          have n0_ := Aside0.mk (Kd.R_below (rh_ HO_533002.out) hb)
          have n1_ := Aside0.mk (Kd.R_below (rh_ HO_539002.out) hb)
          have n2_ := Aside0.mk (Kd.R_below (rh_ HO_550002.out) hb)
          have n3_ := Aside0.mk (Kd.R_below (rh_ HO567.out) hb)
          have n4_ := Aside0.mk (bb_ hb BK514.out)
          have n5_ := Aside0.mk (bb_ hb BK515.out)
          have n6_ := Aside0.mk (bb_ hb BK532.out)
          have n7_ := Aside0.mk (bb_ hb BK538.out)
          have n8_ := Aside0.mk (bb_ hb BK549.out)
          have n9_ := Aside0.mk (below_step hb_ hb)
          have n10_ := Aside0.mk (hbox)
          have n11_ := Aside0.mk ((by rw [hg]; exact (below_size hb_) : w.heap.size ≤ gb578))
          have n12_ := Aside0.mk ((by rw [hg]; exact (below_size hb_) : w.heap.size ≤ gb578))
          have n13_ := Aside0.mk ((by rw [hg]; exact bnlt_ BK514.out : gb514 ≠ gb578))
          have n14_ := Aside0.mk ((by rw [hg]; exact bngt_ BK514.out : gb578 ≠ gb514))
          have n15_ := Aside0.mk ((by rw [hg]; exact bnlt_ BK515.out : gb515 ≠ gb578))
          have n16_ := Aside0.mk ((by rw [hg]; exact bngt_ BK515.out : gb578 ≠ gb515))
          have n17_ := Aside0.mk ((by rw [hg]; exact bnlt_ BK532.out : gb532 ≠ gb578))
          have n18_ := Aside0.mk ((by rw [hg]; exact bngt_ BK532.out : gb578 ≠ gb532))
          have n19_ := Aside0.mk ((by rw [hg]; exact bnlt_ BK538.out : gb538 ≠ gb578))
          have n20_ := Aside0.mk ((by rw [hg]; exact bngt_ BK538.out : gb578 ≠ gb538))
          have n21_ := Aside0.mk ((by rw [hg]; exact bnlt_ BK549.out : gb549 ≠ gb578))
          have n22_ := Aside0.mk ((by rw [hg]; exact bngt_ BK549.out : gb578 ≠ gb549))
          clear HO_533002
          clear HO_539002
          clear HO_550002
          clear HO567
          clear BK514
          clear BK515
          clear BK532
          clear BK538
          clear BK549
          clear HB
          have HO_533002 := n0_
          have HO_539002 := n1_
          have HO_550002 := n2_
          have HO567 := n3_
          have BK514 := n4_
          have BK515 := n5_
          have BK532 := n6_
          have BK538 := n7_
          have BK549 := n8_
          have HB := n9_
          have BK578 := n10_
          have GW578 := n11_
          have GE578 := n12_
          have NB514_578 := n13_
          have NB578_514 := n14_
          have NB515_578 := n15_
          have NB578_515 := n16_
          have NB532_578 := n17_
          have NB578_532 := n18_
          have NB538_578 := n19_
          have NB578_538 := n20_
          have NB549_578 := n21_
          have NB578_549 := n22_
          clear n0_ n1_ n2_ n3_ n4_ n5_ n6_ n7_ n8_ n9_ n10_ n11_ n12_ n13_ n14_ n15_ n16_ n17_ n18_ n19_ n20_ n21_ n22_
          clear hb hbox hg
          obtain ⟨Ao142, co142, eo142⟩ := Kd.R_slice HO567.out
          (first | subst eo142 | (injection eo142 with f1_ f2_ f3_; have f4_ := f1_.symm; have f5_ := f3_.symm; clear f1_ f2_ f3_; subst f4_; subst f5_))
          refine hK.out _ _ ⟨bc_ BK514.out 0, bc_ BK514.out 1, bc_ BK514.out 2, bc_ BK515.out 0, bc_ BK515.out 1, bc_ BK515.out 2, bc_ BK515.out 3⟩ (fun hHeld => ?_)
          clear hK K
          refine norm_ (a' := ?_) ?_ ?_
          rotate_left
          ·show Act.put _ (some 14) _ = _
           simp only [Act.put, List.setIfInBounds_toArray, List.set_cons_zero, List.set_cons_succ, i64_w, i32_w]
           rfl
          refine one_ (i := 4) (N := some 84) #[true, true, true, true, true, false, false, false, true, false, false] rfl rfl (one_of HT_.out (by kernel_rfl)) (by decide) (fun K hK => ?_)
          refine goes_ Try.func36 (by kernel_rfl) rfl #[.agg #[.int .i64 t563, .int .i64 t564, .slice Ao142 t565.length co142], .agg #[.int .i64 t568, .int .i64 t569, .int .i64 t570, .int .i64 t571]] (by rfl) rfl rfl (by (try simp only [List.map_toArray, List.map_cons, List.map_nil]); first | done | rfl | (simp only [List.length_drop, List.length_take]; rfl)) ?_
          with_reducible refine (impl_AddClue.calls t563 t564 _ _ t565 t568 t569 t570 t571 t572 t573 t574 t577 _ ?side1 ?side2 A128.out).mono ?_
          (case side1 => repeat (first | exact (Kd.R_reads' HO567.out).2.2 | (with_reducible refine Kd.C_alloc ?_ _) | (with_reducible refine Kd.C_drewN ?_ _) | (with_reducible refine Kd.C_drew ?_)))
          (case side2 => exact (Kd.R_reads' HO567.out).2.1)
          rintro e w143 ⟨v575, rfl, ho0, hb⟩
          refine ⟨_, rfl, ?_⟩
          have n0_ := Aside0.mk (Kd.R_elder' (rh_ HO_533002.out) (Kd.R_base ho0) hb)
          have n1_ := Aside0.mk (Kd.R_elder' (rh_ HO_539002.out) (Kd.R_base ho0) hb)
          have n2_ := Aside0.mk (Kd.R_elder' (rh_ HO_550002.out) (Kd.R_base ho0) hb)
          have n3_ := Aside0.mk (Kd.R_elder' (rh_ HO567.out) (Kd.R_base ho0) hb)
          have n4_ := Aside0.mk (Kd.R_lower (Kd.R_new' (Kd.R_new' (Kd.R_new' (Kd.R_new' ho0 (Kd.R_lt (rh_ HO_533002.out))) (Kd.R_lt (rh_ HO_539002.out))) (Kd.R_lt (rh_ HO_550002.out))) (Kd.R_lt (rh_ HO567.out))) (below_size hb_))
          have n5_ := Aside0.mk (bb_ hb BK514.out)
          have n6_ := Aside0.mk (bb_ hb BK515.out)
          have n7_ := Aside0.mk (bb_ hb BK532.out)
          have n8_ := Aside0.mk (bb_ hb BK538.out)
          have n9_ := Aside0.mk (bb_ hb BK549.out)
          have n10_ := Aside0.mk (bb_ hb BK578.out)
          have n11_ := Aside0.mk (below_step hb_ hb)
          clear HO_533002
          clear HO_539002
          clear HO_550002
          clear HO567
          clear BK514
          clear BK515
          clear BK532
          clear BK538
          clear BK549
          clear BK578
          clear HB
          have HO_533002 := n0_
          have HO_539002 := n1_
          have HO_550002 := n2_
          have HO567 := n3_
          have HO576 := n4_
          have BK514 := n5_
          have BK515 := n6_
          have BK532 := n7_
          have BK538 := n8_
          have BK549 := n9_
          have BK578 := n10_
          have HB := n11_
          clear n0_ n1_ n2_ n3_ n4_ n5_ n6_ n7_ n8_ n9_ n10_ n11_
          (try clear hb)
          (try clear ho0)
          refine hK.out _ _ ⟨bc_ BK514.out 0, bc_ BK514.out 1, bc_ BK514.out 2, bc_ BK515.out 0, bc_ BK515.out 1, bc_ BK515.out 2, bc_ BK515.out 3⟩ (fun hHeld => ?_)
          clear hK K
          refine norm_ (a' := ?_) ?_ ?_
          rotate_left
          ·show Act.put _ (some 84) _ = _
           simp only [Act.put, List.setIfInBounds_toArray, List.set_cons_zero, List.set_cons_succ, i64_w, i32_w]
           rfl
          refine pure_ (i := 5) (N := some 79) (v := ?_) (a' := ?_) #[true, true, true, true, true, true, false, false, true, false, false] rfl rfl (any_of HT_.out (by kernel_rfl)) (fun _ _ _ h => h) (Or.inl ⟨by rfl, ?_⟩) ?_ ?_
          rotate_left
          ·intro w'
           go_simp
           with_reducible rfl
          rotate_left
          ·simp only [Act.put, List.setIfInBounds_toArray, List.set_cons_zero, List.set_cons_succ, i64_w, i32_w]
           rfl
          refine pure_ (i := 6) (N := some 85) (v := ?_) (a' := ?_) #[true, true, true, true, true, true, true, false, true, false, false] rfl rfl (any_of HT_.out (by kernel_rfl)) (fun _ _ _ h => h) (Or.inl ⟨by rfl, ?_⟩) ?_ ?_
          rotate_left
          ·intro w'
           go_simp
           with_reducible rfl
          rotate_left
          ·simp only [Act.put, List.setIfInBounds_toArray, List.set_cons_zero, List.set_cons_succ, i64_w, i32_w]
           rfl
          refine pure_ (i := 7) (N := some 86) (v := ?_) (a' := ?_) #[true, true, true, true, true, true, true, true, true, false, false] rfl rfl (any_of HT_.out (by kernel_rfl)) (fun _ _ _ h => h) (Or.inl ⟨by rfl, ?_⟩) ?_ ?_
          rotate_left
          ·intro w'
           go_simp
           with_reducible rfl
          rotate_left
          ·simp only [Act.put, List.setIfInBounds_toArray, List.set_cons_zero, List.set_cons_succ, i64_w, i32_w]
           rfl
          exact norm_ (by simp only [putAll, Act.put, List.setIfInBounds_toArray, List.set_cons_zero, List.set_cons_succ]) (hCont (.slice Ao142 t565.length co142, v575, gb578) _ ⟨hHeld, (rh_ (Kd.R_mono HO567.out (fun _ hk => ⟨hk.2, ⟨hk.1.1.1.2, ⟨hk.1.1.2, hk.1.2⟩⟩⟩))), (rh_ (Kd.R_mono HO576.out (fun _ hk => ⟨hk.2, ⟨hk.1.1.1.2, ⟨hk.1.1.2, hk.1.2⟩⟩⟩))), (rh_ (Kd.R_mono HO_533002.out (fun _ hk => ⟨hk.1.2, ⟨hk.2, ⟨hk.1.1.1, hk.1.1.2⟩⟩⟩))), (rh_ (Kd.R_mono HO_539002.out (fun _ hk => ⟨hk.1.2, ⟨hk.2, ⟨hk.1.1.1, hk.1.1.2⟩⟩⟩))), (rh_ (Kd.R_mono HO_550002.out (fun _ hk => ⟨hk.1.2, ⟨hk.2, ⟨hk.1.1.1, hk.1.1.2⟩⟩⟩))), (bh_ BK514.out), (bh_ BK515.out), (bh_ BK532.out), (bh_ BK538.out), (bh_ BK549.out), (bh_ BK578.out), GW578.out, GE578.out, NB514_578.out, NB578_514.out, NB515_578.out, NB578_515.out, NB532_578.out, NB578_532.out, NB538_578.out, NB578_538.out, NB549_578.out, NB578_549.out, hb_⟩)
         skip
         refine box_step ?hg (N := 14) ?hd (cs := #[.int .i64 0, .int .i64 0, .slice none 0 0]) (t := 42) ?hr ?_; (case hd => rfl); (case hg => rfl); (case hr => first | (go_simp; done) | (go_simp; rfl))
         intro gb578 hg w140 hbox hb
         have n0_ := Aside0.mk (Kd.R_below (rh_ HO_533002.out) hb)
         have n1_ := Aside0.mk (Kd.R_below (rh_ HO_539002.out) hb)
         have n2_ := Aside0.mk (Kd.R_below (rh_ HO_550002.out) hb)
         have n3_ := Aside0.mk (Kd.R_below (rh_ HO567.out) hb)
         have n4_ := Aside0.mk (bb_ hb BK514.out)
         have n5_ := Aside0.mk (bb_ hb BK515.out)
         have n6_ := Aside0.mk (bb_ hb BK532.out)
         have n7_ := Aside0.mk (bb_ hb BK538.out)
         have n8_ := Aside0.mk (bb_ hb BK549.out)
         have n9_ := Aside0.mk (below_step hb_ hb)
         have n10_ := Aside0.mk (hbox)
         have n11_ := Aside0.mk ((by rw [hg]; exact (below_size hb_) : w.heap.size ≤ gb578))
         have n12_ := Aside0.mk ((by rw [hg]; exact (below_size hb_) : w.heap.size ≤ gb578))
         have n13_ := Aside0.mk ((by rw [hg]; exact bnlt_ BK514.out : gb514 ≠ gb578))
         have n14_ := Aside0.mk ((by rw [hg]; exact bngt_ BK514.out : gb578 ≠ gb514))
         have n15_ := Aside0.mk ((by rw [hg]; exact bnlt_ BK515.out : gb515 ≠ gb578))
         have n16_ := Aside0.mk ((by rw [hg]; exact bngt_ BK515.out : gb578 ≠ gb515))
         have n17_ := Aside0.mk ((by rw [hg]; exact bnlt_ BK532.out : gb532 ≠ gb578))
         have n18_ := Aside0.mk ((by rw [hg]; exact bngt_ BK532.out : gb578 ≠ gb532))
         have n19_ := Aside0.mk ((by rw [hg]; exact bnlt_ BK538.out : gb538 ≠ gb578))
         have n20_ := Aside0.mk ((by rw [hg]; exact bngt_ BK538.out : gb578 ≠ gb538))
         have n21_ := Aside0.mk ((by rw [hg]; exact bnlt_ BK549.out : gb549 ≠ gb578))
         have n22_ := Aside0.mk ((by rw [hg]; exact bngt_ BK549.out : gb578 ≠ gb549))
         clear HO_533002
         clear HO_539002
         clear HO_550002
         clear HO567
         clear BK514
         clear BK515
         clear BK532
         clear BK538
         clear BK549
         clear HB
         have HO_533002 := n0_
         have HO_539002 := n1_
         have HO_550002 := n2_
         have HO567 := n3_
         have BK514 := n4_
         have BK515 := n5_
         have BK532 := n6_
         have BK538 := n7_
         have BK549 := n8_
         have HB := n9_
         have BK578 := n10_
         have GW578 := n11_
         have GE578 := n12_
         have NB514_578 := n13_
         have NB578_514 := n14_
         have NB515_578 := n15_
         have NB578_515 := n16_
         have NB532_578 := n17_
         have NB578_532 := n18_
         have NB538_578 := n19_
         have NB578_538 := n20_
         have NB549_578 := n21_
         have NB578_549 := n22_
         clear n0_ n1_ n2_ n3_ n4_ n5_ n6_ n7_ n8_ n9_ n10_ n11_ n12_ n13_ n14_ n15_ n16_ n17_ n18_ n19_ n20_ n21_ n22_
         clear hb hbox hg
         refine hK.out _ _ ⟨bc_ BK514.out 0, bc_ BK514.out 1, bc_ BK514.out 2, bc_ BK515.out 0, bc_ BK515.out 1, bc_ BK515.out 2, bc_ BK515.out 3⟩ (fun hHeld => ?_)
         clear hK K
         refine norm_ (a' := ?_) ?_ ?_
         rotate_left
         ·show Act.put _ (some 14) _ = _
          simp only [Act.put, List.setIfInBounds_toArray, List.set_cons_zero, List.set_cons_succ, i64_w, i32_w]
          rfl
         refine one_ (i := 3) (N := some 83) #[true, true, true, true, false, false, false, false, true, false, false] rfl rfl (one_of HT_.out (by kernel_rfl)) (by decide) (fun K hK => ?_)
         refine goes_ Try.func22 (by kernel_rfl) rfl #[.agg #[.int .i64 a1_0, .int .i64 a1_1, .int .i64 a1_2, .int .i64 a1_3]] (by rfl) rfl rfl (by (try simp only [List.map_toArray, List.map_cons, List.map_nil]); first | done | rfl | (simp only [List.length_drop, List.length_take]; rfl)) ?_
         with_reducible refine (laws_toClue.calls a1_0 a1_1 a1_2 a1_3 t568 t569 t570 t571 _ A127.out).mono ?_
         rintro e w141 ⟨rfl, hb⟩
         refine ⟨_, rfl, ?_⟩
         have n0_ := Aside0.mk (Kd.R_below (rh_ HO_533002.out) hb)
         have n1_ := Aside0.mk (Kd.R_below (rh_ HO_539002.out) hb)
         have n2_ := Aside0.mk (Kd.R_below (rh_ HO_550002.out) hb)
         have n3_ := Aside0.mk (Kd.R_below (rh_ HO567.out) hb)
         have n4_ := Aside0.mk (bb_ hb BK514.out)
         have n5_ := Aside0.mk (bb_ hb BK515.out)
         have n6_ := Aside0.mk (bb_ hb BK532.out)
         have n7_ := Aside0.mk (bb_ hb BK538.out)
         have n8_ := Aside0.mk (bb_ hb BK549.out)
         have n9_ := Aside0.mk (bb_ hb BK578.out)
         have n10_ := Aside0.mk (below_step hb_ hb)
         clear HO_533002
         clear HO_539002
         clear HO_550002
         clear HO567
         clear BK514
         clear BK515
         clear BK532
         clear BK538
         clear BK549
         clear BK578
         clear HB
         have HO_533002 := n0_
         have HO_539002 := n1_
         have HO_550002 := n2_
         have HO567 := n3_
         have BK514 := n4_
         have BK515 := n5_
         have BK532 := n6_
         have BK538 := n7_
         have BK549 := n8_
         have BK578 := n9_
         have HB := n10_
         clear n0_ n1_ n2_ n3_ n4_ n5_ n6_ n7_ n8_ n9_ n10_
         (try clear hb)
         obtain ⟨Ao142, co142, eo142⟩ := Kd.R_slice HO567.out
         (first | subst eo142 | (injection eo142 with f1_ f2_ f3_; have f4_ := f1_.symm; have f5_ := f3_.symm; clear f1_ f2_ f3_; subst f4_; subst f5_))
         refine hK.out _ _ ⟨bc_ BK514.out 0, bc_ BK514.out 1, bc_ BK514.out 2, bc_ BK515.out 0, bc_ BK515.out 1, bc_ BK515.out 2, bc_ BK515.out 3⟩ (fun hHeld => ?_)
         clear hK K
         refine norm_ (a' := ?_) ?_ ?_
         rotate_left
         ·show Act.put _ (some 83) _ = _
          simp only [Act.put, List.setIfInBounds_toArray, List.set_cons_zero, List.set_cons_succ, i64_w, i32_w]
          rfl
         refine one_ (i := 4) (N := some 84) #[true, true, true, true, true, false, false, false, true, false, false] rfl rfl (one_of HT_.out (by kernel_rfl)) (by decide) (fun K hK => ?_)
         refine goes_ Try.func36 (by kernel_rfl) rfl #[.agg #[.int .i64 t563, .int .i64 t564, .slice Ao142 t565.length co142], .agg #[.int .i64 t568, .int .i64 t569, .int .i64 t570, .int .i64 t571]] (by rfl) rfl rfl (by (try simp only [List.map_toArray, List.map_cons, List.map_nil]); first | done | rfl | (simp only [List.length_drop, List.length_take]; rfl)) ?_
         with_reducible refine (impl_AddClue.calls t563 t564 _ _ t565 t568 t569 t570 t571 t572 t573 t574 t577 _ ?side1 ?side2 A128.out).mono ?_
         (case side1 => repeat (first | exact (Kd.R_reads' HO567.out).2.2 | (with_reducible refine Kd.C_alloc ?_ _) | (with_reducible refine Kd.C_drewN ?_ _) | (with_reducible refine Kd.C_drew ?_)))
         (case side2 => exact (Kd.R_reads' HO567.out).2.1)
         rintro e w143 ⟨v575, rfl, ho0, hb⟩
         refine ⟨_, rfl, ?_⟩
         have n0_ := Aside0.mk (Kd.R_elder' (rh_ HO_533002.out) (Kd.R_base ho0) hb)
         have n1_ := Aside0.mk (Kd.R_elder' (rh_ HO_539002.out) (Kd.R_base ho0) hb)
         have n2_ := Aside0.mk (Kd.R_elder' (rh_ HO_550002.out) (Kd.R_base ho0) hb)
         have n3_ := Aside0.mk (Kd.R_elder' (rh_ HO567.out) (Kd.R_base ho0) hb)
         have n4_ := Aside0.mk (Kd.R_lower (Kd.R_new' (Kd.R_new' (Kd.R_new' (Kd.R_new' ho0 (Kd.R_lt (rh_ HO_533002.out))) (Kd.R_lt (rh_ HO_539002.out))) (Kd.R_lt (rh_ HO_550002.out))) (Kd.R_lt (rh_ HO567.out))) (below_size hb_))
         have n5_ := Aside0.mk (bb_ hb BK514.out)
         have n6_ := Aside0.mk (bb_ hb BK515.out)
         have n7_ := Aside0.mk (bb_ hb BK532.out)
         have n8_ := Aside0.mk (bb_ hb BK538.out)
         have n9_ := Aside0.mk (bb_ hb BK549.out)
         have n10_ := Aside0.mk (bb_ hb BK578.out)
         have n11_ := Aside0.mk (below_step hb_ hb)
         clear HO_533002
         clear HO_539002
         clear HO_550002
         clear HO567
         clear BK514
         clear BK515
         clear BK532
         clear BK538
         clear BK549
         clear BK578
         clear HB
         have HO_533002 := n0_
         have HO_539002 := n1_
         have HO_550002 := n2_
         have HO567 := n3_
         have HO576 := n4_
         have BK514 := n5_
         have BK515 := n6_
         have BK532 := n7_
         have BK538 := n8_
         have BK549 := n9_
         have BK578 := n10_
         have HB := n11_
         clear n0_ n1_ n2_ n3_ n4_ n5_ n6_ n7_ n8_ n9_ n10_ n11_
         (try clear hb)
         (try clear ho0)
         refine hK.out _ _ ⟨bc_ BK514.out 0, bc_ BK514.out 1, bc_ BK514.out 2, bc_ BK515.out 0, bc_ BK515.out 1, bc_ BK515.out 2, bc_ BK515.out 3⟩ (fun hHeld => ?_)
         clear hK K
         refine norm_ (a' := ?_) ?_ ?_
         rotate_left
         ·show Act.put _ (some 84) _ = _
          simp only [Act.put, List.setIfInBounds_toArray, List.set_cons_zero, List.set_cons_succ, i64_w, i32_w]
          rfl
         refine pure_ (i := 5) (N := some 79) (v := ?_) (a' := ?_) #[true, true, true, true, true, true, false, false, true, false, false] rfl rfl (any_of HT_.out (by kernel_rfl)) (fun _ _ _ h => h) (Or.inl ⟨by rfl, ?_⟩) ?_ ?_
         rotate_left
         ·intro w'
          go_simp
          with_reducible rfl
         rotate_left
         ·simp only [Act.put, List.setIfInBounds_toArray, List.set_cons_zero, List.set_cons_succ, i64_w, i32_w]
          rfl
         refine pure_ (i := 6) (N := some 85) (v := ?_) (a' := ?_) #[true, true, true, true, true, true, true, false, true, false, false] rfl rfl (any_of HT_.out (by kernel_rfl)) (fun _ _ _ h => h) (Or.inl ⟨by rfl, ?_⟩) ?_ ?_
         rotate_left
         ·intro w'
          go_simp
          with_reducible rfl
         rotate_left
         ·simp only [Act.put, List.setIfInBounds_toArray, List.set_cons_zero, List.set_cons_succ, i64_w, i32_w]
          rfl
         refine pure_ (i := 7) (N := some 86) (v := ?_) (a' := ?_) #[true, true, true, true, true, true, true, true, true, false, false] rfl rfl (any_of HT_.out (by kernel_rfl)) (fun _ _ _ h => h) (Or.inl ⟨by rfl, ?_⟩) ?_ ?_
         rotate_left
         ·intro w'
          go_simp
          with_reducible rfl
         rotate_left
         ·simp only [Act.put, List.setIfInBounds_toArray, List.set_cons_zero, List.set_cons_succ, i64_w, i32_w]
          rfl
         exact norm_ (by simp only [putAll, Act.put, List.setIfInBounds_toArray, List.set_cons_zero, List.set_cons_succ]) (hCont (.slice Ao142 t565.length co142, v575, gb578) _ ⟨hHeld, (rh_ (Kd.R_mono HO567.out (fun _ hk => ⟨hk.2, ⟨hk.1.1.1.2, ⟨hk.1.1.2, hk.1.2⟩⟩⟩))), (rh_ (Kd.R_mono HO576.out (fun _ hk => ⟨hk.2, ⟨hk.1.1.1.2, ⟨hk.1.1.2, hk.1.2⟩⟩⟩))), (rh_ (Kd.R_mono HO_533002.out (fun _ hk => ⟨hk.1.2, ⟨hk.2, ⟨hk.1.1.1, hk.1.1.2⟩⟩⟩))), (rh_ (Kd.R_mono HO_539002.out (fun _ hk => ⟨hk.1.2, ⟨hk.2, ⟨hk.1.1.1, hk.1.1.2⟩⟩⟩))), (rh_ (Kd.R_mono HO_550002.out (fun _ hk => ⟨hk.1.2, ⟨hk.2, ⟨hk.1.1.1, hk.1.1.2⟩⟩⟩))), (bh_ BK514.out), (bh_ BK515.out), (bh_ BK532.out), (bh_ BK538.out), (bh_ BK549.out), (bh_ BK578.out), GW578.out, GE578.out, NB514_578.out, NB578_514.out, NB515_578.out, NB578_515.out, NB532_578.out, NB578_532.out, NB538_578.out, NB578_538.out, NB549_578.out, NB578_549.out, hb_⟩)
        skip
        refine box_step ?hg (N := 14) ?hd (cs := #[.int .i64 0, .int .i64 0, .slice none 0 0]) (t := 42) ?hr ?_; (case hd => rfl); (case hg => rfl); (case hr => first | (go_simp; done) | (go_simp; rfl))
        intro gb578 hg w139 hbox hb
        have n0_ := Aside0.mk (Kd.R_below (rh_ HO_533002.out) hb)
        have n1_ := Aside0.mk (Kd.R_below (rh_ HO_539002.out) hb)
        have n2_ := Aside0.mk (Kd.R_below (rh_ HO_550002.out) hb)
        have n3_ := Aside0.mk (bb_ hb BK514.out)
        have n4_ := Aside0.mk (bb_ hb BK515.out)
        have n5_ := Aside0.mk (bb_ hb BK532.out)
        have n6_ := Aside0.mk (bb_ hb BK538.out)
        have n7_ := Aside0.mk (bb_ hb BK549.out)
        have n8_ := Aside0.mk (below_step hb_ hb)
        have n9_ := Aside0.mk (hbox)
        have n10_ := Aside0.mk ((by rw [hg]; exact (below_size hb_) : w.heap.size ≤ gb578))
        have n11_ := Aside0.mk ((by rw [hg]; exact (below_size hb_) : w.heap.size ≤ gb578))
        have n12_ := Aside0.mk ((by rw [hg]; exact bnlt_ BK514.out : gb514 ≠ gb578))
        have n13_ := Aside0.mk ((by rw [hg]; exact bngt_ BK514.out : gb578 ≠ gb514))
        have n14_ := Aside0.mk ((by rw [hg]; exact bnlt_ BK515.out : gb515 ≠ gb578))
        have n15_ := Aside0.mk ((by rw [hg]; exact bngt_ BK515.out : gb578 ≠ gb515))
        have n16_ := Aside0.mk ((by rw [hg]; exact bnlt_ BK532.out : gb532 ≠ gb578))
        have n17_ := Aside0.mk ((by rw [hg]; exact bngt_ BK532.out : gb578 ≠ gb532))
        have n18_ := Aside0.mk ((by rw [hg]; exact bnlt_ BK538.out : gb538 ≠ gb578))
        have n19_ := Aside0.mk ((by rw [hg]; exact bngt_ BK538.out : gb578 ≠ gb538))
        have n20_ := Aside0.mk ((by rw [hg]; exact bnlt_ BK549.out : gb549 ≠ gb578))
        have n21_ := Aside0.mk ((by rw [hg]; exact bngt_ BK549.out : gb578 ≠ gb549))
        clear HO_533002
        clear HO_539002
        clear HO_550002
        clear BK514
        clear BK515
        clear BK532
        clear BK538
        clear BK549
        clear HB
        have HO_533002 := n0_
        have HO_539002 := n1_
        have HO_550002 := n2_
        have BK514 := n3_
        have BK515 := n4_
        have BK532 := n5_
        have BK538 := n6_
        have BK549 := n7_
        have HB := n8_
        have BK578 := n9_
        have GW578 := n10_
        have GE578 := n11_
        have NB514_578 := n12_
        have NB578_514 := n13_
        have NB515_578 := n14_
        have NB578_515 := n15_
        have NB532_578 := n16_
        have NB578_532 := n17_
        have NB538_578 := n18_
        have NB578_538 := n19_
        have NB549_578 := n20_
        have NB578_549 := n21_
        clear n0_ n1_ n2_ n3_ n4_ n5_ n6_ n7_ n8_ n9_ n10_ n11_ n12_ n13_ n14_ n15_ n16_ n17_ n18_ n19_ n20_ n21_
        clear hb hbox hg
        refine hK.out _ _ ⟨bc_ BK514.out 0, bc_ BK514.out 1, bc_ BK514.out 2, bc_ BK515.out 0, bc_ BK515.out 1, bc_ BK515.out 2, bc_ BK515.out 3⟩ (fun hHeld => ?_)
        clear hK K
        refine norm_ (a' := ?_) ?_ ?_
        rotate_left
        ·show Act.put _ (some 14) _ = _
         simp only [Act.put, List.setIfInBounds_toArray, List.set_cons_zero, List.set_cons_succ, i64_w, i32_w]
         rfl
        refine one_ (i := 1) (N := some 81) #[true, true, true, false, false, false, false, false, true, false, false] rfl rfl (one_of HT_.out (by kernel_rfl)) (by decide) (fun K hK => ?_)
        refine goes_ Try.func26 (by kernel_rfl) rfl #[.agg #[.int .i64 a0_0, .int .i64 a0_1, .slice A0_2 l0_2.length c0_2]] (by rfl) rfl rfl (by (try simp only [List.map_toArray, List.map_cons, List.map_nil]); first | done | rfl | (simp only [List.length_drop, List.length_take]; rfl)) ?_
        with_reducible refine (laws_toPuzzle.calls kj78 a0_0 a0_1 _ _ l0_2 t563 t564 t565 _ ?side1 ?side2 A126.out).mono ?_
        (case side1 => exact Kd.C_below HR0_2.out hb_)
        (case side2 => exact HC0_2.out)
        rintro e w140 ⟨v566, rfl, ho0, hb⟩
        refine ⟨_, rfl, ?_⟩
        have n0_ := Aside0.mk (Kd.R_elder' (rh_ HO_533002.out) (Kd.R_base ho0) hb)
        have n1_ := Aside0.mk (Kd.R_elder' (rh_ HO_539002.out) (Kd.R_base ho0) hb)
        have n2_ := Aside0.mk (Kd.R_elder' (rh_ HO_550002.out) (Kd.R_base ho0) hb)
        have n3_ := Aside0.mk (Kd.R_lower (Kd.R_new' (Kd.R_new' (Kd.R_new' ho0 (Kd.R_lt (rh_ HO_533002.out))) (Kd.R_lt (rh_ HO_539002.out))) (Kd.R_lt (rh_ HO_550002.out))) (below_size hb_))
        have n4_ := Aside0.mk (bb_ hb BK514.out)
        have n5_ := Aside0.mk (bb_ hb BK515.out)
        have n6_ := Aside0.mk (bb_ hb BK532.out)
        have n7_ := Aside0.mk (bb_ hb BK538.out)
        have n8_ := Aside0.mk (bb_ hb BK549.out)
        have n9_ := Aside0.mk (bb_ hb BK578.out)
        have n10_ := Aside0.mk (below_step hb_ hb)
        clear HO_533002
        clear HO_539002
        clear HO_550002
        clear BK514
        clear BK515
        clear BK532
        clear BK538
        clear BK549
        clear BK578
        clear HB
        have HO_533002 := n0_
        have HO_539002 := n1_
        have HO_550002 := n2_
        have HO567 := n3_
        have BK514 := n4_
        have BK515 := n5_
        have BK532 := n6_
        have BK538 := n7_
        have BK549 := n8_
        have BK578 := n9_
        have HB := n10_
        clear n0_ n1_ n2_ n3_ n4_ n5_ n6_ n7_ n8_ n9_ n10_
        (try clear hb)
        (try clear ho0)
        refine hK.out _ _ ⟨bc_ BK514.out 0, bc_ BK514.out 1, bc_ BK514.out 2, bc_ BK515.out 0, bc_ BK515.out 1, bc_ BK515.out 2, bc_ BK515.out 3⟩ (fun hHeld => ?_)
        clear hK K
        refine norm_ (a' := ?_) ?_ ?_
        rotate_left
        ·show Act.put _ (some 81) _ = _
         simp only [Act.put, List.setIfInBounds_toArray, List.set_cons_zero, List.set_cons_succ, i64_w, i32_w]
         rfl
        refine one_ (i := 3) (N := some 83) #[true, true, true, true, false, false, false, false, true, false, false] rfl rfl (one_of HT_.out (by kernel_rfl)) (by decide) (fun K hK => ?_)
        refine goes_ Try.func22 (by kernel_rfl) rfl #[.agg #[.int .i64 a1_0, .int .i64 a1_1, .int .i64 a1_2, .int .i64 a1_3]] (by rfl) rfl rfl (by (try simp only [List.map_toArray, List.map_cons, List.map_nil]); first | done | rfl | (simp only [List.length_drop, List.length_take]; rfl)) ?_
        with_reducible refine (laws_toClue.calls a1_0 a1_1 a1_2 a1_3 t568 t569 t570 t571 _ A127.out).mono ?_
        rintro e w141 ⟨rfl, hb⟩
        refine ⟨_, rfl, ?_⟩
        have n0_ := Aside0.mk (Kd.R_below (rh_ HO_533002.out) hb)
        have n1_ := Aside0.mk (Kd.R_below (rh_ HO_539002.out) hb)
        have n2_ := Aside0.mk (Kd.R_below (rh_ HO_550002.out) hb)
        have n3_ := Aside0.mk (Kd.R_below (rh_ HO567.out) hb)
        have n4_ := Aside0.mk (bb_ hb BK514.out)
        have n5_ := Aside0.mk (bb_ hb BK515.out)
        have n6_ := Aside0.mk (bb_ hb BK532.out)
        have n7_ := Aside0.mk (bb_ hb BK538.out)
        have n8_ := Aside0.mk (bb_ hb BK549.out)
        have n9_ := Aside0.mk (bb_ hb BK578.out)
        have n10_ := Aside0.mk (below_step hb_ hb)
        clear HO_533002
        clear HO_539002
        clear HO_550002
        clear HO567
        clear BK514
        clear BK515
        clear BK532
        clear BK538
        clear BK549
        clear BK578
        clear HB
        have HO_533002 := n0_
        have HO_539002 := n1_
        have HO_550002 := n2_
        have HO567 := n3_
        have BK514 := n4_
        have BK515 := n5_
        have BK532 := n6_
        have BK538 := n7_
        have BK549 := n8_
        have BK578 := n9_
        have HB := n10_
        clear n0_ n1_ n2_ n3_ n4_ n5_ n6_ n7_ n8_ n9_ n10_
        (try clear hb)
        obtain ⟨Ao142, co142, eo142⟩ := Kd.R_slice HO567.out
        (first | subst eo142 | (injection eo142 with f1_ f2_ f3_; have f4_ := f1_.symm; have f5_ := f3_.symm; clear f1_ f2_ f3_; subst f4_; subst f5_))
        refine hK.out _ _ ⟨bc_ BK514.out 0, bc_ BK514.out 1, bc_ BK514.out 2, bc_ BK515.out 0, bc_ BK515.out 1, bc_ BK515.out 2, bc_ BK515.out 3⟩ (fun hHeld => ?_)
        clear hK K
        refine norm_ (a' := ?_) ?_ ?_
        rotate_left
        ·show Act.put _ (some 83) _ = _
         simp only [Act.put, List.setIfInBounds_toArray, List.set_cons_zero, List.set_cons_succ, i64_w, i32_w]
         rfl
        refine one_ (i := 4) (N := some 84) #[true, true, true, true, true, false, false, false, true, false, false] rfl rfl (one_of HT_.out (by kernel_rfl)) (by decide) (fun K hK => ?_)
        refine goes_ Try.func36 (by kernel_rfl) rfl #[.agg #[.int .i64 t563, .int .i64 t564, .slice Ao142 t565.length co142], .agg #[.int .i64 t568, .int .i64 t569, .int .i64 t570, .int .i64 t571]] (by rfl) rfl rfl (by (try simp only [List.map_toArray, List.map_cons, List.map_nil]); first | done | rfl | (simp only [List.length_drop, List.length_take]; rfl)) ?_
        with_reducible refine (impl_AddClue.calls t563 t564 _ _ t565 t568 t569 t570 t571 t572 t573 t574 t577 _ ?side1 ?side2 A128.out).mono ?_
        (case side1 => repeat (first | exact (Kd.R_reads' HO567.out).2.2 | (with_reducible refine Kd.C_alloc ?_ _) | (with_reducible refine Kd.C_drewN ?_ _) | (with_reducible refine Kd.C_drew ?_)))
        (case side2 => exact (Kd.R_reads' HO567.out).2.1)
        rintro e w143 ⟨v575, rfl, ho0, hb⟩
        refine ⟨_, rfl, ?_⟩
        have n0_ := Aside0.mk (Kd.R_elder' (rh_ HO_533002.out) (Kd.R_base ho0) hb)
        have n1_ := Aside0.mk (Kd.R_elder' (rh_ HO_539002.out) (Kd.R_base ho0) hb)
        have n2_ := Aside0.mk (Kd.R_elder' (rh_ HO_550002.out) (Kd.R_base ho0) hb)
        have n3_ := Aside0.mk (Kd.R_elder' (rh_ HO567.out) (Kd.R_base ho0) hb)
        have n4_ := Aside0.mk (Kd.R_lower (Kd.R_new' (Kd.R_new' (Kd.R_new' (Kd.R_new' ho0 (Kd.R_lt (rh_ HO_533002.out))) (Kd.R_lt (rh_ HO_539002.out))) (Kd.R_lt (rh_ HO_550002.out))) (Kd.R_lt (rh_ HO567.out))) (below_size hb_))
        have n5_ := Aside0.mk (bb_ hb BK514.out)
        have n6_ := Aside0.mk (bb_ hb BK515.out)
        have n7_ := Aside0.mk (bb_ hb BK532.out)
        have n8_ := Aside0.mk (bb_ hb BK538.out)
        have n9_ := Aside0.mk (bb_ hb BK549.out)
        have n10_ := Aside0.mk (bb_ hb BK578.out)
        have n11_ := Aside0.mk (below_step hb_ hb)
        clear HO_533002
        clear HO_539002
        clear HO_550002
        clear HO567
        clear BK514
        clear BK515
        clear BK532
        clear BK538
        clear BK549
        clear BK578
        clear HB
        have HO_533002 := n0_
        have HO_539002 := n1_
        have HO_550002 := n2_
        have HO567 := n3_
        have HO576 := n4_
        have BK514 := n5_
        have BK515 := n6_
        have BK532 := n7_
        have BK538 := n8_
        have BK549 := n9_
        have BK578 := n10_
        have HB := n11_
        clear n0_ n1_ n2_ n3_ n4_ n5_ n6_ n7_ n8_ n9_ n10_ n11_
        (try clear hb)
        (try clear ho0)
        refine hK.out _ _ ⟨bc_ BK514.out 0, bc_ BK514.out 1, bc_ BK514.out 2, bc_ BK515.out 0, bc_ BK515.out 1, bc_ BK515.out 2, bc_ BK515.out 3⟩ (fun hHeld => ?_)
        clear hK K
        refine norm_ (a' := ?_) ?_ ?_
        rotate_left
        ·show Act.put _ (some 84) _ = _
         simp only [Act.put, List.setIfInBounds_toArray, List.set_cons_zero, List.set_cons_succ, i64_w, i32_w]
         rfl
        refine pure_ (i := 5) (N := some 79) (v := ?_) (a' := ?_) #[true, true, true, true, true, true, false, false, true, false, false] rfl rfl (any_of HT_.out (by kernel_rfl)) (fun _ _ _ h => h) (Or.inl ⟨by rfl, ?_⟩) ?_ ?_
        rotate_left
        ·intro w'
         go_simp
         with_reducible rfl
        rotate_left
        ·simp only [Act.put, List.setIfInBounds_toArray, List.set_cons_zero, List.set_cons_succ, i64_w, i32_w]
         rfl
        refine pure_ (i := 6) (N := some 85) (v := ?_) (a' := ?_) #[true, true, true, true, true, true, true, false, true, false, false] rfl rfl (any_of HT_.out (by kernel_rfl)) (fun _ _ _ h => h) (Or.inl ⟨by rfl, ?_⟩) ?_ ?_
        rotate_left
        ·intro w'
         go_simp
         with_reducible rfl
        rotate_left
        ·simp only [Act.put, List.setIfInBounds_toArray, List.set_cons_zero, List.set_cons_succ, i64_w, i32_w]
         rfl
        refine pure_ (i := 7) (N := some 86) (v := ?_) (a' := ?_) #[true, true, true, true, true, true, true, true, true, false, false] rfl rfl (any_of HT_.out (by kernel_rfl)) (fun _ _ _ h => h) (Or.inl ⟨by rfl, ?_⟩) ?_ ?_
        rotate_left
        ·intro w'
         go_simp
         with_reducible rfl
        rotate_left
        ·simp only [Act.put, List.setIfInBounds_toArray, List.set_cons_zero, List.set_cons_succ, i64_w, i32_w]
         rfl
        exact norm_ (by simp only [putAll, Act.put, List.setIfInBounds_toArray, List.set_cons_zero, List.set_cons_succ]) (hCont (.slice Ao142 t565.length co142, v575, gb578) _ ⟨hHeld, (rh_ (Kd.R_mono HO567.out (fun _ hk => ⟨hk.2, ⟨hk.1.1.1.2, ⟨hk.1.1.2, hk.1.2⟩⟩⟩))), (rh_ (Kd.R_mono HO576.out (fun _ hk => ⟨hk.2, ⟨hk.1.1.1.2, ⟨hk.1.1.2, hk.1.2⟩⟩⟩))), (rh_ (Kd.R_mono HO_533002.out (fun _ hk => ⟨hk.1.2, ⟨hk.2, ⟨hk.1.1.1, hk.1.1.2⟩⟩⟩))), (rh_ (Kd.R_mono HO_539002.out (fun _ hk => ⟨hk.1.2, ⟨hk.2, ⟨hk.1.1.1, hk.1.1.2⟩⟩⟩))), (rh_ (Kd.R_mono HO_550002.out (fun _ hk => ⟨hk.1.2, ⟨hk.2, ⟨hk.1.1.1, hk.1.1.2⟩⟩⟩))), (bh_ BK514.out), (bh_ BK515.out), (bh_ BK532.out), (bh_ BK538.out), (bh_ BK549.out), (bh_ BK578.out), GW578.out, GE578.out, NB514_578.out, NB578_514.out, NB515_578.out, NB578_515.out, NB532_578.out, NB578_532.out, NB538_578.out, NB578_538.out, NB549_578.out, NB578_549.out, hb_⟩)
       rintro ⟨v566, v575, gb578⟩ w144 ⟨hS_, h0_, h1_, h2_, h3_, h4_, h5_, h6_, h7_, h8_, h9_, h10_, h11_, h12_, h13_, h14_, h15_, h16_, h17_, h18_, h19_, h20_, h21_, h22_, h23_⟩
       have n0_ : Aside0 (Kd.R k28 28 w144 w.heap.size (fun k_ => some k_ ≠ (v575 : Value).ownBlock ∧ some k_ ≠ (.slice Ao31 t528.length co31 : Value).ownBlock ∧ some k_ ≠ (.slice Ao41 t558.length co41 : Value).ownBlock ∧ some k_ ≠ (.slice Ao50 t545.length co50 : Value).ownBlock) v566 t565) := ⟨h0_⟩
       have n1_ : Aside0 (Kd.R k28 28 w144 w.heap.size (fun k_ => some k_ ≠ (v566 : Value).ownBlock ∧ some k_ ≠ (.slice Ao31 t528.length co31 : Value).ownBlock ∧ some k_ ≠ (.slice Ao41 t558.length co41 : Value).ownBlock ∧ some k_ ≠ (.slice Ao50 t545.length co50 : Value).ownBlock) v575 t574) := ⟨h1_⟩
       have n2_ : Aside0 (Kd.R k28 28 w144 w.heap.size (fun k_ => some k_ ≠ (v566 : Value).ownBlock ∧ some k_ ≠ (v575 : Value).ownBlock ∧ some k_ ≠ (.slice Ao41 t558.length co41 : Value).ownBlock ∧ some k_ ≠ (.slice Ao50 t545.length co50 : Value).ownBlock) (.slice Ao31 t528.length co31) t528) := ⟨h2_⟩
       have n3_ : Aside0 (Kd.R k28 28 w144 w.heap.size (fun k_ => some k_ ≠ (v566 : Value).ownBlock ∧ some k_ ≠ (v575 : Value).ownBlock ∧ some k_ ≠ (.slice Ao31 t528.length co31 : Value).ownBlock ∧ some k_ ≠ (.slice Ao50 t545.length co50 : Value).ownBlock) (.slice Ao41 t558.length co41) t558) := ⟨h3_⟩
       have n4_ : Aside0 (Kd.R k28 28 w144 w.heap.size (fun k_ => some k_ ≠ (v566 : Value).ownBlock ∧ some k_ ≠ (v575 : Value).ownBlock ∧ some k_ ≠ (.slice Ao31 t528.length co31 : Value).ownBlock ∧ some k_ ≠ (.slice Ao41 t558.length co41 : Value).ownBlock) (.slice Ao50 t545.length co50) t561) := ⟨h4_⟩
       have n5_ : Aside0 (w144.heap[gb514]? = some (.cells #[.int .i64 a0_0, .int .i64 a0_1, .slice A0_2 l0_2.length c0_2] 33 (0, 0))) := ⟨h5_⟩
       have n6_ : Aside0 (w144.heap[gb515]? = some (.cells #[.int .i64 a1_0, .int .i64 a1_1, .int .i64 a1_2, .int .i64 a1_3] 26 (0, 0))) := ⟨h6_⟩
       have n7_ : Aside0 (w144.heap[gb532]? = some (.cells #[.int .i64 t526, .int .i64 t527, .slice Ao31 t528.length co31] 42 (0, 0))) := ⟨h7_⟩
       have n8_ : Aside0 (w144.heap[gb538]? = some (.cells #[.int .i64 t533, .int .i64 t534, .slice Ao41 t558.length co41] 42 (0, 0))) := ⟨h8_⟩
       have n9_ : Aside0 (w144.heap[gb549]? = some (.cells #[.int .i64 t543, .int .i64 t544, .slice Ao50 t545.length co50] 42 (0, 0))) := ⟨h9_⟩
       have n10_ : Aside0 (w144.heap[gb578]? = some (.cells #[.int .i64 0, .int .i64 0, .slice none 0 0] 42 (0, 0))) := ⟨h10_⟩
       have n11_ : Aside0 (w.heap.size ≤ gb578) := ⟨h11_⟩
       have n12_ : Aside0 (w.heap.size ≤ gb578) := ⟨h12_⟩
       have n13_ : Aside0 (gb514 ≠ gb578) := ⟨h13_⟩
       have n14_ : Aside0 (gb578 ≠ gb514) := ⟨h14_⟩
       have n15_ : Aside0 (gb515 ≠ gb578) := ⟨h15_⟩
       have n16_ : Aside0 (gb578 ≠ gb515) := ⟨h16_⟩
       have n17_ : Aside0 (gb532 ≠ gb578) := ⟨h17_⟩
       have n18_ : Aside0 (gb578 ≠ gb532) := ⟨h18_⟩
       have n19_ : Aside0 (gb538 ≠ gb578) := ⟨h19_⟩
       have n20_ : Aside0 (gb578 ≠ gb538) := ⟨h20_⟩
       have n21_ : Aside0 (gb549 ≠ gb578) := ⟨h21_⟩
       have n22_ : Aside0 (gb578 ≠ gb549) := ⟨h22_⟩
       have n23_ : Aside0 (Below w.heap.size w w144) := ⟨h23_⟩
       clear HO_533002
       clear HO_539002
       clear HO_550002
       clear BK514
       clear BK515
       clear BK532
       clear BK538
       clear BK549
       clear HB
       clear h0_ h1_ h2_ h3_ h4_ h5_ h6_ h7_ h8_ h9_ h10_ h11_ h12_ h13_ h14_ h15_ h16_ h17_ h18_ h19_ h20_ h21_ h22_ h23_
       have HO567 := n0_
       have HO576 := n1_
       have HO_533002 := n2_
       have HO_539002 := n3_
       have HO_550002 := n4_
       have BK514 := n5_
       have BK515 := n6_
       have BK532 := n7_
       have BK538 := n8_
       have BK549 := n9_
       have BK578 := n10_
       have GW578 := n11_
       have GE578 := n12_
       have NB514_578 := n13_
       have NB578_514 := n14_
       have NB515_578 := n15_
       have NB578_515 := n16_
       have NB532_578 := n17_
       have NB578_532 := n18_
       have NB538_578 := n19_
       have NB578_538 := n20_
       have NB549_578 := n21_
       have NB578_549 := n22_
       have HB := n23_
       clear n0_ n1_ n2_ n3_ n4_ n5_ n6_ n7_ n8_ n9_ n10_ n11_ n12_ n13_ n14_ n15_ n16_ n17_ n18_ n19_ n20_ n21_ n22_ n23_
       have hHeld : w144.cell? ⟨gb514, 0, none⟩ = some (.int .i64 a0_0) ∧ w144.cell? ⟨gb514, 1, none⟩ = some (.int .i64 a0_1) ∧ w144.cell? ⟨gb514, 2, none⟩ = some (.slice A0_2 l0_2.length c0_2) ∧ w144.cell? ⟨gb515, 0, none⟩ = some (.int .i64 a1_0) ∧ w144.cell? ⟨gb515, 1, none⟩ = some (.int .i64 a1_1) ∧ w144.cell? ⟨gb515, 2, none⟩ = some (.int .i64 a1_2) ∧ w144.cell? ⟨gb515, 3, none⟩ = some (.int .i64 a1_3) := hS_
       obtain ⟨Ao147, co147, eo147⟩ := Kd.R_slice HO576.out
       (first | subst eo147 | (injection eo147 with f1_ f2_ f3_; have f4_ := f1_.symm; have f5_ := f3_.symm; clear f1_ f2_ f3_; subst f4_; subst f5_))
       refine norm_ (a' := ?_) ?_ ?_
       rotate_left
       ·simp only [putAll, Act.put, List.setIfInBounds_toArray, List.set_cons_zero, List.set_cons_succ]
        rfl
       refine one_ (i := 9) (N := none) #[true, true, true, true, true, true, true, true, true, true, false] rfl rfl (one_of HT_.out (by kernel_rfl)) (by decide) (fun K hK => ?_)
       have hs145 : w144.cell? ⟨gb578, 0, none⟩ = some (.int .i64 0) := bc_ BK578.out 0
       have hfs145 := blk_frozen BK578.out 0
       have hns145_0 := NB514_578.out
       have hns145_1 := NB515_578.out
       have hns145_2 := NB532_578.out
       have hns145_3 := NB538_578.out
       have hns145_4 := NB549_578.out
       have hms145_0 := NB578_514.out
       have hms145_1 := NB578_515.out
       have hms145_2 := NB578_532.out
       have hms145_3 := NB578_538.out
       have hms145_4 := NB578_549.out
       have hs146 : w144.cell? ⟨gb578, 1, none⟩ = some (.int .i64 0) := bc_ BK578.out 1
       have hfs146 := blk_frozen BK578.out 1
       have hns146_0 := NB514_578.out
       have hns146_1 := NB515_578.out
       have hns146_2 := NB532_578.out
       have hns146_3 := NB538_578.out
       have hns146_4 := NB549_578.out
       have hms146_0 := NB578_514.out
       have hms146_1 := NB578_515.out
       have hms146_2 := NB578_532.out
       have hms146_3 := NB578_538.out
       have hms146_4 := NB578_549.out
       have hs148 : w144.cell? ⟨gb578, 2, none⟩ = some (.slice none 0 0) := bc_ BK578.out 2
       have hfs148 := blk_frozen BK578.out 2
       have hns148_0 := NB514_578.out
       have hns148_1 := NB515_578.out
       have hns148_2 := NB532_578.out
       have hns148_3 := NB538_578.out
       have hns148_4 := NB549_578.out
       have hms148_0 := NB578_514.out
       have hms148_1 := NB578_515.out
       have hms148_2 := NB578_532.out
       have hms148_3 := NB578_538.out
       have hms148_4 := NB578_549.out
       refine skip_ (w1 := ?_) (by rfl) rfl ?_ ?_
       rotate_left
       ·go_simp
        rfl
       refine hK.out _ _ ⟨((cell_far (p := ⟨gb578, _, none⟩) NB514_578.out _).trans (((cell_far (p := ⟨gb578, _, none⟩) NB514_578.out _).trans (((cell_far (p := ⟨gb578, _, none⟩) NB514_578.out _).trans (hHeld.1)))))), ((cell_far (p := ⟨gb578, _, none⟩) NB514_578.out _).trans (((cell_far (p := ⟨gb578, _, none⟩) NB514_578.out _).trans (((cell_far (p := ⟨gb578, _, none⟩) NB514_578.out _).trans (hHeld.2.1)))))), ((cell_far (p := ⟨gb578, _, none⟩) NB514_578.out _).trans (((cell_far (p := ⟨gb578, _, none⟩) NB514_578.out _).trans (((cell_far (p := ⟨gb578, _, none⟩) NB514_578.out _).trans (hHeld.2.2.1)))))), ((cell_far (p := ⟨gb578, _, none⟩) NB515_578.out _).trans (((cell_far (p := ⟨gb578, _, none⟩) NB515_578.out _).trans (((cell_far (p := ⟨gb578, _, none⟩) NB515_578.out _).trans (hHeld.2.2.2.1)))))), ((cell_far (p := ⟨gb578, _, none⟩) NB515_578.out _).trans (((cell_far (p := ⟨gb578, _, none⟩) NB515_578.out _).trans (((cell_far (p := ⟨gb578, _, none⟩) NB515_578.out _).trans (hHeld.2.2.2.2.1)))))), ((cell_far (p := ⟨gb578, _, none⟩) NB515_578.out _).trans (((cell_far (p := ⟨gb578, _, none⟩) NB515_578.out _).trans (((cell_far (p := ⟨gb578, _, none⟩) NB515_578.out _).trans (hHeld.2.2.2.2.2.1)))))), ((cell_far (p := ⟨gb578, _, none⟩) NB515_578.out _).trans (((cell_far (p := ⟨gb578, _, none⟩) NB515_578.out _).trans (((cell_far (p := ⟨gb578, _, none⟩) NB515_578.out _).trans (hHeld.2.2.2.2.2.2))))))⟩ (fun hHeld => ?_)
       clear hK K
       refine pure_ (i := 10) (N := some 15) (v := ?_) (a' := ?_) #[true, true, true, true, true, true, true, true, true, true, true] rfl rfl (any_of HT_.out (by kernel_rfl)) (fun _ _ _ h => h) (Or.inl ⟨by rfl, ?_⟩) ?_ ?_
       rotate_left
       ·intro w'
        go_simp
        with_reducible rfl
       rotate_left
       ·simp only [Act.put, List.setIfInBounds_toArray, List.set_cons_zero, List.set_cons_succ, i64_w, i32_w]
        rfl
       refine done_ (done_of HT_.out (by kernel_rfl)) ?_
       go_upto_region 25 with (fail)
       go_cut [95] (fun v95 wc => ∃ (kq : Nat) (x95_128 : Bool), v95 = .bool x95_128 ∧ Aside0 (laws_FnExactAddClue.j2 kq t560 x95_128 t543 t544 t561 = some r) ∧ Aside0 (kq ≤ kj78) ∧ Aside0 (Kd.R k28 28 wc w.heap.size (fun k_ => some k_ ≠ ((.slice Ao41 t558.length co41) : Value).ownBlock ∧ some k_ ≠ ((.slice Ao50 t545.length co50) : Value).ownBlock ∧ some k_ ≠ ((.slice Ao147 t574.length co147) : Value).ownBlock) (.slice Ao31 t528.length co31) t528) ∧ Aside0 (Kd.R k28 28 wc w.heap.size (fun k_ => some k_ ≠ ((.slice Ao31 t528.length co31) : Value).ownBlock ∧ some k_ ≠ ((.slice Ao50 t545.length co50) : Value).ownBlock ∧ some k_ ≠ ((.slice Ao147 t574.length co147) : Value).ownBlock) (.slice Ao41 t558.length co41) t558) ∧ Aside0 (Kd.R k28 28 wc w.heap.size (fun k_ => some k_ ≠ ((.slice Ao31 t528.length co31) : Value).ownBlock ∧ some k_ ≠ ((.slice Ao41 t558.length co41) : Value).ownBlock ∧ some k_ ≠ ((.slice Ao147 t574.length co147) : Value).ownBlock) (.slice Ao50 t545.length co50) t561) ∧ Aside0 (Kd.R k28 28 wc w.heap.size (fun k_ => some k_ ≠ ((.slice Ao31 t528.length co31) : Value).ownBlock ∧ some k_ ≠ ((.slice Ao41 t558.length co41) : Value).ownBlock ∧ some k_ ≠ ((.slice Ao50 t545.length co50) : Value).ownBlock) (.slice Ao147 t574.length co147) t574) ∧ Aside0 (wc.heap[gb514]? = some (.cells #[.int .i64 a0_0, .int .i64 a0_1, (.slice A0_2 l0_2.length c0_2)] 33 (0, 0))) ∧ Aside0 (wc.heap[gb515]? = some (.cells #[.int .i64 a1_0, .int .i64 a1_1, .int .i64 a1_2, .int .i64 a1_3] 26 (0, 0))) ∧ Aside0 (wc.heap[gb532]? = some (.cells #[.int .i64 t526, .int .i64 t527, (.slice Ao31 t528.length co31)] 42 (0, 0))) ∧ Aside0 (wc.heap[gb538]? = some (.cells #[.int .i64 t533, .int .i64 t534, (.slice Ao41 t558.length co41)] 42 (0, 0))) ∧ Aside0 (wc.heap[gb549]? = some (.cells #[.int .i64 t543, .int .i64 t544, (.slice Ao50 t545.length co50)] 42 (0, 0))) ∧ Aside0 (wc.heap[gb578]? = some (.cells #[.int .i64 t572, .int .i64 t573, (.slice Ao147 t574.length co147)] 42 (0, 0))) ∧ Aside0 (Below w.heap.size w wc))
       case first =>
        have H := HC129.out
        clear HC129
        replace H := Option.bind_eq_some_iff.mp H
        obtain ⟨t579, A1490, H⟩ := H
        replace H : (if t579 = true then (laws_FnExactAddClue.j2 kj78 t560 (t577 != t531) t543 t544 t561) else (laws_FnExactAddClue.j2 kj78 t560 true t543 t544 t561)) = some r := H
        have A149 := Aside0.mk A1490
        clear A1490
        by_cases c150 : t579 = true
        ·subst c150
         have H1 : (laws_FnExactAddClue.j2 kj78 t560 (t577 != t531) t543 t544 t561) = some r := by rw [if_pos rfl] at H; exact H
         clear H
         have H := H1
         clear H1
         have H' := Aside0.mk H
         clear H
         have hnb151 := NB578_514.out
         have hnc151 := NB514_578.out
         have hnb152 := NB578_515.out
         have hnc152 := NB515_578.out
         have hnb153 := NB578_532.out
         have hnc153 := NB532_578.out
         have hnb154 := NB578_538.out
         have hnc154 := NB538_578.out
         have hnb155 := NB578_549.out
         have hnc155 := NB549_578.out
         have hcz156_0 : w144.cell? ⟨gb578, 0, none⟩ = some (.int .i64 0) := bc_ BK578.out 0
         have hcz156_1 : w144.cell? ⟨gb578, 1, none⟩ = some (.int .i64 0) := bc_ BK578.out 1
         have hcz156_2 : w144.cell? ⟨gb578, 2, none⟩ = some (.slice none 0 0) := bc_ BK578.out 2
         have hfz156_0 := blk_frozen BK578.out 0
         have hfz156_1 := blk_frozen BK578.out 1
         have hfz156_2 := blk_frozen BK578.out 2
         have hnb157 := NB532_514.out
         have hnc157 := NB514_532.out
         have hnb158 := NB532_515.out
         have hnc158 := NB515_532.out
         have hnb159 := NB532_538.out
         have hnc159 := NB538_532.out
         have hnb160 := NB532_549.out
         have hnc160 := NB549_532.out
         have hcz161_0 : w144.cell? ⟨gb532, 0, none⟩ = some (.int .i64 t526) := bc_ BK532.out 0
         have hcz161_1 : w144.cell? ⟨gb532, 1, none⟩ = some (.int .i64 t527) := bc_ BK532.out 1
         have hcz161_2 : w144.cell? ⟨gb532, 2, none⟩ = some (.slice Ao31 t528.length co31) := bc_ BK532.out 2
         have hfz161_0 := blk_frozen BK532.out 0
         have hfz161_1 := blk_frozen BK532.out 1
         have hfz161_2 := blk_frozen BK532.out 2
         go_wp2_with (first | ((with_reducible refine gate_callee (f := 29) rfl ?_); refine goesL_ (some 89) rfl rfl Try.func29 (by kernel_rfl) rfl #[.agg #[.int .i64 t572, .int .i64 t573, .slice Ao147 t574.length co147], .agg #[.int .i64 t526, .int .i64 t527, .slice Ao31 t528.length co31]] rfl (by (try simp only [List.map_toArray, List.map_cons, List.map_nil]); first | done | rfl | (simp only [List.length_drop, List.length_take]; rfl)) ?_; (with_reducible refine (laws_eqPuzzle.calls kj78 t572 t573 _ _ t574 t526 t527 _ _ t528 true _ ?side1 ?side2 ?side3 ?side4 A149.out).mono ?_); (case side1 => refine (Kd.R_reads' (e := 28) (base := w.heap.size) (ok := fun k_ => (some k_ ≠ (v566 : Value).ownBlock ∧ (some k_ ≠ (.slice Ao31 t528.length co31 : Value).ownBlock ∧ (some k_ ≠ (.slice Ao41 t558.length co41 : Value).ownBlock ∧ some k_ ≠ (.slice Ao50 t545.length co50 : Value).ownBlock)))) (n := t574.length) (c := co147) ?_).2.2; exact (by (with_reducible repeat (first | apply Kd.R_alloc | apply Kd.R_drewN | apply Kd.R_drew)); exact (Kd.R_mono (Kd.R_far (p := ⟨gb578, 2, none⟩) (Kd.R_far (p := ⟨gb578, 1, none⟩) (Kd.R_far (p := ⟨gb578, 0, none⟩) (Kd.R_types HO576.out BK578.out (by decide)) (fun _ hk => hk.2) (.int .i64 t572)) (fun _ hk => hk.2) (.int .i64 t573)) (fun _ hk => hk.2) (.slice Ao147 t574.length co147)) (fun _ h_ => h_.1)))); (case side2 => exact (Kd.R_reads' HO576.out).2.1); (case side3 => refine (Kd.R_reads' (e := 28) (base := w.heap.size) (ok := fun k_ => (some k_ ≠ (v566 : Value).ownBlock ∧ (some k_ ≠ (.slice Ao147 t574.length co147 : Value).ownBlock ∧ (some k_ ≠ (.slice Ao41 t558.length co41 : Value).ownBlock ∧ some k_ ≠ (.slice Ao50 t545.length co50 : Value).ownBlock)))) (n := t528.length) (c := co31) ?_).2.2; exact (by (with_reducible repeat (first | apply Kd.R_alloc | apply Kd.R_drewN | apply Kd.R_drew)); exact (Kd.R_mono (Kd.R_far (p := ⟨gb578, 2, none⟩) (Kd.R_far (p := ⟨gb578, 1, none⟩) (Kd.R_far (p := ⟨gb578, 0, none⟩) (Kd.R_types HO_533002.out BK578.out (by decide)) (fun _ hk => hk.2) (.int .i64 t572)) (fun _ hk => hk.2) (.int .i64 t573)) (fun _ hk => hk.2) (.slice Ao147 t574.length co147)) (fun _ h_ => h_.1)))); (case side4 => exact (Kd.R_reads' HO_533002.out).2.1); rintro e w162 ⟨rfl, hb⟩; refine ⟨_, rfl, ?_⟩; have n0_ := Aside0.mk (Kd.R_below (by (with_reducible repeat (first | apply Kd.R_alloc | apply Kd.R_drewN | apply Kd.R_drew)); exact (Kd.R_mono (Kd.R_far (p := ⟨gb578, 2, none⟩) (Kd.R_far (p := ⟨gb578, 1, none⟩) (Kd.R_far (p := ⟨gb578, 0, none⟩) (Kd.R_types HO_533002.out BK578.out (by decide)) (fun _ hk => hk.2) (.int .i64 t572)) (fun _ hk => hk.2) (.int .i64 t573)) (fun _ hk => hk.2) (.slice Ao147 t574.length co147)) (fun _ h_ => h_.1))) hb); have n1_ := Aside0.mk (Kd.R_below (by (with_reducible repeat (first | apply Kd.R_alloc | apply Kd.R_drewN | apply Kd.R_drew)); exact (Kd.R_mono (Kd.R_far (p := ⟨gb578, 2, none⟩) (Kd.R_far (p := ⟨gb578, 1, none⟩) (Kd.R_far (p := ⟨gb578, 0, none⟩) (Kd.R_types HO_539002.out BK578.out (by decide)) (fun _ hk => hk.2) (.int .i64 t572)) (fun _ hk => hk.2) (.int .i64 t573)) (fun _ hk => hk.2) (.slice Ao147 t574.length co147)) (fun _ h_ => h_.1))) hb); have n2_ := Aside0.mk (Kd.R_below (by (with_reducible repeat (first | apply Kd.R_alloc | apply Kd.R_drewN | apply Kd.R_drew)); exact (Kd.R_mono (Kd.R_far (p := ⟨gb578, 2, none⟩) (Kd.R_far (p := ⟨gb578, 1, none⟩) (Kd.R_far (p := ⟨gb578, 0, none⟩) (Kd.R_types HO_550002.out BK578.out (by decide)) (fun _ hk => hk.2) (.int .i64 t572)) (fun _ hk => hk.2) (.int .i64 t573)) (fun _ hk => hk.2) (.slice Ao147 t574.length co147)) (fun _ h_ => h_.1))) hb); have n3_ := Aside0.mk (Kd.R_below (by (with_reducible repeat (first | apply Kd.R_alloc | apply Kd.R_drewN | apply Kd.R_drew)); exact (Kd.R_mono (Kd.R_far (p := ⟨gb578, 2, none⟩) (Kd.R_far (p := ⟨gb578, 1, none⟩) (Kd.R_far (p := ⟨gb578, 0, none⟩) (Kd.R_types HO567.out BK578.out (by decide)) (fun _ hk => hk.2) (.int .i64 t572)) (fun _ hk => hk.2) (.int .i64 t573)) (fun _ hk => hk.2) (.slice Ao147 t574.length co147)) (fun _ h_ => h_.1))) hb); have n4_ := Aside0.mk (Kd.R_below (by (with_reducible repeat (first | apply Kd.R_alloc | apply Kd.R_drewN | apply Kd.R_drew)); exact (Kd.R_mono (Kd.R_far (p := ⟨gb578, 2, none⟩) (Kd.R_far (p := ⟨gb578, 1, none⟩) (Kd.R_far (p := ⟨gb578, 0, none⟩) (Kd.R_types HO576.out BK578.out (by decide)) (fun _ hk => hk.2) (.int .i64 t572)) (fun _ hk => hk.2) (.int .i64 t573)) (fun _ hk => hk.2) (.slice Ao147 t574.length co147)) (fun _ h_ => h_.1))) hb); have n5_ := Aside0.mk (blk_below (g := gb514) (o := .cells #[.int .i64 a0_0, .int .i64 a0_1, .slice A0_2 l0_2.length c0_2] 33 (0, 0)) (by (with_reducible repeat (first | refine blk_drewN ?_ _ | refine blk_drew ?_ | refine blk_alloc ?_ _)); refine blk_far ?_ NB514_578.out _; (with_reducible repeat (first | refine blk_drewN ?_ _ | refine blk_drew ?_ | refine blk_alloc ?_ _)); refine blk_far ?_ NB514_578.out _; (with_reducible repeat (first | refine blk_drewN ?_ _ | refine blk_drew ?_ | refine blk_alloc ?_ _)); refine blk_far ?_ NB514_578.out _; (with_reducible repeat (first | refine blk_drewN ?_ _ | refine blk_drew ?_ | refine blk_alloc ?_ _)); exact BK514.out) hb); have n6_ := Aside0.mk (blk_below (g := gb515) (o := .cells #[.int .i64 a1_0, .int .i64 a1_1, .int .i64 a1_2, .int .i64 a1_3] 26 (0, 0)) (by (with_reducible repeat (first | refine blk_drewN ?_ _ | refine blk_drew ?_ | refine blk_alloc ?_ _)); refine blk_far ?_ NB515_578.out _; (with_reducible repeat (first | refine blk_drewN ?_ _ | refine blk_drew ?_ | refine blk_alloc ?_ _)); refine blk_far ?_ NB515_578.out _; (with_reducible repeat (first | refine blk_drewN ?_ _ | refine blk_drew ?_ | refine blk_alloc ?_ _)); refine blk_far ?_ NB515_578.out _; (with_reducible repeat (first | refine blk_drewN ?_ _ | refine blk_drew ?_ | refine blk_alloc ?_ _)); exact BK515.out) hb); have n7_ := Aside0.mk (blk_below (g := gb532) (o := .cells #[.int .i64 t526, .int .i64 t527, .slice Ao31 t528.length co31] 42 (0, 0)) (by (with_reducible repeat (first | refine blk_drewN ?_ _ | refine blk_drew ?_ | refine blk_alloc ?_ _)); refine blk_far ?_ NB532_578.out _; (with_reducible repeat (first | refine blk_drewN ?_ _ | refine blk_drew ?_ | refine blk_alloc ?_ _)); refine blk_far ?_ NB532_578.out _; (with_reducible repeat (first | refine blk_drewN ?_ _ | refine blk_drew ?_ | refine blk_alloc ?_ _)); refine blk_far ?_ NB532_578.out _; (with_reducible repeat (first | refine blk_drewN ?_ _ | refine blk_drew ?_ | refine blk_alloc ?_ _)); exact BK532.out) hb); have n8_ := Aside0.mk (blk_below (g := gb538) (o := .cells #[.int .i64 t533, .int .i64 t534, .slice Ao41 t558.length co41] 42 (0, 0)) (by (with_reducible repeat (first | refine blk_drewN ?_ _ | refine blk_drew ?_ | refine blk_alloc ?_ _)); refine blk_far ?_ NB538_578.out _; (with_reducible repeat (first | refine blk_drewN ?_ _ | refine blk_drew ?_ | refine blk_alloc ?_ _)); refine blk_far ?_ NB538_578.out _; (with_reducible repeat (first | refine blk_drewN ?_ _ | refine blk_drew ?_ | refine blk_alloc ?_ _)); refine blk_far ?_ NB538_578.out _; (with_reducible repeat (first | refine blk_drewN ?_ _ | refine blk_drew ?_ | refine blk_alloc ?_ _)); exact BK538.out) hb); have n9_ := Aside0.mk (blk_below (g := gb549) (o := .cells #[.int .i64 t543, .int .i64 t544, .slice Ao50 t545.length co50] 42 (0, 0)) (by (with_reducible repeat (first | refine blk_drewN ?_ _ | refine blk_drew ?_ | refine blk_alloc ?_ _)); refine blk_far ?_ NB549_578.out _; (with_reducible repeat (first | refine blk_drewN ?_ _ | refine blk_drew ?_ | refine blk_alloc ?_ _)); refine blk_far ?_ NB549_578.out _; (with_reducible repeat (first | refine blk_drewN ?_ _ | refine blk_drew ?_ | refine blk_alloc ?_ _)); refine blk_far ?_ NB549_578.out _; (with_reducible repeat (first | refine blk_drewN ?_ _ | refine blk_drew ?_ | refine blk_alloc ?_ _)); exact BK549.out) hb); have n10_ := Aside0.mk (blk_below (g := gb578) (o := .cells #[.int .i64 t572, .int .i64 t573, .slice Ao147 t574.length co147] 42 (0, 0)) (by (with_reducible repeat (first | refine blk_drewN ?_ _ | refine blk_drew ?_ | refine blk_alloc ?_ _)); refine blk_put (cs := #[.int .i64 t572, .int .i64 t573, .slice none 0 0]) ?_ 2 _ rfl; (with_reducible repeat (first | refine blk_drewN ?_ _ | refine blk_drew ?_ | refine blk_alloc ?_ _)); refine blk_put (cs := #[.int .i64 t572, .int .i64 0, .slice none 0 0]) ?_ 1 _ rfl; (with_reducible repeat (first | refine blk_drewN ?_ _ | refine blk_drew ?_ | refine blk_alloc ?_ _)); refine blk_put (cs := #[.int .i64 0, .int .i64 0, .slice none 0 0]) ?_ 0 _ rfl; (with_reducible repeat (first | refine blk_drewN ?_ _ | refine blk_drew ?_ | refine blk_alloc ?_ _)); exact BK578.out) hb); have n11_ := Aside0.mk (below_step hb_ hb); clear HO_533002; clear HO_539002; clear HO_550002; clear HO567; clear HO576; clear BK514; clear BK515; clear BK532; clear BK538; clear BK549; clear BK578; clear HB; have HO_533002 := n0_; have HO_539002 := n1_; have HO_550002 := n2_; have HO567 := n3_; have HO576 := n4_; have BK514 := n5_; have BK515 := n6_; have BK532 := n7_; have BK538 := n8_; have BK549 := n9_; have BK578 := n10_; have HB := n11_; clear n0_ n1_ n2_ n3_ n4_ n5_ n6_ n7_ n8_ n9_ n10_ n11_; (try clear hb)))
         go_meet
         case rel => exact ⟨_, ((t577 != t531)), (by first | rfl | (simp; done) | (simp [*]; done)), H', ⟨by have := HJ15.out; have := HJ78.out; first | omega | exact Nat.le_refl _⟩, ⟨by (try simp only [hl539002_78]); (with_reducible repeat (first | apply Kd.R_alloc | apply Kd.R_drewN | apply Kd.R_drew)); exact Kd.R_mono HO_533002.out (fun _ hk => ⟨hk.2.2.1, ⟨hk.2.2.2, hk.2.1⟩⟩)⟩, ⟨by (try simp only [hl539002_78]); (with_reducible repeat (first | apply Kd.R_alloc | apply Kd.R_drewN | apply Kd.R_drew)); exact Kd.R_mono HO_539002.out (fun _ hk => ⟨hk.2.2.1, ⟨hk.2.2.2, hk.2.1⟩⟩)⟩, ⟨by (try simp only [hl539002_78]); (with_reducible repeat (first | apply Kd.R_alloc | apply Kd.R_drewN | apply Kd.R_drew)); exact Kd.R_mono HO_550002.out (fun _ hk => ⟨hk.2.2.1, ⟨hk.2.2.2, hk.2.1⟩⟩)⟩, ⟨by (try simp only [hl539002_78]); (with_reducible repeat (first | apply Kd.R_alloc | apply Kd.R_drewN | apply Kd.R_drew)); exact Kd.R_mono HO576.out (fun _ hk => ⟨hk.2.1, ⟨hk.2.2.1, hk.2.2.2⟩⟩)⟩, ⟨by (try simp only [hl539002_78]); (with_reducible repeat (first | refine blk_drewN ?_ _ | refine blk_drew ?_ | refine blk_alloc ?_ _)); exact BK514.out⟩, ⟨by (try simp only [hl539002_78]); (with_reducible repeat (first | refine blk_drewN ?_ _ | refine blk_drew ?_ | refine blk_alloc ?_ _)); exact BK515.out⟩, ⟨by (try simp only [hl539002_78]); (with_reducible repeat (first | refine blk_drewN ?_ _ | refine blk_drew ?_ | refine blk_alloc ?_ _)); exact BK532.out⟩, ⟨by (try simp only [hl539002_78]); (with_reducible repeat (first | refine blk_drewN ?_ _ | refine blk_drew ?_ | refine blk_alloc ?_ _)); exact BK538.out⟩, ⟨by (try simp only [hl539002_78]); (with_reducible repeat (first | refine blk_drewN ?_ _ | refine blk_drew ?_ | refine blk_alloc ?_ _)); exact BK549.out⟩, ⟨by (try simp only [hl539002_78]); (with_reducible repeat (first | refine blk_drewN ?_ _ | refine blk_drew ?_ | refine blk_alloc ?_ _)); exact BK578.out⟩, ⟨hb_⟩⟩
        replace c150 := Bool.eq_false_iff.mpr c150
        subst c150
        have H1 : (laws_FnExactAddClue.j2 kj78 t560 true t543 t544 t561) = some r := by rw [if_neg (show ¬ (false = true) by decide)] at H; exact H
        clear H
        have H := H1
        clear H1
        have H' := Aside0.mk H
        clear H
        have hnb163 := NB578_514.out
        have hnc163 := NB514_578.out
        have hnb164 := NB578_515.out
        have hnc164 := NB515_578.out
        have hnb165 := NB578_532.out
        have hnc165 := NB532_578.out
        have hnb166 := NB578_538.out
        have hnc166 := NB538_578.out
        have hnb167 := NB578_549.out
        have hnc167 := NB549_578.out
        have hcz168_0 : w144.cell? ⟨gb578, 0, none⟩ = some (.int .i64 0) := bc_ BK578.out 0
        have hcz168_1 : w144.cell? ⟨gb578, 1, none⟩ = some (.int .i64 0) := bc_ BK578.out 1
        have hcz168_2 : w144.cell? ⟨gb578, 2, none⟩ = some (.slice none 0 0) := bc_ BK578.out 2
        have hfz168_0 := blk_frozen BK578.out 0
        have hfz168_1 := blk_frozen BK578.out 1
        have hfz168_2 := blk_frozen BK578.out 2
        have hnb169 := NB532_514.out
        have hnc169 := NB514_532.out
        have hnb170 := NB532_515.out
        have hnc170 := NB515_532.out
        have hnb171 := NB532_538.out
        have hnc171 := NB538_532.out
        have hnb172 := NB532_549.out
        have hnc172 := NB549_532.out
        have hcz173_0 : w144.cell? ⟨gb532, 0, none⟩ = some (.int .i64 t526) := bc_ BK532.out 0
        have hcz173_1 : w144.cell? ⟨gb532, 1, none⟩ = some (.int .i64 t527) := bc_ BK532.out 1
        have hcz173_2 : w144.cell? ⟨gb532, 2, none⟩ = some (.slice Ao31 t528.length co31) := bc_ BK532.out 2
        have hfz173_0 := blk_frozen BK532.out 0
        have hfz173_1 := blk_frozen BK532.out 1
        have hfz173_2 := blk_frozen BK532.out 2
        go_wp2_with (first | ((with_reducible refine gate_callee (f := 29) rfl ?_); refine goesL_ (some 89) rfl rfl Try.func29 (by kernel_rfl) rfl #[.agg #[.int .i64 t572, .int .i64 t573, .slice Ao147 t574.length co147], .agg #[.int .i64 t526, .int .i64 t527, .slice Ao31 t528.length co31]] rfl (by (try simp only [List.map_toArray, List.map_cons, List.map_nil]); first | done | rfl | (simp only [List.length_drop, List.length_take]; rfl)) ?_; (with_reducible refine (laws_eqPuzzle.calls kj78 t572 t573 _ _ t574 t526 t527 _ _ t528 false _ ?side1 ?side2 ?side3 ?side4 A149.out).mono ?_); (case side1 => refine (Kd.R_reads' (e := 28) (base := w.heap.size) (ok := fun k_ => (some k_ ≠ (v566 : Value).ownBlock ∧ (some k_ ≠ (.slice Ao31 t528.length co31 : Value).ownBlock ∧ (some k_ ≠ (.slice Ao41 t558.length co41 : Value).ownBlock ∧ some k_ ≠ (.slice Ao50 t545.length co50 : Value).ownBlock)))) (n := t574.length) (c := co147) ?_).2.2; exact (by (with_reducible repeat (first | apply Kd.R_alloc | apply Kd.R_drewN | apply Kd.R_drew)); exact (Kd.R_mono (Kd.R_far (p := ⟨gb578, 2, none⟩) (Kd.R_far (p := ⟨gb578, 1, none⟩) (Kd.R_far (p := ⟨gb578, 0, none⟩) (Kd.R_types HO576.out BK578.out (by decide)) (fun _ hk => hk.2) (.int .i64 t572)) (fun _ hk => hk.2) (.int .i64 t573)) (fun _ hk => hk.2) (.slice Ao147 t574.length co147)) (fun _ h_ => h_.1)))); (case side2 => exact (Kd.R_reads' HO576.out).2.1); (case side3 => refine (Kd.R_reads' (e := 28) (base := w.heap.size) (ok := fun k_ => (some k_ ≠ (v566 : Value).ownBlock ∧ (some k_ ≠ (.slice Ao147 t574.length co147 : Value).ownBlock ∧ (some k_ ≠ (.slice Ao41 t558.length co41 : Value).ownBlock ∧ some k_ ≠ (.slice Ao50 t545.length co50 : Value).ownBlock)))) (n := t528.length) (c := co31) ?_).2.2; exact (by (with_reducible repeat (first | apply Kd.R_alloc | apply Kd.R_drewN | apply Kd.R_drew)); exact (Kd.R_mono (Kd.R_far (p := ⟨gb578, 2, none⟩) (Kd.R_far (p := ⟨gb578, 1, none⟩) (Kd.R_far (p := ⟨gb578, 0, none⟩) (Kd.R_types HO_533002.out BK578.out (by decide)) (fun _ hk => hk.2) (.int .i64 t572)) (fun _ hk => hk.2) (.int .i64 t573)) (fun _ hk => hk.2) (.slice Ao147 t574.length co147)) (fun _ h_ => h_.1)))); (case side4 => exact (Kd.R_reads' HO_533002.out).2.1); rintro e w174 ⟨rfl, hb⟩; refine ⟨_, rfl, ?_⟩; have n0_ := Aside0.mk (Kd.R_below (by (with_reducible repeat (first | apply Kd.R_alloc | apply Kd.R_drewN | apply Kd.R_drew)); exact (Kd.R_mono (Kd.R_far (p := ⟨gb578, 2, none⟩) (Kd.R_far (p := ⟨gb578, 1, none⟩) (Kd.R_far (p := ⟨gb578, 0, none⟩) (Kd.R_types HO_533002.out BK578.out (by decide)) (fun _ hk => hk.2) (.int .i64 t572)) (fun _ hk => hk.2) (.int .i64 t573)) (fun _ hk => hk.2) (.slice Ao147 t574.length co147)) (fun _ h_ => h_.1))) hb); have n1_ := Aside0.mk (Kd.R_below (by (with_reducible repeat (first | apply Kd.R_alloc | apply Kd.R_drewN | apply Kd.R_drew)); exact (Kd.R_mono (Kd.R_far (p := ⟨gb578, 2, none⟩) (Kd.R_far (p := ⟨gb578, 1, none⟩) (Kd.R_far (p := ⟨gb578, 0, none⟩) (Kd.R_types HO_539002.out BK578.out (by decide)) (fun _ hk => hk.2) (.int .i64 t572)) (fun _ hk => hk.2) (.int .i64 t573)) (fun _ hk => hk.2) (.slice Ao147 t574.length co147)) (fun _ h_ => h_.1))) hb); have n2_ := Aside0.mk (Kd.R_below (by (with_reducible repeat (first | apply Kd.R_alloc | apply Kd.R_drewN | apply Kd.R_drew)); exact (Kd.R_mono (Kd.R_far (p := ⟨gb578, 2, none⟩) (Kd.R_far (p := ⟨gb578, 1, none⟩) (Kd.R_far (p := ⟨gb578, 0, none⟩) (Kd.R_types HO_550002.out BK578.out (by decide)) (fun _ hk => hk.2) (.int .i64 t572)) (fun _ hk => hk.2) (.int .i64 t573)) (fun _ hk => hk.2) (.slice Ao147 t574.length co147)) (fun _ h_ => h_.1))) hb); have n3_ := Aside0.mk (Kd.R_below (by (with_reducible repeat (first | apply Kd.R_alloc | apply Kd.R_drewN | apply Kd.R_drew)); exact (Kd.R_mono (Kd.R_far (p := ⟨gb578, 2, none⟩) (Kd.R_far (p := ⟨gb578, 1, none⟩) (Kd.R_far (p := ⟨gb578, 0, none⟩) (Kd.R_types HO567.out BK578.out (by decide)) (fun _ hk => hk.2) (.int .i64 t572)) (fun _ hk => hk.2) (.int .i64 t573)) (fun _ hk => hk.2) (.slice Ao147 t574.length co147)) (fun _ h_ => h_.1))) hb); have n4_ := Aside0.mk (Kd.R_below (by (with_reducible repeat (first | apply Kd.R_alloc | apply Kd.R_drewN | apply Kd.R_drew)); exact (Kd.R_mono (Kd.R_far (p := ⟨gb578, 2, none⟩) (Kd.R_far (p := ⟨gb578, 1, none⟩) (Kd.R_far (p := ⟨gb578, 0, none⟩) (Kd.R_types HO576.out BK578.out (by decide)) (fun _ hk => hk.2) (.int .i64 t572)) (fun _ hk => hk.2) (.int .i64 t573)) (fun _ hk => hk.2) (.slice Ao147 t574.length co147)) (fun _ h_ => h_.1))) hb); have n5_ := Aside0.mk (blk_below (g := gb514) (o := .cells #[.int .i64 a0_0, .int .i64 a0_1, .slice A0_2 l0_2.length c0_2] 33 (0, 0)) (by (with_reducible repeat (first | refine blk_drewN ?_ _ | refine blk_drew ?_ | refine blk_alloc ?_ _)); refine blk_far ?_ NB514_578.out _; (with_reducible repeat (first | refine blk_drewN ?_ _ | refine blk_drew ?_ | refine blk_alloc ?_ _)); refine blk_far ?_ NB514_578.out _; (with_reducible repeat (first | refine blk_drewN ?_ _ | refine blk_drew ?_ | refine blk_alloc ?_ _)); refine blk_far ?_ NB514_578.out _; (with_reducible repeat (first | refine blk_drewN ?_ _ | refine blk_drew ?_ | refine blk_alloc ?_ _)); exact BK514.out) hb); have n6_ := Aside0.mk (blk_below (g := gb515) (o := .cells #[.int .i64 a1_0, .int .i64 a1_1, .int .i64 a1_2, .int .i64 a1_3] 26 (0, 0)) (by (with_reducible repeat (first | refine blk_drewN ?_ _ | refine blk_drew ?_ | refine blk_alloc ?_ _)); refine blk_far ?_ NB515_578.out _; (with_reducible repeat (first | refine blk_drewN ?_ _ | refine blk_drew ?_ | refine blk_alloc ?_ _)); refine blk_far ?_ NB515_578.out _; (with_reducible repeat (first | refine blk_drewN ?_ _ | refine blk_drew ?_ | refine blk_alloc ?_ _)); refine blk_far ?_ NB515_578.out _; (with_reducible repeat (first | refine blk_drewN ?_ _ | refine blk_drew ?_ | refine blk_alloc ?_ _)); exact BK515.out) hb); have n7_ := Aside0.mk (blk_below (g := gb532) (o := .cells #[.int .i64 t526, .int .i64 t527, .slice Ao31 t528.length co31] 42 (0, 0)) (by (with_reducible repeat (first | refine blk_drewN ?_ _ | refine blk_drew ?_ | refine blk_alloc ?_ _)); refine blk_far ?_ NB532_578.out _; (with_reducible repeat (first | refine blk_drewN ?_ _ | refine blk_drew ?_ | refine blk_alloc ?_ _)); refine blk_far ?_ NB532_578.out _; (with_reducible repeat (first | refine blk_drewN ?_ _ | refine blk_drew ?_ | refine blk_alloc ?_ _)); refine blk_far ?_ NB532_578.out _; (with_reducible repeat (first | refine blk_drewN ?_ _ | refine blk_drew ?_ | refine blk_alloc ?_ _)); exact BK532.out) hb); have n8_ := Aside0.mk (blk_below (g := gb538) (o := .cells #[.int .i64 t533, .int .i64 t534, .slice Ao41 t558.length co41] 42 (0, 0)) (by (with_reducible repeat (first | refine blk_drewN ?_ _ | refine blk_drew ?_ | refine blk_alloc ?_ _)); refine blk_far ?_ NB538_578.out _; (with_reducible repeat (first | refine blk_drewN ?_ _ | refine blk_drew ?_ | refine blk_alloc ?_ _)); refine blk_far ?_ NB538_578.out _; (with_reducible repeat (first | refine blk_drewN ?_ _ | refine blk_drew ?_ | refine blk_alloc ?_ _)); refine blk_far ?_ NB538_578.out _; (with_reducible repeat (first | refine blk_drewN ?_ _ | refine blk_drew ?_ | refine blk_alloc ?_ _)); exact BK538.out) hb); have n9_ := Aside0.mk (blk_below (g := gb549) (o := .cells #[.int .i64 t543, .int .i64 t544, .slice Ao50 t545.length co50] 42 (0, 0)) (by (with_reducible repeat (first | refine blk_drewN ?_ _ | refine blk_drew ?_ | refine blk_alloc ?_ _)); refine blk_far ?_ NB549_578.out _; (with_reducible repeat (first | refine blk_drewN ?_ _ | refine blk_drew ?_ | refine blk_alloc ?_ _)); refine blk_far ?_ NB549_578.out _; (with_reducible repeat (first | refine blk_drewN ?_ _ | refine blk_drew ?_ | refine blk_alloc ?_ _)); refine blk_far ?_ NB549_578.out _; (with_reducible repeat (first | refine blk_drewN ?_ _ | refine blk_drew ?_ | refine blk_alloc ?_ _)); exact BK549.out) hb); have n10_ := Aside0.mk (blk_below (g := gb578) (o := .cells #[.int .i64 t572, .int .i64 t573, .slice Ao147 t574.length co147] 42 (0, 0)) (by (with_reducible repeat (first | refine blk_drewN ?_ _ | refine blk_drew ?_ | refine blk_alloc ?_ _)); refine blk_put (cs := #[.int .i64 t572, .int .i64 t573, .slice none 0 0]) ?_ 2 _ rfl; (with_reducible repeat (first | refine blk_drewN ?_ _ | refine blk_drew ?_ | refine blk_alloc ?_ _)); refine blk_put (cs := #[.int .i64 t572, .int .i64 0, .slice none 0 0]) ?_ 1 _ rfl; (with_reducible repeat (first | refine blk_drewN ?_ _ | refine blk_drew ?_ | refine blk_alloc ?_ _)); refine blk_put (cs := #[.int .i64 0, .int .i64 0, .slice none 0 0]) ?_ 0 _ rfl; (with_reducible repeat (first | refine blk_drewN ?_ _ | refine blk_drew ?_ | refine blk_alloc ?_ _)); exact BK578.out) hb); have n11_ := Aside0.mk (below_step hb_ hb); clear HO_533002; clear HO_539002; clear HO_550002; clear HO567; clear HO576; clear BK514; clear BK515; clear BK532; clear BK538; clear BK549; clear BK578; clear HB; have HO_533002 := n0_; have HO_539002 := n1_; have HO_550002 := n2_; have HO567 := n3_; have HO576 := n4_; have BK514 := n5_; have BK515 := n6_; have BK532 := n7_; have BK538 := n8_; have BK549 := n9_; have BK578 := n10_; have HB := n11_; clear n0_ n1_ n2_ n3_ n4_ n5_ n6_ n7_ n8_ n9_ n10_ n11_; (try clear hb)))
        go_meet
        case rel => exact ⟨_, (true), (by first | rfl | (simp; done) | (simp [*]; done)), H', ⟨by have := HJ15.out; have := HJ78.out; first | omega | exact Nat.le_refl _⟩, ⟨by (try simp only [hl539002_78]); (with_reducible repeat (first | apply Kd.R_alloc | apply Kd.R_drewN | apply Kd.R_drew)); exact Kd.R_mono HO_533002.out (fun _ hk => ⟨hk.2.2.1, ⟨hk.2.2.2, hk.2.1⟩⟩)⟩, ⟨by (try simp only [hl539002_78]); (with_reducible repeat (first | apply Kd.R_alloc | apply Kd.R_drewN | apply Kd.R_drew)); exact Kd.R_mono HO_539002.out (fun _ hk => ⟨hk.2.2.1, ⟨hk.2.2.2, hk.2.1⟩⟩)⟩, ⟨by (try simp only [hl539002_78]); (with_reducible repeat (first | apply Kd.R_alloc | apply Kd.R_drewN | apply Kd.R_drew)); exact Kd.R_mono HO_550002.out (fun _ hk => ⟨hk.2.2.1, ⟨hk.2.2.2, hk.2.1⟩⟩)⟩, ⟨by (try simp only [hl539002_78]); (with_reducible repeat (first | apply Kd.R_alloc | apply Kd.R_drewN | apply Kd.R_drew)); exact Kd.R_mono HO576.out (fun _ hk => ⟨hk.2.1, ⟨hk.2.2.1, hk.2.2.2⟩⟩)⟩, ⟨by (try simp only [hl539002_78]); (with_reducible repeat (first | refine blk_drewN ?_ _ | refine blk_drew ?_ | refine blk_alloc ?_ _)); exact BK514.out⟩, ⟨by (try simp only [hl539002_78]); (with_reducible repeat (first | refine blk_drewN ?_ _ | refine blk_drew ?_ | refine blk_alloc ?_ _)); exact BK515.out⟩, ⟨by (try simp only [hl539002_78]); (with_reducible repeat (first | refine blk_drewN ?_ _ | refine blk_drew ?_ | refine blk_alloc ?_ _)); exact BK532.out⟩, ⟨by (try simp only [hl539002_78]); (with_reducible repeat (first | refine blk_drewN ?_ _ | refine blk_drew ?_ | refine blk_alloc ?_ _)); exact BK538.out⟩, ⟨by (try simp only [hl539002_78]); (with_reducible repeat (first | refine blk_drewN ?_ _ | refine blk_drew ?_ | refine blk_alloc ?_ _)); exact BK549.out⟩, ⟨by (try simp only [hl539002_78]); (with_reducible repeat (first | refine blk_drewN ?_ _ | refine blk_drew ?_ | refine blk_alloc ?_ _)); exact BK578.out⟩, ⟨hb_⟩⟩
       case rest =>
        clear HC129
        try clear c1
        try clear c2
        try clear p2
        try clear c3
        try clear c15
        try clear c16
        try clear c17
        try clear c22
        try clear c26
        try clear c29
        try clear c36
        try clear c150
        try clear c151
        try clear c152
        try clear c153
        try clear c154
        try clear c155
        try clear c157
        try clear c158
        try clear c159
        try clear c160
        try clear c163
        try clear c164
        try clear c165
        try clear c166
        try clear c167
        try clear c169
        try clear c170
        try clear c171
        try clear c172
        try clear hcz156_0
        try clear hcz156_1
        try clear hcz156_2
        try clear hcz161_0
        try clear hcz161_1
        try clear hcz161_2
        try clear hcz168_0
        try clear hcz168_1
        try clear hcz168_2
        try clear hcz173_0
        try clear hcz173_1
        try clear hcz173_2
        try clear hfz156_0
        try clear hfz156_1
        try clear hfz156_2
        try clear hfz161_0
        try clear hfz161_1
        try clear hfz161_2
        try clear hfz168_0
        try clear hfz168_1
        try clear hfz168_2
        try clear hfz173_0
        try clear hfz173_1
        try clear hfz173_2
        obtain ⟨kq, x95_128, rfl, HA, HJ128, HO_533002, HO_539002, HO_550002, HO_579002, BK514, BK515, BK532, BK538, BK549, BK578, HB⟩ := hcut
        have hl550002_128 := (Kd.R_reads' HO_550002.out).1
        rw [hl550002_128] at HO_550002
        (try simp only [hl550002_128])
        (try simp only [hl550002_128] at BK514)
        (try simp only [hl550002_128] at BK515)
        (try simp only [hl550002_128] at BK532)
        (try simp only [hl550002_128] at BK538)
        (try simp only [hl550002_128] at BK549)
        (try simp only [hl550002_128] at BK578)
        (try simp only [hl550002_128] at HO_533002)
        (try simp only [hl550002_128] at HO_539002)
        (try simp only [hl550002_128] at HO_579002)
        cases kq with
        | zero => exact absurd HA.out (by simp [laws_FnExactAddClue.j2])
        | succ kj128 =>
         have H := HA.out
         clear HA
         simp only [laws_FnExactAddClue.j2] at H
         by_cases c175 : x95_128 = true
         ·subst c175
          have H1 : (some false) = some r := by rw [if_pos rfl] at H; exact H
          clear H
          have H := H1
          clear H1
          obtain rfl := Option.some.inj H
          go_wp2
          go_ret
          exact ⟨by first | rfl | (simp [errW_none, errW_some] <;> rfl) | (simp [*, errW_none, errW_some] <;> rfl), hb_⟩
         replace c175 := Bool.eq_false_iff.mpr c175
         subst c175
         have H1 : ((laws_heldPuzzle.f kj128 t543 t544 t561 1).bind fun t580 => (if t580 < 0 then (some false) else (if t580 = t560 then (some true) else (some false)))) = some r := by rw [if_neg (show ¬ (false = true) by decide)] at H; exact H
         clear H
         have H := H1
         clear H1
         replace H := Option.bind_eq_some_iff.mp H
         obtain ⟨t580, A1760, H⟩ := H
         replace H : (if t580 < 0 then (some false) else (if t580 = t560 then (some true) else (some false))) = some r := H
         have A176 := Aside0.mk A1760
         clear A1760
         by_cases c177 : t580 < 0
         ·rw [if_pos c177] at H
          have c177b0 : decide (t580 < 0) = true := decide_eq_true c177
          clear c177
          obtain rfl := Option.some.inj H
          have hnb178 := NB549_514.out
          have hnc178 := NB514_549.out
          have hnb179 := NB549_515.out
          have hnc179 := NB515_549.out
          have hnb180 := NB549_532.out
          have hnc180 := NB532_549.out
          have hnb181 := NB549_538.out
          have hnc181 := NB538_549.out
          have hnb182 := NB549_578.out
          have hnc182 := NB578_549.out
          have hcz183_0 : wc.cell? ⟨gb549, 0, none⟩ = some (.int .i64 t543) := bc_ BK549.out 0
          have hcz183_1 : wc.cell? ⟨gb549, 1, none⟩ = some (.int .i64 t544) := bc_ BK549.out 1
          have hcz183_2 : wc.cell? ⟨gb549, 2, none⟩ = some (.slice Ao50 t561.length co50) := bc_ BK549.out 2
          have hfz183_0 := blk_frozen BK549.out 0
          have hfz183_1 := blk_frozen BK549.out 1
          have hfz183_2 := blk_frozen BK549.out 2
          go_wp2_with (first | ((with_reducible refine gate_callee (f := 37) rfl ?_); refine goesL_ (some 98) rfl rfl Try.func37 (by kernel_rfl) rfl #[.agg #[.int .i64 t543, .int .i64 t544, .slice Ao50 t561.length co50], .int .i64 1] rfl (by (try simp only [List.map_toArray, List.map_cons, List.map_nil]); first | done | rfl | (simp only [List.length_drop, List.length_take]; rfl)) ?_; (with_reducible refine (laws_heldPuzzle.calls kj128 t543 t544 _ _ t561 1 t580 _ ?side1 ?side2 A176.out).mono ?_); (case side1 => repeat (first | exact (Kd.R_reads' HO_550002.out).2.2 | (with_reducible refine Kd.C_alloc ?_ _) | (with_reducible refine Kd.C_drewN ?_ _) | (with_reducible refine Kd.C_drew ?_))); (case side2 => exact (Kd.R_reads' HO_550002.out).2.1); rintro e w184 ⟨rfl, hb⟩; refine ⟨_, rfl, ?_⟩; have n0_ := Aside0.mk (Kd.R_below (rh_ HO_533002.out) hb); have n1_ := Aside0.mk (Kd.R_below (rh_ HO_539002.out) hb); have n2_ := Aside0.mk (Kd.R_below (rh_ HO_550002.out) hb); have n3_ := Aside0.mk (Kd.R_below (rh_ HO_579002.out) hb); have n4_ := Aside0.mk (bb_ hb BK514.out); have n5_ := Aside0.mk (bb_ hb BK515.out); have n6_ := Aside0.mk (bb_ hb BK532.out); have n7_ := Aside0.mk (bb_ hb BK538.out); have n8_ := Aside0.mk (bb_ hb BK549.out); have n9_ := Aside0.mk (bb_ hb BK578.out); have n10_ := Aside0.mk (below_step hb_ hb); clear HO_533002; clear HO_539002; clear HO_550002; clear HO_579002; clear BK514; clear BK515; clear BK532; clear BK538; clear BK549; clear BK578; clear HB; have HO_533002 := n0_; have HO_539002 := n1_; have HO_550002 := n2_; have HO_579002 := n3_; have BK514 := n4_; have BK515 := n5_; have BK532 := n6_; have BK538 := n7_; have BK549 := n8_; have BK578 := n9_; have HB := n10_; clear n0_ n1_ n2_ n3_ n4_ n5_ n6_ n7_ n8_ n9_ n10_; (try clear hb)))
          go_ret
          exact ⟨by first | rfl | (simp [errW_none, errW_some] <;> rfl) | (simp [*, errW_none, errW_some] <;> rfl), hb_⟩
         rw [if_neg c177] at H
         have c177b0 : decide (t580 < 0) = false := decide_eq_false c177
         clear c177
         by_cases c185 : t580 = t560
         ·rw [if_pos c185] at H
          have c185b0 : (t580 == t560) = true := beq_iff_eq.mpr c185
          have c185b1 : (t580 != t560) = false := bne_eq_false_iff_eq.mpr c185
          clear c185
          obtain rfl := Option.some.inj H
          have hnb186 := NB549_514.out
          have hnc186 := NB514_549.out
          have hnb187 := NB549_515.out
          have hnc187 := NB515_549.out
          have hnb188 := NB549_532.out
          have hnc188 := NB532_549.out
          have hnb189 := NB549_538.out
          have hnc189 := NB538_549.out
          have hnb190 := NB549_578.out
          have hnc190 := NB578_549.out
          have hcz191_0 : wc.cell? ⟨gb549, 0, none⟩ = some (.int .i64 t543) := bc_ BK549.out 0
          have hcz191_1 : wc.cell? ⟨gb549, 1, none⟩ = some (.int .i64 t544) := bc_ BK549.out 1
          have hcz191_2 : wc.cell? ⟨gb549, 2, none⟩ = some (.slice Ao50 t561.length co50) := bc_ BK549.out 2
          have hfz191_0 := blk_frozen BK549.out 0
          have hfz191_1 := blk_frozen BK549.out 1
          have hfz191_2 := blk_frozen BK549.out 2
          go_wp2_with (first | ((with_reducible refine gate_callee (f := 37) rfl ?_); refine goesL_ (some 98) rfl rfl Try.func37 (by kernel_rfl) rfl #[.agg #[.int .i64 t543, .int .i64 t544, .slice Ao50 t561.length co50], .int .i64 1] rfl (by (try simp only [List.map_toArray, List.map_cons, List.map_nil]); first | done | rfl | (simp only [List.length_drop, List.length_take]; rfl)) ?_; (with_reducible refine (laws_heldPuzzle.calls kj128 t543 t544 _ _ t561 1 t580 _ ?side1 ?side2 A176.out).mono ?_); (case side1 => repeat (first | exact (Kd.R_reads' HO_550002.out).2.2 | (with_reducible refine Kd.C_alloc ?_ _) | (with_reducible refine Kd.C_drewN ?_ _) | (with_reducible refine Kd.C_drew ?_))); (case side2 => exact (Kd.R_reads' HO_550002.out).2.1); rintro e w192 ⟨rfl, hb⟩; refine ⟨_, rfl, ?_⟩; have n0_ := Aside0.mk (Kd.R_below (rh_ HO_533002.out) hb); have n1_ := Aside0.mk (Kd.R_below (rh_ HO_539002.out) hb); have n2_ := Aside0.mk (Kd.R_below (rh_ HO_550002.out) hb); have n3_ := Aside0.mk (Kd.R_below (rh_ HO_579002.out) hb); have n4_ := Aside0.mk (bb_ hb BK514.out); have n5_ := Aside0.mk (bb_ hb BK515.out); have n6_ := Aside0.mk (bb_ hb BK532.out); have n7_ := Aside0.mk (bb_ hb BK538.out); have n8_ := Aside0.mk (bb_ hb BK549.out); have n9_ := Aside0.mk (bb_ hb BK578.out); have n10_ := Aside0.mk (below_step hb_ hb); clear HO_533002; clear HO_539002; clear HO_550002; clear HO_579002; clear BK514; clear BK515; clear BK532; clear BK538; clear BK549; clear BK578; clear HB; have HO_533002 := n0_; have HO_539002 := n1_; have HO_550002 := n2_; have HO_579002 := n3_; have BK514 := n4_; have BK515 := n5_; have BK532 := n6_; have BK538 := n7_; have BK549 := n8_; have BK578 := n9_; have HB := n10_; clear n0_ n1_ n2_ n3_ n4_ n5_ n6_ n7_ n8_ n9_ n10_; (try clear hb)))
          go_ret
          exact ⟨by first | rfl | (simp [errW_none, errW_some] <;> rfl) | (simp [*, errW_none, errW_some] <;> rfl), hb_⟩
         rw [if_neg c185] at H
         have c185b0 : (t580 == t560) = false := beq_eq_false_iff_ne.mpr c185
         have c185b1 : (t580 != t560) = true := bne_iff_ne.mpr c185
         obtain rfl := Option.some.inj H
         have hnb193 := NB549_514.out
         have hnc193 := NB514_549.out
         have hnb194 := NB549_515.out
         have hnc194 := NB515_549.out
         have hnb195 := NB549_532.out
         have hnc195 := NB532_549.out
         have hnb196 := NB549_538.out
         have hnc196 := NB538_549.out
         have hnb197 := NB549_578.out
         have hnc197 := NB578_549.out
         have hcz198_0 : wc.cell? ⟨gb549, 0, none⟩ = some (.int .i64 t543) := bc_ BK549.out 0
         have hcz198_1 : wc.cell? ⟨gb549, 1, none⟩ = some (.int .i64 t544) := bc_ BK549.out 1
         have hcz198_2 : wc.cell? ⟨gb549, 2, none⟩ = some (.slice Ao50 t561.length co50) := bc_ BK549.out 2
         have hfz198_0 := blk_frozen BK549.out 0
         have hfz198_1 := blk_frozen BK549.out 1
         have hfz198_2 := blk_frozen BK549.out 2
         go_wp2_with (first | ((with_reducible refine gate_callee (f := 37) rfl ?_); refine goesL_ (some 98) rfl rfl Try.func37 (by kernel_rfl) rfl #[.agg #[.int .i64 t543, .int .i64 t544, .slice Ao50 t561.length co50], .int .i64 1] rfl (by (try simp only [List.map_toArray, List.map_cons, List.map_nil]); first | done | rfl | (simp only [List.length_drop, List.length_take]; rfl)) ?_; (with_reducible refine (laws_heldPuzzle.calls kj128 t543 t544 _ _ t561 1 t580 _ ?side1 ?side2 A176.out).mono ?_); (case side1 => repeat (first | exact (Kd.R_reads' HO_550002.out).2.2 | (with_reducible refine Kd.C_alloc ?_ _) | (with_reducible refine Kd.C_drewN ?_ _) | (with_reducible refine Kd.C_drew ?_))); (case side2 => exact (Kd.R_reads' HO_550002.out).2.1); rintro e w199 ⟨rfl, hb⟩; refine ⟨_, rfl, ?_⟩; have n0_ := Aside0.mk (Kd.R_below (rh_ HO_533002.out) hb); have n1_ := Aside0.mk (Kd.R_below (rh_ HO_539002.out) hb); have n2_ := Aside0.mk (Kd.R_below (rh_ HO_550002.out) hb); have n3_ := Aside0.mk (Kd.R_below (rh_ HO_579002.out) hb); have n4_ := Aside0.mk (bb_ hb BK514.out); have n5_ := Aside0.mk (bb_ hb BK515.out); have n6_ := Aside0.mk (bb_ hb BK532.out); have n7_ := Aside0.mk (bb_ hb BK538.out); have n8_ := Aside0.mk (bb_ hb BK549.out); have n9_ := Aside0.mk (bb_ hb BK578.out); have n10_ := Aside0.mk (below_step hb_ hb); clear HO_533002; clear HO_539002; clear HO_550002; clear HO_579002; clear BK514; clear BK515; clear BK532; clear BK538; clear BK549; clear BK578; clear HB; have HO_533002 := n0_; have HO_539002 := n1_; have HO_550002 := n2_; have HO_579002 := n3_; have BK514 := n4_; have BK515 := n5_; have BK532 := n6_; have BK538 := n7_; have BK549 := n8_; have BK578 := n9_; have HB := n10_; clear n0_ n1_ n2_ n3_ n4_ n5_ n6_ n7_ n8_ n9_ n10_; (try clear hb)))
         go_ret
         exact ⟨by first | rfl | (simp [errW_none, errW_some] <;> rfl) | (simp [*, errW_none, errW_some] <;> rfl), hb_⟩
      rw [if_neg c125] at H
      have c125b0 : (t562 == t560) = false := beq_eq_false_iff_ne.mpr c125
      have c125b1 : (t562 != t560) = true := bne_iff_ne.mpr c125
      obtain rfl := Option.some.inj H
      have hnb200 := NB549_514.out
      have hnc200 := NB514_549.out
      have hnb201 := NB549_515.out
      have hnc201 := NB515_549.out
      have hnb202 := NB549_532.out
      have hnc202 := NB532_549.out
      have hnb203 := NB549_538.out
      have hnc203 := NB538_549.out
      have hcz204_0 : wc.cell? ⟨gb549, 0, none⟩ = some (.int .i64 t543) := bc_ BK549.out 0
      have hcz204_1 : wc.cell? ⟨gb549, 1, none⟩ = some (.int .i64 t544) := bc_ BK549.out 1
      have hcz204_2 : wc.cell? ⟨gb549, 2, none⟩ = some (.slice Ao50 t545.length co50) := bc_ BK549.out 2
      have hfz204_0 := blk_frozen BK549.out 0
      have hfz204_1 := blk_frozen BK549.out 1
      have hfz204_2 := blk_frozen BK549.out 2
      go_wp2_with (first | ((with_reducible refine gate_callee (f := 30) rfl ?_); refine goesL_ (some 70) rfl rfl Try.func30 (by kernel_rfl) rfl #[.agg #[.int .i64 t543, .int .i64 t544, .slice Ao50 t545.length co50], .int .i64 1] rfl (by (try simp only [List.map_toArray, List.map_cons, List.map_nil]); first | done | rfl | (simp only [List.length_drop, List.length_take]; rfl)) ?_; (with_reducible refine (laws_markPuzzle.calls kj78 t543 t544 (fun k_ => some k_ = (.slice Ao50 t545.length co50 : Value).ownBlock) (.slice Ao50 t545.length co50) t545 1 t560 t561 w _ ?side1 ?side2 A114.out).mono ?_); (case side1 => repeat (first | (with_reducible first | exact HB.out | apply below_alloc | apply pw_below_drewN | apply below_drew1 | refine below_set ?_ GE514.out | refine below_set ?_ GE515.out | refine below_set ?_ GE532.out | refine below_set ?_ GE538.out | refine below_set ?_ GE549.out) | exact HB.out)); (case side2 => exact Kd.R_tight rfl HO_550002.out); rintro e w205 ⟨rfl, hy0, hb, hkp⟩; refine ⟨_, rfl, ?_⟩; have n0_ := Aside0.mk (Kd.R_mono (ok' := fun k_ => some k_ ≠ (.slice Ao41 t558.length co41 : Value).ownBlock ∧ some k_ ≠ (.slice Ao50 t545.length co50 : Value).ownBlock) (Kd.R_keptB (HO_533002.out) hkp (fun k_ hk_ hs_ => (hk_.2) hs_)) (fun k_ hk_ => ⟨hk_.1.1, hk_.1.2⟩)); have n1_ := Aside0.mk (Kd.R_mono (ok' := fun k_ => some k_ ≠ (.slice Ao31 t528.length co31 : Value).ownBlock ∧ some k_ ≠ (.slice Ao50 t545.length co50 : Value).ownBlock) (Kd.R_keptB (HO_539002.out) hkp (fun k_ hk_ hs_ => (hk_.2) hs_)) (fun k_ hk_ => ⟨hk_.1.1, hk_.1.2⟩)); have n2_ := Aside0.mk (Kd.R_reok rfl hy0 (fun k_ e_ => HO_550002.out.1 k_ e_)); have n3_ := Aside0.mk (blk_kept (bh_ BK514.out) hkp (fun hs_ => (fun e_ => (Kd.R_ne HO_550002.out BK514.out (by decide)) e_) hs_)); have n4_ := Aside0.mk (blk_kept (bh_ BK515.out) hkp (fun hs_ => (fun e_ => (Kd.R_ne HO_550002.out BK515.out (by decide)) e_) hs_)); have n5_ := Aside0.mk (blk_kept (bh_ BK532.out) hkp (fun hs_ => (fun e_ => (Kd.R_ne HO_550002.out BK532.out (by decide)) e_) hs_)); have n6_ := Aside0.mk (blk_kept (bh_ BK538.out) hkp (fun hs_ => (fun e_ => (Kd.R_ne HO_550002.out BK538.out (by decide)) e_) hs_)); have n7_ := Aside0.mk (blk_kept (bh_ BK549.out) hkp (fun hs_ => (fun e_ => (Kd.R_ne HO_550002.out BK549.out (by decide)) e_) hs_)); have n8_ := Aside0.mk (hb); clear HO_533002; clear HO_539002; clear HO_550002; clear BK514; clear BK515; clear BK532; clear BK538; clear BK549; clear HB; have HO_533002 := n0_; have HO_539002 := n1_; have HO_550002 := n2_; have BK514 := n3_; have BK515 := n4_; have BK532 := n5_; have BK538 := n6_; have BK549 := n7_; have HB := n8_; clear n0_ n1_ n2_ n3_ n4_ n5_ n6_ n7_ n8_; (try clear hb); (try clear hkp); (try clear hy0); have hcz206_0 : w205.cell? ⟨gb549, 0, none⟩ = some (.int .i64 t543) := bc_ BK549.out 0; have hcz206_1 : w205.cell? ⟨gb549, 1, none⟩ = some (.int .i64 t544) := bc_ BK549.out 1; have hcz206_2 : w205.cell? ⟨gb549, 2, none⟩ = some (.slice Ao50 t545.length co50) := bc_ BK549.out 2; have hfz206_0 := blk_frozen BK549.out 0; have hfz206_1 := blk_frozen BK549.out 1; have hfz206_2 := blk_frozen BK549.out 2) | ((with_reducible refine gate_callee (f := 37) rfl ?_); refine goesL_ (some 73) rfl rfl Try.func37 (by kernel_rfl) rfl #[.agg #[.int .i64 t543, .int .i64 t544, .slice Ao50 t561.length co50], .int .i64 1] rfl (by (try simp only [List.map_toArray, List.map_cons, List.map_nil]); first | done | (rw [show t561.length = t545.length from (Kd.R_reads' HO_550002.out).1.symm] <;> rfl) | rfl | (simp only [List.length_drop, List.length_take]; rfl)) ?_; (with_reducible refine (laws_heldPuzzle.calls kj78 t543 t544 _ _ t561 1 t562 _ ?side1 ?side2 A115.out).mono ?_); (case side1 => repeat (first | exact (Kd.R_reads' HO_550002.out).2.2 | (with_reducible refine Kd.C_alloc ?_ _) | (with_reducible refine Kd.C_drewN ?_ _) | (with_reducible refine Kd.C_drew ?_))); (case side2 => rw [show t561.length = t545.length from (Kd.R_reads' HO_550002.out).1.symm]; exact (Kd.R_reads' HO_550002.out).2.1); rintro e w207 ⟨rfl, hb⟩; refine ⟨_, rfl, ?_⟩; have n0_ := Aside0.mk (Kd.R_below (rh_ HO_533002.out) hb); have n1_ := Aside0.mk (Kd.R_below (rh_ HO_539002.out) hb); have n2_ := Aside0.mk (Kd.R_below (rh_ HO_550002.out) hb); have n3_ := Aside0.mk (bb_ hb BK514.out); have n4_ := Aside0.mk (bb_ hb BK515.out); have n5_ := Aside0.mk (bb_ hb BK532.out); have n6_ := Aside0.mk (bb_ hb BK538.out); have n7_ := Aside0.mk (bb_ hb BK549.out); have n8_ := Aside0.mk (below_step hb_ hb); clear HO_533002; clear HO_539002; clear HO_550002; clear BK514; clear BK515; clear BK532; clear BK538; clear BK549; clear HB; have HO_533002 := n0_; have HO_539002 := n1_; have HO_550002 := n2_; have BK514 := n3_; have BK515 := n4_; have BK532 := n5_; have BK538 := n6_; have BK549 := n7_; have HB := n8_; clear n0_ n1_ n2_ n3_ n4_ n5_ n6_ n7_ n8_; (try clear hb)))
      go_ret
      exact ⟨by first | rfl | (simp [errW_none, errW_some] <;> rfl) | (simp [*, errW_none, errW_some] <;> rfl), hb_⟩
   replace c77 := Bool.eq_false_iff.mpr c77
   subst c77
   have H1 : (some false) = some r := by rw [if_neg (show ¬ (false = true) by decide)] at H; exact H
   clear H
   have H := H1
   clear H1
   obtain rfl := Option.some.inj H
   try go_wp2
   have n0_ := Aside0.mk (Kd.R_drew HO_533002.out)
   have n1_ := Aside0.mk (Kd.R_drew HO_539002.out)
   have n2_ := Aside0.mk (Kd.R_drew HO_550002.out)
   have n3_ := Aside0.mk (blk_drew BK514.out)
   have n4_ := Aside0.mk (blk_drew BK515.out)
   have n5_ := Aside0.mk (blk_drew BK532.out)
   have n6_ := Aside0.mk (blk_drew BK538.out)
   have n7_ := Aside0.mk (blk_drew BK549.out)
   have n8_ := Aside0.mk (below_drew1 HB.out)
   clear HO_533002
   clear HO_539002
   clear HO_550002
   clear BK514
   clear BK515
   clear BK532
   clear BK538
   clear BK549
   clear HB
   have HO_533002 := n0_
   have HO_539002 := n1_
   have HO_550002 := n2_
   have BK514 := n3_
   have BK515 := n4_
   have BK532 := n5_
   have BK538 := n6_
   have BK549 := n7_
   have HB := n8_
   clear n0_ n1_ n2_ n3_ n4_ n5_ n6_ n7_ n8_
   refine start_ (n := 5) (S := fun w' => w'.cell? ⟨gb538, 0, none⟩ = some (.int .i64 t533) ∧ w'.cell? ⟨gb538, 1, none⟩ = some (.int .i64 t534) ∧ w'.cell? ⟨gb538, 2, none⟩ = some (.slice Ao41 t535.length co41) ∧ w'.cell? ⟨gb514, 0, none⟩ = some (.int .i64 a0_0) ∧ w'.cell? ⟨gb514, 1, none⟩ = some (.int .i64 a0_1) ∧ w'.cell? ⟨gb514, 2, none⟩ = some (.slice A0_2 l0_2.length c0_2)) (ds := []) #[false, false, false, false, false] (by kernel_rfl) rfl rfl ⟨bc_ BK538.out 0, bc_ BK538.out 1, bc_ BK538.out 2, bc_ BK514.out 0, bc_ BK514.out 1, bc_ BK514.out 2⟩ (fun hHeld => ?_)
   generalize wc.drew = w208 at HO_533002 HO_539002 HO_550002 BK514 BK515 BK532 BK538 BK549 HB hHeld ⊢
   refine take_ (i := 0) (N := some 47) (v := ?_) (a' := ?_) #[true, false, false, false, false] rfl rfl (by kernel_rfl) (fun _ _ _ h => h) (Or.inl ⟨by rfl, ?_⟩) hHeld ?_ ?_
   rotate_left
   ·rintro w' ⟨s0, s1, s2, s3, s4, s5⟩
    go_simp
    with_reducible rfl
   rotate_left
   ·simp only [Act.put, List.setIfInBounds_toArray, List.set_cons_zero, List.set_cons_succ, i64_w, i32_w]
    rfl
   refine take_ (i := 1) (N := some 48) (v := ?_) (a' := ?_) #[true, true, false, false, false] rfl rfl (by kernel_rfl) (fun _ _ _ h => h) (Or.inl ⟨by rfl, ?_⟩) hHeld ?_ ?_
   rotate_left
   ·rintro w' ⟨s0, s1, s2, s3, s4, s5⟩
    go_simp
    with_reducible rfl
   rotate_left
   ·simp only [Act.put, List.setIfInBounds_toArray, List.set_cons_zero, List.set_cons_succ, i64_w, i32_w]
    rfl
   refine one_ (i := 2) (N := some 49) #[true, true, true, false, false] rfl rfl (by kernel_rfl) (by decide) (fun K hK => ?_)
   refine goes_ Try.func26 (by kernel_rfl) rfl #[.agg #[.int .i64 a0_0, .int .i64 a0_1, .slice A0_2 l0_2.length c0_2]] (by rfl) rfl rfl (by (try simp only [List.map_toArray, List.map_cons, List.map_nil]); first | done | rfl | (simp only [List.length_drop, List.length_take]; rfl)) ?_
   with_reducible refine (laws_toPuzzle.calls kj15 a0_0 a0_1 _ _ l0_2 t551 t552 t553 _ ?side1 ?side2 A75.out).mono ?_
   (case side1 => exact Kd.C_below HR0_2.out hb_)
   (case side2 => exact HC0_2.out)
   rintro e w209 ⟨v554, rfl, ho0, hb⟩
   refine ⟨_, rfl, ?_⟩
   have n0_ := Aside0.mk (Kd.R_elder' (rh_ HO_533002.out) (Kd.R_base ho0) hb)
   have n1_ := Aside0.mk (Kd.R_elder' (rh_ HO_539002.out) (Kd.R_base ho0) hb)
   have n2_ := Aside0.mk (Kd.R_elder' (rh_ HO_550002.out) (Kd.R_base ho0) hb)
   have n3_ := Aside0.mk (Kd.R_lower (Kd.R_new' (Kd.R_new' (Kd.R_new' ho0 (Kd.R_lt (rh_ HO_533002.out))) (Kd.R_lt (rh_ HO_539002.out))) (Kd.R_lt (rh_ HO_550002.out))) (below_size hb_))
   have n4_ := Aside0.mk (bb_ hb BK514.out)
   have n5_ := Aside0.mk (bb_ hb BK515.out)
   have n6_ := Aside0.mk (bb_ hb BK532.out)
   have n7_ := Aside0.mk (bb_ hb BK538.out)
   have n8_ := Aside0.mk (bb_ hb BK549.out)
   have n9_ := Aside0.mk (below_step hb_ hb)
   clear HO_533002
   clear HO_539002
   clear HO_550002
   clear BK514
   clear BK515
   clear BK532
   clear BK538
   clear BK549
   clear HB
   have HO_533002 := n0_
   have HO_539002 := n1_
   have HO_550002 := n2_
   have HO555 := n3_
   have BK514 := n4_
   have BK515 := n5_
   have BK532 := n6_
   have BK538 := n7_
   have BK549 := n8_
   have HB := n9_
   clear n0_ n1_ n2_ n3_ n4_ n5_ n6_ n7_ n8_ n9_
   (try clear hb)
   (try clear ho0)
   obtain ⟨Ao210, co210, eo210⟩ := Kd.R_slice HO555.out
   (first | subst eo210 | (injection eo210 with f1_ f2_ f3_; have f4_ := f1_.symm; have f5_ := f3_.symm; clear f1_ f2_ f3_; subst f4_; subst f5_))
   refine hK.out _ _ ⟨bc_ BK538.out 0, bc_ BK538.out 1, bc_ BK538.out 2, bc_ BK514.out 0, bc_ BK514.out 1, bc_ BK514.out 2⟩ (fun hHeld => ?_)
   clear hK K
   refine norm_ (a' := ?_) ?_ ?_
   rotate_left
   ·show Act.put _ (some 49) _ = _
    simp only [Act.put, List.setIfInBounds_toArray, List.set_cons_zero, List.set_cons_succ, i64_w, i32_w]
    rfl
   refine one_ (i := 3) (N := some 50) #[true, true, true, true, false] rfl rfl (by kernel_rfl) (by decide) (fun K hK => ?_)
   refine goes_ Try.func29 (by kernel_rfl) rfl #[.agg #[.int .i64 t533, .int .i64 t534, .slice Ao41 t535.length co41], .agg #[.int .i64 t551, .int .i64 t552, .slice Ao210 t553.length co210]] (by rfl) rfl rfl (by (try simp only [List.map_toArray, List.map_cons, List.map_nil]); first | done | rfl | (simp only [List.length_drop, List.length_take]; rfl)) ?_
   with_reducible refine (laws_eqPuzzle.calls kj15 t533 t534 _ _ t535 t551 t552 _ _ t553 false _ ?side1 ?side2 ?side3 ?side4 A76.out).mono ?_
   (case side1 => repeat (first | exact (Kd.R_reads' HO_539002.out).2.2 | (with_reducible refine Kd.C_alloc ?_ _) | (with_reducible refine Kd.C_drewN ?_ _) | (with_reducible refine Kd.C_drew ?_)))
   (case side2 => exact (Kd.R_reads' HO_539002.out).2.1)
   (case side3 => repeat (first | exact (Kd.R_reads' HO555.out).2.2 | (with_reducible refine Kd.C_alloc ?_ _) | (with_reducible refine Kd.C_drewN ?_ _) | (with_reducible refine Kd.C_drew ?_)))
   (case side4 => exact (Kd.R_reads' HO555.out).2.1)
   rintro e w211 ⟨rfl, hb⟩
   refine ⟨_, rfl, ?_⟩
   have n0_ := Aside0.mk (Kd.R_below (rh_ HO_533002.out) hb)
   have n1_ := Aside0.mk (Kd.R_below (rh_ HO_539002.out) hb)
   have n2_ := Aside0.mk (Kd.R_below (rh_ HO_550002.out) hb)
   have n3_ := Aside0.mk (Kd.R_below (rh_ HO555.out) hb)
   have n4_ := Aside0.mk (bb_ hb BK514.out)
   have n5_ := Aside0.mk (bb_ hb BK515.out)
   have n6_ := Aside0.mk (bb_ hb BK532.out)
   have n7_ := Aside0.mk (bb_ hb BK538.out)
   have n8_ := Aside0.mk (bb_ hb BK549.out)
   have n9_ := Aside0.mk (below_step hb_ hb)
   clear HO_533002
   clear HO_539002
   clear HO_550002
   clear HO555
   clear BK514
   clear BK515
   clear BK532
   clear BK538
   clear BK549
   clear HB
   have HO_533002 := n0_
   have HO_539002 := n1_
   have HO_550002 := n2_
   have HO555 := n3_
   have BK514 := n4_
   have BK515 := n5_
   have BK532 := n6_
   have BK538 := n7_
   have BK549 := n8_
   have HB := n9_
   clear n0_ n1_ n2_ n3_ n4_ n5_ n6_ n7_ n8_ n9_
   (try clear hb)
   refine hK.out _ _ ⟨bc_ BK538.out 0, bc_ BK538.out 1, bc_ BK538.out 2, bc_ BK514.out 0, bc_ BK514.out 1, bc_ BK514.out 2⟩ (fun hHeld => ?_)
   clear hK K
   refine norm_ (a' := ?_) ?_ ?_
   rotate_left
   ·show Act.put _ (some 50) _ = _
    simp only [Act.put, List.setIfInBounds_toArray, List.set_cons_zero, List.set_cons_succ, i64_w, i32_w]
    rfl
   refine pure_ (i := 4) (N := some 51) (v := ?_) (a' := ?_) #[true, true, true, true, true] rfl rfl (by kernel_rfl) (fun _ _ _ h => h) (Or.inl ⟨by rfl, ?_⟩) ?_ ?_
   rotate_left
   ·intro w'
    go_simp
    with_reducible rfl
   rotate_left
   ·simp only [Act.put, List.setIfInBounds_toArray, List.set_cons_zero, List.set_cons_succ, i64_w, i32_w]
    rfl
   refine done_ (by kernel_rfl) ?_
   try go_wp2
   go_ret
   exact ⟨by first | rfl | (simp [errW_none, errW_some] <;> rfl) | (simp [*, errW_none, errW_some] <;> rfl), hb_⟩

end Go.Proofs.Ytifgjihjcloloaa.P
