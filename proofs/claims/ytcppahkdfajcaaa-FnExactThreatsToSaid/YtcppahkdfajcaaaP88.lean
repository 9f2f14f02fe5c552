-- written for this claim by a program of this session (wip/tools/xprint.py), which runs the kit's print with other cuts
import Derived.Test.YtcppahkdfajcaaaP
import Derived.Test.YtcppahkdfajcaaaETrGo
import Derived.Test.YtcppahkdfajcaaaP63
import Derived.Test.YtcppahkdfajcaaaP75
import Derived.Test.YtcppahkdfajcaaaP82
namespace Go.Proofs.Ytcppahkdfajcaaa.P
open Go.RowKit Go.Proofs.YtcppahkdfajcaaaW.PrintWords Go.Proofs.YtcppahkdfajcaaaW.PrintLast Go.Proofs.YtcppahkdfajcaaaW.PrintMore
attribute [local go_sem] max2_int min2_int max_two min_two max_three min_three max_four min_four   -- for this text's walks alone
set_option linter.unusedVariables false
set_option linter.unusedSimpArgs false

/-! ### spec_trThreat: function 88 -/
mutual
def spec_trThreat.l0 : Nat → List (List Int) → Int → Int → List (List Int) → Int → Int → Int → Int → Int → List Int → List Int → Option (Bool)
 | 0, _, _, _, _, _, _, _, _, _, _, _ => none
 | k + 1, x1, x2, x3, x27, x28, x29, x628000, x628001, x628002, x628003, x628004 => if x29 < x28 then (if 0 ≤ x29 then (if x29 < (x27.length : Int) then (spec_trThreat.l1 k x1 x2 x3 x29 x27 x28 x29 (rd_L1 x27 x29) ((rd_L1 x27 x29).length : Int) 0 x628000 x628001 x628002 x628003 x628004) else (none)) else (none)) else (some false)
def spec_trThreat.l1 : Nat → List (List Int) → Int → Int → Int → List (List Int) → Int → Int → List Int → Int → Int → Int → Int → Int → List Int → List Int → Option (Bool)
 | 0, _, _, _, _, _, _, _, _, _, _, _, _, _, _, _ => none
 | k + 1, x1, x2, x3, x9, x27, x28, x29, x34, x35, x36, x628000, x628001, x628002, x628003, x628004 => if x36 < x35 then (if 0 ≤ x36 then (if x36 < (x34.length : Int) then (spec_trThreat.l2 k x1 x2 x3 x9 x36 (rd x34 x36) 1 x27 x28 x29 x34 x35 x36 x628000 x628001 x628002 x628003 x628004) else (none)) else (none)) else (spec_trThreat.l0 k x1 x2 x3 x27 x28 (wrap64 (x29 + 1)) x628000 x628001 x628002 x628003 x628004)
def spec_trThreat.l2 : Nat → List (List Int) → Int → Int → Int → Int → Int → Int → List (List Int) → Int → Int → List Int → Int → Int → Int → Int → Int → List Int → List Int → Option (Bool)
 | 0, _, _, _, _, _, _, _, _, _, _, _, _, _, _, _, _, _, _ => none
 | k + 1, x1, x2, x3, x9, x11, x12, x13, x27, x28, x29, x34, x35, x36, x628000, x628001, x628002, x628003, x628004 => if x13 ≤ x628001 then (if x9 = x2 then (spec_trThreat.j3 k x1 x2 x3 x9 x11 x12 x13 x27 x28 x29 x34 x35 x36 true x628000 x628001 x628002 x628003 x628004) else ((spec_trCan.f x628000 x628001 x628002 x628003 x628004 x12 x13).bind fun t633 => (spec_trThreat.j3 k x1 x2 x3 x9 x11 x12 x13 x27 x28 x29 x34 x35 x36 (!t633) x628000 x628001 x628002 x628003 x628004))) else (spec_trThreat.l1 k x1 x2 x3 x9 x27 x28 x29 x34 x35 (wrap64 (x36 + 1)) x628000 x628001 x628002 x628003 x628004)
def spec_trThreat.j3 : Nat → List (List Int) → Int → Int → Int → Int → Int → Int → List (List Int) → Int → Int → List Int → Int → Int → Bool → Int → Int → Int → List Int → List Int → Option (Bool)
 | 0, _, _, _, _, _, _, _, _, _, _, _, _, _, _, _, _, _, _, _ => none
 | k + 1, x1, x2, x3, x9, x11, x12, x13, x27, x28, x29, x34, x35, x36, x56, x628000, x628001, x628002, x628003, x628004 => if x56 = true then (spec_trThreat.l2 k x1 x2 x3 x9 x11 x12 (wrap64 (x13 + 1)) x27 x28 x29 x34 x35 x36 x628000 x628001 x628002 x628003 x628004) else ((spec_trGo.f k x628000 x628001 x628002 x628003 x628004 x1 x9 x11 x13).bind fun bt634 => (if 0 ≤ x2 then (if x2 < (bt634.1.length : Int) then (if 0 ≤ x3 then (if x3 < ((rd_L1 bt634.1 x2).length : Int) then (if (rd (rd_L1 bt634.1 x2) x3) < 0 then (some true) else (spec_trThreat.l2 k x1 x2 x3 x9 x11 x12 (wrap64 (x13 + 1)) x27 x28 x29 x34 x35 x36 x628000 x628001 x628002 x628003 x628004)) else (none)) else (none)) else (none)) else (none)))
end
def spec_trThreat.f (k : Nat) (a0_0 : Int) (a0_1 : Int) (a0_2 : Int) (l0_3 : List Int) (l0_4 : List Int) (l1 : List (List Int)) (a2 : Int) (a3 : Int) : Option (Bool) := if 0 ≤ a2 then (if a2 < (l1.length : Int) then (if 0 ≤ a3 then (if a3 < ((rd_L1 l1 a2).length : Int) then ((spec_trSquare.f a0_0 a0_1 a0_2 l0_3 l0_4 a2 (rd (rd_L1 l1 a2) a3)).bind fun t630 => (if t630 < 0 then (some false) else (spec_trThreat.l0 k l1 a2 a3 l1 (l1.length : Int) 0 a0_0 a0_1 a0_2 l0_3 l0_4))) else (none)) else (none)) else (none)) else (none)
theorem spec_trThreat.mono_l : ∀ k, (∀ y0 y1 y2 y3 y4 y5 y6 y7 y8 y9 y10, LeO (spec_trThreat.l0 k y0 y1 y2 y3 y4 y5 y6 y7 y8 y9 y10) (spec_trThreat.l0 (k + 1) y0 y1 y2 y3 y4 y5 y6 y7 y8 y9 y10)) ∧ (∀ y0 y1 y2 y3 y4 y5 y6 y7 y8 y9 y10 y11 y12 y13 y14, LeO (spec_trThreat.l1 k y0 y1 y2 y3 y4 y5 y6 y7 y8 y9 y10 y11 y12 y13 y14) (spec_trThreat.l1 (k + 1) y0 y1 y2 y3 y4 y5 y6 y7 y8 y9 y10 y11 y12 y13 y14)) ∧ (∀ y0 y1 y2 y3 y4 y5 y6 y7 y8 y9 y10 y11 y12 y13 y14 y15 y16 y17, LeO (spec_trThreat.l2 k y0 y1 y2 y3 y4 y5 y6 y7 y8 y9 y10 y11 y12 y13 y14 y15 y16 y17) (spec_trThreat.l2 (k + 1) y0 y1 y2 y3 y4 y5 y6 y7 y8 y9 y10 y11 y12 y13 y14 y15 y16 y17)) ∧ (∀ y0 y1 y2 y3 y4 y5 y6 y7 y8 y9 y10 y11 y12 y13 y14 y15 y16 y17 y18, LeO (spec_trThreat.j3 k y0 y1 y2 y3 y4 y5 y6 y7 y8 y9 y10 y11 y12 y13 y14 y15 y16 y17 y18) (spec_trThreat.j3 (k + 1) y0 y1 y2 y3 y4 y5 y6 y7 y8 y9 y10 y11 y12 y13 y14 y15 y16 y17 y18))
 | 0 => ⟨fun _ _ _ _ _ _ _ _ _ _ _ r h => by simp [spec_trThreat.l0] at h, fun _ _ _ _ _ _ _ _ _ _ _ _ _ _ _ r h => by simp [spec_trThreat.l1] at h, fun _ _ _ _ _ _ _ _ _ _ _ _ _ _ _ _ _ _ r h => by simp [spec_trThreat.l2] at h, fun _ _ _ _ _ _ _ _ _ _ _ _ _ _ _ _ _ _ _ r h => by simp [spec_trThreat.j3] at h⟩
 | k + 1 => by
  obtain ⟨ih0, ih1, ih2, ih3⟩ := spec_trThreat.mono_l k
  refine ⟨?_, ?_, ?_, ?_⟩
  ·intro y0 y1 y2 y3 y4 y5 y6 y7 y8 y9 y10
   unfold spec_trThreat.l0
   repeat' first
   | (with_reducible exact ih0 _ _ _ _ _ _ _ _ _ _ _)
   | (with_reducible exact ih1 _ _ _ _ _ _ _ _ _ _ _ _ _ _ _)
   | (with_reducible exact ih2 _ _ _ _ _ _ _ _ _ _ _ _ _ _ _ _ _ _)
   | (with_reducible exact ih3 _ _ _ _ _ _ _ _ _ _ _ _ _ _ _ _ _ _ _)
   | (with_reducible exact spec_trGo.mono _ _ _ _ _ _ _ _ _ _)
   | (with_reducible exact LeO.refl _)
   | (with_reducible exact LeO.none _)
   | (with_reducible refine LeO.ite ?_ ?_)
   | (with_reducible refine LeO.bind ?_ (fun _ => ?_))
   | exact ih0 _ _ _ _ _ _ _ _ _ _ _
   | exact ih1 _ _ _ _ _ _ _ _ _ _ _ _ _ _ _
   | exact ih2 _ _ _ _ _ _ _ _ _ _ _ _ _ _ _ _ _ _
   | exact ih3 _ _ _ _ _ _ _ _ _ _ _ _ _ _ _ _ _ _ _
   | exact spec_trGo.mono _ _ _ _ _ _ _ _ _ _
   | exact LeO.none _
   | refine LeO.ite ?_ ?_
   | refine LeO.bind ?_ (fun _ => ?_)
  ·intro y0 y1 y2 y3 y4 y5 y6 y7 y8 y9 y10 y11 y12 y13 y14
   unfold spec_trThreat.l1
   repeat' first
   | (with_reducible exact ih0 _ _ _ _ _ _ _ _ _ _ _)
   | (with_reducible exact ih1 _ _ _ _ _ _ _ _ _ _ _ _ _ _ _)
   | (with_reducible exact ih2 _ _ _ _ _ _ _ _ _ _ _ _ _ _ _ _ _ _)
   | (with_reducible exact ih3 _ _ _ _ _ _ _ _ _ _ _ _ _ _ _ _ _ _ _)
   | (with_reducible exact spec_trGo.mono _ _ _ _ _ _ _ _ _ _)
   | (with_reducible exact LeO.refl _)
   | (with_reducible exact LeO.none _)
   | (with_reducible refine LeO.ite ?_ ?_)
   | (with_reducible refine LeO.bind ?_ (fun _ => ?_))
   | exact ih0 _ _ _ _ _ _ _ _ _ _ _
   | exact ih1 _ _ _ _ _ _ _ _ _ _ _ _ _ _ _
   | exact ih2 _ _ _ _ _ _ _ _ _ _ _ _ _ _ _ _ _ _
   | exact ih3 _ _ _ _ _ _ _ _ _ _ _ _ _ _ _ _ _ _ _
   | exact spec_trGo.mono _ _ _ _ _ _ _ _ _ _
   | exact LeO.none _
   | refine LeO.ite ?_ ?_
   | refine LeO.bind ?_ (fun _ => ?_)
  ·intro y0 y1 y2 y3 y4 y5 y6 y7 y8 y9 y10 y11 y12 y13 y14 y15 y16 y17
   unfold spec_trThreat.l2
   repeat' first
   | (with_reducible exact ih0 _ _ _ _ _ _ _ _ _ _ _)
   | (with_reducible exact ih1 _ _ _ _ _ _ _ _ _ _ _ _ _ _ _)
   | (with_reducible exact ih2 _ _ _ _ _ _ _ _ _ _ _ _ _ _ _ _ _ _)
   | (with_reducible exact ih3 _ _ _ _ _ _ _ _ _ _ _ _ _ _ _ _ _ _ _)
   | (with_reducible exact spec_trGo.mono _ _ _ _ _ _ _ _ _ _)
   | (with_reducible exact LeO.refl _)
   | (with_reducible exact LeO.none _)
   | (with_reducible refine LeO.ite ?_ ?_)
   | (with_reducible refine LeO.bind ?_ (fun _ => ?_))
   | exact ih0 _ _ _ _ _ _ _ _ _ _ _
   | exact ih1 _ _ _ _ _ _ _ _ _ _ _ _ _ _ _
   | exact ih2 _ _ _ _ _ _ _ _ _ _ _ _ _ _ _ _ _ _
   | exact ih3 _ _ _ _ _ _ _ _ _ _ _ _ _ _ _ _ _ _ _
   | exact spec_trGo.mono _ _ _ _ _ _ _ _ _ _
   | exact LeO.none _
   | refine LeO.ite ?_ ?_
   | refine LeO.bind ?_ (fun _ => ?_)
  ·intro y0 y1 y2 y3 y4 y5 y6 y7 y8 y9 y10 y11 y12 y13 y14 y15 y16 y17 y18
   unfold spec_trThreat.j3
   repeat' first
   | (with_reducible exact ih0 _ _ _ _ _ _ _ _ _ _ _)
   | (with_reducible exact ih1 _ _ _ _ _ _ _ _ _ _ _ _ _ _ _)
   | (with_reducible exact ih2 _ _ _ _ _ _ _ _ _ _ _ _ _ _ _ _ _ _)
   | (with_reducible exact ih3 _ _ _ _ _ _ _ _ _ _ _ _ _ _ _ _ _ _ _)
   | (with_reducible exact spec_trGo.mono _ _ _ _ _ _ _ _ _ _)
   | (with_reducible exact LeO.refl _)
   | (with_reducible exact LeO.none _)
   | (with_reducible refine LeO.ite ?_ ?_)
   | (with_reducible refine LeO.bind ?_ (fun _ => ?_))
   | exact ih0 _ _ _ _ _ _ _ _ _ _ _
   | exact ih1 _ _ _ _ _ _ _ _ _ _ _ _ _ _ _
   | exact ih2 _ _ _ _ _ _ _ _ _ _ _ _ _ _ _ _ _ _
   | exact ih3 _ _ _ _ _ _ _ _ _ _ _ _ _ _ _ _ _ _ _
   | exact spec_trGo.mono _ _ _ _ _ _ _ _ _ _
   | exact LeO.none _
   | refine LeO.ite ?_ ?_
   | refine LeO.bind ?_ (fun _ => ?_)
theorem spec_trThreat.mono : ∀ a0 a1 a2 a3 a4 a5 a6 a7 k, LeO (spec_trThreat.f k a0 a1 a2 a3 a4 a5 a6 a7) (spec_trThreat.f (k + 1) a0 a1 a2 a3 a4 a5 a6 a7) := by
 intro a0 a1 a2 a3 a4 a5 a6 a7 k
 obtain ⟨ih0, ih1, ih2, ih3⟩ := spec_trThreat.mono_l k
 unfold spec_trThreat.f
 repeat' first
   | (with_reducible exact ih0 _ _ _ _ _ _ _ _ _ _ _)
   | (with_reducible exact ih1 _ _ _ _ _ _ _ _ _ _ _ _ _ _ _)
   | (with_reducible exact ih2 _ _ _ _ _ _ _ _ _ _ _ _ _ _ _ _ _ _)
   | (with_reducible exact ih3 _ _ _ _ _ _ _ _ _ _ _ _ _ _ _ _ _ _ _)
   | (with_reducible exact spec_trGo.mono _ _ _ _ _ _ _ _ _ _)
   | (with_reducible exact LeO.refl _)
   | (with_reducible exact LeO.none _)
   | (with_reducible refine LeO.ite ?_ ?_)
   | (with_reducible refine LeO.bind ?_ (fun _ => ?_))
   | exact ih0 _ _ _ _ _ _ _ _ _ _ _
   | exact ih1 _ _ _ _ _ _ _ _ _ _ _ _ _ _ _
   | exact ih2 _ _ _ _ _ _ _ _ _ _ _ _ _ _ _ _ _ _
   | exact ih3 _ _ _ _ _ _ _ _ _ _ _ _ _ _ _ _ _ _ _
   | exact spec_trGo.mono _ _ _ _ _ _ _ _ _ _
   | exact LeO.none _
   | refine LeO.ite ?_ ?_
   | refine LeO.bind ?_ (fun _ => ?_)
def spec_trThreat.T1 : Bool × List (List Nat × List Nat) := (true, [([], []), ([], []), ([], []), ([], []), ([2, 3], [2, 3]), ([4], [4]), ([], []), ([5, 6], [5, 6]), ([7], [7]), ([0, 1, 8], [0, 1, 8]), ([9], [9])])
def spec_trThreat.B1 : List Nat := [0, 0, 0, 0, 12, 28, 0, 124, 252, 511, 1023]
theorem spec_trThreat.tab1 : rtab .any (opsOf Try.f88 1) = spec_trThreat.T1 := by kernel_rfl
theorem spec_trThreat.bits1 : waitsOk spec_trThreat.T1.2 spec_trThreat.B1 = true := by kernel_rfl
set_option maxHeartbeats 8000000 in
set_option maxRecDepth 100000 in
theorem spec_trThreat.calls (k : Nat) (a0_0 : Int) (a0_1 : Int) (a0_2 : Int) (A0_3 : Option Addr) (c0_3 : Nat) (l0_3 : List Int) (A0_4 : Option Addr) (c0_4 : Nat) (l0_4 : List Int) (A1 : Option Addr) (c1 : Nat) (l1 : List (List Int)) (a2 : Int) (a3 : Int) (r : Bool) (w : World) (hr0_3 : Kd.C (Kd.int .i64) w A0_3 l0_3.length l0_3) (hc0_3 : l0_3.length ≤ c0_3) (hr0_4 : Kd.C (Kd.int .i64) w A0_4 l0_4.length l0_4) (hc0_4 : l0_4.length ≤ c0_4) (hr1 : Kd.C (Kd.slice 3 (Kd.int .i64)) w A1 l1.length l1) (hc1 : l1.length ≤ c1) (h : spec_trThreat.f k a0_0 a0_1 a0_2 l0_3 l0_4 l1 a2 a3 = some r) :
  Calls Try.prog 88 #[.agg #[.int .i64 a0_0, .int .i64 a0_1, .int .i64 a0_2, .slice A0_3 l0_3.length c0_3, .slice A0_4 l0_4.length c0_4], .slice A1 l1.length c1, .int .i64 a2, .int .i64 a3] w fun e w' => e = .returned (.bool r) ∧ Below w.heap.size w w' := by
 have hu27 := Try.underlying27
 have HR0_3 := Aside0.mk hr0_3
 have HC0_3 := Aside0.mk hc0_3
 clear hr0_3 hc0_3
 have HR0_4 := Aside0.mk hr0_4
 have HC0_4 := Aside0.mk hc0_4
 clear hr0_4 hc0_4
 have HR1 := Aside0.mk hr1
 have HC1 := Aside0.mk hc1
 clear hr1 hc1
 have HB := Aside0.mk (Below.refl w.heap.size w)
 have H : (if 0 ≤ a2 then (if a2 < (l1.length : Int) then (if 0 ≤ a3 then (if a3 < ((rd_L1 l1 a2).length : Int) then ((spec_trSquare.f a0_0 a0_1 a0_2 l0_3 l0_4 a2 (rd (rd_L1 l1 a2) a3)).bind fun t630 => (if t630 < 0 then (some false) else (spec_trThreat.l0 k l1 a2 a3 l1 (l1.length : Int) 0 a0_0 a0_1 a0_2 l0_3 l0_4))) else (none)) else (none)) else (none)) else (none)) = some r := h
 clear h
 by_cases c5 : 0 ≤ a2
 ·rw [if_pos c5] at H
  have c5b0 : decide (0 ≤ a2) = true := decide_eq_true c5
  clear c5
  by_cases c6 : a2 < (l1.length : Int)
  ·rw [if_pos c6] at H
   have c6b0 : decide (a2 < (l1.length : Int)) = true := decide_eq_true c6
   clear c6
   by_cases c7 : 0 ≤ a3
   ·rw [if_pos c7] at H
    have c7b0 : decide (0 ≤ a3) = true := decide_eq_true c7
    clear c7
    by_cases c8 : a3 < ((rd_L1 l1 a2).length : Int)
    ·rw [if_pos c8] at H
     have c8b0 : decide (a3 < ((rd_L1 l1 a2).length : Int)) = true := decide_eq_true c8
     clear c8
     replace H := Option.bind_eq_some_iff.mp H
     obtain ⟨t630, A90, H⟩ := H
     replace H : (if t630 < 0 then (some false) else (spec_trThreat.l0 k l1 a2 a3 l1 (l1.length : Int) 0 a0_0 a0_1 a0_2 l0_3 l0_4)) = some r := H
     have A9 := Aside0.mk A90
     clear A90
     by_cases c10 : t630 < 0
     ·rw [if_pos c10] at H
      have c10b0 : decide (t630 < 0) = true := decide_eq_true c10
      clear c10
      obtain rfl := Option.some.inj H
      go_enter Try.func88, Try.ntmps88
      try go_wp2_with (first | ((with_reducible refine gate_dst (N := 4) rfl ?_); refine box_event ?hg (N := 4) ?hd (cs := #[.int .i64 a0_0, .int .i64 a0_1, .int .i64 a0_2, .slice A0_3 l0_3.length c0_3, .slice A0_4 l0_4.length c0_4]) (t := 27) ?hr ?_; (case hd => rfl); (case hg => rfl); (case hr => first | (go_simp; done) | (go_simp; rfl)); intro gb627 hg w11 hbox hb; have n0_ := Aside0.mk (below_step hb_ hb); have n1_ := Aside0.mk (hbox); have n2_ := Aside0.mk ((by rw [hg]; exact (below_size hb_) : w.heap.size ≤ gb627)); have n3_ := Aside0.mk ((by rw [hg]; exact (below_size hb_) : w.heap.size ≤ gb627)); clear HB; have HB := n0_; have BK627 := n1_; have GW627 := n2_; have GE627 := n3_; clear n0_ n1_ n2_ n3_; clear hb hbox hg))
      have n0_ := Aside0.mk (blk_drew BK627.out)
      have n1_ := Aside0.mk (below_drew1 HB.out)
      clear BK627
      clear HB
      have BK627 := n0_
      have HB := n1_
      clear n0_ n1_
      have p628 : 0 ≤ (a2 : Int) := of_decide_eq_true (by first | (with_reducible assumption) | assumption)
      have q628 : a2 < (l1.length : Int) := of_decide_eq_true (by first | (with_reducible assumption) | assumption)
      obtain ⟨ad628, A628_0, c628_0, e628, hx628_0, hl628_0, hi628_0⟩ := at_L1 HR1.out a2 p628 q628
      have hw628_0 := hx628_0
      cases e628
      replace hx628_0 := (HB.out.cell (World.block_lt_of_cell? w _ hx628_0)).trans hx628_0
      have HR628_0 := Aside0.mk hi628_0
      have HC628_0 := Aside0.mk hl628_0
      clear hi628_0 hl628_0
      replace p628 := eq_true p628
      replace q628 := eq_true q628
      have p629 : 0 ≤ (a3 : Int) := of_decide_eq_true (by first | (with_reducible assumption) | assumption)
      have q629 : a3 < ((rd_L1 l1 a2).length : Int) := of_decide_eq_true (by first | (with_reducible assumption) | assumption)
      obtain ⟨ad629, e629, hx629_0⟩ := Kd.at_int HR628_0.out a3 p629 q629
      have hw629_0 := hx629_0
      cases e629
      replace hx629_0 := (HB.out.cell (World.block_lt_of_cell? w _ hx629_0)).trans hx629_0
      replace p629 := eq_true p629
      replace q629 := eq_true q629
      refine start_ (n := 11) (S := fun w' => w'.cell? ⟨gb627, 0, none⟩ = some (.int .i64 a0_0) ∧ w'.cell? ⟨gb627, 1, none⟩ = some (.int .i64 a0_1) ∧ w'.cell? ⟨gb627, 2, none⟩ = some (.int .i64 a0_2) ∧ w'.cell? ⟨gb627, 3, none⟩ = some (.slice A0_3 l0_3.length c0_3) ∧ w'.cell? ⟨gb627, 4, none⟩ = some (.slice A0_4 l0_4.length c0_4) ∧ w'.cell? (ad628.add (a2).toNat) = some (.slice (some ad629) (rd_L1 l1 a2).length c628_0) ∧ w'.cell? (ad629.add (a3).toNat) = some (.int .i64 (rd (rd_L1 l1 a2) a3))) (ds := []) #[false, false, false, false, false, false, false, false, false, false, false] (by kernel_rfl) rfl rfl ⟨(blk_cell BK627.out 0).trans rfl, (blk_cell BK627.out 1).trans rfl, (blk_cell BK627.out 2).trans rfl, (blk_cell BK627.out 3).trans rfl, (blk_cell BK627.out 4).trans rfl, ((HB.out.cell (World.block_lt_of_cell? w _ hw628_0)).trans hw628_0), ((HB.out.cell (World.block_lt_of_cell? w _ hw629_0)).trans hw629_0)⟩ (fun hHeld => ?_); refine with_tabW spec_trThreat.tab1 spec_trThreat.bits1 (fun HT_ HW_ => ?_)
      generalize w11.drew = w12 at BK627 HB HR628_0 hx628_0 hx629_0 hHeld ⊢
      refine pure_ (i := 1) (N := some 17) (v := ?_) (a' := ?_) #[false, true, false, false, false, false, false, false, false, false, false] rfl rfl (any_of HT_.out (by kernel_rfl)) (fun _ _ _ h => h) (Or.inl ⟨by rfl, ?_⟩) ?_ ?_
      rotate_left
      ·intro w'
       go_simp
       with_reducible rfl
      rotate_left
      ·simp only [Act.put, List.setIfInBounds_toArray, List.set_cons_zero, List.set_cons_succ, i64_w, i32_w]
       rfl
      refine pure_ (i := 2) (N := some 18) (v := ?_) (a' := ?_) #[false, true, true, false, false, false, false, false, false, false, false] rfl rfl (any_of HT_.out (by kernel_rfl)) (fun _ _ _ h => h) (Or.inl ⟨by rfl, ?_⟩) ?_ ?_
      rotate_left
      ·intro w'
       go_simp
       with_reducible rfl
      rotate_left
      ·simp only [Act.put, List.setIfInBounds_toArray, List.set_cons_zero, List.set_cons_succ, i64_w, i32_w]
       rfl
      refine pure_ (i := 3) (N := some 19) (v := ?_) (a' := ?_) #[false, true, true, true, false, false, false, false, false, false, false] rfl rfl (any_of HT_.out (by kernel_rfl)) (fun _ _ _ h => h) (Or.inl ⟨by rfl, ?_⟩) ?_ ?_
      rotate_left
      ·intro w'
       go_simp
       with_reducible rfl
      rotate_left
      ·simp only [Act.put, List.setIfInBounds_toArray, List.set_cons_zero, List.set_cons_succ, i64_w, i32_w]
       rfl
      refine pure_ (i := 4) (N := some 20) (v := ?_) (a' := ?_) #[false, true, true, true, true, false, false, false, false, false, false] rfl rfl (any_of HT_.out (by kernel_rfl)) (fun _ _ _ h => h) (Or.inl ⟨by rfl, ?_⟩) ?_ ?_
      rotate_left
      ·intro w'
       go_simp
       with_reducible rfl
      rotate_left
      ·simp only [Act.put, List.setIfInBounds_toArray, List.set_cons_zero, List.set_cons_succ, i64_w, i32_w]
       rfl
      refine pure_ (i := 6) (N := some 22) (v := ?_) (a' := ?_) #[false, true, true, true, true, false, true, false, false, false, false] rfl rfl (any_of HT_.out (by kernel_rfl)) (fun _ _ _ h => h) (Or.inl ⟨by rfl, ?_⟩) ?_ ?_
      rotate_left
      ·intro w'
       go_simp
       with_reducible rfl
      rotate_left
      ·simp only [Act.put, List.setIfInBounds_toArray, List.set_cons_zero, List.set_cons_succ, i64_w, i32_w]
       rfl
      refine take_ (i := 0) (N := some 16) (v := ?_) (a' := ?_) #[true, true, true, true, true, false, true, false, false, false, false] rfl rfl (take_ofW HT_.out HW_.out (by kernel_rfl)) (fun _ _ _ h => h) (Or.inl ⟨by rfl, ?_⟩) hHeld ?_ ?_
      rotate_left
      ·rintro w' ⟨s0, s1, s2, s3, s4, s5, s6⟩
       go_simp
       with_reducible rfl
      rotate_left
      ·simp only [Act.put, List.setIfInBounds_toArray, List.set_cons_zero, List.set_cons_succ, i64_w, i32_w]
       rfl
      refine take_ (i := 5) (N := some 21) (v := ?_) (a' := ?_) #[true, true, true, true, true, true, true, false, false, false, false] rfl rfl (take_ofW HT_.out HW_.out (by kernel_rfl)) (fun _ _ _ h => h) (Or.inl ⟨by rfl, ?_⟩) hHeld ?_ ?_
      rotate_left
      ·rintro w' ⟨s0, s1, s2, s3, s4, s5, s6⟩
       go_simp
       with_reducible rfl
      rotate_left
      ·simp only [Act.put, List.setIfInBounds_toArray, List.set_cons_zero, List.set_cons_succ, i64_w, i32_w]
       rfl
      refine pure_ (i := 7) (N := some 23) (v := ?_) (a' := ?_) #[true, true, true, true, true, true, true, true, false, false, false] rfl rfl (any_of HT_.out (by kernel_rfl)) (fun _ _ _ h => h) (Or.inl ⟨by rfl, ?_⟩) ?_ ?_
      rotate_left
      ·intro w'
       go_simp
       with_reducible rfl
      rotate_left
      ·simp only [Act.put, List.setIfInBounds_toArray, List.set_cons_zero, List.set_cons_succ, i64_w, i32_w]
       rfl
      refine take_ (i := 8) (N := some 24) (v := ?_) (a' := ?_) #[true, true, true, true, true, true, true, true, true, false, false] rfl rfl (take_ofW HT_.out HW_.out (by kernel_rfl)) (fun _ _ _ h => h) (Or.inl ⟨by rfl, ?_⟩) hHeld ?_ ?_
      rotate_left
      ·rintro w' ⟨s0, s1, s2, s3, s4, s5, s6⟩
       go_simp
       with_reducible rfl
      rotate_left
      ·simp only [Act.put, List.setIfInBounds_toArray, List.set_cons_zero, List.set_cons_succ, i64_w, i32_w]
       rfl
      refine one_ (i := 9) (N := some 25) #[true, true, true, true, true, true, true, true, true, true, false] rfl rfl (one_of HT_.out (by kernel_rfl)) (by decide) (fun K hK => ?_)
      refine goes_ Try.func70 (by kernel_rfl) rfl #[.agg #[.int .i64 a0_0, .int .i64 a0_1, .int .i64 a0_2, .slice A0_3 l0_3.length c0_3, .slice A0_4 l0_4.length c0_4], .int .i64 a2, .int .i64 (rd (rd_L1 l1 a2) a3)] (by rfl) rfl rfl (by (try simp only [List.map_toArray, List.map_cons, List.map_nil]); first | done | rfl | (simp only [List.length_drop, List.length_take]; rfl)) ?_
      with_reducible refine (spec_trSquare.calls a0_0 a0_1 a0_2 _ _ l0_3 _ _ l0_4 a2 (rd (rd_L1 l1 a2) a3) t630 _ ?side1 ?side2 ?side3 ?side4 A9.out).mono ?_
      (case side1 => exact Kd.C_below HR0_3.out hb_)
      (case side2 => exact HC0_3.out)
      (case side3 => exact Kd.C_below HR0_4.out hb_)
      (case side4 => exact HC0_4.out)
      rintro e w13 ⟨rfl, hb⟩
      refine ⟨_, rfl, ?_⟩
      have n0_ := Aside0.mk (blk_below (g := gb627) (o := .cells #[.int .i64 a0_0, .int .i64 a0_1, .int .i64 a0_2, .slice A0_3 l0_3.length c0_3, .slice A0_4 l0_4.length c0_4] 27 (0, 0)) (by (with_reducible repeat (first | refine blk_drewN ?_ _ | refine blk_drew ?_ | refine blk_alloc ?_ _)); exact BK627.out) hb)
      have n1_ := Aside0.mk (below_step hb_ hb)
      clear BK627
      clear HB
      have BK627 := n0_
      have HB := n1_
      clear n0_ n1_
      (try clear hb)
      (try clear hb2)
      (try clear hk)
      (try clear hi)
      refine hK.out _ _ ⟨(blk_cell BK627.out 0).trans rfl, (blk_cell BK627.out 1).trans rfl, (blk_cell BK627.out 2).trans rfl, (blk_cell BK627.out 3).trans rfl, (blk_cell BK627.out 4).trans rfl, ((HB.out.cell (World.block_lt_of_cell? w _ hw628_0)).trans hw628_0), ((HB.out.cell (World.block_lt_of_cell? w _ hw629_0)).trans hw629_0)⟩ (fun hHeld => ?_)
      clear hK K
      refine norm_ (a' := ?_) ?_ ?_
      rotate_left
      ·show Act.put _ (some 25) _ = _
       simp only [Act.put, List.setIfInBounds_toArray, List.set_cons_zero, List.set_cons_succ, i64_w, i32_w]
       rfl
      refine pure_ (i := 10) (N := some 26) (v := ?_) (a' := ?_) #[true, true, true, true, true, true, true, true, true, true, true] rfl rfl (any_of HT_.out (by kernel_rfl)) (fun _ _ _ h => h) (Or.inl ⟨by rfl, ?_⟩) ?_ ?_
      rotate_left
      ·intro w'
       go_simp
       with_reducible rfl
      rotate_left
      ·simp only [Act.put, List.setIfInBounds_toArray, List.set_cons_zero, List.set_cons_succ, i64_w, i32_w]
       rfl
      refine done_ (done_of HT_.out (by kernel_rfl)) ?_
      try go_wp2
      go_ret
      exact ⟨by first | rfl | (simp [errW_none, errW_some] <;> rfl) | (simp [*, errW_none, errW_some] <;> rfl), hb_⟩
     ·rw [if_neg c10] at H
      have c10b0 : decide (t630 < 0) = false := decide_eq_false c10
      clear c10
      have H' := Aside0.mk H
      clear H
      go_enter Try.func88, Try.ntmps88
      try go_wp2_with (first | ((with_reducible refine gate_dst (N := 4) rfl ?_); refine box_event ?hg (N := 4) ?hd (cs := #[.int .i64 a0_0, .int .i64 a0_1, .int .i64 a0_2, .slice A0_3 l0_3.length c0_3, .slice A0_4 l0_4.length c0_4]) (t := 27) ?hr ?_; (case hd => rfl); (case hg => rfl); (case hr => first | (go_simp; done) | (go_simp; rfl)); intro gb627 hg w14 hbox hb; have n0_ := Aside0.mk (below_step hb_ hb); have n1_ := Aside0.mk (hbox); have n2_ := Aside0.mk ((by rw [hg]; exact (below_size hb_) : w.heap.size ≤ gb627)); have n3_ := Aside0.mk ((by rw [hg]; exact (below_size hb_) : w.heap.size ≤ gb627)); clear HB; have HB := n0_; have BK627 := n1_; have GW627 := n2_; have GE627 := n3_; clear n0_ n1_ n2_ n3_; clear hb hbox hg))
      have n0_ := Aside0.mk (blk_drew BK627.out)
      have n1_ := Aside0.mk (below_drew1 HB.out)
      clear BK627
      clear HB
      have BK627 := n0_
      have HB := n1_
      clear n0_ n1_
      have p628 : 0 ≤ (a2 : Int) := of_decide_eq_true (by first | (with_reducible assumption) | assumption)
      have q628 : a2 < (l1.length : Int) := of_decide_eq_true (by first | (with_reducible assumption) | assumption)
      obtain ⟨ad628, A628_0, c628_0, e628, hx628_0, hl628_0, hi628_0⟩ := at_L1 HR1.out a2 p628 q628
      have hw628_0 := hx628_0
      cases e628
      replace hx628_0 := (HB.out.cell (World.block_lt_of_cell? w _ hx628_0)).trans hx628_0
      have HR628_0 := Aside0.mk hi628_0
      have HC628_0 := Aside0.mk hl628_0
      clear hi628_0 hl628_0
      replace p628 := eq_true p628
      replace q628 := eq_true q628
      have p629 : 0 ≤ (a3 : Int) := of_decide_eq_true (by first | (with_reducible assumption) | assumption)
      have q629 : a3 < ((rd_L1 l1 a2).length : Int) := of_decide_eq_true (by first | (with_reducible assumption) | assumption)
      obtain ⟨ad629, e629, hx629_0⟩ := Kd.at_int HR628_0.out a3 p629 q629
      have hw629_0 := hx629_0
      cases e629
      replace hx629_0 := (HB.out.cell (World.block_lt_of_cell? w _ hx629_0)).trans hx629_0
      replace p629 := eq_true p629
      replace q629 := eq_true q629
      refine start_ (n := 11) (S := fun w' => w'.cell? ⟨gb627, 0, none⟩ = some (.int .i64 a0_0) ∧ w'.cell? ⟨gb627, 1, none⟩ = some (.int .i64 a0_1) ∧ w'.cell? ⟨gb627, 2, none⟩ = some (.int .i64 a0_2) ∧ w'.cell? ⟨gb627, 3, none⟩ = some (.slice A0_3 l0_3.length c0_3) ∧ w'.cell? ⟨gb627, 4, none⟩ = some (.slice A0_4 l0_4.length c0_4) ∧ w'.cell? (ad628.add (a2).toNat) = some (.slice (some ad629) (rd_L1 l1 a2).length c628_0) ∧ w'.cell? (ad629.add (a3).toNat) = some (.int .i64 (rd (rd_L1 l1 a2) a3))) (ds := []) #[false, false, false, false, false, false, false, false, false, false, false] (by kernel_rfl) rfl rfl ⟨(blk_cell BK627.out 0).trans rfl, (blk_cell BK627.out 1).trans rfl, (blk_cell BK627.out 2).trans rfl, (blk_cell BK627.out 3).trans rfl, (blk_cell BK627.out 4).trans rfl, ((HB.out.cell (World.block_lt_of_cell? w _ hw628_0)).trans hw628_0), ((HB.out.cell (World.block_lt_of_cell? w _ hw629_0)).trans hw629_0)⟩ (fun hHeld => ?_); refine with_tabW spec_trThreat.tab1 spec_trThreat.bits1 (fun HT_ HW_ => ?_)
      generalize w14.drew = w15 at BK627 HB HR628_0 hx628_0 hx629_0 hHeld ⊢
      refine pure_ (i := 1) (N := some 17) (v := ?_) (a' := ?_) #[false, true, false, false, false, false, false, false, false, false, false] rfl rfl (any_of HT_.out (by kernel_rfl)) (fun _ _ _ h => h) (Or.inl ⟨by rfl, ?_⟩) ?_ ?_
      rotate_left
      ·intro w'
       go_simp
       with_reducible rfl
      rotate_left
      ·simp only [Act.put, List.setIfInBounds_toArray, List.set_cons_zero, List.set_cons_succ, i64_w, i32_w]
       rfl
      refine pure_ (i := 2) (N := some 18) (v := ?_) (a' := ?_) #[false, true, true, false, false, false, false, false, false, false, false] rfl rfl (any_of HT_.out (by kernel_rfl)) (fun _ _ _ h => h) (Or.inl ⟨by rfl, ?_⟩) ?_ ?_
      rotate_left
      ·intro w'
       go_simp
       with_reducible rfl
      rotate_left
      ·simp only [Act.put, List.setIfInBounds_toArray, List.set_cons_zero, List.set_cons_succ, i64_w, i32_w]
       rfl
      refine pure_ (i := 3) (N := some 19) (v := ?_) (a' := ?_) #[false, true, true, true, false, false, false, false, false, false, false] rfl rfl (any_of HT_.out (by kernel_rfl)) (fun _ _ _ h => h) (Or.inl ⟨by rfl, ?_⟩) ?_ ?_
      rotate_left
      ·intro w'
       go_simp
       with_reducible rfl
      rotate_left
      ·simp only [Act.put, List.setIfInBounds_toArray, List.set_cons_zero, List.set_cons_succ, i64_w, i32_w]
       rfl
      refine pure_ (i := 4) (N := some 20) (v := ?_) (a' := ?_) #[false, true, true, true, true, false, false, false, false, false, false] rfl rfl (any_of HT_.out (by kernel_rfl)) (fun _ _ _ h => h) (Or.inl ⟨by rfl, ?_⟩) ?_ ?_
      rotate_left
      ·intro w'
       go_simp
       with_reducible rfl
      rotate_left
      ·simp only [Act.put, List.setIfInBounds_toArray, List.set_cons_zero, List.set_cons_succ, i64_w, i32_w]
       rfl
      refine pure_ (i := 6) (N := some 22) (v := ?_) (a' := ?_) #[false, true, true, true, true, false, true, false, false, false, false] rfl rfl (any_of HT_.out (by kernel_rfl)) (fun _ _ _ h => h) (Or.inl ⟨by rfl, ?_⟩) ?_ ?_
      rotate_left
      ·intro w'
       go_simp
       with_reducible rfl
      rotate_left
      ·simp only [Act.put, List.setIfInBounds_toArray, List.set_cons_zero, List.set_cons_succ, i64_w, i32_w]
       rfl
      refine take_ (i := 0) (N := some 16) (v := ?_) (a' := ?_) #[true, true, true, true, true, false, true, false, false, false, false] rfl rfl (take_ofW HT_.out HW_.out (by kernel_rfl)) (fun _ _ _ h => h) (Or.inl ⟨by rfl, ?_⟩) hHeld ?_ ?_
      rotate_left
      ·rintro w' ⟨s0, s1, s2, s3, s4, s5, s6⟩
       go_simp
       with_reducible rfl
      rotate_left
      ·simp only [Act.put, List.setIfInBounds_toArray, List.set_cons_zero, List.set_cons_succ, i64_w, i32_w]
       rfl
      refine take_ (i := 5) (N := some 21) (v := ?_) (a' := ?_) #[true, true, true, true, true, true, true, false, false, false, false] rfl rfl (take_ofW HT_.out HW_.out (by kernel_rfl)) (fun _ _ _ h => h) (Or.inl ⟨by rfl, ?_⟩) hHeld ?_ ?_
      rotate_left
      ·rintro w' ⟨s0, s1, s2, s3, s4, s5, s6⟩
       go_simp
       with_reducible rfl
      rotate_left
      ·simp only [Act.put, List.setIfInBounds_toArray, List.set_cons_zero, List.set_cons_succ, i64_w, i32_w]
       rfl
      refine pure_ (i := 7) (N := some 23) (v := ?_) (a' := ?_) #[true, true, true, true, true, true, true, true, false, false, false] rfl rfl (any_of HT_.out (by kernel_rfl)) (fun _ _ _ h => h) (Or.inl ⟨by rfl, ?_⟩) ?_ ?_
      rotate_left
      ·intro w'
       go_simp
       with_reducible rfl
      rotate_left
      ·simp only [Act.put, List.setIfInBounds_toArray, List.set_cons_zero, List.set_cons_succ, i64_w, i32_w]
       rfl
      refine take_ (i := 8) (N := some 24) (v := ?_) (a' := ?_) #[true, true, true, true, true, true, true, true, true, false, false] rfl rfl (take_ofW HT_.out HW_.out (by kernel_rfl)) (fun _ _ _ h => h) (Or.inl ⟨by rfl, ?_⟩) hHeld ?_ ?_
      rotate_left
      ·rintro w' ⟨s0, s1, s2, s3, s4, s5, s6⟩
       go_simp
       with_reducible rfl
      rotate_left
      ·simp only [Act.put, List.setIfInBounds_toArray, List.set_cons_zero, List.set_cons_succ, i64_w, i32_w]
       rfl
      refine one_ (i := 9) (N := some 25) #[true, true, true, true, true, true, true, true, true, true, false] rfl rfl (one_of HT_.out (by kernel_rfl)) (by decide) (fun K hK => ?_)
      refine goes_ Try.func70 (by kernel_rfl) rfl #[.agg #[.int .i64 a0_0, .int .i64 a0_1, .int .i64 a0_2, .slice A0_3 l0_3.length c0_3, .slice A0_4 l0_4.length c0_4], .int .i64 a2, .int .i64 (rd (rd_L1 l1 a2) a3)] (by rfl) rfl rfl (by (try simp only [List.map_toArray, List.map_cons, List.map_nil]); first | done | rfl | (simp only [List.length_drop, List.length_take]; rfl)) ?_
      with_reducible refine (spec_trSquare.calls a0_0 a0_1 a0_2 _ _ l0_3 _ _ l0_4 a2 (rd (rd_L1 l1 a2) a3) t630 _ ?side1 ?side2 ?side3 ?side4 A9.out).mono ?_
      (case side1 => exact Kd.C_below HR0_3.out hb_)
      (case side2 => exact HC0_3.out)
      (case side3 => exact Kd.C_below HR0_4.out hb_)
      (case side4 => exact HC0_4.out)
      rintro e w16 ⟨rfl, hb⟩
      refine ⟨_, rfl, ?_⟩
      have n0_ := Aside0.mk (blk_below (g := gb627) (o := .cells #[.int .i64 a0_0, .int .i64 a0_1, .int .i64 a0_2, .slice A0_3 l0_3.length c0_3, .slice A0_4 l0_4.length c0_4] 27 (0, 0)) (by (with_reducible repeat (first | refine blk_drewN ?_ _ | refine blk_drew ?_ | refine blk_alloc ?_ _)); exact BK627.out) hb)
      have n1_ := Aside0.mk (below_step hb_ hb)
      clear BK627
      clear HB
      have BK627 := n0_
      have HB := n1_
      clear n0_ n1_
      (try clear hb)
      (try clear hb2)
      (try clear hk)
      (try clear hi)
      refine hK.out _ _ ⟨(blk_cell BK627.out 0).trans rfl, (blk_cell BK627.out 1).trans rfl, (blk_cell BK627.out 2).trans rfl, (blk_cell BK627.out 3).trans rfl, (blk_cell BK627.out 4).trans rfl, ((HB.out.cell (World.block_lt_of_cell? w _ hw628_0)).trans hw628_0), ((HB.out.cell (World.block_lt_of_cell? w _ hw629_0)).trans hw629_0)⟩ (fun hHeld => ?_)
      clear hK K
      refine norm_ (a' := ?_) ?_ ?_
      rotate_left
      ·show Act.put _ (some 25) _ = _
       simp only [Act.put, List.setIfInBounds_toArray, List.set_cons_zero, List.set_cons_succ, i64_w, i32_w]
       rfl
      refine pure_ (i := 10) (N := some 26) (v := ?_) (a' := ?_) #[true, true, true, true, true, true, true, true, true, true, true] rfl rfl (any_of HT_.out (by kernel_rfl)) (fun _ _ _ h => h) (Or.inl ⟨by rfl, ?_⟩) ?_ ?_
      rotate_left
      ·intro w'
       go_simp
       with_reducible rfl
      rotate_left
      ·simp only [Act.put, List.setIfInBounds_toArray, List.set_cons_zero, List.set_cons_succ, i64_w, i32_w]
       rfl
      refine done_ (done_of HT_.out (by kernel_rfl)) ?_
      try go_wp2
      go_loopg [29] k (fun kq v29 w' => ∃ (x29_1 : Int), v29 = .int .i64 x29_1 ∧ Aside0 (spec_trThreat.l0 kq l1 a2 a3 l1 (l1.length : Int) x29_1 a0_0 a0_1 a0_2 l0_3 l0_4 = some r) ∧ Aside0 (kq ≤ k) ∧ Aside0 (w'.heap[gb627]? = some (.cells #[.int .i64 a0_0, .int .i64 a0_1, .int .i64 a0_2, (.slice A0_3 l0_3.length c0_3), (.slice A0_4 l0_4.length c0_4)] 27 (0, 0))) ∧ Aside0 (Below w.heap.size w w'))
      case atStart => exact ⟨(0), (by first | rfl | (simp; done) | (simp [*]; done)), H', ⟨Nat.le_refl _⟩, ⟨by (with_reducible repeat (first | refine blk_drewN ?_ _ | refine blk_drew ?_ | refine blk_alloc ?_ _)); exact BK627.out⟩, ⟨hb_⟩⟩
      case round =>
       clear H'
       try clear c1
       try clear p2
       try clear c5
       try clear c5b0
       try clear c6
       try clear c6b0
       try clear p6
       try clear q6
       try clear hx6
       try clear c7
       try clear c7b0
       try clear c8
       try clear c8b0
       try clear c10
       try clear c10b0
       try clear hx628_0
       try clear hx629_0
       try clear p628
       try clear p629
       try clear q628
       try clear q629
       obtain ⟨x29_1, rfl, HA, HK1, BK627, HB⟩ := hrel
       cases gk with
       | zero => exact absurd HA.out (by simp [spec_trThreat.l0])
       | succ k1 =>
        have H := HA.out
        clear HA
        simp only [spec_trThreat.l0] at H
        by_cases c17 : x29_1 < (l1.length : Int)
        ·rw [if_pos c17] at H
         have c17b0 : decide (x29_1 < (l1.length : Int)) = true := decide_eq_true c17
         clear c17
         by_cases c18 : 0 ≤ x29_1
         ·rw [if_pos c18] at H
          have c18b0 : decide (0 ≤ x29_1) = true := decide_eq_true c18
          clear c18
          by_cases c19 : x29_1 < (l1.length : Int)
          ·rw [if_pos c19] at H
           have c19b0 : decide (x29_1 < (l1.length : Int)) = true := decide_eq_true c19
           clear c19
           have H' := Aside0.mk H
           clear H
           have p631 : 0 ≤ (x29_1 : Int) := of_decide_eq_true (by first | (with_reducible assumption) | assumption)
           have q631 : x29_1 < (l1.length : Int) := of_decide_eq_true (by first | (with_reducible assumption) | assumption)
           obtain ⟨ad631, A631_0, c631_0, e631, hx631_0, hl631_0, hi631_0⟩ := at_L1 HR1.out x29_1 p631 q631
           obtain rfl : ad628 = ad631 := (by injection e631)
           replace hx631_0 := (HB.out.cell (World.block_lt_of_cell? w _ hx631_0)).trans hx631_0
           have HR631_0 := Aside0.mk hi631_0
           have HC631_0 := Aside0.mk hl631_0
           clear hi631_0 hl631_0
           replace p631 := eq_true p631
           replace q631 := eq_true q631
           go_wp2
           go_loopg [36] k1 (fun kq v36 w' => ∃ (x36_2 : Int), v36 = .int .i64 x36_2 ∧ Aside0 (spec_trThreat.l1 kq l1 a2 a3 x29_1 l1 (l1.length : Int) x29_1 (rd_L1 l1 x29_1) ((rd_L1 l1 x29_1).length : Int) x36_2 a0_0 a0_1 a0_2 l0_3 l0_4 = some r) ∧ Aside0 (kq ≤ k1) ∧ Aside0 (w'.heap[gb627]? = some (.cells #[.int .i64 a0_0, .int .i64 a0_1, .int .i64 a0_2, (.slice A0_3 l0_3.length c0_3), (.slice A0_4 l0_4.length c0_4)] 27 (0, 0))) ∧ Aside0 (Below w.heap.size w w'))
           case atStart => exact ⟨(0), (by first | rfl | (simp; done) | (simp [*]; done)), H', ⟨Nat.le_refl _⟩, ⟨by (with_reducible repeat (first | refine blk_drewN ?_ _ | refine blk_drew ?_ | refine blk_alloc ?_ _)); exact BK627.out⟩, ⟨hb_⟩⟩
           case round =>
            clear H'
            try clear c1
            try clear p2
            try clear c5
            try clear c5b0
            try clear c6
            try clear c6b0
            try clear p6
            try clear q6
            try clear hx6
            try clear c7
            try clear c7b0
            try clear c8
            try clear c8b0
            try clear c10
            try clear c10b0
            try clear c17
            try clear c17b0
            try clear c18
            try clear c18b0
            try clear c19
            try clear c19b0
            try clear hx628_0
            try clear hx629_0
            try clear hx631_0
            try clear p2
            try clear p6
            try clear p628
            try clear p629
            try clear p631
            try clear q6
            try clear q628
            try clear q629
            try clear q631
            obtain ⟨x36_2, rfl, HA, HK2, BK627, HB⟩ := hrel
            cases gk with
            | zero => exact absurd HA.out (by simp [spec_trThreat.l1])
            | succ k2 =>
             have H := HA.out
             clear HA
             simp only [spec_trThreat.l1] at H
             by_cases c20 : x36_2 < ((rd_L1 l1 x29_1).length : Int)
             ·rw [if_pos c20] at H
              have c20b0 : decide (x36_2 < ((rd_L1 l1 x29_1).length : Int)) = true := decide_eq_true c20
              clear c20
              by_cases c21 : 0 ≤ x36_2
              ·rw [if_pos c21] at H
               have c21b0 : decide (0 ≤ x36_2) = true := decide_eq_true c21
               clear c21
               by_cases c22 : x36_2 < ((rd_L1 l1 x29_1).length : Int)
               ·rw [if_pos c22] at H
                have c22b0 : decide (x36_2 < ((rd_L1 l1 x29_1).length : Int)) = true := decide_eq_true c22
                clear c22
                have H' := Aside0.mk H
                clear H
                have p632 : 0 ≤ (x36_2 : Int) := of_decide_eq_true (by first | (with_reducible assumption) | assumption)
                have q632 : x36_2 < ((rd_L1 l1 x29_1).length : Int) := of_decide_eq_true (by first | (with_reducible assumption) | assumption)
                obtain ⟨ad632, e632, hx632_0⟩ := Kd.at_int HR631_0.out x36_2 p632 q632
                cases e632
                replace hx632_0 := (HB.out.cell (World.block_lt_of_cell? w _ hx632_0)).trans hx632_0
                replace p632 := eq_true p632
                replace q632 := eq_true q632
                go_wp2
                go_loopg [13] k2 (fun kq v13 w' => ∃ (x13_3 : Int), v13 = .int .i64 x13_3 ∧ Aside0 (spec_trThreat.l2 kq l1 a2 a3 x29_1 x36_2 (rd (rd_L1 l1 x29_1) x36_2) x13_3 l1 (l1.length : Int) x29_1 (rd_L1 l1 x29_1) ((rd_L1 l1 x29_1).length : Int) x36_2 a0_0 a0_1 a0_2 l0_3 l0_4 = some r) ∧ Aside0 (kq ≤ k2) ∧ Aside0 (w'.heap[gb627]? = some (.cells #[.int .i64 a0_0, .int .i64 a0_1, .int .i64 a0_2, (.slice A0_3 l0_3.length c0_3), (.slice A0_4 l0_4.length c0_4)] 27 (0, 0))) ∧ Aside0 (Below w.heap.size w w'))
                case atStart => exact ⟨(1), (by first | rfl | (simp; done) | (simp [*]; done)), H', ⟨Nat.le_refl _⟩, ⟨by (with_reducible repeat (first | refine blk_drewN ?_ _ | refine blk_drew ?_ | refine blk_alloc ?_ _)); exact BK627.out⟩, ⟨hb_⟩⟩
                case round =>
                 clear H'
                 try clear c1
                 try clear c2
                 try clear p2
                 try clear c5
                 try clear c5b0
                 try clear c6
                 try clear c6b0
                 try clear p6
                 try clear q6
                 try clear hx6
                 try clear c7
                 try clear c7b0
                 try clear c8
                 try clear c8b0
                 try clear c10
                 try clear c10b0
                 try clear c17
                 try clear c17b0
                 try clear c18
                 try clear c18b0
                 try clear c19
                 try clear c19b0
                 try clear c20
                 try clear c20b0
                 try clear c21
                 try clear c21b0
                 try clear c22
                 try clear c22b0
                 try clear hx628_0
                 try clear hx629_0
                 try clear hx631_0
                 try clear hx632_0
                 try clear p2
                 try clear p6
                 try clear p628
                 try clear p629
                 try clear p631
                 try clear p632
                 try clear q6
                 try clear q628
                 try clear q629
                 try clear q631
                 try clear q632
                 obtain ⟨x13_3, rfl, HA, HK3, BK627, HB⟩ := hrel
                 cases gk with
                 | zero => exact absurd HA.out (by simp [spec_trThreat.l2])
                 | succ k3 =>
                  have H := HA.out
                  clear HA
                  simp only [spec_trThreat.l2] at H
                  by_cases c23 : x13_3 ≤ a0_1
                  ·rw [if_pos c23] at H
                   have c23b0 : decide (x13_3 ≤ a0_1) = true := decide_eq_true c23
                   clear c23
                   have HC24 := Aside0.mk H
                   clear H
                   have hcz25_0 : wr.cell? ⟨gb627, 0, none⟩ = some (.int .i64 a0_0) := (blk_cell BK627.out 0).trans rfl
                   have hcz25_1 : wr.cell? ⟨gb627, 1, none⟩ = some (.int .i64 a0_1) := (blk_cell BK627.out 1).trans rfl
                   have hcz25_2 : wr.cell? ⟨gb627, 2, none⟩ = some (.int .i64 a0_2) := (blk_cell BK627.out 2).trans rfl
                   have hcz25_3 : wr.cell? ⟨gb627, 3, none⟩ = some (.slice A0_3 l0_3.length c0_3) := (blk_cell BK627.out 3).trans rfl
                   have hcz25_4 : wr.cell? ⟨gb627, 4, none⟩ = some (.slice A0_4 l0_4.length c0_4) := (blk_cell BK627.out 4).trans rfl
                   have hfz25_0 := blk_frozen BK627.out 0
                   have hfz25_1 := blk_frozen BK627.out 1
                   have hfz25_2 := blk_frozen BK627.out 2
                   have hfz25_3 := blk_frozen BK627.out 3
                   have hfz25_4 := blk_frozen BK627.out 4
                   go_upto_region 12 with (fail)
                   go_cut [56] (fun v56 wc => ∃ (kq : Nat) (x56_23 : Bool), v56 = .bool x56_23 ∧ Aside0 (spec_trThreat.j3 kq l1 a2 a3 x29_1 x36_2 (rd (rd_L1 l1 x29_1) x36_2) x13_3 l1 (l1.length : Int) x29_1 (rd_L1 l1 x29_1) ((rd_L1 l1 x29_1).length : Int) x36_2 x56_23 a0_0 a0_1 a0_2 l0_3 l0_4 = some r) ∧ Aside0 (kq ≤ k3) ∧ Aside0 (wc.heap[gb627]? = some (.cells #[.int .i64 a0_0, .int .i64 a0_1, .int .i64 a0_2, (.slice A0_3 l0_3.length c0_3), (.slice A0_4 l0_4.length c0_4)] 27 (0, 0))) ∧ Aside0 (Below w.heap.size w wc))
                   case first =>
                    have H := HC24.out
                    clear HC24
                    by_cases c26 : x29_1 = a2
                    ·rw [if_pos c26] at H
                     have c26b0 : (x29_1 == a2) = true := beq_iff_eq.mpr c26
                     have c26b1 : (x29_1 != a2) = false := bne_eq_false_iff_eq.mpr c26
                     clear c26
                     (first | rw [c26b0] | (simp only [i64_w, i32_w]; rw [c26b0]) | skip)
                     have H' := Aside0.mk H
                     clear H
                     go_wp2
                     go_meet
                     case rel => exact ⟨_, (true), (by first | rfl | (simp; done) | (simp [*]; done)), H', ⟨by have := HK1.out; have := HK2.out; have := HK3.out; first | omega | exact Nat.le_refl _⟩, ⟨by (with_reducible repeat (first | refine blk_drewN ?_ _ | refine blk_drew ?_ | refine blk_alloc ?_ _)); exact BK627.out⟩, ⟨hb_⟩⟩
                    ·rw [if_neg c26] at H
                     have c26b0 : (x29_1 == a2) = false := beq_eq_false_iff_ne.mpr c26
                     have c26b1 : (x29_1 != a2) = true := bne_iff_ne.mpr c26
                     (first | rw [c26b0] | (simp only [i64_w, i32_w]; rw [c26b0]) | skip)
                     replace H := Option.bind_eq_some_iff.mp H
                     obtain ⟨t633, A270, H⟩ := H
                     replace H : (spec_trThreat.j3 k3 l1 a2 a3 x29_1 x36_2 (rd (rd_L1 l1 x29_1) x36_2) x13_3 l1 (l1.length : Int) x29_1 (rd_L1 l1 x29_1) ((rd_L1 l1 x29_1).length : Int) x36_2 (!t633) a0_0 a0_1 a0_2 l0_3 l0_4) = some r := H
                     have A27 := Aside0.mk A270
                     clear A270
                     have H' := Aside0.mk H
                     clear H
                     have hcz28_0 : wr.cell? ⟨gb627, 0, none⟩ = some (.int .i64 a0_0) := (blk_cell BK627.out 0).trans rfl
                     have hcz28_1 : wr.cell? ⟨gb627, 1, none⟩ = some (.int .i64 a0_1) := (blk_cell BK627.out 1).trans rfl
                     have hcz28_2 : wr.cell? ⟨gb627, 2, none⟩ = some (.int .i64 a0_2) := (blk_cell BK627.out 2).trans rfl
                     have hcz28_3 : wr.cell? ⟨gb627, 3, none⟩ = some (.slice A0_3 l0_3.length c0_3) := (blk_cell BK627.out 3).trans rfl
                     have hcz28_4 : wr.cell? ⟨gb627, 4, none⟩ = some (.slice A0_4 l0_4.length c0_4) := (blk_cell BK627.out 4).trans rfl
                     have hfz28_0 := blk_frozen BK627.out 0
                     have hfz28_1 := blk_frozen BK627.out 1
                     have hfz28_2 := blk_frozen BK627.out 2
                     have hfz28_3 := blk_frozen BK627.out 3
                     have hfz28_4 := blk_frozen BK627.out 4
                     go_wp2_with (first | (go_at_call 82; (with_reducible refine (spec_trCan.calls a0_0 a0_1 a0_2 _ _ l0_3 _ _ l0_4 (rd (rd_L1 l1 x29_1) x36_2) x13_3 t633 _ ?side1 ?side2 ?side3 ?side4 A27.out).mono ?_); (case side1 => exact Kd.C_below HR0_3.out hb_); (case side2 => exact HC0_3.out); (case side3 => exact Kd.C_below HR0_4.out hb_); (case side4 => exact HC0_4.out); rintro e w29 ⟨rfl, hb⟩; have n0_ := Aside0.mk (blk_below (g := gb627) (o := .cells #[.int .i64 a0_0, .int .i64 a0_1, .int .i64 a0_2, .slice A0_3 l0_3.length c0_3, .slice A0_4 l0_4.length c0_4] 27 (0, 0)) (by (with_reducible repeat (first | refine blk_drewN ?_ _ | refine blk_drew ?_ | refine blk_alloc ?_ _)); exact BK627.out) hb); have n1_ := Aside0.mk (below_step hb_ hb); clear BK627; clear HB; have BK627 := n0_; have HB := n1_; clear n0_ n1_; (try clear hb); (try clear hb2); (try clear hk); (try clear hi)))
                     go_meet
                     case rel => exact ⟨_, (!t633), (by first | rfl | (simp; done) | (simp [*]; done)), H', ⟨by have := HK1.out; have := HK2.out; have := HK3.out; first | omega | exact Nat.le_refl _⟩, ⟨by (with_reducible repeat (first | refine blk_drewN ?_ _ | refine blk_drew ?_ | refine blk_alloc ?_ _)); exact BK627.out⟩, ⟨hb_⟩⟩
                   case rest =>
                    clear HC24
                    try clear c1
                    try clear c2
                    try clear p2
                    try clear c5
                    try clear c5b0
                    try clear c6
                    try clear c6b0
                    try clear p6
                    try clear q6
                    try clear hx6
                    try clear c7
                    try clear c7b0
                    try clear c8
                    try clear c8b0
                    try clear c10
                    try clear c10b0
                    try clear c17
                    try clear c17b0
                    try clear c18
                    try clear c18b0
                    try clear c19
                    try clear c19b0
                    try clear c20
                    try clear c20b0
                    try clear c21
                    try clear c21b0
                    try clear c22
                    try clear c22b0
                    try clear c23
                    try clear c23b0
                    try clear c26
                    try clear c26b0
                    try clear c26b1
                    try clear hcz25_0
                    try clear hcz25_1
                    try clear hcz25_2
                    try clear hcz25_3
                    try clear hcz25_4
                    try clear hcz28_0
                    try clear hcz28_1
                    try clear hcz28_2
                    try clear hcz28_3
                    try clear hcz28_4
                    try clear hfz25_0
                    try clear hfz25_1
                    try clear hfz25_2
                    try clear hfz25_3
                    try clear hfz25_4
                    try clear hfz28_0
                    try clear hfz28_1
                    try clear hfz28_2
                    try clear hfz28_3
                    try clear hfz28_4
                    try clear hx628_0
                    try clear hx629_0
                    try clear hx631_0
                    try clear hx632_0
                    try clear p2
                    try clear p6
                    try clear p628
                    try clear p629
                    try clear p631
                    try clear p632
                    try clear q6
                    try clear q628
                    try clear q629
                    try clear q631
                    try clear q632
                    obtain ⟨kq, x56_23, rfl, HA, HJ23, BK627, HB⟩ := hcut
                    cases kq with
                    | zero => exact absurd HA.out (by simp [spec_trThreat.j3])
                    | succ kj23 =>
                     have H := HA.out
                     clear HA
                     simp only [spec_trThreat.j3] at H
                     by_cases c30 : x56_23 = true
                     ·subst c30
                      have H1 : (spec_trThreat.l2 kj23 l1 a2 a3 x29_1 x36_2 (rd (rd_L1 l1 x29_1) x36_2) (wrap64 (x13_3 + 1)) l1 (l1.length : Int) x29_1 (rd_L1 l1 x29_1) ((rd_L1 l1 x29_1).length : Int) x36_2 a0_0 a0_1 a0_2 l0_3 l0_4) = some r := by rw [if_pos rfl] at H; exact H
                      clear H
                      have H := H1
                      clear H1
                      have H' := Aside0.mk H
                      clear H
                      go_wp2
                      go_roundg kj23
                      case measure => have := HK1.out; have := HK2.out; have := HK3.out; have := HJ23.out; omega
                      case rel => exact ⟨(wrap64 (x13_3 + 1)), (by first | rfl | (simp; done) | (simp [*]; done)), H', ⟨by have := HK1.out; have := HK2.out; have := HK3.out; have := HJ23.out; omega⟩, ⟨by (with_reducible repeat (first | refine blk_drewN ?_ _ | refine blk_drew ?_ | refine blk_alloc ?_ _)); exact BK627.out⟩, ⟨hb_⟩⟩
                     ·replace c30 := Bool.eq_false_iff.mpr c30
                      subst c30
                      have H1 : ((spec_trGo.f kj23 a0_0 a0_1 a0_2 l0_3 l0_4 l1 x29_1 x36_2 x13_3).bind fun bt634 => (if 0 ≤ a2 then (if a2 < (bt634.1.length : Int) then (if 0 ≤ a3 then (if a3 < ((rd_L1 bt634.1 a2).length : Int) then (if (rd (rd_L1 bt634.1 a2) a3) < 0 then (some true) else (spec_trThreat.l2 kj23 l1 a2 a3 x29_1 x36_2 (rd (rd_L1 l1 x29_1) x36_2) (wrap64 (x13_3 + 1)) l1 (l1.length : Int) x29_1 (rd_L1 l1 x29_1) ((rd_L1 l1 x29_1).length : Int) x36_2 a0_0 a0_1 a0_2 l0_3 l0_4)) else (none)) else (none)) else (none)) else (none))) = some r := by rw [if_neg (show ¬ (false = true) by decide)] at H; exact H
                      clear H
                      have H := H1
                      clear H1
                      replace H := Option.bind_eq_some_iff.mp H
                      obtain ⟨⟨t634, t637⟩, A310, H⟩ := H
                      replace H : (if 0 ≤ a2 then (if a2 < (t634.length : Int) then (if 0 ≤ a3 then (if a3 < ((rd_L1 t634 a2).length : Int) then (if (rd (rd_L1 t634 a2) a3) < 0 then (some true) else (spec_trThreat.l2 kj23 l1 a2 a3 x29_1 x36_2 (rd (rd_L1 l1 x29_1) x36_2) (wrap64 (x13_3 + 1)) l1 (l1.length : Int) x29_1 (rd_L1 l1 x29_1) ((rd_L1 l1 x29_1).length : Int) x36_2 a0_0 a0_1 a0_2 l0_3 l0_4)) else (none)) else (none)) else (none)) else (none)) = some r := H
                      have A31 := Aside0.mk A310
                      clear A310
                      by_cases c32 : 0 ≤ a2
                      ·rw [if_pos c32] at H
                       have c32b0 : decide (0 ≤ a2) = true := decide_eq_true c32
                       clear c32
                       by_cases c33 : a2 < (t634.length : Int)
                       ·rw [if_pos c33] at H
                        have c33b0 : decide (a2 < (t634.length : Int)) = true := decide_eq_true c33
                        clear c33
                        by_cases c34 : 0 ≤ a3
                        ·rw [if_pos c34] at H
                         have c34b0 : decide (0 ≤ a3) = true := decide_eq_true c34
                         clear c34
                         by_cases c35 : a3 < ((rd_L1 t634 a2).length : Int)
                         ·rw [if_pos c35] at H
                          have c35b0 : decide (a3 < ((rd_L1 t634 a2).length : Int)) = true := decide_eq_true c35
                          clear c35
                          by_cases c36 : (rd (rd_L1 t634 a2) a3) < 0
                          ·rw [if_pos c36] at H
                           have c36b0 : decide ((rd (rd_L1 t634 a2) a3) < 0) = true := decide_eq_true c36
                           clear c36
                           obtain rfl := Option.some.inj H
                           have hcz37_0 : wc.cell? ⟨gb627, 0, none⟩ = some (.int .i64 a0_0) := (blk_cell BK627.out 0).trans rfl
                           have hcz37_1 : wc.cell? ⟨gb627, 1, none⟩ = some (.int .i64 a0_1) := (blk_cell BK627.out 1).trans rfl
                           have hcz37_2 : wc.cell? ⟨gb627, 2, none⟩ = some (.int .i64 a0_2) := (blk_cell BK627.out 2).trans rfl
                           have hcz37_3 : wc.cell? ⟨gb627, 3, none⟩ = some (.slice A0_3 l0_3.length c0_3) := (blk_cell BK627.out 3).trans rfl
                           have hcz37_4 : wc.cell? ⟨gb627, 4, none⟩ = some (.slice A0_4 l0_4.length c0_4) := (blk_cell BK627.out 4).trans rfl
                           have hfz37_0 := blk_frozen BK627.out 0
                           have hfz37_1 := blk_frozen BK627.out 1
                           have hfz37_2 := blk_frozen BK627.out 2
                           have hfz37_3 := blk_frozen BK627.out 3
                           have hfz37_4 := blk_frozen BK627.out 4
                           go_wp2_with (first | ((with_reducible refine gate_callee (f := 95) rfl ?_); refine goesL_ (some 63) rfl rfl Try.func95 (by kernel_rfl) rfl #[.agg #[.int .i64 a0_0, .int .i64 a0_1, .int .i64 a0_2, .slice A0_3 l0_3.length c0_3, .slice A0_4 l0_4.length c0_4], .slice (some ad628) l1.length c1, .int .i64 x29_1, .int .i64 x36_2, .int .i64 x13_3] rfl (by (try simp only [List.map_toArray, List.map_cons, List.map_nil]); first | done | rfl | (simp only [List.length_drop, List.length_take]; rfl)) ?_; (with_reducible refine (spec_trGo.calls kj23 a0_0 a0_1 a0_2 _ _ l0_3 _ _ l0_4 _ _ l1 x29_1 x36_2 x13_3 t634 t637 _ ?side1 ?side2 ?side3 ?side4 ?side5 ?side6 A31.out).mono ?_); (case side1 => exact Kd.C_below HR0_3.out hb_); (case side2 => exact HC0_3.out); (case side3 => exact Kd.C_below HR0_4.out hb_); (case side4 => exact HC0_4.out); (case side5 => exact Kd.C_below HR1.out hb_); (case side6 => exact HC1.out); rintro e w38 ⟨v635, rfl, ho0, hb⟩; refine ⟨_, rfl, ?_⟩; have n0_ := Aside0.mk (Kd.S_lower ho0 (below_size hb_)); have n1_ := Aside0.mk (blk_below (g := gb627) (o := .cells #[.int .i64 a0_0, .int .i64 a0_1, .int .i64 a0_2, .slice A0_3 l0_3.length c0_3, .slice A0_4 l0_4.length c0_4] 27 (0, 0)) (by (with_reducible repeat (first | refine blk_drewN ?_ _ | refine blk_drew ?_ | refine blk_alloc ?_ _)); exact BK627.out) hb); have n2_ := Aside0.mk (below_step hb_ hb); clear BK627; clear HB; have HO636 := n0_; have BK627 := n1_; have HB := n2_; clear n0_ n1_ n2_; (try clear hb); (try clear hb2); (try clear hk); (try clear hi); (try clear ho0); obtain ⟨Ao39, co39, eo39⟩ := Kd.S_slice HO636.out; subst eo39; have p638 : 0 ≤ (a2 : Int) := of_decide_eq_true (by first | (with_reducible assumption) | assumption); have q638 : a2 < (t634.length : Int) := of_decide_eq_true (by first | (with_reducible assumption) | assumption); obtain ⟨ad638, A638_0, c638_0, e638, hx638_0, hl638_0, hi638_0⟩ := at_L1 (Kd.S_reads' HO636.out).2.2 a2 p638 q638; cases e638; obtain ⟨ce638, hce638, hMe638, hcc638⟩ := Kd.S_get HO636.out [] a2 p638 (by first | exact q638 | exact of_decide_eq_true (by first | (with_reducible assumption) | assumption) | (have e_ := (Kd.S_reads' HO636.out).1; omega)); obtain ⟨ve638_0, rfl, ge638_0⟩ := hMe638; have hv638_0 := hcc638 0 _ rfl; rw [Nat.add_zero, show ((Kd.slice 3 (Kd.int .i64))).sz = 1 from rfl, Nat.mul_one] at hv638_0; replace hv638_0 := Option.some.inj (hv638_0.symm.trans hx638_0); rw [hv638_0] at ge638_0; have HL638_0 := Aside0.mk (show Kd.R (Kd.int .i64) 3 _ _ _ _ (rd_L1 t634 a2) from ge638_0); clear hv638_0 ge638_0; clear hcc638 hce638; have HR638_0 := Aside0.mk hi638_0; have HC638_0 := Aside0.mk hl638_0; clear hi638_0 hl638_0; replace p638 := eq_true p638; replace q638 := eq_true q638; have p639 : 0 ≤ (a3 : Int) := of_decide_eq_true (by first | (with_reducible assumption) | assumption); have q639 : a3 < ((rd_L1 t634 a2).length : Int) := of_decide_eq_true (by first | (with_reducible assumption) | assumption); obtain ⟨ad639, e639, hx639_0⟩ := Kd.at_int (by repeat (first | (with_reducible exact HR638_0.out) | (with_reducible refine Kd.C_alloc ?_ _) | (with_reducible refine Kd.C_drewN ?_ _) | (with_reducible refine Kd.C_drew ?_) | exact HR638_0.out)) a3 p639 q639; cases e639; replace p639 := eq_true p639; replace q639 := eq_true q639))
                           go_ret
                           exact ⟨by first | rfl | (simp [errW_none, errW_some] <;> rfl) | (simp [*, errW_none, errW_some] <;> rfl), hb_⟩
                          ·rw [if_neg c36] at H
                           have c36b0 : decide ((rd (rd_L1 t634 a2) a3) < 0) = false := decide_eq_false c36
                           clear c36
                           have H' := Aside0.mk H
                           clear H
                           have hcz40_0 : wc.cell? ⟨gb627, 0, none⟩ = some (.int .i64 a0_0) := (blk_cell BK627.out 0).trans rfl
                           have hcz40_1 : wc.cell? ⟨gb627, 1, none⟩ = some (.int .i64 a0_1) := (blk_cell BK627.out 1).trans rfl
                           have hcz40_2 : wc.cell? ⟨gb627, 2, none⟩ = some (.int .i64 a0_2) := (blk_cell BK627.out 2).trans rfl
                           have hcz40_3 : wc.cell? ⟨gb627, 3, none⟩ = some (.slice A0_3 l0_3.length c0_3) := (blk_cell BK627.out 3).trans rfl
                           have hcz40_4 : wc.cell? ⟨gb627, 4, none⟩ = some (.slice A0_4 l0_4.length c0_4) := (blk_cell BK627.out 4).trans rfl
                           have hfz40_0 := blk_frozen BK627.out 0
                           have hfz40_1 := blk_frozen BK627.out 1
                           have hfz40_2 := blk_frozen BK627.out 2
                           have hfz40_3 := blk_frozen BK627.out 3
                           have hfz40_4 := blk_frozen BK627.out 4
                           go_wp2_with (first | ((with_reducible refine gate_callee (f := 95) rfl ?_); refine goesL_ (some 63) rfl rfl Try.func95 (by kernel_rfl) rfl #[.agg #[.int .i64 a0_0, .int .i64 a0_1, .int .i64 a0_2, .slice A0_3 l0_3.length c0_3, .slice A0_4 l0_4.length c0_4], .slice (some ad628) l1.length c1, .int .i64 x29_1, .int .i64 x36_2, .int .i64 x13_3] rfl (by (try simp only [List.map_toArray, List.map_cons, List.map_nil]); first | done | rfl | (simp only [List.length_drop, List.length_take]; rfl)) ?_; (with_reducible refine (spec_trGo.calls kj23 a0_0 a0_1 a0_2 _ _ l0_3 _ _ l0_4 _ _ l1 x29_1 x36_2 x13_3 t634 t637 _ ?side1 ?side2 ?side3 ?side4 ?side5 ?side6 A31.out).mono ?_); (case side1 => exact Kd.C_below HR0_3.out hb_); (case side2 => exact HC0_3.out); (case side3 => exact Kd.C_below HR0_4.out hb_); (case side4 => exact HC0_4.out); (case side5 => exact Kd.C_below HR1.out hb_); (case side6 => exact HC1.out); rintro e w41 ⟨v635, rfl, ho0, hb⟩; refine ⟨_, rfl, ?_⟩; have n0_ := Aside0.mk (Kd.S_lower ho0 (below_size hb_)); have n1_ := Aside0.mk (blk_below (g := gb627) (o := .cells #[.int .i64 a0_0, .int .i64 a0_1, .int .i64 a0_2, .slice A0_3 l0_3.length c0_3, .slice A0_4 l0_4.length c0_4] 27 (0, 0)) (by (with_reducible repeat (first | refine blk_drewN ?_ _ | refine blk_drew ?_ | refine blk_alloc ?_ _)); exact BK627.out) hb); have n2_ := Aside0.mk (below_step hb_ hb); clear BK627; clear HB; have HO636 := n0_; have BK627 := n1_; have HB := n2_; clear n0_ n1_ n2_; (try clear hb); (try clear hb2); (try clear hk); (try clear hi); (try clear ho0); obtain ⟨Ao42, co42, eo42⟩ := Kd.S_slice HO636.out; subst eo42; have p638 : 0 ≤ (a2 : Int) := of_decide_eq_true (by first | (with_reducible assumption) | assumption); have q638 : a2 < (t634.length : Int) := of_decide_eq_true (by first | (with_reducible assumption) | assumption); obtain ⟨ad638, A638_0, c638_0, e638, hx638_0, hl638_0, hi638_0⟩ := at_L1 (Kd.S_reads' HO636.out).2.2 a2 p638 q638; cases e638; obtain ⟨ce638, hce638, hMe638, hcc638⟩ := Kd.S_get HO636.out [] a2 p638 (by first | exact q638 | exact of_decide_eq_true (by first | (with_reducible assumption) | assumption) | (have e_ := (Kd.S_reads' HO636.out).1; omega)); obtain ⟨ve638_0, rfl, ge638_0⟩ := hMe638; have hv638_0 := hcc638 0 _ rfl; rw [Nat.add_zero, show ((Kd.slice 3 (Kd.int .i64))).sz = 1 from rfl, Nat.mul_one] at hv638_0; replace hv638_0 := Option.some.inj (hv638_0.symm.trans hx638_0); rw [hv638_0] at ge638_0; have HL638_0 := Aside0.mk (show Kd.R (Kd.int .i64) 3 _ _ _ _ (rd_L1 t634 a2) from ge638_0); clear hv638_0 ge638_0; clear hcc638 hce638; have HR638_0 := Aside0.mk hi638_0; have HC638_0 := Aside0.mk hl638_0; clear hi638_0 hl638_0; replace p638 := eq_true p638; replace q638 := eq_true q638; have p639 : 0 ≤ (a3 : Int) := of_decide_eq_true (by first | (with_reducible assumption) | assumption); have q639 : a3 < ((rd_L1 t634 a2).length : Int) := of_decide_eq_true (by first | (with_reducible assumption) | assumption); obtain ⟨ad639, e639, hx639_0⟩ := Kd.at_int (by repeat (first | (with_reducible exact HR638_0.out) | (with_reducible refine Kd.C_alloc ?_ _) | (with_reducible refine Kd.C_drewN ?_ _) | (with_reducible refine Kd.C_drew ?_) | exact HR638_0.out)) a3 p639 q639; cases e639; replace p639 := eq_true p639; replace q639 := eq_true q639))
                           go_roundg kj23
                           case measure => have := HK1.out; have := HK2.out; have := HK3.out; have := HJ23.out; omega
                           case rel => exact ⟨(wrap64 (x13_3 + 1)), (by first | rfl | (simp; done) | (simp [*]; done)), H', ⟨by have := HK1.out; have := HK2.out; have := HK3.out; have := HJ23.out; omega⟩, ⟨by (with_reducible repeat (first | refine blk_drewN ?_ _ | refine blk_drew ?_ | refine blk_alloc ?_ _)); exact BK627.out⟩, ⟨hb_⟩⟩
                         ·rw [if_neg c35] at H
                          exact absurd H (by simp)
                        ·rw [if_neg c34] at H
                         exact absurd H (by simp)
                       ·rw [if_neg c33] at H
                        exact absurd H (by simp)
                      ·rw [if_neg c32] at H
                       exact absurd H (by simp)
                  ·rw [if_neg c23] at H
                   have c23b0 : decide (x13_3 ≤ a0_1) = false := decide_eq_false c23
                   clear c23
                   have H' := Aside0.mk H
                   clear H
                   have hcz43_0 : wr.cell? ⟨gb627, 0, none⟩ = some (.int .i64 a0_0) := (blk_cell BK627.out 0).trans rfl
                   have hcz43_1 : wr.cell? ⟨gb627, 1, none⟩ = some (.int .i64 a0_1) := (blk_cell BK627.out 1).trans rfl
                   have hcz43_2 : wr.cell? ⟨gb627, 2, none⟩ = some (.int .i64 a0_2) := (blk_cell BK627.out 2).trans rfl
                   have hcz43_3 : wr.cell? ⟨gb627, 3, none⟩ = some (.slice A0_3 l0_3.length c0_3) := (blk_cell BK627.out 3).trans rfl
                   have hcz43_4 : wr.cell? ⟨gb627, 4, none⟩ = some (.slice A0_4 l0_4.length c0_4) := (blk_cell BK627.out 4).trans rfl
                   have hfz43_0 := blk_frozen BK627.out 0
                   have hfz43_1 := blk_frozen BK627.out 1
                   have hfz43_2 := blk_frozen BK627.out 2
                   have hfz43_3 := blk_frozen BK627.out 3
                   have hfz43_4 := blk_frozen BK627.out 4
                   go_wp2
                   go_roundg k3
                   case measure => have := HK1.out; have := HK2.out; have := HK3.out; omega
                   case rel => exact ⟨(wrap64 (x36_2 + 1)), (by first | rfl | (simp; done) | (simp [*]; done)), H', ⟨by have := HK1.out; have := HK2.out; have := HK3.out; omega⟩, ⟨by (with_reducible repeat (first | refine blk_drewN ?_ _ | refine blk_drew ?_ | refine blk_alloc ?_ _)); exact BK627.out⟩, ⟨hb_⟩⟩
               ·rw [if_neg c22] at H
                exact absurd H (by simp)
              ·rw [if_neg c21] at H
               exact absurd H (by simp)
             ·rw [if_neg c20] at H
              have c20b0 : decide (x36_2 < ((rd_L1 l1 x29_1).length : Int)) = false := decide_eq_false c20
              clear c20
              have H' := Aside0.mk H
              clear H
              go_wp2
              go_roundg k2
              case measure => have := HK1.out; have := HK2.out; omega
              case rel => exact ⟨(wrap64 (x29_1 + 1)), (by first | rfl | (simp; done) | (simp [*]; done)), H', ⟨by have := HK1.out; have := HK2.out; omega⟩, ⟨by (with_reducible repeat (first | refine blk_drewN ?_ _ | refine blk_drew ?_ | refine blk_alloc ?_ _)); exact BK627.out⟩, ⟨hb_⟩⟩
          ·rw [if_neg c19] at H
           exact absurd H (by simp)
         ·rw [if_neg c18] at H
          exact absurd H (by simp)
        ·rw [if_neg c17] at H
         have c17b0 : decide (x29_1 < (l1.length : Int)) = false := decide_eq_false c17
         clear c17
         obtain rfl := Option.some.inj H
         go_wp2
         go_ret
         exact ⟨by first | rfl | (simp [errW_none, errW_some] <;> rfl) | (simp [*, errW_none, errW_some] <;> rfl), hb_⟩
    ·rw [if_neg c8] at H
     exact absurd H (by simp)
   ·rw [if_neg c7] at H
    exact absurd H (by simp)
  ·rw [if_neg c6] at H
   exact absurd H (by simp)
 ·rw [if_neg c5] at H
  exact absurd H (by simp)

/-! ### spec_ThreatsTo: function 51 -/
def spec_ThreatsTo.l0 : Nat → List (List Int) → Int → List Int → Int → Int → Int → Int → Int → List Int → List Int → Option (List Int × Bool)
 | 0, _, _, _, _, _, _, _, _, _, _ => none
 | k + 1, x1, x2, x8, x19, x20, x641000, x641001, x641002, x641003, x641004 => if x20 < x19 then ((spec_trThreat.f k x641000 x641001 x641002 x641003 x641004 x1 x2 x20).bind fun t643 => (if t643 = true then (if x8.length < 17592186044416 then (spec_ThreatsTo.l0 k x1 x2 (x8 ++ [x20]) x19 (wrap64 (x20 + 1)) x641000 x641001 x641002 x641003 x641004) else (none)) else (spec_ThreatsTo.l0 k x1 x2 x8 x19 (wrap64 (x20 + 1)) x641000 x641001 x641002 x641003 x641004))) else (some (x8, true))
def spec_ThreatsTo.f (k : Nat) (a0_0 : Int) (a0_1 : Int) (a0_2 : Int) (l0_3 : List Int) (l0_4 : List Int) (l1 : List (List Int)) (a2 : Int) : Option (List Int × Bool) := (spec_trPlayer.f k a0_0 a0_1 a0_2 l0_3 l0_4 l1 a2).bind fun t641 => (if t641 = true then (if 0 ≤ a2 then (if a2 < (l1.length : Int) then (spec_ThreatsTo.l0 k l1 a2 ([] : List Int) ((rd_L1 l1 a2).length : Int) 0 a0_0 a0_1 a0_2 l0_3 l0_4) else (none)) else (none)) else (some (([] : List Int), false)))
theorem spec_ThreatsTo.mono_l : ∀ k, (∀ y0 y1 y2 y3 y4 y5 y6 y7 y8 y9, LeO (spec_ThreatsTo.l0 k y0 y1 y2 y3 y4 y5 y6 y7 y8 y9) (spec_ThreatsTo.l0 (k + 1) y0 y1 y2 y3 y4 y5 y6 y7 y8 y9))
 | 0 => fun _ _ _ _ _ _ _ _ _ _ r h => by simp [spec_ThreatsTo.l0] at h
 | k + 1 => by
  have ih0 := spec_ThreatsTo.mono_l k
  ·intro y0 y1 y2 y3 y4 y5 y6 y7 y8 y9
   unfold spec_ThreatsTo.l0
   repeat' first
   | (with_reducible exact ih0 _ _ _ _ _ _ _ _ _ _)
   | (with_reducible exact spec_trPlayer.mono _ _ _ _ _ _ _ _)
   | (with_reducible exact spec_trThreat.mono _ _ _ _ _ _ _ _ _)
   | (with_reducible exact LeO.refl _)
   | (with_reducible exact LeO.none _)
   | (with_reducible refine LeO.ite ?_ ?_)
   | (with_reducible refine LeO.bind ?_ (fun _ => ?_))
   | exact ih0 _ _ _ _ _ _ _ _ _ _
   | exact spec_trPlayer.mono _ _ _ _ _ _ _ _
   | exact spec_trThreat.mono _ _ _ _ _ _ _ _ _
   | exact LeO.none _
   | refine LeO.ite ?_ ?_
   | refine LeO.bind ?_ (fun _ => ?_)
theorem spec_ThreatsTo.mono : ∀ a0 a1 a2 a3 a4 a5 a6 k, LeO (spec_ThreatsTo.f k a0 a1 a2 a3 a4 a5 a6) (spec_ThreatsTo.f (k + 1) a0 a1 a2 a3 a4 a5 a6) := by
 intro a0 a1 a2 a3 a4 a5 a6 k
 have ih0 := spec_ThreatsTo.mono_l k
 unfold spec_ThreatsTo.f
 repeat' first
   | (with_reducible exact ih0 _ _ _ _ _ _ _ _ _ _)
   | (with_reducible exact spec_trPlayer.mono _ _ _ _ _ _ _ _)
   | (with_reducible exact spec_trThreat.mono _ _ _ _ _ _ _ _ _)
   | (with_reducible exact LeO.refl _)
   | (with_reducible exact LeO.none _)
   | (with_reducible refine LeO.ite ?_ ?_)
   | (with_reducible refine LeO.bind ?_ (fun _ => ?_))
   | exact ih0 _ _ _ _ _ _ _ _ _ _
   | exact spec_trPlayer.mono _ _ _ _ _ _ _ _
   | exact spec_trThreat.mono _ _ _ _ _ _ _ _ _
   | exact LeO.none _
   | refine LeO.ite ?_ ?_
   | refine LeO.bind ?_ (fun _ => ?_)
set_option maxHeartbeats 8000000 in
set_option maxRecDepth 100000 in
theorem spec_ThreatsTo.calls (k : Nat) (a0_0 : Int) (a0_1 : Int) (a0_2 : Int) (A0_3 : Option Addr) (c0_3 : Nat) (l0_3 : List Int) (A0_4 : Option Addr) (c0_4 : Nat) (l0_4 : List Int) (A1 : Option Addr) (c1 : Nat) (l1 : List (List Int)) (a2 : Int) (r1 : List Int) (r2 : Bool) (w : World) (hr0_3 : Kd.C (Kd.int .i64) w A0_3 l0_3.length l0_3) (hc0_3 : l0_3.length ≤ c0_3) (hr0_4 : Kd.C (Kd.int .i64) w A0_4 l0_4.length l0_4) (hc0_4 : l0_4.length ≤ c0_4) (hr1 : Kd.C (Kd.slice 3 (Kd.int .i64)) w A1 l1.length l1) (hc1 : l1.length ≤ c1) (h : spec_ThreatsTo.f k a0_0 a0_1 a0_2 l0_3 l0_4 l1 a2 = some (r1, r2)) :
  Calls Try.prog 51 #[.agg #[.int .i64 a0_0, .int .i64 a0_1, .int .i64 a0_2, .slice A0_3 l0_3.length c0_3, .slice A0_4 l0_4.length c0_4], .slice A1 l1.length c1, .int .i64 a2] w fun e w' => ∃ v0_ : Value, e = .returned (.tuple #[v0_, .bool r2]) ∧ Kd.R (Kd.int .i64) 3 w' w.heap.size (fun _ => True) v0_ r1 ∧ Below w.heap.size w w' := by
 have hu27 := Try.underlying27
 have HR0_3 := Aside0.mk hr0_3
 have HC0_3 := Aside0.mk hc0_3
 clear hr0_3 hc0_3
 have HR0_4 := Aside0.mk hr0_4
 have HC0_4 := Aside0.mk hc0_4
 clear hr0_4 hc0_4
 have HR1 := Aside0.mk hr1
 have HC1 := Aside0.mk hc1
 clear hr1 hc1
 have HB := Aside0.mk (Below.refl w.heap.size w)
 have H : ((spec_trPlayer.f k a0_0 a0_1 a0_2 l0_3 l0_4 l1 a2).bind fun t641 => (if t641 = true then (if 0 ≤ a2 then (if a2 < (l1.length : Int) then (spec_ThreatsTo.l0 k l1 a2 ([] : List Int) ((rd_L1 l1 a2).length : Int) 0 a0_0 a0_1 a0_2 l0_3 l0_4) else (none)) else (none)) else (some (([] : List Int), false)))) = some (r1, r2) := h
 clear h
 replace H := Option.bind_eq_some_iff.mp H
 obtain ⟨t641, A40, H⟩ := H
 replace H : (if t641 = true then (if 0 ≤ a2 then (if a2 < (l1.length : Int) then (spec_ThreatsTo.l0 k l1 a2 ([] : List Int) ((rd_L1 l1 a2).length : Int) 0 a0_0 a0_1 a0_2 l0_3 l0_4) else (none)) else (none)) else (some (([] : List Int), false))) = some (r1, r2) := H
 have A4 := Aside0.mk A40
 clear A40
 by_cases c5 : t641 = true
 ·subst c5
  have H1 : (if 0 ≤ a2 then (if a2 < (l1.length : Int) then (spec_ThreatsTo.l0 k l1 a2 ([] : List Int) ((rd_L1 l1 a2).length : Int) 0 a0_0 a0_1 a0_2 l0_3 l0_4) else (none)) else (none)) = some (r1, r2) := by rw [if_pos rfl] at H; exact H
  clear H
  have H := H1
  clear H1
  by_cases c6 : 0 ≤ a2
  ·rw [if_pos c6] at H
   have c6b0 : decide (0 ≤ a2) = true := decide_eq_true c6
   clear c6
   by_cases c7 : a2 < (l1.length : Int)
   ·rw [if_pos c7] at H
    have c7b0 : decide (a2 < (l1.length : Int)) = true := decide_eq_true c7
    clear c7
    have H' := Aside0.mk H
    clear H
    go_enter Try.func51, Try.ntmps51
    go_wp2_with (first | ((with_reducible refine gate_dst (N := 3) rfl ?_); refine box_event ?hg (N := 3) ?hd (cs := #[.int .i64 a0_0, .int .i64 a0_1, .int .i64 a0_2, .slice A0_3 l0_3.length c0_3, .slice A0_4 l0_4.length c0_4]) (t := 27) ?hr ?_; (case hd => rfl); (case hg => rfl); (case hr => first | (go_simp; done) | (go_simp; rfl)); intro gb640 hg w8 hbox hb; have n0_ := Aside0.mk (below_step hb_ hb); have n1_ := Aside0.mk (hbox); have n2_ := Aside0.mk ((by rw [hg]; exact (below_size hb_) : w.heap.size ≤ gb640)); have n3_ := Aside0.mk ((by rw [hg]; exact (below_size hb_) : w.heap.size ≤ gb640)); clear HB; have HB := n0_; have BK640 := n1_; have GW640 := n2_; have GE640 := n3_; clear n0_ n1_ n2_ n3_; clear hb hbox hg; have hcz9_0 : w8.cell? ⟨gb640, 0, none⟩ = some (.int .i64 a0_0) := (blk_cell BK640.out 0).trans rfl; have hcz9_1 : w8.cell? ⟨gb640, 1, none⟩ = some (.int .i64 a0_1) := (blk_cell BK640.out 1).trans rfl; have hcz9_2 : w8.cell? ⟨gb640, 2, none⟩ = some (.int .i64 a0_2) := (blk_cell BK640.out 2).trans rfl; have hcz9_3 : w8.cell? ⟨gb640, 3, none⟩ = some (.slice A0_3 l0_3.length c0_3) := (blk_cell BK640.out 3).trans rfl; have hcz9_4 : w8.cell? ⟨gb640, 4, none⟩ = some (.slice A0_4 l0_4.length c0_4) := (blk_cell BK640.out 4).trans rfl; have hfz9_0 := blk_frozen BK640.out 0; have hfz9_1 := blk_frozen BK640.out 1; have hfz9_2 := blk_frozen BK640.out 2; have hfz9_3 := blk_frozen BK640.out 3; have hfz9_4 := blk_frozen BK640.out 4) | ((with_reducible refine gate_callee (f := 75) rfl ?_); refine goesL_ (some 13) rfl rfl Try.func75 (by kernel_rfl) rfl #[.agg #[.int .i64 a0_0, .int .i64 a0_1, .int .i64 a0_2, .slice A0_3 l0_3.length c0_3, .slice A0_4 l0_4.length c0_4], .slice A1 l1.length c1, .int .i64 a2] rfl (by (try simp only [List.map_toArray, List.map_cons, List.map_nil]); first | done | rfl | (simp only [List.length_drop, List.length_take]; rfl)) ?_; (with_reducible refine (spec_trPlayer.calls k a0_0 a0_1 a0_2 _ _ l0_3 _ _ l0_4 _ _ l1 a2 true _ ?side1 ?side2 ?side3 ?side4 ?side5 ?side6 A4.out).mono ?_); (case side1 => exact Kd.C_below HR0_3.out hb_); (case side2 => exact HC0_3.out); (case side3 => exact Kd.C_below HR0_4.out hb_); (case side4 => exact HC0_4.out); (case side5 => exact Kd.C_below HR1.out hb_); (case side6 => exact HC1.out); rintro e w10 ⟨rfl, hb⟩; refine ⟨_, rfl, ?_⟩; have n0_ := Aside0.mk (blk_below (g := gb640) (o := .cells #[.int .i64 a0_0, .int .i64 a0_1, .int .i64 a0_2, .slice A0_3 l0_3.length c0_3, .slice A0_4 l0_4.length c0_4] 27 (0, 0)) (by (with_reducible repeat (first | refine blk_drewN ?_ _ | refine blk_drew ?_ | refine blk_alloc ?_ _)); exact BK640.out) hb); have n1_ := Aside0.mk (below_step hb_ hb); clear BK640; clear HB; have BK640 := n0_; have HB := n1_; clear n0_ n1_; (try clear hb); (try clear hb2); (try clear hk); (try clear hi); have p642 : 0 ≤ (a2 : Int) := of_decide_eq_true (by first | (with_reducible assumption) | assumption); have q642 : a2 < (l1.length : Int) := of_decide_eq_true (by first | (with_reducible assumption) | assumption); obtain ⟨ad642, A642_0, c642_0, e642, hx642_0, hl642_0, hi642_0⟩ := at_L1 HR1.out a2 p642 q642; cases e642; replace hx642_0 := (HB.out.cell (World.block_lt_of_cell? w _ hx642_0)).trans hx642_0; have HR642_0 := Aside0.mk hi642_0; have HC642_0 := Aside0.mk hl642_0; clear hi642_0 hl642_0; replace p642 := eq_true p642; replace q642 := eq_true q642))
    go_loopg [8, 20] k (fun kq v8 v20 w' => ∃ (x8_1 : List Int) (x20_1 : Int), v20 = .int .i64 x20_1 ∧ Aside0 (spec_ThreatsTo.l0 kq l1 a2 x8_1 ((rd_L1 l1 a2).length : Int) x20_1 a0_0 a0_1 a0_2 l0_3 l0_4 = some (r1, r2)) ∧ Aside0 (kq ≤ k) ∧ Aside0 (Kd.R (Kd.int .i64) 3 w' w.heap.size (fun _ => True) v8 x8_1) ∧ Aside0 (w'.heap[gb640]? = some (.cells #[.int .i64 a0_0, .int .i64 a0_1, .int .i64 a0_2, (.slice A0_3 l0_3.length c0_3), (.slice A0_4 l0_4.length c0_4)] 27 (0, 0))) ∧ Aside0 (Below w.heap.size w w'))
    case atStart => exact ⟨(([] : List Int)), (0), (by first | rfl | (simp; done) | (simp [*]; done)), H', ⟨Nat.le_refl _⟩, ⟨by first | exact Kd.R_nil _ _ _ _ _ | exact Kd.N_nil _ _ _ _ _ | exact Kd.V_nil _ _ _ _ _ | exact Kd.Q_nil _ _ _ _ _ | exact Kd.S_nil _ _ _ _ _⟩, ⟨by (with_reducible repeat (first | refine blk_drewN ?_ _ | refine blk_drew ?_ | refine blk_alloc ?_ _)); exact BK640.out⟩, ⟨hb_⟩⟩
    case round =>
     clear H'
     try clear c1
     try clear p2
     try clear c5
     try clear c6
     try clear c6b0
     try clear p6
     try clear q6
     try clear hx6
     try clear c7
     try clear c7b0
     try clear hcz9_0
     try clear hcz9_1
     try clear hcz9_2
     try clear hcz9_3
     try clear hcz9_4
     try clear hfz9_0
     try clear hfz9_1
     try clear hfz9_2
     try clear hfz9_3
     try clear hfz9_4
     try clear hx642_0
     try clear p642
     try clear q642
     obtain ⟨x8_1, x20_1, rfl, HA, HK1, HO_8, BK640, HB⟩ := hrel
     cases gk with
     | zero => exact absurd HA.out (by simp [spec_ThreatsTo.l0])
     | succ k1 =>
      have H := HA.out
      clear HA
      simp only [spec_ThreatsTo.l0] at H
      by_cases c11 : x20_1 < ((rd_L1 l1 a2).length : Int)
      ·rw [if_pos c11] at H
       have c11b0 : decide (x20_1 < ((rd_L1 l1 a2).length : Int)) = true := decide_eq_true c11
       clear c11
       replace H := Option.bind_eq_some_iff.mp H
       obtain ⟨t643, A120, H⟩ := H
       replace H : (if t643 = true then (if x8_1.length < 17592186044416 then (spec_ThreatsTo.l0 k1 l1 a2 (x8_1 ++ [x20_1]) ((rd_L1 l1 a2).length : Int) (wrap64 (x20_1 + 1)) a0_0 a0_1 a0_2 l0_3 l0_4) else (none)) else (spec_ThreatsTo.l0 k1 l1 a2 x8_1 ((rd_L1 l1 a2).length : Int) (wrap64 (x20_1 + 1)) a0_0 a0_1 a0_2 l0_3 l0_4)) = some (r1, r2) := H
       have A12 := Aside0.mk A120
       clear A120
       by_cases c13 : t643 = true
       ·subst c13
        have H1 : (if x8_1.length < 17592186044416 then (spec_ThreatsTo.l0 k1 l1 a2 (x8_1 ++ [x20_1]) ((rd_L1 l1 a2).length : Int) (wrap64 (x20_1 + 1)) a0_0 a0_1 a0_2 l0_3 l0_4) else (none)) = some (r1, r2) := by rw [if_pos rfl] at H; exact H
        clear H
        have H := H1
        clear H1
        by_cases c14 : x8_1.length < 17592186044416
        ·rw [if_pos c14] at H
         have LMc14 := Aside0.mk c14
         clear c14
         obtain ⟨y644, hy644⟩ : ∃ y_ : List Int, y_ = (x8_1 ++ [x20_1]) := ⟨_, rfl⟩
         replace H : (spec_ThreatsTo.l0 k1 l1 a2 y644 ((rd_L1 l1 a2).length : Int) (wrap64 (x20_1 + 1)) a0_0 a0_1 a0_2 l0_3 l0_4) = some (r1, r2) := by first | (rw [hy644]; with_reducible exact H) | (have H2_ := (Option.bind_some _ _).symm.trans H; rw [hy644]; with_reducible exact H2_) | (have H2_ := (Option.bind_some _ _).symm.trans H; with_reducible exact H2_) | with_reducible exact H | (rw [hy644]; exact H) | exact H
         have Ny644 := Aside0.mk hy644
         clear hy644
         have H' := Aside0.mk H
         clear H
         have hcz15_0 : wr.cell? ⟨gb640, 0, none⟩ = some (.int .i64 a0_0) := (blk_cell BK640.out 0).trans rfl
         have hcz15_1 : wr.cell? ⟨gb640, 1, none⟩ = some (.int .i64 a0_1) := (blk_cell BK640.out 1).trans rfl
         have hcz15_2 : wr.cell? ⟨gb640, 2, none⟩ = some (.int .i64 a0_2) := (blk_cell BK640.out 2).trans rfl
         have hcz15_3 : wr.cell? ⟨gb640, 3, none⟩ = some (.slice A0_3 l0_3.length c0_3) := (blk_cell BK640.out 3).trans rfl
         have hcz15_4 : wr.cell? ⟨gb640, 4, none⟩ = some (.slice A0_4 l0_4.length c0_4) := (blk_cell BK640.out 4).trans rfl
         have hfz15_0 := blk_frozen BK640.out 0
         have hfz15_1 := blk_frozen BK640.out 1
         have hfz15_2 := blk_frozen BK640.out 2
         have hfz15_3 := blk_frozen BK640.out 3
         have hfz15_4 := blk_frozen BK640.out 4
         go_wp2_with (first | ((with_reducible refine gate_callee (f := 88) rfl ?_); refine goesL_ (some 27) rfl rfl Try.func88 (by kernel_rfl) rfl #[.agg #[.int .i64 a0_0, .int .i64 a0_1, .int .i64 a0_2, .slice A0_3 l0_3.length c0_3, .slice A0_4 l0_4.length c0_4], .slice (some ad642) l1.length c1, .int .i64 a2, .int .i64 x20_1] rfl (by (try simp only [List.map_toArray, List.map_cons, List.map_nil]); first | done | rfl | (simp only [List.length_drop, List.length_take]; rfl)) ?_; (with_reducible refine (spec_trThreat.calls k1 a0_0 a0_1 a0_2 _ _ l0_3 _ _ l0_4 _ _ l1 a2 x20_1 true _ ?side1 ?side2 ?side3 ?side4 ?side5 ?side6 A12.out).mono ?_); (case side1 => exact Kd.C_below HR0_3.out hb_); (case side2 => exact HC0_3.out); (case side3 => exact Kd.C_below HR0_4.out hb_); (case side4 => exact HC0_4.out); (case side5 => exact Kd.C_below HR1.out hb_); (case side6 => exact HC1.out); rintro e w16 ⟨rfl, hb⟩; refine ⟨_, rfl, ?_⟩; have n0_ := Aside0.mk (Kd.R_below (by (with_reducible repeat (first | apply Kd.R_alloc | apply Kd.R_drewN | apply Kd.R_drew)); exact HO_8.out) hb); have n1_ := Aside0.mk (blk_below (g := gb640) (o := .cells #[.int .i64 a0_0, .int .i64 a0_1, .int .i64 a0_2, .slice A0_3 l0_3.length c0_3, .slice A0_4 l0_4.length c0_4] 27 (0, 0)) (by (with_reducible repeat (first | refine blk_drewN ?_ _ | refine blk_drew ?_ | refine blk_alloc ?_ _)); exact BK640.out) hb); have n2_ := Aside0.mk (below_step hb_ hb); clear HO_8; clear BK640; clear HB; have HO_8 := n0_; have BK640 := n1_; have HB := n2_; clear n0_ n1_ n2_; (try clear hb); (try clear hb2); (try clear hk); (try clear hi)) | ((with_reducible refine gate_builtin (b := .append) (xs := #[.tmp 28, .tmp 30]) rfl ?_); at_builtin; refine Kd.R_append (Kd.int .i64) (w0 := w) w.heap.size rfl (.tmp 28) (.tmp 30) 22 3 (.int .i64 0) 8 rfl Try.underlying22 info3 rfl (by decide) (by omega) u8 x8_1 x20_1 [.int .i64 x20_1] (fun _ => True) (fun _ => False) rfl rfl ?aP (fun _ hk => hk.elim) ?aF ?aO ?aB ?aS ?aL ?_; (case aP => exact rfl); (case aB => exact hb_); (case aF => exact (fun _ _ => trivial)); (case aO => exact (by (with_reducible repeat (first | apply Kd.R_alloc | apply Kd.R_drewN | apply Kd.R_drew)); exact HO_8.out)); (case aS => exact (below_size hb_)); (case aL => have := LMc14.out; omega); intro v645 w17 ho hb hg hat; rw [← Ny644.out] at ho; have n0_ := Aside0.mk (blk_grown (g := gb640) (o := .cells #[.int .i64 a0_0, .int .i64 a0_1, .int .i64 a0_2, .slice A0_3 l0_3.length c0_3, .slice A0_4 l0_4.length c0_4] 27 (0, 0)) (by (with_reducible repeat (first | refine blk_drewN ?_ _ | refine blk_drew ?_ | refine blk_alloc ?_ _)); exact BK640.out) hg (Kd.R_ne HO_8.out BK640.out (by decide))); have n1_ := Aside0.mk (hb); have n2_ := Aside0.mk (ho); clear BK640; clear HB; clear HO_8; have BK640 := n0_; have HB := n1_; have HO646 := n2_; clear n0_ n1_ n2_; clear ho hb hg hat))
         go_roundg k1
         case measure => have := HK1.out; omega
         case rel => exact ⟨(y644), (wrap64 (x20_1 + 1)), (by first | rfl | (simp; done) | (simp [*]; done)), H', ⟨by have := HK1.out; omega⟩, ⟨by (with_reducible repeat (first | apply Kd.R_alloc | apply Kd.R_drewN | apply Kd.R_drew)); exact HO646.out⟩, ⟨by (with_reducible repeat (first | refine blk_drewN ?_ _ | refine blk_drew ?_ | refine blk_alloc ?_ _)); exact BK640.out⟩, ⟨hb_⟩⟩
        ·rw [if_neg c14] at H
         exact absurd H (by simp)
       ·replace c13 := Bool.eq_false_iff.mpr c13
        subst c13
        have H1 : (spec_ThreatsTo.l0 k1 l1 a2 x8_1 ((rd_L1 l1 a2).length : Int) (wrap64 (x20_1 + 1)) a0_0 a0_1 a0_2 l0_3 l0_4) = some (r1, r2) := by rw [if_neg (show ¬ (false = true) by decide)] at H; exact H
        clear H
        have H := H1
        clear H1
        have H' := Aside0.mk H
        clear H
        have hcz18_0 : wr.cell? ⟨gb640, 0, none⟩ = some (.int .i64 a0_0) := (blk_cell BK640.out 0).trans rfl
        have hcz18_1 : wr.cell? ⟨gb640, 1, none⟩ = some (.int .i64 a0_1) := (blk_cell BK640.out 1).trans rfl
        have hcz18_2 : wr.cell? ⟨gb640, 2, none⟩ = some (.int .i64 a0_2) := (blk_cell BK640.out 2).trans rfl
        have hcz18_3 : wr.cell? ⟨gb640, 3, none⟩ = some (.slice A0_3 l0_3.length c0_3) := (blk_cell BK640.out 3).trans rfl
        have hcz18_4 : wr.cell? ⟨gb640, 4, none⟩ = some (.slice A0_4 l0_4.length c0_4) := (blk_cell BK640.out 4).trans rfl
        have hfz18_0 := blk_frozen BK640.out 0
        have hfz18_1 := blk_frozen BK640.out 1
        have hfz18_2 := blk_frozen BK640.out 2
        have hfz18_3 := blk_frozen BK640.out 3
        have hfz18_4 := blk_frozen BK640.out 4
        go_wp2_with (first | ((with_reducible refine gate_callee (f := 88) rfl ?_); refine goesL_ (some 27) rfl rfl Try.func88 (by kernel_rfl) rfl #[.agg #[.int .i64 a0_0, .int .i64 a0_1, .int .i64 a0_2, .slice A0_3 l0_3.length c0_3, .slice A0_4 l0_4.length c0_4], .slice (some ad642) l1.length c1, .int .i64 a2, .int .i64 x20_1] rfl (by (try simp only [List.map_toArray, List.map_cons, List.map_nil]); first | done | rfl | (simp only [List.length_drop, List.length_take]; rfl)) ?_; (with_reducible refine (spec_trThreat.calls k1 a0_0 a0_1 a0_2 _ _ l0_3 _ _ l0_4 _ _ l1 a2 x20_1 false _ ?side1 ?side2 ?side3 ?side4 ?side5 ?side6 A12.out).mono ?_); (case side1 => exact Kd.C_below HR0_3.out hb_); (case side2 => exact HC0_3.out); (case side3 => exact Kd.C_below HR0_4.out hb_); (case side4 => exact HC0_4.out); (case side5 => exact Kd.C_below HR1.out hb_); (case side6 => exact HC1.out); rintro e w19 ⟨rfl, hb⟩; refine ⟨_, rfl, ?_⟩; have n0_ := Aside0.mk (Kd.R_below (by (with_reducible repeat (first | apply Kd.R_alloc | apply Kd.R_drewN | apply Kd.R_drew)); exact HO_8.out) hb); have n1_ := Aside0.mk (blk_below (g := gb640) (o := .cells #[.int .i64 a0_0, .int .i64 a0_1, .int .i64 a0_2, .slice A0_3 l0_3.length c0_3, .slice A0_4 l0_4.length c0_4] 27 (0, 0)) (by (with_reducible repeat (first | refine blk_drewN ?_ _ | refine blk_drew ?_ | refine blk_alloc ?_ _)); exact BK640.out) hb); have n2_ := Aside0.mk (below_step hb_ hb); clear HO_8; clear BK640; clear HB; have HO_8 := n0_; have BK640 := n1_; have HB := n2_; clear n0_ n1_ n2_; (try clear hb); (try clear hb2); (try clear hk); (try clear hi)))
        go_roundg k1
        case measure => have := HK1.out; omega
        case rel => exact ⟨(x8_1), (wrap64 (x20_1 + 1)), (by first | rfl | (simp; done) | (simp [*]; done)), H', ⟨by have := HK1.out; omega⟩, ⟨by (with_reducible repeat (first | apply Kd.R_alloc | apply Kd.R_drewN | apply Kd.R_drew)); exact HO_8.out⟩, ⟨by (with_reducible repeat (first | refine blk_drewN ?_ _ | refine blk_drew ?_ | refine blk_alloc ?_ _)); exact BK640.out⟩, ⟨hb_⟩⟩
      ·rw [if_neg c11] at H
       have c11b0 : decide (x20_1 < ((rd_L1 l1 a2).length : Int)) = false := decide_eq_false c11
       clear c11
       simp only [Option.some.injEq, Prod.mk.injEq] at H
       obtain ⟨rfl, rfl⟩ := H
       go_wp2
       go_ret2
       exact ⟨_, by first | rfl | (simp [errW_none, errW_some] <;> rfl) | (simp [*, errW_none, errW_some] <;> rfl), by (with_reducible repeat (first | apply Kd.R_alloc | apply Kd.R_drewN | apply Kd.R_drew)); exact HO_8.out, hb_⟩
   ·rw [if_neg c7] at H
    exact absurd H (by simp)
  ·rw [if_neg c6] at H
   exact absurd H (by simp)
 ·replace c5 := Bool.eq_false_iff.mpr c5
  subst c5
  have H1 : (some (([] : List Int), false)) = some (r1, r2) := by rw [if_neg (show ¬ (false = true) by decide)] at H; exact H
  clear H
  have H := H1
  clear H1
  simp only [Option.some.injEq, Prod.mk.injEq] at H
  obtain ⟨rfl, rfl⟩ := H
  go_enter Try.func51, Try.ntmps51
  go_wp2_with (first | ((with_reducible refine gate_dst (N := 3) rfl ?_); refine box_event ?hg (N := 3) ?hd (cs := #[.int .i64 a0_0, .int .i64 a0_1, .int .i64 a0_2, .slice A0_3 l0_3.length c0_3, .slice A0_4 l0_4.length c0_4]) (t := 27) ?hr ?_; (case hd => rfl); (case hg => rfl); (case hr => first | (go_simp; done) | (go_simp; rfl)); intro gb640 hg w20 hbox hb; have n0_ := Aside0.mk (below_step hb_ hb); have n1_ := Aside0.mk (hbox); have n2_ := Aside0.mk ((by rw [hg]; exact (below_size hb_) : w.heap.size ≤ gb640)); have n3_ := Aside0.mk ((by rw [hg]; exact (below_size hb_) : w.heap.size ≤ gb640)); clear HB; have HB := n0_; have BK640 := n1_; have GW640 := n2_; have GE640 := n3_; clear n0_ n1_ n2_ n3_; clear hb hbox hg; have hcz21_0 : w20.cell? ⟨gb640, 0, none⟩ = some (.int .i64 a0_0) := (blk_cell BK640.out 0).trans rfl; have hcz21_1 : w20.cell? ⟨gb640, 1, none⟩ = some (.int .i64 a0_1) := (blk_cell BK640.out 1).trans rfl; have hcz21_2 : w20.cell? ⟨gb640, 2, none⟩ = some (.int .i64 a0_2) := (blk_cell BK640.out 2).trans rfl; have hcz21_3 : w20.cell? ⟨gb640, 3, none⟩ = some (.slice A0_3 l0_3.length c0_3) := (blk_cell BK640.out 3).trans rfl; have hcz21_4 : w20.cell? ⟨gb640, 4, none⟩ = some (.slice A0_4 l0_4.length c0_4) := (blk_cell BK640.out 4).trans rfl; have hfz21_0 := blk_frozen BK640.out 0; have hfz21_1 := blk_frozen BK640.out 1; have hfz21_2 := blk_frozen BK640.out 2; have hfz21_3 := blk_frozen BK640.out 3; have hfz21_4 := blk_frozen BK640.out 4) | ((with_reducible refine gate_callee (f := 75) rfl ?_); refine goesL_ (some 13) rfl rfl Try.func75 (by kernel_rfl) rfl #[.agg #[.int .i64 a0_0, .int .i64 a0_1, .int .i64 a0_2, .slice A0_3 l0_3.length c0_3, .slice A0_4 l0_4.length c0_4], .slice A1 l1.length c1, .int .i64 a2] rfl (by (try simp only [List.map_toArray, List.map_cons, List.map_nil]); first | done | rfl | (simp only [List.length_drop, List.length_take]; rfl)) ?_; (with_reducible refine (spec_trPlayer.calls k a0_0 a0_1 a0_2 _ _ l0_3 _ _ l0_4 _ _ l1 a2 false _ ?side1 ?side2 ?side3 ?side4 ?side5 ?side6 A4.out).mono ?_); (case side1 => exact Kd.C_below HR0_3.out hb_); (case side2 => exact HC0_3.out); (case side3 => exact Kd.C_below HR0_4.out hb_); (case side4 => exact HC0_4.out); (case side5 => exact Kd.C_below HR1.out hb_); (case side6 => exact HC1.out); rintro e w22 ⟨rfl, hb⟩; refine ⟨_, rfl, ?_⟩; have n0_ := Aside0.mk (blk_below (g := gb640) (o := .cells #[.int .i64 a0_0, .int .i64 a0_1, .int .i64 a0_2, .slice A0_3 l0_3.length c0_3, .slice A0_4 l0_4.length c0_4] 27 (0, 0)) (by (with_reducible repeat (first | refine blk_drewN ?_ _ | refine blk_drew ?_ | refine blk_alloc ?_ _)); exact BK640.out) hb); have n1_ := Aside0.mk (below_step hb_ hb); clear BK640; clear HB; have BK640 := n0_; have HB := n1_; clear n0_ n1_; (try clear hb); (try clear hb2); (try clear hk); (try clear hi)))
  go_ret2
  exact ⟨_, by first | rfl | (simp [errW_none, errW_some] <;> rfl) | (simp [*, errW_none, errW_some] <;> rfl), by first | exact Kd.R_nil _ _ _ _ _ | exact Kd.N_nil _ _ _ _ _ | exact Kd.V_nil _ _ _ _ _ | exact Kd.Q_nil _ _ _ _ _ | exact Kd.S_nil _ _ _ _ _, hb_⟩

end Go.Proofs.Ytcppahkdfajcaaa.P
