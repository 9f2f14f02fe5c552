/- spec.trGo: a token goes on a copy of the rows: what the Go text returns. -/
import Derived.Test.YtcppahkdfajcaaaELawKit
import Derived.Deep.RegionWith
import Derived.Test.YtcppahkdfajcaaaP106
import Derived.Test.YtcppahkdfajcaaaP63
import Derived.Test.YtcppahkdfajcaaaP63
import Derived.Test.YtcppahkdfajcaaaP63
namespace Go.Proofs.Ytcppahkdfajcaaa.P
open Go.RowKit Go.Proofs.YtcppahkdfajcaaaW.PrintWords Go.Proofs.YtcppahkdfajcaaaW.PrintLast Go.Proofs.YtcppahkdfajcaaaW.PrintMore
set_option linter.unusedVariables false
set_option linter.unusedSimpArgs false

def spec_trGo.l0 : Nat → List (List Int) → List (List Int) → Int → Int → Option ((List (List Int)))
 | 0, _, _, _, _ => none
 | k + 1, x3, x7, x8, x9 => if x9 < x8 then (if 0 ≤ x9 then (if x9 < (x7.length : Int) then ((spec_l1Own.f (rd_L1 x7 x9)).bind fun t1 => (if x3.length < 5864062014805 then (spec_trGo.l0 k (x3 ++ [t1]) x7 x8 (wrap64 (x9 + 1))) else (none))) else (none)) else (none)) else (some x3)
theorem spec_trGo.mono_l : ∀ k, (∀ y0 y1 y2 y3, LeO (spec_trGo.l0 k y0 y1 y2 y3) (spec_trGo.l0 (k + 1) y0 y1 y2 y3))
 | 0 => fun _ _ _ _ r h => by simp [spec_trGo.l0] at h
 | k + 1 => by
  have ih0 := spec_trGo.mono_l k
  intro y0 y1 y2 y3
  unfold spec_trGo.l0
  repeat' first
   | (with_reducible exact ih0 _ _ _ _)
   | (with_reducible exact LeO.refl _)
   | (with_reducible exact LeO.none _)
   | (with_reducible refine LeO.ite ?_ ?_)
   | (with_reducible refine LeO.bind ?_ (fun _ => ?_))
   | exact ih0 _ _ _ _
def spec_trGo.f (k : Nat) (a b c : Int) (l3 l4 : List Int) (l1 : List (List Int)) (p t f : Int) : Option (List (List Int) × Int) :=
  (spec_trGo.l0 k ([] : List (List Int)) l1 (l1.length : Int) 0).bind fun s => if 0 ≤ p ∧ p < (s.length : Int) ∧ 0 ≤ t ∧ t < ((s.getD p.toNat []).length : Int) then
    (spec_trSquare.f a b c l3 l4 p (if rd (s.getD p.toNat []) t < 0 then 0 else wrap64 (rd (s.getD p.toNat []) t + f))).bind fun q => if q < 0 then some (set2 s p.toNat t.toNat (if rd (s.getD p.toNat []) t < 0 then 0 else wrap64 (rd (s.getD p.toNat []) t + f)), 0) else
      (spec_l1Has.f k l4 q).bind fun z => if z = true then some (set2 s p.toNat t.toNat (if rd (s.getD p.toNat []) t < 0 then 0 else wrap64 (rd (s.getD p.toNat []) t + f)), 0) else
        (spec_trAt.f k a b c l3 l4 (set2 s p.toNat t.toNat (if rd (s.getD p.toNat []) t < 0 then 0 else wrap64 (rd (s.getD p.toNat []) t + f))) q).bind fun toks => (sendL p toks 0 (set2 s p.toNat t.toNat (if rd (s.getD p.toNat []) t < 0 then 0 else wrap64 (rd (s.getD p.toNat []) t + f)))).bind fun r => some (r.2, r.1)
  else none
theorem spec_trGo.mono : ∀ a b c l3 l4 s p t f k, LeO (spec_trGo.f k a b c l3 l4 s p t f) (spec_trGo.f (k + 1) a b c l3 l4 s p t f) := by
  intro a b c l3 l4 s p t f k
  unfold spec_trGo.f
  repeat' first
      | (with_reducible exact spec_trGo.mono_l _ _ _ _ _)
      | (with_reducible exact spec_l1Has.mono ..)
      | (with_reducible exact spec_trAt.mono ..)
      | (with_reducible exact LeO.refl _)
      | (with_reducible exact LeO.none _)
      | (with_reducible refine LeO.ite ?_ ?_)
      | (with_reducible refine LeO.bind ?_ (fun _ => ?_))
theorem blk_lt {w : World} {B : Nat} {o : _} (h : w.heap[B]? = some o) : B < w.heap.size := (Array.getElem?_eq_some_iff.1 h).1

set_option maxHeartbeats 4000000 in
set_option maxRecDepth 100000 in
theorem trGo_home (k : Nat) (a b c : Int) (A3 : Option Addr) (c3 : Nat) (l3 : List Int) (A4 : Option Addr) (c4 : Nat) (l4 : List Int) (A1 : Option Addr) (c1 : Nat) (l1 : List (List Int)) (p t : Nat) (f : Int) (s : List (List Int)) (w : World) (hr3 : Kd.C (Kd.int .i64) w A3 l3.length l3) (hc3 : l3.length ≤ c3) (hr4 : Kd.C (Kd.int .i64) w A4 l4.length l4) (hc4 : l4.length ≤ c4) (hr1 : Kd.C (Kd.slice 3 (Kd.int .i64)) w A1 l1.length l1) (hc1 : l1.length ≤ c1)
    (hcp : spec_trGo.l0 k ([] : List (List Int)) l1 (l1.length : Int) 0 = some s) (hp : p < s.length) (row : List Int) (hrow : s.getD p [] = row) (ht : t < row.length) (x : Int) (hx : x = if rd row (t : Int) < 0 then 0 else wrap64 (rd row (t : Int) + f)) (q : Int) (g2 : spec_trSquare.f a b c l3 l4 (p : Int) x = some q) (hq : q < 0) :
    Calls Try.prog 95 #[.agg #[.int .i64 a, .int .i64 b, .int .i64 c, .slice A3 l3.length c3, .slice A4 l4.length c4], .slice A1 l1.length c1, .int .i64 (p : Int), .int .i64 (t : Int), .int .i64 f] w fun e w' => ∃ v0_ : Value, e = .returned (.tuple #[v0_, .int .i64 0]) ∧ Kd.S (Kd.slice 3 (Kd.int .i64)) 22 w' w.heap.size (fun _ => True) v0_ (set2 s p t x) ∧ Below w.heap.size w w' := by
  have hqb : decide (q < 0) = true := decide_eq_true hq
  clear hq
  have hu27 := Try.underlying27
  have HR3 := Aside0.mk hr3
  have HC3 := Aside0.mk hc3
  have HR4 := Aside0.mk hr4
  have HC4 := Aside0.mk hc4
  have HR1 := Aside0.mk hr1
  have HC1 := Aside0.mk hc1
  have HCP := Aside0.mk hcp
  have HX := Aside0.mk hx
  have G2 := Aside0.mk g2
  have HROW := Aside0.mk hrow
  have HPT := Aside0.mk (And.intro hp (show t < (s.getD p []).length by rw [hrow]; exact ht))
  have HTR := Aside0.mk ht
  clear hr3 hc3 hr4 hc4 hr1 hc1 hcp hx g2 hrow hp ht
  go_enter Try.func95, Try.ntmps95
  go_wp2_with ((with_reducible refine gate_dst (N := 5) rfl ?_); refine box_event ?hg (N := 5) ?hd (cs := #[.int .i64 a, .int .i64 b, .int .i64 c, .slice A3 l3.length c3, .slice A4 l4.length c4]) (t := 27) ?hr ?_; (case hd => rfl); (case hg => rfl); (case hr => first | (go_simp; done) | (go_simp; rfl)); intro B hgb_ w1 hbox hb; have BK := Aside0.mk hbox; have HW1 : Aside0 (Below w.heap.size w w1) := ⟨hb⟩; have HGB := Aside0.mk (show B < w1.heap.size from blk_lt hbox); clear hb hbox hgb_)
  replace HR3 := Aside0.mk (Kd.C_below HR3.out HW1.out)
  replace HR4 := Aside0.mk (Kd.C_below HR4.out HW1.out)
  replace HR1 := Aside0.mk (Kd.C_below HR1.out HW1.out)
  go_loopg [12, 22] k (fun kq v12_ v22 wr => ∃ (x3 : List (List Int)) (x9 : Int), v22 = .int .i64 x9 ∧ Aside0 (spec_trGo.l0 kq x3 l1 (l1.length : Int) x9 = some s) ∧ Aside0 (kq ≤ k) ∧ Aside0 (Kd.S (Kd.slice 3 (Kd.int .i64)) 22 wr w1.heap.size (fun _ => True) v12_ x3) ∧ Aside0 (Below w1.heap.size w1 wr))
  case atStart => exact ⟨[], 0, rfl, HCP, ⟨Nat.le_refl _⟩, ⟨Kd.S_nil _ _ _ _ _⟩, ⟨Below.refl _ _⟩⟩
  case round =>
    clear HCP
    obtain ⟨x3, x9, rfl, HA, HK1, HO, HB⟩ := hrel
    cases gk with
    | zero => exact absurd HA.out (by simp [spec_trGo.l0])
    | succ k1 =>
      have H := HA.out
      clear HA
      simp only [spec_trGo.l0] at H
      by_cases q4 : x9 < (l1.length : Int)
      case pos =>
        rw [if_pos q4] at H
        by_cases q5 : 0 ≤ x9
        case neg => rw [if_neg q5] at H; cases H
        rw [if_pos q5, if_pos q4] at H
        obtain ⟨t1, g1, H⟩ := Option.bind_eq_some_iff.1 H
        have GT := Aside0.mk g1
        clear g1
        by_cases q8 : x3.length < 5864062014805
        case neg => rw [if_neg q8] at H; cases H
        rw [if_pos q8] at H
        have LM := Aside0.mk q8
        have H' := Aside0.mk H
        clear H q8
        have c4b : decide (x9 < (l1.length : Int)) = true := decide_eq_true q4
        have c5b : decide (0 ≤ x9) = true := decide_eq_true q5
        obtain ⟨ad7, A7, c7, e7, hx7, hl7, hi7⟩ := at_L1 HR1.out x9 q5 q4
        cases e7
        replace hx7 := (HB.out.cell (World.block_lt_of_cell? w1 _ hx7)).trans hx7
        have HI7 := Aside0.mk hi7
        have HL7 := Aside0.mk hl7
        clear hi7 hl7
        replace q4 := eq_true q4
        replace q5 := eq_true q5
        go_wp2_with (first | (go_at_call 106; refine calls_at (fun W_ => Below w1.heap.size w1 W_ ∧ Kd.S (Kd.slice 3 (Kd.int .i64)) 22 W_ w1.heap.size (fun _ => True) u12 x3) ⟨by (with_reducible repeat (first | exact HB.out | apply below_alloc | apply pw_below_drewN | apply below_drew1)) <;> first | exact HB.out | exact Nat.le_refl _, by (with_reducible repeat (first | apply Kd.S_alloc | apply Kd.S_drewN | apply Kd.S_drew)); exact HO.out⟩ (fun W_ hW_ => ?_); (with_reducible refine (spec_l1Own.calls _ _ (rd_L1 l1 x9) t1 _ (Kd.C_below HI7.out hW_.1) HL7.out GT.out).mono ?_); rintro e w2 ⟨v4_, rfl, ho0, hb⟩; replace HO := Aside0.mk (Kd.S_elder' hW_.2 (Kd.R_base ho0) hb); have HO2 := Aside0.mk (Kd.R_lower ho0 (below_size hW_.1)); replace HB := Aside0.mk (below_step hW_.1 hb); clear hb ho0 hW_; obtain ⟨Ao, co, eo⟩ := Kd.R_slice HO2.out; subst eo) | ((with_reducible refine gate_builtin (b := .append) (xs := #[.tmp 26, .tmp 29]) rfl ?_); at_builtin; refine Kd.S_append (Kd.slice 3 (Kd.int .i64)) (w0 := w1) w1.heap.size rfl (.tmp 26) (.tmp 29) 34 22 (.slice none 0 0) 24 rfl Try.underlying34 info22 rfl (by decide) (by omega) u12 x3 t1 [.slice Ao t1.length co] (fun _ => True) (fun k_ => some k_ = (.slice Ao t1.length co : Value).ownBlock) rfl rfl ?aP (fun k_ hk_ => ((Kd.R_mono (ok' := fun k_ => ((fun _ => True)) k_ ∧ some k_ ≠ (u12 : Value).ownBlock) (Kd.R_apart' (HO2.out) (Kd.S_typed HO.out) (by decide)) (fun k_ hk => ⟨trivial, hk.2⟩))).1 k_ hk_.symm) ?aF ?aO ?aB ?aS ?aL ?_; (case aP => exact Kd.M_row (Kd.R_mono (Kd.R_tight rfl (Kd.R_mono (ok' := fun k_ => ((fun _ => True)) k_ ∧ some k_ ≠ (u12 : Value).ownBlock) (Kd.R_apart' (HO2.out) (Kd.S_typed HO.out) (by decide)) (fun k_ hk => ⟨trivial, hk.2⟩))) (fun _ h_ => h_))); (case aB => exact HB.out); (case aF => exact (fun _ _ => trivial)); (case aO => exact (by (with_reducible repeat (first | apply Kd.S_alloc | apply Kd.S_drewN | apply Kd.S_drew)); exact Kd.S_mono HO.out (fun k_ hk => ⟨trivial, fun e_ => hk.2 e_⟩))); (case aS => exact (below_size HB.out)); (case aL => have := LM.out; omega); intro v5_ w3 ho hb hg hat; have HB3 := Aside0.mk hb; have HO3 := Aside0.mk ho; clear HO HO2 hb ho hg hat))
        go_roundg k1
        case measure => have := HK1.out; omega
        case rel => exact ⟨x3 ++ [t1], wrap64 (x9 + 1), rfl, H', ⟨by have := HK1.out; omega⟩, ⟨by (with_reducible repeat (first | apply Kd.S_alloc | apply Kd.S_drewN | apply Kd.S_drew)); exact HO3.out⟩, ⟨by (with_reducible repeat (first | exact HB3.out | apply below_alloc | apply pw_below_drewN | apply below_drew1)) <;> first | exact HB3.out | exact Nat.le_refl _⟩⟩
      rw [if_neg q4] at H
      have c4b : decide (x9 < (l1.length : Int)) = false := decide_eq_false q4
      obtain rfl := Option.some.inj H
      clear H HK1 HR1 HC1
      obtain ⟨g, cs, rfl, _⟩ := Kd.S_form HO.out (Nat.lt_of_le_of_lt (Nat.zero_le _) HPT.out.1)
      have hpi : (p : Int) < (x3.length : Int) := by have := HPT.out.1; omega
      have hp0 : (0 : Int) ≤ (p : Int) := by omega
      have ht0 : (0 : Int) ≤ (t : Int) := by omega
      have hti : (t : Int) < (row.length : Int) := by have := HTR.out; omega
      obtain ⟨gr, cr, hx0, hx1, hx2, hx3, hx4, hx5, hx6⟩ := S2_at HO.out HPT.out.1 HPT.out.2
      rw [HROW.out] at hx0 hx1
      have HX6 := Aside0.mk hx6
      have HX5 := Aside0.mk hx5
      clear hx3 hx4 hx5 hx6
      have hst := HX.out
      clear HX
      by_cases hneg : rd row (t : Int) < 0
      case' pos => rw [if_pos hneg] at hst; have hnegb : decide (rd row (t : Int) < 0) = true := decide_eq_true hneg
      case' neg => rw [if_neg hneg] at hst; have hnegb : decide (rd row (t : Int) < 0) = false := decide_eq_false hneg
      all_goals
        clear hneg
        have hbs0 : ∀ u, (wr.setCell ⟨gr, t, none⟩ u).heap[B]? = some (.cells #[.int .i64 a, .int .i64 b, .int .i64 c, .slice A3 l3.length c3, .slice A4 l4.length c4] 27 (0, 0)) := fun u => blk_far (blk_below BK.out HB.out) (fun e_ => by have := HX5.out; have := HGB.out; simp only at e_; omega) u
        have hs0_ : ∀ u, (wr.setCell ⟨gr, t, none⟩ u).cell? ⟨B, 0, none⟩ = some (.int .i64 a) := fun u => (blk_cell (hbs0 u) 0).trans rfl
        have hs1_ : ∀ u, (wr.setCell ⟨gr, t, none⟩ u).cell? ⟨B, 1, none⟩ = some (.int .i64 b) := fun u => (blk_cell (hbs0 u) 1).trans rfl
        have hs2_ : ∀ u, (wr.setCell ⟨gr, t, none⟩ u).cell? ⟨B, 2, none⟩ = some (.int .i64 c) := fun u => (blk_cell (hbs0 u) 2).trans rfl
        have hs3_ : ∀ u, (wr.setCell ⟨gr, t, none⟩ u).cell? ⟨B, 3, none⟩ = some (.slice A3 l3.length c3) := fun u => (blk_cell (hbs0 u) 3).trans rfl
        have hs4_ : ∀ u, (wr.setCell ⟨gr, t, none⟩ u).cell? ⟨B, 4, none⟩ = some (.slice A4 l4.length c4) := fun u => (blk_cell (hbs0 u) 4).trans rfl
        clear hbs0
        go_wp2_with (fail)
        go_at_call 70
        rw [← hst]
        refine calls_at (fun W_ => Below w1.heap.size w1 W_ ∧ Kd.S (Kd.slice 3 (Kd.int .i64)) 22 W_ w1.heap.size (fun _ => True) (.slice (some ⟨g, 0, none⟩) x3.length cs) (set2 x3 p t x)) ⟨below_set HB.out HX5.out, HX6.out wr x rfl⟩ (fun w3 hW_ => ?_)
        clear hs0_ hs1_ hs2_ hs3_ hs4_ hx0 hx1 hx2
        replace HB := Aside0.mk hW_.1
        replace HO := Aside0.mk hW_.2
        clear hW_ HX6 HX5
        refine (spec_trSquare.calls a b c _ _ l3 _ _ l4 (p : Int) x q _ (Kd.C_below HR3.out HB.out) HC3.out (Kd.C_below HR4.out HB.out) HC4.out G2.out).mono ?_
        rintro e w4 ⟨rfl, hb⟩
        replace HO : Aside0 (Kd.S (Kd.slice 3 (Kd.int .i64)) 22 w4 w1.heap.size (fun _ => True) (.slice (some ⟨g, 0, none⟩) x3.length cs) (set2 x3 p t x)) := ⟨Kd.S_below HO.out hb⟩
        replace HB : Aside0 (Below w1.heap.size w1 w4) := ⟨below_step HB.out hb⟩
        clear hb
        have hbk_ := blk_below BK.out HB.out
        have hb0_ : w4.cell? ⟨B, 0, none⟩ = some (.int .i64 a) := (blk_cell hbk_ 0).trans rfl
        have hb0_d : w4.drew.cell? ⟨B, 0, none⟩ = some (.int .i64 a) := hb0_
        have hb0_n : ∀ q_, (w4.drewN q_).cell? ⟨B, 0, none⟩ = some (.int .i64 a) := fun _ => hb0_
        have hb1_ : w4.cell? ⟨B, 1, none⟩ = some (.int .i64 b) := (blk_cell hbk_ 1).trans rfl
        have hb1_d : w4.drew.cell? ⟨B, 1, none⟩ = some (.int .i64 b) := hb1_
        have hb1_n : ∀ q_, (w4.drewN q_).cell? ⟨B, 1, none⟩ = some (.int .i64 b) := fun _ => hb1_
        have hb2_ : w4.cell? ⟨B, 2, none⟩ = some (.int .i64 c) := (blk_cell hbk_ 2).trans rfl
        have hb2_d : w4.drew.cell? ⟨B, 2, none⟩ = some (.int .i64 c) := hb2_
        have hb2_n : ∀ q_, (w4.drewN q_).cell? ⟨B, 2, none⟩ = some (.int .i64 c) := fun _ => hb2_
        have hb3_ : w4.cell? ⟨B, 3, none⟩ = some (.slice A3 l3.length c3) := (blk_cell hbk_ 3).trans rfl
        have hb3_d : w4.drew.cell? ⟨B, 3, none⟩ = some (.slice A3 l3.length c3) := hb3_
        have hb3_n : ∀ q_, (w4.drewN q_).cell? ⟨B, 3, none⟩ = some (.slice A3 l3.length c3) := fun _ => hb3_
        have hb4_ : w4.cell? ⟨B, 4, none⟩ = some (.slice A4 l4.length c4) := (blk_cell hbk_ 4).trans rfl
        have hb4_d : w4.drew.cell? ⟨B, 4, none⟩ = some (.slice A4 l4.length c4) := hb4_
        have hb4_n : ∀ q_, (w4.drewN q_).cell? ⟨B, 4, none⟩ = some (.slice A4 l4.length c4) := fun _ => hb4_
        clear hbk_
        go_wp2
        go_ret2
        exact ⟨_, rfl, Kd.S_lower HO.out HW1.out.size, below_step HW1.out HB.out⟩

set_option maxHeartbeats 4000000 in
set_option maxRecDepth 100000 in
theorem trGo_safe (k : Nat) (a b c : Int) (A3 : Option Addr) (c3 : Nat) (l3 : List Int) (A4 : Option Addr) (c4 : Nat) (l4 : List Int) (A1 : Option Addr) (c1 : Nat) (l1 : List (List Int)) (p t : Nat) (f : Int) (s : List (List Int)) (w : World) (hr3 : Kd.C (Kd.int .i64) w A3 l3.length l3) (hc3 : l3.length ≤ c3) (hr4 : Kd.C (Kd.int .i64) w A4 l4.length l4) (hc4 : l4.length ≤ c4) (hr1 : Kd.C (Kd.slice 3 (Kd.int .i64)) w A1 l1.length l1) (hc1 : l1.length ≤ c1)
    (hcp : spec_trGo.l0 k ([] : List (List Int)) l1 (l1.length : Int) 0 = some s) (hp : p < s.length) (row : List Int) (hrow : s.getD p [] = row) (ht : t < row.length) (x : Int) (hx : x = if rd row (t : Int) < 0 then 0 else wrap64 (rd row (t : Int) + f)) (q : Int) (g2 : spec_trSquare.f a b c l3 l4 (p : Int) x = some q) (hq : ¬ q < 0) (g3 : spec_l1Has.f k l4 q = some true) :
    Calls Try.prog 95 #[.agg #[.int .i64 a, .int .i64 b, .int .i64 c, .slice A3 l3.length c3, .slice A4 l4.length c4], .slice A1 l1.length c1, .int .i64 (p : Int), .int .i64 (t : Int), .int .i64 f] w fun e w' => ∃ v0_ : Value, e = .returned (.tuple #[v0_, .int .i64 0]) ∧ Kd.S (Kd.slice 3 (Kd.int .i64)) 22 w' w.heap.size (fun _ => True) v0_ (set2 s p t x) ∧ Below w.heap.size w w' := by
  have hqb : decide (q < 0) = false := decide_eq_false hq
  have G3 := Aside0.mk g3
  clear hq g3
  have hu27 := Try.underlying27
  have HR3 := Aside0.mk hr3
  have HC3 := Aside0.mk hc3
  have HR4 := Aside0.mk hr4
  have HC4 := Aside0.mk hc4
  have HR1 := Aside0.mk hr1
  have HC1 := Aside0.mk hc1
  have HCP := Aside0.mk hcp
  have HX := Aside0.mk hx
  have G2 := Aside0.mk g2
  have HROW := Aside0.mk hrow
  have HPT := Aside0.mk (And.intro hp (show t < (s.getD p []).length by rw [hrow]; exact ht))
  have HTR := Aside0.mk ht
  clear hr3 hc3 hr4 hc4 hr1 hc1 hcp hx g2 hrow hp ht
  go_enter Try.func95, Try.ntmps95
  go_wp2_with ((with_reducible refine gate_dst (N := 5) rfl ?_); refine box_event ?hg (N := 5) ?hd (cs := #[.int .i64 a, .int .i64 b, .int .i64 c, .slice A3 l3.length c3, .slice A4 l4.length c4]) (t := 27) ?hr ?_; (case hd => rfl); (case hg => rfl); (case hr => first | (go_simp; done) | (go_simp; rfl)); intro B hgb_ w1 hbox hb; have BK := Aside0.mk hbox; have HW1 : Aside0 (Below w.heap.size w w1) := ⟨hb⟩; have HGB := Aside0.mk (show B < w1.heap.size from blk_lt hbox); clear hb hbox hgb_)
  replace HR3 := Aside0.mk (Kd.C_below HR3.out HW1.out)
  replace HR4 := Aside0.mk (Kd.C_below HR4.out HW1.out)
  replace HR1 := Aside0.mk (Kd.C_below HR1.out HW1.out)
  go_loopg [12, 22] k (fun kq v12_ v22 wr => ∃ (x3 : List (List Int)) (x9 : Int), v22 = .int .i64 x9 ∧ Aside0 (spec_trGo.l0 kq x3 l1 (l1.length : Int) x9 = some s) ∧ Aside0 (kq ≤ k) ∧ Aside0 (Kd.S (Kd.slice 3 (Kd.int .i64)) 22 wr w1.heap.size (fun _ => True) v12_ x3) ∧ Aside0 (Below w1.heap.size w1 wr))
  case atStart => exact ⟨[], 0, rfl, HCP, ⟨Nat.le_refl _⟩, ⟨Kd.S_nil _ _ _ _ _⟩, ⟨Below.refl _ _⟩⟩
  case round =>
    clear HCP
    obtain ⟨x3, x9, rfl, HA, HK1, HO, HB⟩ := hrel
    cases gk with
    | zero => exact absurd HA.out (by simp [spec_trGo.l0])
    | succ k1 =>
      have H := HA.out
      clear HA
      simp only [spec_trGo.l0] at H
      by_cases q4 : x9 < (l1.length : Int)
      case pos =>
        rw [if_pos q4] at H
        by_cases q5 : 0 ≤ x9
        case neg => rw [if_neg q5] at H; cases H
        rw [if_pos q5, if_pos q4] at H
        obtain ⟨t1, g1, H⟩ := Option.bind_eq_some_iff.1 H
        have GT := Aside0.mk g1
        clear g1
        by_cases q8 : x3.length < 5864062014805
        case neg => rw [if_neg q8] at H; cases H
        rw [if_pos q8] at H
        have LM := Aside0.mk q8
        have H' := Aside0.mk H
        clear H q8
        have c4b : decide (x9 < (l1.length : Int)) = true := decide_eq_true q4
        have c5b : decide (0 ≤ x9) = true := decide_eq_true q5
        obtain ⟨ad7, A7, c7, e7, hx7, hl7, hi7⟩ := at_L1 HR1.out x9 q5 q4
        cases e7
        replace hx7 := (HB.out.cell (World.block_lt_of_cell? w1 _ hx7)).trans hx7
        have HI7 := Aside0.mk hi7
        have HL7 := Aside0.mk hl7
        clear hi7 hl7
        replace q4 := eq_true q4
        replace q5 := eq_true q5
        go_wp2_with (first | (go_at_call 106; refine calls_at (fun W_ => Below w1.heap.size w1 W_ ∧ Kd.S (Kd.slice 3 (Kd.int .i64)) 22 W_ w1.heap.size (fun _ => True) u12 x3) ⟨by (with_reducible repeat (first | exact HB.out | apply below_alloc | apply pw_below_drewN | apply below_drew1)) <;> first | exact HB.out | exact Nat.le_refl _, by (with_reducible repeat (first | apply Kd.S_alloc | apply Kd.S_drewN | apply Kd.S_drew)); exact HO.out⟩ (fun W_ hW_ => ?_); (with_reducible refine (spec_l1Own.calls _ _ (rd_L1 l1 x9) t1 _ (Kd.C_below HI7.out hW_.1) HL7.out GT.out).mono ?_); rintro e w2 ⟨v4_, rfl, ho0, hb⟩; replace HO := Aside0.mk (Kd.S_elder' hW_.2 (Kd.R_base ho0) hb); have HO2 := Aside0.mk (Kd.R_lower ho0 (below_size hW_.1)); replace HB := Aside0.mk (below_step hW_.1 hb); clear hb ho0 hW_; obtain ⟨Ao, co, eo⟩ := Kd.R_slice HO2.out; subst eo) | ((with_reducible refine gate_builtin (b := .append) (xs := #[.tmp 26, .tmp 29]) rfl ?_); at_builtin; refine Kd.S_append (Kd.slice 3 (Kd.int .i64)) (w0 := w1) w1.heap.size rfl (.tmp 26) (.tmp 29) 34 22 (.slice none 0 0) 24 rfl Try.underlying34 info22 rfl (by decide) (by omega) u12 x3 t1 [.slice Ao t1.length co] (fun _ => True) (fun k_ => some k_ = (.slice Ao t1.length co : Value).ownBlock) rfl rfl ?aP (fun k_ hk_ => ((Kd.R_mono (ok' := fun k_ => ((fun _ => True)) k_ ∧ some k_ ≠ (u12 : Value).ownBlock) (Kd.R_apart' (HO2.out) (Kd.S_typed HO.out) (by decide)) (fun k_ hk => ⟨trivial, hk.2⟩))).1 k_ hk_.symm) ?aF ?aO ?aB ?aS ?aL ?_; (case aP => exact Kd.M_row (Kd.R_mono (Kd.R_tight rfl (Kd.R_mono (ok' := fun k_ => ((fun _ => True)) k_ ∧ some k_ ≠ (u12 : Value).ownBlock) (Kd.R_apart' (HO2.out) (Kd.S_typed HO.out) (by decide)) (fun k_ hk => ⟨trivial, hk.2⟩))) (fun _ h_ => h_))); (case aB => exact HB.out); (case aF => exact (fun _ _ => trivial)); (case aO => exact (by (with_reducible repeat (first | apply Kd.S_alloc | apply Kd.S_drewN | apply Kd.S_drew)); exact Kd.S_mono HO.out (fun k_ hk => ⟨trivial, fun e_ => hk.2 e_⟩))); (case aS => exact (below_size HB.out)); (case aL => have := LM.out; omega); intro v5_ w3 ho hb hg hat; have HB3 := Aside0.mk hb; have HO3 := Aside0.mk ho; clear HO HO2 hb ho hg hat))
        go_roundg k1
        case measure => have := HK1.out; omega
        case rel => exact ⟨x3 ++ [t1], wrap64 (x9 + 1), rfl, H', ⟨by have := HK1.out; omega⟩, ⟨by (with_reducible repeat (first | apply Kd.S_alloc | apply Kd.S_drewN | apply Kd.S_drew)); exact HO3.out⟩, ⟨by (with_reducible repeat (first | exact HB3.out | apply below_alloc | apply pw_below_drewN | apply below_drew1)) <;> first | exact HB3.out | exact Nat.le_refl _⟩⟩
      rw [if_neg q4] at H
      have c4b : decide (x9 < (l1.length : Int)) = false := decide_eq_false q4
      obtain rfl := Option.some.inj H
      clear H HK1 HR1 HC1
      obtain ⟨g, cs, rfl, _⟩ := Kd.S_form HO.out (Nat.lt_of_le_of_lt (Nat.zero_le _) HPT.out.1)
      have hpi : (p : Int) < (x3.length : Int) := by have := HPT.out.1; omega
      have hp0 : (0 : Int) ≤ (p : Int) := by omega
      have ht0 : (0 : Int) ≤ (t : Int) := by omega
      have hti : (t : Int) < (row.length : Int) := by have := HTR.out; omega
      obtain ⟨gr, cr, hx0, hx1, hx2, hx3, hx4, hx5, hx6⟩ := S2_at HO.out HPT.out.1 HPT.out.2
      rw [HROW.out] at hx0 hx1
      have HX6 := Aside0.mk hx6
      have HX5 := Aside0.mk hx5
      clear hx3 hx4 hx5 hx6
      have hst := HX.out
      clear HX
      by_cases hneg : rd row (t : Int) < 0
      case' pos => rw [if_pos hneg] at hst; have hnegb : decide (rd row (t : Int) < 0) = true := decide_eq_true hneg
      case' neg => rw [if_neg hneg] at hst; have hnegb : decide (rd row (t : Int) < 0) = false := decide_eq_false hneg
      all_goals
        clear hneg
        have hbs0 : ∀ u, (wr.setCell ⟨gr, t, none⟩ u).heap[B]? = some (.cells #[.int .i64 a, .int .i64 b, .int .i64 c, .slice A3 l3.length c3, .slice A4 l4.length c4] 27 (0, 0)) := fun u => blk_far (blk_below BK.out HB.out) (fun e_ => by have := HX5.out; have := HGB.out; simp only at e_; omega) u
        have hs0_ : ∀ u, (wr.setCell ⟨gr, t, none⟩ u).cell? ⟨B, 0, none⟩ = some (.int .i64 a) := fun u => (blk_cell (hbs0 u) 0).trans rfl
        have hs1_ : ∀ u, (wr.setCell ⟨gr, t, none⟩ u).cell? ⟨B, 1, none⟩ = some (.int .i64 b) := fun u => (blk_cell (hbs0 u) 1).trans rfl
        have hs2_ : ∀ u, (wr.setCell ⟨gr, t, none⟩ u).cell? ⟨B, 2, none⟩ = some (.int .i64 c) := fun u => (blk_cell (hbs0 u) 2).trans rfl
        have hs3_ : ∀ u, (wr.setCell ⟨gr, t, none⟩ u).cell? ⟨B, 3, none⟩ = some (.slice A3 l3.length c3) := fun u => (blk_cell (hbs0 u) 3).trans rfl
        have hs4_ : ∀ u, (wr.setCell ⟨gr, t, none⟩ u).cell? ⟨B, 4, none⟩ = some (.slice A4 l4.length c4) := fun u => (blk_cell (hbs0 u) 4).trans rfl
        clear hbs0
        go_wp2_with (fail)
        go_at_call 70
        rw [← hst]
        refine calls_at (fun W_ => Below w1.heap.size w1 W_ ∧ Kd.S (Kd.slice 3 (Kd.int .i64)) 22 W_ w1.heap.size (fun _ => True) (.slice (some ⟨g, 0, none⟩) x3.length cs) (set2 x3 p t x)) ⟨below_set HB.out HX5.out, HX6.out wr x rfl⟩ (fun w3 hW_ => ?_)
        clear hs0_ hs1_ hs2_ hs3_ hs4_ hx0 hx1 hx2
        replace HB := Aside0.mk hW_.1
        replace HO := Aside0.mk hW_.2
        clear hW_ HX6 HX5
        refine (spec_trSquare.calls a b c _ _ l3 _ _ l4 (p : Int) x q _ (Kd.C_below HR3.out HB.out) HC3.out (Kd.C_below HR4.out HB.out) HC4.out G2.out).mono ?_
        rintro e w4 ⟨rfl, hb⟩
        replace HO : Aside0 (Kd.S (Kd.slice 3 (Kd.int .i64)) 22 w4 w1.heap.size (fun _ => True) (.slice (some ⟨g, 0, none⟩) x3.length cs) (set2 x3 p t x)) := ⟨Kd.S_below HO.out hb⟩
        replace HB : Aside0 (Below w1.heap.size w1 w4) := ⟨below_step HB.out hb⟩
        clear hb
        have hbk_ := blk_below BK.out HB.out
        have hb0_ : w4.cell? ⟨B, 0, none⟩ = some (.int .i64 a) := (blk_cell hbk_ 0).trans rfl
        have hb0_d : w4.drew.cell? ⟨B, 0, none⟩ = some (.int .i64 a) := hb0_
        have hb0_n : ∀ q_, (w4.drewN q_).cell? ⟨B, 0, none⟩ = some (.int .i64 a) := fun _ => hb0_
        have hb1_ : w4.cell? ⟨B, 1, none⟩ = some (.int .i64 b) := (blk_cell hbk_ 1).trans rfl
        have hb1_d : w4.drew.cell? ⟨B, 1, none⟩ = some (.int .i64 b) := hb1_
        have hb1_n : ∀ q_, (w4.drewN q_).cell? ⟨B, 1, none⟩ = some (.int .i64 b) := fun _ => hb1_
        have hb2_ : w4.cell? ⟨B, 2, none⟩ = some (.int .i64 c) := (blk_cell hbk_ 2).trans rfl
        have hb2_d : w4.drew.cell? ⟨B, 2, none⟩ = some (.int .i64 c) := hb2_
        have hb2_n : ∀ q_, (w4.drewN q_).cell? ⟨B, 2, none⟩ = some (.int .i64 c) := fun _ => hb2_
        have hb3_ : w4.cell? ⟨B, 3, none⟩ = some (.slice A3 l3.length c3) := (blk_cell hbk_ 3).trans rfl
        have hb3_d : w4.drew.cell? ⟨B, 3, none⟩ = some (.slice A3 l3.length c3) := hb3_
        have hb3_n : ∀ q_, (w4.drewN q_).cell? ⟨B, 3, none⟩ = some (.slice A3 l3.length c3) := fun _ => hb3_
        have hb4_ : w4.cell? ⟨B, 4, none⟩ = some (.slice A4 l4.length c4) := (blk_cell hbk_ 4).trans rfl
        have hb4_d : w4.drew.cell? ⟨B, 4, none⟩ = some (.slice A4 l4.length c4) := hb4_
        have hb4_n : ∀ q_, (w4.drewN q_).cell? ⟨B, 4, none⟩ = some (.slice A4 l4.length c4) := fun _ => hb4_
        clear hbk_
        go_wp2_with (fail)
        go_at_call 100
        clear hb0_ hb0_d hb0_n hb1_ hb1_d hb1_n hb2_ hb2_d hb2_n hb3_ hb3_d hb3_n hb4_ hb4_d hb4_n
        refine calls_at (fun W_ => Below w4.heap.size w4 W_) (by (with_reducible repeat (first | exact Below.refl _ _ | apply below_alloc | apply pw_below_drewN | apply below_drew1)) <;> first | exact Below.refl _ _ | exact Nat.le_refl _) (fun W_ hW_ => ?_)
        refine (spec_l1Has.calls k _ _ l4 q true _ (Kd.C_below HR4.out (below_step HB.out hW_)) HC4.out G3.out).mono ?_
        rintro e w5 ⟨rfl, hd⟩
        have hb := below_step hW_ hd.below
        replace HO : Aside0 (Kd.S (Kd.slice 3 (Kd.int .i64)) 22 w5 w1.heap.size (fun _ => True) (.slice (some ⟨g, 0, none⟩) x3.length cs) (set2 x3 p t x)) := ⟨Kd.S_below HO.out hb⟩
        replace HB : Aside0 (Below w1.heap.size w1 w5) := ⟨below_step HB.out hb⟩
        clear hb hW_ hd
        go_wp2
        go_ret2
        exact ⟨_, rfl, Kd.S_lower HO.out HW1.out.size, below_step HW1.out HB.out⟩

set_option maxHeartbeats 8000000 in
set_option maxRecDepth 100000 in
theorem trGo_send (k : Nat) (a b c : Int) (A3 : Option Addr) (c3 : Nat) (l3 : List Int) (A4 : Option Addr) (c4 : Nat) (l4 : List Int) (A1 : Option Addr) (c1 : Nat) (l1 : List (List Int)) (p t : Nat) (f : Int) (s : List (List Int)) (w : World) (hr3 : Kd.C (Kd.int .i64) w A3 l3.length l3) (hc3 : l3.length ≤ c3) (hr4 : Kd.C (Kd.int .i64) w A4 l4.length l4) (hc4 : l4.length ≤ c4) (hr1 : Kd.C (Kd.slice 3 (Kd.int .i64)) w A1 l1.length l1) (hc1 : l1.length ≤ c1)
    (hcp : spec_trGo.l0 k ([] : List (List Int)) l1 (l1.length : Int) 0 = some s) (hp : p < s.length) (row : List Int) (hrow : s.getD p [] = row) (ht : t < row.length) (x : Int) (hx : x = if rd row (t : Int) < 0 then 0 else wrap64 (rd row (t : Int) + f)) (q : Int) (g2 : spec_trSquare.f a b c l3 l4 (p : Int) x = some q) (hq : ¬ q < 0) (g3 : spec_l1Has.f k l4 q = some false) (toks : List (List Int)) (n' : Int) (s' : List (List Int)) (g4 : spec_trAt.f k a b c l3 l4 (set2 s p t x) q = some toks) (g5 : sendL (p : Int) toks 0 (set2 s p t x) = some (n', s')) :
    Calls Try.prog 95 #[.agg #[.int .i64 a, .int .i64 b, .int .i64 c, .slice A3 l3.length c3, .slice A4 l4.length c4], .slice A1 l1.length c1, .int .i64 (p : Int), .int .i64 (t : Int), .int .i64 f] w fun e w' => ∃ v0_ : Value, e = .returned (.tuple #[v0_, .int .i64 n']) ∧ Kd.S (Kd.slice 3 (Kd.int .i64)) 22 w' w.heap.size (fun _ => True) v0_ s' ∧ Below w.heap.size w w' := by
  have hqb : decide (q < 0) = false := decide_eq_false hq
  have G3 := Aside0.mk g3
  have G4 := Aside0.mk g4
  have G5 := Aside0.mk g5
  clear hq g3 g4 g5
  have hu27 := Try.underlying27
  have HR3 := Aside0.mk hr3
  have HC3 := Aside0.mk hc3
  have HR4 := Aside0.mk hr4
  have HC4 := Aside0.mk hc4
  have HR1 := Aside0.mk hr1
  have HC1 := Aside0.mk hc1
  have HCP := Aside0.mk hcp
  have HX := Aside0.mk hx
  have G2 := Aside0.mk g2
  have HROW := Aside0.mk hrow
  have HPT := Aside0.mk (And.intro hp (show t < (s.getD p []).length by rw [hrow]; exact ht))
  have HTR := Aside0.mk ht
  clear hr3 hc3 hr4 hc4 hr1 hc1 hcp hx g2 hrow hp ht
  go_enter Try.func95, Try.ntmps95
  go_wp2_with ((with_reducible refine gate_dst (N := 5) rfl ?_); refine box_event ?hg (N := 5) ?hd (cs := #[.int .i64 a, .int .i64 b, .int .i64 c, .slice A3 l3.length c3, .slice A4 l4.length c4]) (t := 27) ?hr ?_; (case hd => rfl); (case hg => rfl); (case hr => first | (go_simp; done) | (go_simp; rfl)); intro B hgb_ w1 hbox hb; have BK := Aside0.mk hbox; have HW1 : Aside0 (Below w.heap.size w w1) := ⟨hb⟩; have HGB := Aside0.mk (show B < w1.heap.size from blk_lt hbox); clear hb hbox hgb_)
  replace HR3 := Aside0.mk (Kd.C_below HR3.out HW1.out)
  replace HR4 := Aside0.mk (Kd.C_below HR4.out HW1.out)
  replace HR1 := Aside0.mk (Kd.C_below HR1.out HW1.out)
  go_loopg [12, 22] k (fun kq v12_ v22 wr => ∃ (x3 : List (List Int)) (x9 : Int), v22 = .int .i64 x9 ∧ Aside0 (spec_trGo.l0 kq x3 l1 (l1.length : Int) x9 = some s) ∧ Aside0 (kq ≤ k) ∧ Aside0 (Kd.S (Kd.slice 3 (Kd.int .i64)) 22 wr w1.heap.size (fun _ => True) v12_ x3) ∧ Aside0 (Below w1.heap.size w1 wr))
  case atStart => exact ⟨[], 0, rfl, HCP, ⟨Nat.le_refl _⟩, ⟨Kd.S_nil _ _ _ _ _⟩, ⟨Below.refl _ _⟩⟩
  case round =>
    clear HCP
    obtain ⟨x3, x9, rfl, HA, HK1, HO, HB⟩ := hrel
    cases gk with
    | zero => exact absurd HA.out (by simp [spec_trGo.l0])
    | succ k1 =>
      have H := HA.out
      clear HA
      simp only [spec_trGo.l0] at H
      by_cases q4 : x9 < (l1.length : Int)
      case pos =>
        rw [if_pos q4] at H
        by_cases q5 : 0 ≤ x9
        case neg => rw [if_neg q5] at H; cases H
        rw [if_pos q5, if_pos q4] at H
        obtain ⟨t1, g1, H⟩ := Option.bind_eq_some_iff.1 H
        have GT := Aside0.mk g1
        clear g1
        by_cases q8 : x3.length < 5864062014805
        case neg => rw [if_neg q8] at H; cases H
        rw [if_pos q8] at H
        have LM := Aside0.mk q8
        have H' := Aside0.mk H
        clear H q8
        have c4b : decide (x9 < (l1.length : Int)) = true := decide_eq_true q4
        have c5b : decide (0 ≤ x9) = true := decide_eq_true q5
        obtain ⟨ad7, A7, c7, e7, hx7, hl7, hi7⟩ := at_L1 HR1.out x9 q5 q4
        cases e7
        replace hx7 := (HB.out.cell (World.block_lt_of_cell? w1 _ hx7)).trans hx7
        have HI7 := Aside0.mk hi7
        have HL7 := Aside0.mk hl7
        clear hi7 hl7
        replace q4 := eq_true q4
        replace q5 := eq_true q5
        go_wp2_with (first | (go_at_call 106; refine calls_at (fun W_ => Below w1.heap.size w1 W_ ∧ Kd.S (Kd.slice 3 (Kd.int .i64)) 22 W_ w1.heap.size (fun _ => True) u12 x3) ⟨by (with_reducible repeat (first | exact HB.out | apply below_alloc | apply pw_below_drewN | apply below_drew1)) <;> first | exact HB.out | exact Nat.le_refl _, by (with_reducible repeat (first | apply Kd.S_alloc | apply Kd.S_drewN | apply Kd.S_drew)); exact HO.out⟩ (fun W_ hW_ => ?_); (with_reducible refine (spec_l1Own.calls _ _ (rd_L1 l1 x9) t1 _ (Kd.C_below HI7.out hW_.1) HL7.out GT.out).mono ?_); rintro e w2 ⟨v4_, rfl, ho0, hb⟩; replace HO := Aside0.mk (Kd.S_elder' hW_.2 (Kd.R_base ho0) hb); have HO2 := Aside0.mk (Kd.R_lower ho0 (below_size hW_.1)); replace HB := Aside0.mk (below_step hW_.1 hb); clear hb ho0 hW_; obtain ⟨Ao, co, eo⟩ := Kd.R_slice HO2.out; subst eo) | ((with_reducible refine gate_builtin (b := .append) (xs := #[.tmp 26, .tmp 29]) rfl ?_); at_builtin; refine Kd.S_append (Kd.slice 3 (Kd.int .i64)) (w0 := w1) w1.heap.size rfl (.tmp 26) (.tmp 29) 34 22 (.slice none 0 0) 24 rfl Try.underlying34 info22 rfl (by decide) (by omega) u12 x3 t1 [.slice Ao t1.length co] (fun _ => True) (fun k_ => some k_ = (.slice Ao t1.length co : Value).ownBlock) rfl rfl ?aP (fun k_ hk_ => ((Kd.R_mono (ok' := fun k_ => ((fun _ => True)) k_ ∧ some k_ ≠ (u12 : Value).ownBlock) (Kd.R_apart' (HO2.out) (Kd.S_typed HO.out) (by decide)) (fun k_ hk => ⟨trivial, hk.2⟩))).1 k_ hk_.symm) ?aF ?aO ?aB ?aS ?aL ?_; (case aP => exact Kd.M_row (Kd.R_mono (Kd.R_tight rfl (Kd.R_mono (ok' := fun k_ => ((fun _ => True)) k_ ∧ some k_ ≠ (u12 : Value).ownBlock) (Kd.R_apart' (HO2.out) (Kd.S_typed HO.out) (by decide)) (fun k_ hk => ⟨trivial, hk.2⟩))) (fun _ h_ => h_))); (case aB => exact HB.out); (case aF => exact (fun _ _ => trivial)); (case aO => exact (by (with_reducible repeat (first | apply Kd.S_alloc | apply Kd.S_drewN | apply Kd.S_drew)); exact Kd.S_mono HO.out (fun k_ hk => ⟨trivial, fun e_ => hk.2 e_⟩))); (case aS => exact (below_size HB.out)); (case aL => have := LM.out; omega); intro v5_ w3 ho hb hg hat; have HB3 := Aside0.mk hb; have HO3 := Aside0.mk ho; clear HO HO2 hb ho hg hat))
        go_roundg k1
        case measure => have := HK1.out; omega
        case rel => exact ⟨x3 ++ [t1], wrap64 (x9 + 1), rfl, H', ⟨by have := HK1.out; omega⟩, ⟨by (with_reducible repeat (first | apply Kd.S_alloc | apply Kd.S_drewN | apply Kd.S_drew)); exact HO3.out⟩, ⟨by (with_reducible repeat (first | exact HB3.out | apply below_alloc | apply pw_below_drewN | apply below_drew1)) <;> first | exact HB3.out | exact Nat.le_refl _⟩⟩
      rw [if_neg q4] at H
      have c4b : decide (x9 < (l1.length : Int)) = false := decide_eq_false q4
      obtain rfl := Option.some.inj H
      clear H HK1 HR1 HC1
      obtain ⟨g, cs, rfl, _⟩ := Kd.S_form HO.out (Nat.lt_of_le_of_lt (Nat.zero_le _) HPT.out.1)
      have hpi : (p : Int) < (x3.length : Int) := by have := HPT.out.1; omega
      have hp0 : (0 : Int) ≤ (p : Int) := by omega
      have ht0 : (0 : Int) ≤ (t : Int) := by omega
      have hti : (t : Int) < (row.length : Int) := by have := HTR.out; omega
      obtain ⟨gr, cr, hx0, hx1, hx2, hx3, hx4, hx5, hx6⟩ := S2_at HO.out HPT.out.1 HPT.out.2
      rw [HROW.out] at hx0 hx1
      have HX6 := Aside0.mk hx6
      have HX5 := Aside0.mk hx5
      clear hx3 hx4 hx5 hx6
      have hst := HX.out
      clear HX
      by_cases hneg : rd row (t : Int) < 0
      case' pos => rw [if_pos hneg] at hst; have hnegb : decide (rd row (t : Int) < 0) = true := decide_eq_true hneg
      case' neg => rw [if_neg hneg] at hst; have hnegb : decide (rd row (t : Int) < 0) = false := decide_eq_false hneg
      all_goals
        clear hneg
        have hbs0 : ∀ u, (wr.setCell ⟨gr, t, none⟩ u).heap[B]? = some (.cells #[.int .i64 a, .int .i64 b, .int .i64 c, .slice A3 l3.length c3, .slice A4 l4.length c4] 27 (0, 0)) := fun u => blk_far (blk_below BK.out HB.out) (fun e_ => by have := HX5.out; have := HGB.out; simp only at e_; omega) u
        have hs0_ : ∀ u, (wr.setCell ⟨gr, t, none⟩ u).cell? ⟨B, 0, none⟩ = some (.int .i64 a) := fun u => (blk_cell (hbs0 u) 0).trans rfl
        have hs1_ : ∀ u, (wr.setCell ⟨gr, t, none⟩ u).cell? ⟨B, 1, none⟩ = some (.int .i64 b) := fun u => (blk_cell (hbs0 u) 1).trans rfl
        have hs2_ : ∀ u, (wr.setCell ⟨gr, t, none⟩ u).cell? ⟨B, 2, none⟩ = some (.int .i64 c) := fun u => (blk_cell (hbs0 u) 2).trans rfl
        have hs3_ : ∀ u, (wr.setCell ⟨gr, t, none⟩ u).cell? ⟨B, 3, none⟩ = some (.slice A3 l3.length c3) := fun u => (blk_cell (hbs0 u) 3).trans rfl
        have hs4_ : ∀ u, (wr.setCell ⟨gr, t, none⟩ u).cell? ⟨B, 4, none⟩ = some (.slice A4 l4.length c4) := fun u => (blk_cell (hbs0 u) 4).trans rfl
        clear hbs0
        go_wp2_with (fail)
        go_at_call 70
        rw [← hst]
        refine calls_at (fun W_ => Below w1.heap.size w1 W_ ∧ Kd.S (Kd.slice 3 (Kd.int .i64)) 22 W_ w1.heap.size (fun _ => True) (.slice (some ⟨g, 0, none⟩) x3.length cs) (set2 x3 p t x)) ⟨below_set HB.out HX5.out, HX6.out wr x rfl⟩ (fun w3 hW_ => ?_)
        clear hs0_ hs1_ hs2_ hs3_ hs4_ hx0 hx1 hx2
        replace HB := Aside0.mk hW_.1
        replace HO := Aside0.mk hW_.2
        clear hW_ HX6 HX5
        refine (spec_trSquare.calls a b c _ _ l3 _ _ l4 (p : Int) x q _ (Kd.C_below HR3.out HB.out) HC3.out (Kd.C_below HR4.out HB.out) HC4.out G2.out).mono ?_
        rintro e w4 ⟨rfl, hb⟩
        replace HO : Aside0 (Kd.S (Kd.slice 3 (Kd.int .i64)) 22 w4 w1.heap.size (fun _ => True) (.slice (some ⟨g, 0, none⟩) x3.length cs) (set2 x3 p t x)) := ⟨Kd.S_below HO.out hb⟩
        replace HB : Aside0 (Below w1.heap.size w1 w4) := ⟨below_step HB.out hb⟩
        clear hb
        have hbk_ := blk_below BK.out HB.out
        have hb0_ : w4.cell? ⟨B, 0, none⟩ = some (.int .i64 a) := (blk_cell hbk_ 0).trans rfl
        have hb0_d : w4.drew.cell? ⟨B, 0, none⟩ = some (.int .i64 a) := hb0_
        have hb0_n : ∀ q_, (w4.drewN q_).cell? ⟨B, 0, none⟩ = some (.int .i64 a) := fun _ => hb0_
        have hb1_ : w4.cell? ⟨B, 1, none⟩ = some (.int .i64 b) := (blk_cell hbk_ 1).trans rfl
        have hb1_d : w4.drew.cell? ⟨B, 1, none⟩ = some (.int .i64 b) := hb1_
        have hb1_n : ∀ q_, (w4.drewN q_).cell? ⟨B, 1, none⟩ = some (.int .i64 b) := fun _ => hb1_
        have hb2_ : w4.cell? ⟨B, 2, none⟩ = some (.int .i64 c) := (blk_cell hbk_ 2).trans rfl
        have hb2_d : w4.drew.cell? ⟨B, 2, none⟩ = some (.int .i64 c) := hb2_
        have hb2_n : ∀ q_, (w4.drewN q_).cell? ⟨B, 2, none⟩ = some (.int .i64 c) := fun _ => hb2_
        have hb3_ : w4.cell? ⟨B, 3, none⟩ = some (.slice A3 l3.length c3) := (blk_cell hbk_ 3).trans rfl
        have hb3_d : w4.drew.cell? ⟨B, 3, none⟩ = some (.slice A3 l3.length c3) := hb3_
        have hb3_n : ∀ q_, (w4.drewN q_).cell? ⟨B, 3, none⟩ = some (.slice A3 l3.length c3) := fun _ => hb3_
        have hb4_ : w4.cell? ⟨B, 4, none⟩ = some (.slice A4 l4.length c4) := (blk_cell hbk_ 4).trans rfl
        have hb4_d : w4.drew.cell? ⟨B, 4, none⟩ = some (.slice A4 l4.length c4) := hb4_
        have hb4_n : ∀ q_, (w4.drewN q_).cell? ⟨B, 4, none⟩ = some (.slice A4 l4.length c4) := fun _ => hb4_
        clear hbk_
        go_wp2_with (fail)
        go_at_call 100
        clear hb0_ hb0_d hb0_n hb1_ hb1_d hb1_n hb2_ hb2_d hb2_n hb3_ hb3_d hb3_n hb4_ hb4_d hb4_n
        refine calls_at (fun W_ => Below w4.heap.size w4 W_) (by (with_reducible repeat (first | exact Below.refl _ _ | apply below_alloc | apply pw_below_drewN | apply below_drew1)) <;> first | exact Below.refl _ _ | exact Nat.le_refl _) (fun W_ hW_ => ?_)
        refine (spec_l1Has.calls k _ _ l4 q false _ (Kd.C_below HR4.out (below_step HB.out hW_)) HC4.out G3.out).mono ?_
        rintro e w5 ⟨rfl, hd⟩
        have hb := below_step hW_ hd.below
        replace HO : Aside0 (Kd.S (Kd.slice 3 (Kd.int .i64)) 22 w5 w1.heap.size (fun _ => True) (.slice (some ⟨g, 0, none⟩) x3.length cs) (set2 x3 p t x)) := ⟨Kd.S_below HO.out hb⟩
        replace HB : Aside0 (Below w1.heap.size w1 w5) := ⟨below_step HB.out hb⟩
        clear hb hW_ hd
        have hbk_ := blk_below BK.out HB.out
        have hb0_ : w5.cell? ⟨B, 0, none⟩ = some (.int .i64 a) := (blk_cell hbk_ 0).trans rfl
        have hb0_d : w5.drew.cell? ⟨B, 0, none⟩ = some (.int .i64 a) := hb0_
        have hb0_n : ∀ q_, (w5.drewN q_).cell? ⟨B, 0, none⟩ = some (.int .i64 a) := fun _ => hb0_
        have hb1_ : w5.cell? ⟨B, 1, none⟩ = some (.int .i64 b) := (blk_cell hbk_ 1).trans rfl
        have hb1_d : w5.drew.cell? ⟨B, 1, none⟩ = some (.int .i64 b) := hb1_
        have hb1_n : ∀ q_, (w5.drewN q_).cell? ⟨B, 1, none⟩ = some (.int .i64 b) := fun _ => hb1_
        have hb2_ : w5.cell? ⟨B, 2, none⟩ = some (.int .i64 c) := (blk_cell hbk_ 2).trans rfl
        have hb2_d : w5.drew.cell? ⟨B, 2, none⟩ = some (.int .i64 c) := hb2_
        have hb2_n : ∀ q_, (w5.drewN q_).cell? ⟨B, 2, none⟩ = some (.int .i64 c) := fun _ => hb2_
        have hb3_ : w5.cell? ⟨B, 3, none⟩ = some (.slice A3 l3.length c3) := (blk_cell hbk_ 3).trans rfl
        have hb3_d : w5.drew.cell? ⟨B, 3, none⟩ = some (.slice A3 l3.length c3) := hb3_
        have hb3_n : ∀ q_, (w5.drewN q_).cell? ⟨B, 3, none⟩ = some (.slice A3 l3.length c3) := fun _ => hb3_
        have hb4_ : w5.cell? ⟨B, 4, none⟩ = some (.slice A4 l4.length c4) := (blk_cell hbk_ 4).trans rfl
        have hb4_d : w5.drew.cell? ⟨B, 4, none⟩ = some (.slice A4 l4.length c4) := hb4_
        have hb4_n : ∀ q_, (w5.drewN q_).cell? ⟨B, 4, none⟩ = some (.slice A4 l4.length c4) := fun _ => hb4_
        clear hbk_
        go_wp2_with (fail)
        go_at_call 85
        clear hb0_ hb0_d hb0_n hb1_ hb1_d hb1_n hb2_ hb2_d hb2_n hb3_ hb3_d hb3_n hb4_ hb4_d hb4_n
        refine calls_args (args' := #[.agg #[.int .i64 a, .int .i64 b, .int .i64 c, .slice A3 l3.length c3, .slice A4 l4.length c4], .slice (some ⟨g, 0, none⟩) (set2 x3 p t x).length cs, .int .i64 q]) (by rw [set2_length]) ?_
        refine calls_at (fun W_ => Below w5.heap.size w5 W_) (by (with_reducible repeat (first | exact Below.refl _ _ | apply below_alloc | apply pw_below_drewN | apply below_drew1)) <;> first | exact Below.refl _ _ | exact Nat.le_refl _) (fun W_ hW_ => ?_)
        refine (spec_trAt.calls k a b c _ _ l3 _ _ l4 _ _ (set2 x3 p t x) q toks _ (Kd.C_below HR3.out (below_step HB.out hW_)) HC3.out (Kd.C_below HR4.out (below_step HB.out hW_)) HC4.out (Kd.C_below (Kd.S_reads' HO.out).2.2 hW_) (by rw [set2_length]; exact (Kd.S_reads' HO.out).2.1) G4.out).mono ?_
        rintro e w6 ⟨v_, rfl, hto, hb0⟩
        have hb := below_step hW_ hb0
        obtain ⟨At, ct, e_⟩ := Kd.S_slice hto; subst e_
        have HF : Aside0 (Kd.F (Kd.slice 3 (Kd.int .i64)) w6 (fun k_ => w5.heap.size ≤ k_) At toks.length toks) := ⟨Kd.S_F (Kd.S_mono (Kd.S_bound hto) (fun k_ hk_ => Nat.le_trans hW_.size hk_.2.1))⟩
        replace HO : Aside0 (Kd.S (Kd.slice 3 (Kd.int .i64)) 22 w6 w1.heap.size (fun k_ => True ∧ k_ < w5.heap.size) (.slice (some ⟨g, 0, none⟩) x3.length cs) (set2 x3 p t x)) := ⟨Kd.S_below (Kd.S_mono (Kd.S_bound HO.out) (fun k_ hk_ => ⟨trivial, hk_.2.2.1⟩)) hb⟩
        replace HB : Aside0 (Below w1.heap.size w1 w6) := ⟨below_step HB.out hb⟩
        clear hb hb0 hW_ hto BK
        have hbig : toks.length ≤ 9223372036854775807 := (Kd.F_now HF.out).2.1
        go_wp2
        go_loopg [16, 69] toks.length (fun gg v15 v56 wr => ∃ (i : Nat) (n : Int) (st : List (List Int)), i ≤ toks.length ∧ toks.length - i ≤ gg ∧ v15 = .int .i64 n ∧ v56 = .int .i64 i ∧ Aside0 (sendL (p : Int) (toks.drop i) n st = some (n', s')) ∧ Aside0 (Kd.S (Kd.slice 3 (Kd.int .i64)) 22 wr w1.heap.size (fun k_ => True ∧ k_ < w5.heap.size) (.slice (some ⟨g, 0, none⟩) x3.length cs) st) ∧ Aside0 (Kd.F (Kd.slice 3 (Kd.int .i64)) wr (fun k_ => w5.heap.size ≤ k_) At toks.length toks) ∧ Aside0 (Below w1.heap.size w1 wr))
        case atStart => exact ⟨0, 0, set2 x3 p t x, Nat.zero_le _, by omega, rfl, rfl, ⟨by rw [List.drop_zero]; exact G5.out⟩, HO, HF, HB⟩
        case round =>
          clear HO HF HB
          obtain ⟨i, n, st, hi, hgg, rfl, rfl, HS, HO, HF, HB⟩ := hrel
          by_cases hlt : i < toks.length
          case neg =>
            have hin : i = toks.length := by omega
            subst hin
            have hlti : ¬ (toks.length : Int) < (toks.length : Int) := by omega
            have h5 := HS.out
            rw [List.drop_of_length_le (Nat.le_refl _)] at h5
            simp only [sendL, Option.some.injEq, Prod.mk.injEq] at h5
            obtain ⟨rfl, rfl⟩ := h5
            clear HS hlt
            go_wp2
            go_ret2
            exact ⟨_, rfl, Kd.S_mono (Kd.S_lower HO.out HW1.out.size) (fun _ _ => trivial), below_step HW1.out HB.out⟩
          have hlti : (i : Int) < (toks.length : Int) := by omega
          have hi0 : (0 : Int) ≤ (i : Int) := by omega
          have HI := Aside0.mk hlt
          obtain ⟨ad, A0, c0, hA, hcell, hle, hC⟩ := at_L1 (Kd.F_now HF.out) (i : Int) hi0 hlti
          subst hA
          have hone : rd_L1 toks (i : Int) = toks[i] := by simp [rd_L1, rdOf, hlt]
          rw [Int.toNat_natCast] at hcell
          have hs := HS.out
          rw [List.drop_eq_getElem_cons hlt] at hs
          rw [hone] at hcell hle hC
          generalize toks[i] = one at hs hcell hle hC
          clear hone hle hlt
          unfold sendL at hs
          split at hs
          case isFalse => cases hs
          rename_i h2
          obtain ⟨ad1, e1, hx0⟩ := Kd.at_int hC 0 (by omega) (by omega)
          obtain ⟨ad2, e2, hx1⟩ := Kd.at_int hC 1 (by omega) (by omega)
          subst e1; cases e2
          obtain ⟨bk, of, sp⟩ := ad1
          have hx0' : wr.cell? ⟨bk, of, sp⟩ = some (.int .i64 (rd one 0)) := by simpa [Addr.add] using hx0
          have hx1' : wr.cell? (Addr.add ⟨bk, of, sp⟩ 1) = some (.int .i64 (rd one 1)) := hx1
          have hx2' : wr.cell? ⟨bk, of + 1, none⟩ = some (.int .i64 (rd one 1)) := by simpa [Addr.add] using hx1
          have h2i : (0 : Int) < (one.length : Int) := by omega
          have h2j : (1 : Int) < (one.length : Int) := by omega
          generalize rd one 0 = x0 at hs hx0 hx0'
          generalize rd one 1 = x1 at hs hx1 hx1' hx2'
          clear hC hx1 h2
          by_cases he : x0 = (p : Int)
          · subst he
            rw [if_pos rfl] at hs
            have HS2 := Aside0.mk hs
            clear hs HS
            go_wp2
            go_roundg (toks.length - (i + 1))
            case measure => have := HI.out; omega
            case rel => exact ⟨i + 1, n, st, HI.out, by have := HI.out; omega, rfl, by go_num, HS2, HO, HF, HB⟩
          · rw [if_neg he] at hs
            split at hs
            case isFalse => cases hs
            rename_i hbd
            obtain ⟨b1, b2, b3, b4⟩ := hbd
            obtain ⟨qn, rfl⟩ : ∃ qn : Nat, x0 = (qn : Int) := ⟨x0.toNat, by omega⟩
            obtain ⟨jn, rfl⟩ : ∃ jn : Nat, x1 = (jn : Int) := ⟨x1.toNat, by omega⟩
            rw [Int.toNat_natCast] at b4
            simp only [Int.toNat_natCast] at hs
            have HS2 := Aside0.mk hs
            clear hs HS
            have hln := (Kd.S_reads' HO.out).1
            obtain ⟨gr, cr, hy0, hy1, hy2, hy3, hy4, hy5, hy6⟩ := S2_at HO.out (p := qn) (t := jn) (by omega) (by omega)
            have HY3 := Aside0.mk hy3; have HY5 := Aside0.mk hy5; have HY6 := Aside0.mk hy6
            clear hy3 hy4 hy5 hy6
            have hqs : (qn : Int) < (x3.length : Int) := by omega
            clear b2 hln
            generalize st.getD qn [] = row2 at hy0 hy1 b4
            have he1 : ((qn : Int) == (p : Int)) = false := by simpa using he
            have he2 : ((qn : Int) != (p : Int)) = true := by simpa using he
            clear he
            have hx0d : wr.drew.cell? (Addr.add ⟨bk, of, sp⟩ ((0 : Int)).toNat) = some (.int .i64 (qn : Int)) := hx0
            have hx0n : ∀ q_, (wr.drewN q_).cell? (Addr.add ⟨bk, of, sp⟩ ((0 : Int)).toNat) = some (.int .i64 (qn : Int)) := fun _ => hx0
            have hx0'd : wr.drew.cell? ⟨bk, of, sp⟩ = some (.int .i64 (qn : Int)) := hx0'
            have hx0'n : ∀ q_, (wr.drewN q_).cell? ⟨bk, of, sp⟩ = some (.int .i64 (qn : Int)) := fun _ => hx0'
            have hx1'd : wr.drew.cell? (Addr.add ⟨bk, of, sp⟩ 1) = some (.int .i64 (jn : Int)) := hx1'
            have hx1'n : ∀ q_, (wr.drewN q_).cell? (Addr.add ⟨bk, of, sp⟩ 1) = some (.int .i64 (jn : Int)) := fun _ => hx1'
            have hx2'd : wr.drew.cell? ⟨bk, of + 1, none⟩ = some (.int .i64 (jn : Int)) := hx2'
            have hx2'n : ∀ q_, (wr.drewN q_).cell? ⟨bk, of + 1, none⟩ = some (.int .i64 (jn : Int)) := fun _ => hx2'
            have hy0d : wr.drew.cell? ⟨g, qn, none⟩ = some (.slice (some ⟨gr, 0, none⟩) row2.length cr) := hy0
            have hy0n : ∀ q_, (wr.drewN q_).cell? ⟨g, qn, none⟩ = some (.slice (some ⟨gr, 0, none⟩) row2.length cr) := fun _ => hy0
            have hy1d : wr.drew.cell? ⟨gr, jn, none⟩ = some (.int .i64 (rd row2 (jn : Int))) := hy1
            have hy1n : ∀ q_, (wr.drewN q_).cell? ⟨gr, jn, none⟩ = some (.int .i64 (rd row2 (jn : Int))) := fun _ => hy1
            have hy2d : wr.drew.frozen? ⟨gr, jn, none⟩ = false := hy2
            have hy2n : ∀ q_, (wr.drewN q_).frozen? ⟨gr, jn, none⟩ = false := fun _ => hy2
            go_wp2
            go_region_with (fail)
            all_goals
              go_wp2
              go_roundg (toks.length - (i + 1))
              case measure => have := HI.out; omega
              case rel => exact ⟨i + 1, wrap64 (n + 1), set2 st qn jn (-1), HI.out, by have := HI.out; omega, rfl, by go_num, HS2, ⟨by first | exact HY6.out _ _ rfl | exact Kd.S_drew (HY6.out _ _ rfl) | exact Kd.S_drewN (HY6.out _ _ rfl) _⟩, ⟨Kd.F_step HF.out (fun k_ hk_ _ => by first | exact Below.heap_setCell _ _ _ k_ (fun e_ => by have := HY3.out.2; simp only at e_; omega) | rfl)⟩, ⟨by first | exact below_set (pw_below_drewN HB.out _) HY5.out | exact below_set (below_drew1 HB.out) HY5.out | exact below_set HB.out HY5.out | exact below_drew1 (below_set HB.out HY5.out)⟩⟩

theorem spec_trGo.calls (k : Nat) (a b c : Int) (A3 : Option Addr) (c3 : Nat) (l3 : List Int) (A4 : Option Addr) (c4 : Nat) (l4 : List Int) (A1 : Option Addr) (c1 : Nat) (l1 : List (List Int)) (p t f : Int) (r1 : List (List Int)) (r2 : Int) (w : World) (hr3 : Kd.C (Kd.int .i64) w A3 l3.length l3) (hc3 : l3.length ≤ c3) (hr4 : Kd.C (Kd.int .i64) w A4 l4.length l4) (hc4 : l4.length ≤ c4) (hr1 : Kd.C (Kd.slice 3 (Kd.int .i64)) w A1 l1.length l1) (hc1 : l1.length ≤ c1) (h : spec_trGo.f k a b c l3 l4 l1 p t f = some (r1, r2)) :
    Calls Try.prog 95 #[.agg #[.int .i64 a, .int .i64 b, .int .i64 c, .slice A3 l3.length c3, .slice A4 l4.length c4], .slice A1 l1.length c1, .int .i64 p, .int .i64 t, .int .i64 f] w fun e w' => ∃ v0_ : Value, e = .returned (.tuple #[v0_, .int .i64 r2]) ∧ Kd.S (Kd.slice 3 (Kd.int .i64)) 22 w' w.heap.size (fun _ => True) v0_ r1 ∧ Below w.heap.size w w' := by
  unfold spec_trGo.f at h
  obtain ⟨s, g1, h⟩ := Option.bind_eq_some_iff.1 h
  split at h
  case isFalse => cases h
  rename_i hb
  obtain ⟨b1, b2, b3, b4⟩ := hb
  obtain ⟨pn, rfl⟩ : ∃ pn : Nat, p = (pn : Int) := ⟨p.toNat, by omega⟩
  obtain ⟨tn, rfl⟩ : ∃ tn : Nat, t = (tn : Int) := ⟨t.toNat, by omega⟩
  rw [Int.toNat_natCast] at b4
  simp only [Int.toNat_natCast] at h
  have hp : pn < s.length := by omega
  have ht : tn < (s.getD pn []).length := by omega
  obtain ⟨q, g2, h⟩ := Option.bind_eq_some_iff.1 h
  by_cases hq : q < 0
  · rw [if_pos hq] at h
    simp only [Option.some.injEq, Prod.mk.injEq] at h
    obtain ⟨rfl, rfl⟩ := h
    exact trGo_home k a b c A3 c3 l3 A4 c4 l4 A1 c1 l1 pn tn f s w hr3 hc3 hr4 hc4 hr1 hc1 g1 hp _ rfl ht _ rfl q g2 hq
  rw [if_neg hq] at h
  obtain ⟨z, g3, h⟩ := Option.bind_eq_some_iff.1 h
  cases z with
  | true =>
    rw [if_pos rfl] at h
    simp only [Option.some.injEq, Prod.mk.injEq] at h
    obtain ⟨rfl, rfl⟩ := h
    exact trGo_safe k a b c A3 c3 l3 A4 c4 l4 A1 c1 l1 pn tn f s w hr3 hc3 hr4 hc4 hr1 hc1 g1 hp _ rfl ht _ rfl q g2 hq g3
  | false =>
    rw [if_neg (by simp)] at h
    obtain ⟨toks, g4, h⟩ := Option.bind_eq_some_iff.1 h
    obtain ⟨⟨n', s2⟩, g5, h⟩ := Option.bind_eq_some_iff.1 h
    simp only [Option.some.injEq, Prod.mk.injEq] at h
    obtain ⟨rfl, rfl⟩ := h
    exact trGo_send k a b c A3 c3 l3 A4 c4 l4 A1 c1 l1 pn tn f s w hr3 hc3 hr4 hc4 hr1 hc1 g1 hp _ rfl ht _ rfl q g2 hq g3 toks _ _ g4 g5

end Go.Proofs.Ytcppahkdfajcaaa.P
