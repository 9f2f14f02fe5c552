/- Track.goToken: a token goes in rows of rows of the caller's own: what the Go text writes and returns. No condition beyond that the rows are apart. -/
import Derived.Test.YtcppahkdfajcaaaELawKit
import Derived.Deep.RegionWith
import Derived.Test.YtcppahkdfajcaaaP82
import Derived.Test.YtcppahkdfajcaaaP63
import Derived.Test.YtcppahkdfajcaaaP63
import Derived.Test.YtcppahkdfajcaaaP86
import Derived.Test.YtcppahkdfajcaaaP76
import Derived.Test.YtcppahkdfajcaaaP105
import Derived.Test.YtcppahkdfajcaaaP97
namespace Go.Proofs.Ytcppahkdfajcaaa.P
open Go.RowKit Go.Proofs.YtcppahkdfajcaaaW.PrintWords Go.Proofs.YtcppahkdfajcaaaW.PrintLast Go.Proofs.YtcppahkdfajcaaaW.PrintMore
set_option linter.unusedVariables false
set_option linter.unusedSimpArgs false

def impl_Track_goToken.f (k : Nat) (a b c : Int) (l3 l4 : List Int) (s : List (List Int)) (p t f : Int) : Option (Int × Bool × List (List Int)) :=
  if 0 ≤ p ∧ p < (s.length : Int) ∧ 0 ≤ t ∧ t < ((s.getD p.toNat []).length : Int) then
    (impl_Track_goes.f a b c l3 l4 (rd (s.getD p.toNat []) t) f).bind fun x => if x.2 = true then
      (impl_Track_square.f a b c l3 l4 p x.1).bind fun q => if q < 0 then some (0, true, set2 s p.toNat t.toNat x.1) else
        (impl_Track_isSafe.f k a b c l3 l4 q).bind fun z => if z = true then some (0, true, set2 s p.toNat t.toNat x.1) else
          (impl_Track_tokensAt.f k a b c l3 l4 (set2 s p.toNat t.toNat x.1) q).bind fun toks => (sendL p toks 0 (set2 s p.toNat t.toNat x.1)).bind fun r => some (r.1, true, r.2)
      else some (0, false, s)
  else none

set_option maxHeartbeats 4000000 in
set_option maxRecDepth 100000 in
theorem goTok_no (a b c : Int) (A3 : Option Addr) (c3 : Nat) (l3 : List Int) (A4 : Option Addr) (c4 : Nat) (l4 : List Int) (ok : Nat → Prop) (g cs : Nat) (s : List (List Int)) (p t : Nat) (f : Int) (w0 w : World) (hB : Below w0.heap.size w0 w) (hr3 : Kd.C (Kd.int .i64) w0 A3 l3.length l3) (hc3 : l3.length ≤ c3) (hr4 : Kd.C (Kd.int .i64) w0 A4 l4.length l4) (hc4 : l4.length ≤ c4)
    (ho : Kd.S (Kd.slice 3 (Kd.int .i64)) 22 w w0.heap.size ok (.slice (some ⟨g, 0, none⟩) s.length cs) s) (hp : p < s.length) (row : List Int) (hrow : s.getD p [] = row) (ht : t < row.length)
    (x : Int) (g1 : impl_Track_goes.f a b c l3 l4 (rd row (t : Int)) f = some (x, false)) :
    Calls Try.prog 96 #[.agg #[.int .i64 a, .int .i64 b, .int .i64 c, .slice A3 l3.length c3, .slice A4 l4.length c4], .slice (some ⟨g, 0, none⟩) s.length cs, .int .i64 (p : Int), .int .i64 (t : Int), .int .i64 f] w fun e w' => e = .returned (.tuple #[.int .i64 0, .bool false]) ∧ Kd.S (Kd.slice 3 (Kd.int .i64)) 22 w' w0.heap.size ok (.slice (some ⟨g, 0, none⟩) s.length cs) s ∧ Below w0.heap.size w0 w' ∧ Kept w w' ok := by
  obtain ⟨y, hy⟩ : ∃ y, y = false := ⟨_, rfl⟩
  rw [← hy] at g1
  have G1 := Aside0.mk g1
  have HY := Aside0.mk hy
  clear g1 hy
  have hu27 := Try.underlying27
  have HR3 := Aside0.mk hr3
  have HC3 := Aside0.mk hc3
  have HR4 := Aside0.mk hr4
  have HC4 := Aside0.mk hc4
  have HO := Aside0.mk (Kd.S_mono (Kd.S_bound ho) (fun k_ hk_ => (⟨hk_.1, hk_.2.2.1⟩ : ok k_ ∧ k_ < w.heap.size)))
  have HB := Aside0.mk hB
  have HK := Aside0.mk (Kept.refl w ok)
  clear hr3 hc3 hr4 hc4 ho hB
  have hpi : (p : Int) < (s.length : Int) := by omega
  have hp0 : (0 : Int) ≤ (p : Int) := by omega
  have ht0 : (0 : Int) ≤ (t : Int) := by omega
  have hti : (t : Int) < (row.length : Int) := by omega
  have HROW := Aside0.mk hrow
  have HPT := Aside0.mk (And.intro hp (show t < (s.getD p []).length by rw [hrow]; exact ht))
  clear hp ht hrow
  go_enter Try.func96, Try.ntmps96
  go_wp2_with ((with_reducible refine gate_dst (N := 5) rfl ?_); refine box_event ?hg (N := 5) ?hd (cs := #[.int .i64 a, .int .i64 b, .int .i64 c, .slice A3 l3.length c3, .slice A4 l4.length c4]) (t := 27) ?hr ?_; (case hd => rfl); (case hg => rfl); (case hr => first | (go_simp; done) | (go_simp; rfl)); intro B hgb_ w1 hbox hb; have BK := Aside0.mk hbox; have HGB := Aside0.mk (show w.heap.size ≤ B from (by rw [hgb_]; exact Nat.le_refl _)); have hb1 : Below w.heap.size w w1 := hb; clear hb hbox hgb_)
  replace HB : Aside0 (Below w0.heap.size w0 w1) := ⟨below_step HB.out hb1⟩
  replace HO : Aside0 (Kd.S (Kd.slice 3 (Kd.int .i64)) 22 w1 w0.heap.size (fun k_ => ok k_ ∧ k_ < w.heap.size) (.slice (some ⟨g, 0, none⟩) s.length cs) s) := ⟨Kd.S_below HO.out hb1⟩
  replace HK : Aside0 (Kept w w1 ok) := ⟨HK.out.below hb1⟩
  clear hb1
  obtain ⟨gr, cr, hx0, hx1, hx2, hx3, hx4, hx5, hx6⟩ := S2_at HO.out HPT.out.1 HPT.out.2
  clear hx2 hx3 hx4 hx5 hx6
  rw [HROW.out] at hx0 hx1
  have hr_ : w1.cell? ⟨g, p, none⟩ = some (.slice (some ⟨gr, 0, none⟩) row.length cr) := hx0
  have hr_d : w1.drew.cell? ⟨g, p, none⟩ = some (.slice (some ⟨gr, 0, none⟩) row.length cr) := hr_
  have hr_n : ∀ q_, (w1.drewN q_).cell? ⟨g, p, none⟩ = some (.slice (some ⟨gr, 0, none⟩) row.length cr) := fun _ => hr_
  have hn_ : w1.cell? ⟨gr, t, none⟩ = some (.int .i64 (rd row (t : Int))) := hx1
  have hn_d : w1.drew.cell? ⟨gr, t, none⟩ = some (.int .i64 (rd row (t : Int))) := hn_
  have hn_n : ∀ q_, (w1.drewN q_).cell? ⟨gr, t, none⟩ = some (.int .i64 (rd row (t : Int))) := fun _ => hn_
  have hb0_ : w1.cell? ⟨B, 0, none⟩ = some (.int .i64 a) := (blk_cell BK.out 0).trans rfl
  have hb0_d : w1.drew.cell? ⟨B, 0, none⟩ = some (.int .i64 a) := hb0_
  have hb0_n : ∀ q_, (w1.drewN q_).cell? ⟨B, 0, none⟩ = some (.int .i64 a) := fun _ => hb0_
  have hb1_ : w1.cell? ⟨B, 1, none⟩ = some (.int .i64 b) := (blk_cell BK.out 1).trans rfl
  have hb1_d : w1.drew.cell? ⟨B, 1, none⟩ = some (.int .i64 b) := hb1_
  have hb1_n : ∀ q_, (w1.drewN q_).cell? ⟨B, 1, none⟩ = some (.int .i64 b) := fun _ => hb1_
  have hb2_ : w1.cell? ⟨B, 2, none⟩ = some (.int .i64 c) := (blk_cell BK.out 2).trans rfl
  have hb2_d : w1.drew.cell? ⟨B, 2, none⟩ = some (.int .i64 c) := hb2_
  have hb2_n : ∀ q_, (w1.drewN q_).cell? ⟨B, 2, none⟩ = some (.int .i64 c) := fun _ => hb2_
  have hb3_ : w1.cell? ⟨B, 3, none⟩ = some (.slice A3 l3.length c3) := (blk_cell BK.out 3).trans rfl
  have hb3_d : w1.drew.cell? ⟨B, 3, none⟩ = some (.slice A3 l3.length c3) := hb3_
  have hb3_n : ∀ q_, (w1.drewN q_).cell? ⟨B, 3, none⟩ = some (.slice A3 l3.length c3) := fun _ => hb3_
  have hb4_ : w1.cell? ⟨B, 4, none⟩ = some (.slice A4 l4.length c4) := (blk_cell BK.out 4).trans rfl
  have hb4_d : w1.drew.cell? ⟨B, 4, none⟩ = some (.slice A4 l4.length c4) := hb4_
  have hb4_n : ∀ q_, (w1.drewN q_).cell? ⟨B, 4, none⟩ = some (.slice A4 l4.length c4) := fun _ => hb4_
  clear hx0 hx1
  go_region_with (go_at_call 84; refine calls_at (fun W_ => Below w1.heap.size w1 W_) (by repeat (first | (with_reducible first | exact Below.refl _ _ | apply below_alloc | apply pw_below_drewN | apply below_drew1) | exact Below.refl _ _)) (fun W_ hW_ => ?_); refine (impl_Track_goes.calls a b c _ _ l3 _ _ l4 (rd row (t : Int)) f x y _ (Kd.C_below HR3.out (below_step HB.out hW_)) HC3.out (Kd.C_below HR4.out (below_step HB.out hW_)) HC4.out G1.out).mono ?_; rintro e w2 ⟨rfl, hb⟩; have hb2 := below_step hW_ hb; clear hW_ hb)
  all_goals
    clear hr_ hr_d hr_n hn_ hn_d hn_n
    clear hb0_ hb0_d hb0_n hb1_ hb1_d hb1_n hb2_ hb2_d hb2_n hb3_ hb3_d hb3_n hb4_ hb4_d hb4_n
    replace HB : Aside0 (Below w0.heap.size w0 w2) := ⟨below_step HB.out hb2⟩
    replace HO : Aside0 (Kd.S (Kd.slice 3 (Kd.int .i64)) 22 w2 w0.heap.size (fun k_ => ok k_ ∧ k_ < w.heap.size) (.slice (some ⟨g, 0, none⟩) s.length cs) s) := ⟨Kd.S_below HO.out hb2⟩
    replace BK : Aside0 (w2.heap[B]? = some (.cells #[.int .i64 a, .int .i64 b, .int .i64 c, .slice A3 l3.length c3, .slice A4 l4.length c4] 27 (0, 0))) := ⟨blk_below BK.out hb2⟩
    replace HK : Aside0 (Kept w w2 ok) := ⟨HK.out.below hb2⟩
    clear hb2
    rw [HY.out]
    go_wp2
    go_ret2
    exact ⟨rfl, Kd.S_mono HO.out (fun _ hk_ => hk_.1), HB.out, HK.out⟩

set_option maxHeartbeats 4000000 in
set_option maxRecDepth 100000 in
theorem goTok_home (a b c : Int) (A3 : Option Addr) (c3 : Nat) (l3 : List Int) (A4 : Option Addr) (c4 : Nat) (l4 : List Int) (ok : Nat → Prop) (g cs : Nat) (s : List (List Int)) (p t : Nat) (f : Int) (w0 w : World) (hB : Below w0.heap.size w0 w) (hr3 : Kd.C (Kd.int .i64) w0 A3 l3.length l3) (hc3 : l3.length ≤ c3) (hr4 : Kd.C (Kd.int .i64) w0 A4 l4.length l4) (hc4 : l4.length ≤ c4)
    (ho : Kd.S (Kd.slice 3 (Kd.int .i64)) 22 w w0.heap.size ok (.slice (some ⟨g, 0, none⟩) s.length cs) s) (hp : p < s.length) (row : List Int) (hrow : s.getD p [] = row) (ht : t < row.length)
    (x q : Int) (g1 : impl_Track_goes.f a b c l3 l4 (rd row (t : Int)) f = some (x, true)) (g2 : impl_Track_square.f a b c l3 l4 (p : Int) x = some q) (hq : q < 0) :
    Calls Try.prog 96 #[.agg #[.int .i64 a, .int .i64 b, .int .i64 c, .slice A3 l3.length c3, .slice A4 l4.length c4], .slice (some ⟨g, 0, none⟩) s.length cs, .int .i64 (p : Int), .int .i64 (t : Int), .int .i64 f] w fun e w' => e = .returned (.tuple #[.int .i64 0, .bool true]) ∧ Kd.S (Kd.slice 3 (Kd.int .i64)) 22 w' w0.heap.size ok (.slice (some ⟨g, 0, none⟩) s.length cs) (set2 s p t x) ∧ Below w0.heap.size w0 w' ∧ Kept w w' ok := by
  obtain ⟨y, hy⟩ : ∃ y, y = true := ⟨_, rfl⟩
  rw [← hy] at g1
  have G1 := Aside0.mk g1
  have G2 := Aside0.mk g2
  have HY := Aside0.mk hy
  have hqb : decide (q < 0) = true := decide_eq_true hq
  clear g1 g2 hy hq
  have hu27 := Try.underlying27
  have HR3 := Aside0.mk hr3
  have HC3 := Aside0.mk hc3
  have HR4 := Aside0.mk hr4
  have HC4 := Aside0.mk hc4
  have HO := Aside0.mk (Kd.S_mono (Kd.S_bound ho) (fun k_ hk_ => (⟨hk_.1, hk_.2.2.1⟩ : ok k_ ∧ k_ < w.heap.size)))
  have HB := Aside0.mk hB
  have HK := Aside0.mk (Kept.refl w ok)
  clear hr3 hc3 hr4 hc4 ho hB
  have hpi : (p : Int) < (s.length : Int) := by omega
  have hp0 : (0 : Int) ≤ (p : Int) := by omega
  have ht0 : (0 : Int) ≤ (t : Int) := by omega
  have hti : (t : Int) < (row.length : Int) := by omega
  have HROW := Aside0.mk hrow
  have HPT := Aside0.mk (And.intro hp (show t < (s.getD p []).length by rw [hrow]; exact ht))
  clear hp ht hrow
  go_enter Try.func96, Try.ntmps96
  go_wp2_with ((with_reducible refine gate_dst (N := 5) rfl ?_); refine box_event ?hg (N := 5) ?hd (cs := #[.int .i64 a, .int .i64 b, .int .i64 c, .slice A3 l3.length c3, .slice A4 l4.length c4]) (t := 27) ?hr ?_; (case hd => rfl); (case hg => rfl); (case hr => first | (go_simp; done) | (go_simp; rfl)); intro B hgb_ w1 hbox hb; have BK := Aside0.mk hbox; have HGB := Aside0.mk (show w.heap.size ≤ B from (by rw [hgb_]; exact Nat.le_refl _)); have hb1 : Below w.heap.size w w1 := hb; clear hb hbox hgb_)
  replace HB : Aside0 (Below w0.heap.size w0 w1) := ⟨below_step HB.out hb1⟩
  replace HO : Aside0 (Kd.S (Kd.slice 3 (Kd.int .i64)) 22 w1 w0.heap.size (fun k_ => ok k_ ∧ k_ < w.heap.size) (.slice (some ⟨g, 0, none⟩) s.length cs) s) := ⟨Kd.S_below HO.out hb1⟩
  replace HK : Aside0 (Kept w w1 ok) := ⟨HK.out.below hb1⟩
  clear hb1
  obtain ⟨gr, cr, hx0, hx1, hx2, hx3, hx4, hx5, hx6⟩ := S2_at HO.out HPT.out.1 HPT.out.2
  clear hx2 hx3 hx4 hx5 hx6
  rw [HROW.out] at hx0 hx1
  have hr_ : w1.cell? ⟨g, p, none⟩ = some (.slice (some ⟨gr, 0, none⟩) row.length cr) := hx0
  have hr_d : w1.drew.cell? ⟨g, p, none⟩ = some (.slice (some ⟨gr, 0, none⟩) row.length cr) := hr_
  have hr_n : ∀ q_, (w1.drewN q_).cell? ⟨g, p, none⟩ = some (.slice (some ⟨gr, 0, none⟩) row.length cr) := fun _ => hr_
  have hn_ : w1.cell? ⟨gr, t, none⟩ = some (.int .i64 (rd row (t : Int))) := hx1
  have hn_d : w1.drew.cell? ⟨gr, t, none⟩ = some (.int .i64 (rd row (t : Int))) := hn_
  have hn_n : ∀ q_, (w1.drewN q_).cell? ⟨gr, t, none⟩ = some (.int .i64 (rd row (t : Int))) := fun _ => hn_
  have hb0_ : w1.cell? ⟨B, 0, none⟩ = some (.int .i64 a) := (blk_cell BK.out 0).trans rfl
  have hb0_d : w1.drew.cell? ⟨B, 0, none⟩ = some (.int .i64 a) := hb0_
  have hb0_n : ∀ q_, (w1.drewN q_).cell? ⟨B, 0, none⟩ = some (.int .i64 a) := fun _ => hb0_
  have hb1_ : w1.cell? ⟨B, 1, none⟩ = some (.int .i64 b) := (blk_cell BK.out 1).trans rfl
  have hb1_d : w1.drew.cell? ⟨B, 1, none⟩ = some (.int .i64 b) := hb1_
  have hb1_n : ∀ q_, (w1.drewN q_).cell? ⟨B, 1, none⟩ = some (.int .i64 b) := fun _ => hb1_
  have hb2_ : w1.cell? ⟨B, 2, none⟩ = some (.int .i64 c) := (blk_cell BK.out 2).trans rfl
  have hb2_d : w1.drew.cell? ⟨B, 2, none⟩ = some (.int .i64 c) := hb2_
  have hb2_n : ∀ q_, (w1.drewN q_).cell? ⟨B, 2, none⟩ = some (.int .i64 c) := fun _ => hb2_
  have hb3_ : w1.cell? ⟨B, 3, none⟩ = some (.slice A3 l3.length c3) := (blk_cell BK.out 3).trans rfl
  have hb3_d : w1.drew.cell? ⟨B, 3, none⟩ = some (.slice A3 l3.length c3) := hb3_
  have hb3_n : ∀ q_, (w1.drewN q_).cell? ⟨B, 3, none⟩ = some (.slice A3 l3.length c3) := fun _ => hb3_
  have hb4_ : w1.cell? ⟨B, 4, none⟩ = some (.slice A4 l4.length c4) := (blk_cell BK.out 4).trans rfl
  have hb4_d : w1.drew.cell? ⟨B, 4, none⟩ = some (.slice A4 l4.length c4) := hb4_
  have hb4_n : ∀ q_, (w1.drewN q_).cell? ⟨B, 4, none⟩ = some (.slice A4 l4.length c4) := fun _ => hb4_
  clear hx0 hx1
  go_region_with (go_at_call 84; refine calls_at (fun W_ => Below w1.heap.size w1 W_) (by repeat (first | (with_reducible first | exact Below.refl _ _ | apply below_alloc | apply pw_below_drewN | apply below_drew1) | exact Below.refl _ _)) (fun W_ hW_ => ?_); refine (impl_Track_goes.calls a b c _ _ l3 _ _ l4 (rd row (t : Int)) f x y _ (Kd.C_below HR3.out (below_step HB.out hW_)) HC3.out (Kd.C_below HR4.out (below_step HB.out hW_)) HC4.out G1.out).mono ?_; rintro e w2 ⟨rfl, hb⟩; have hb2 := below_step hW_ hb; clear hW_ hb)
  all_goals
    clear hr_ hr_d hr_n hn_ hn_d hn_n
    clear hb0_ hb0_d hb0_n hb1_ hb1_d hb1_n hb2_ hb2_d hb2_n hb3_ hb3_d hb3_n hb4_ hb4_d hb4_n
    replace HB : Aside0 (Below w0.heap.size w0 w2) := ⟨below_step HB.out hb2⟩
    replace HO : Aside0 (Kd.S (Kd.slice 3 (Kd.int .i64)) 22 w2 w0.heap.size (fun k_ => ok k_ ∧ k_ < w.heap.size) (.slice (some ⟨g, 0, none⟩) s.length cs) s) := ⟨Kd.S_below HO.out hb2⟩
    replace BK : Aside0 (w2.heap[B]? = some (.cells #[.int .i64 a, .int .i64 b, .int .i64 c, .slice A3 l3.length c3, .slice A4 l4.length c4] 27 (0, 0))) := ⟨blk_below BK.out hb2⟩
    replace HK : Aside0 (Kept w w2 ok) := ⟨HK.out.below hb2⟩
    clear hb2
    rw [HY.out]
    obtain ⟨gr, cr, hx0, hx1, hx2, hx3, hx4, hx5, hx6⟩ := S2_at HO.out HPT.out.1 HPT.out.2
    rw [HROW.out] at hx0 hx1
    have HX6 := Aside0.mk hx6
    have HX3 := Aside0.mk hx3
    have HX5 := Aside0.mk hx5
    clear hx3 hx4 hx5 hx6
    have hb0_ : w2.cell? ⟨B, 0, none⟩ = some (.int .i64 a) := (blk_cell BK.out 0).trans rfl
    have hb0_d : w2.drew.cell? ⟨B, 0, none⟩ = some (.int .i64 a) := hb0_
    have hb0_n : ∀ q_, (w2.drewN q_).cell? ⟨B, 0, none⟩ = some (.int .i64 a) := fun _ => hb0_
    have hb1_ : w2.cell? ⟨B, 1, none⟩ = some (.int .i64 b) := (blk_cell BK.out 1).trans rfl
    have hb1_d : w2.drew.cell? ⟨B, 1, none⟩ = some (.int .i64 b) := hb1_
    have hb1_n : ∀ q_, (w2.drewN q_).cell? ⟨B, 1, none⟩ = some (.int .i64 b) := fun _ => hb1_
    have hb2_ : w2.cell? ⟨B, 2, none⟩ = some (.int .i64 c) := (blk_cell BK.out 2).trans rfl
    have hb2_d : w2.drew.cell? ⟨B, 2, none⟩ = some (.int .i64 c) := hb2_
    have hb2_n : ∀ q_, (w2.drewN q_).cell? ⟨B, 2, none⟩ = some (.int .i64 c) := fun _ => hb2_
    have hb3_ : w2.cell? ⟨B, 3, none⟩ = some (.slice A3 l3.length c3) := (blk_cell BK.out 3).trans rfl
    have hb3_d : w2.drew.cell? ⟨B, 3, none⟩ = some (.slice A3 l3.length c3) := hb3_
    have hb3_n : ∀ q_, (w2.drewN q_).cell? ⟨B, 3, none⟩ = some (.slice A3 l3.length c3) := fun _ => hb3_
    have hb4_ : w2.cell? ⟨B, 4, none⟩ = some (.slice A4 l4.length c4) := (blk_cell BK.out 4).trans rfl
    have hb4_d : w2.drew.cell? ⟨B, 4, none⟩ = some (.slice A4 l4.length c4) := hb4_
    have hb4_n : ∀ q_, (w2.drewN q_).cell? ⟨B, 4, none⟩ = some (.slice A4 l4.length c4) := fun _ => hb4_
    have hbs0 : ∀ u, (w2.setCell ⟨gr, t, none⟩ u).heap[B]? = some (.cells #[.int .i64 a, .int .i64 b, .int .i64 c, .slice A3 l3.length c3, .slice A4 l4.length c4] 27 (0, 0)) := fun u => blk_far BK.out (fun e_ => by have := HX3.out.2; have := HGB.out; simp only at e_; omega) u
    have hs0_ : ∀ u, (w2.setCell ⟨gr, t, none⟩ u).cell? ⟨B, 0, none⟩ = some (.int .i64 a) := fun u => (blk_cell (hbs0 u) 0).trans rfl
    have hs1_ : ∀ u, (w2.setCell ⟨gr, t, none⟩ u).cell? ⟨B, 1, none⟩ = some (.int .i64 b) := fun u => (blk_cell (hbs0 u) 1).trans rfl
    have hs2_ : ∀ u, (w2.setCell ⟨gr, t, none⟩ u).cell? ⟨B, 2, none⟩ = some (.int .i64 c) := fun u => (blk_cell (hbs0 u) 2).trans rfl
    have hs3_ : ∀ u, (w2.setCell ⟨gr, t, none⟩ u).cell? ⟨B, 3, none⟩ = some (.slice A3 l3.length c3) := fun u => (blk_cell (hbs0 u) 3).trans rfl
    have hs4_ : ∀ u, (w2.setCell ⟨gr, t, none⟩ u).cell? ⟨B, 4, none⟩ = some (.slice A4 l4.length c4) := fun u => (blk_cell (hbs0 u) 4).trans rfl
    have HBS := Aside0.mk hbs0
    clear hbs0
    go_wp2_with (fail)
    go_at_call 72
    refine calls_at (fun W_ => Below w0.heap.size w0 W_ ∧ Kept w W_ ok ∧ W_.heap[B]? = some (.cells #[.int .i64 a, .int .i64 b, .int .i64 c, .slice A3 l3.length c3, .slice A4 l4.length c4] 27 (0, 0)) ∧ Kd.S (Kd.slice 3 (Kd.int .i64)) 22 W_ w0.heap.size (fun k_ => ok k_ ∧ k_ < w.heap.size) (.slice (some ⟨g, 0, none⟩) s.length cs) (set2 s p t x)) ⟨below_set HB.out HX5.out, HK.out.setCell (.inl HX3.out.1) _, HBS.out _, HX6.out w2 x rfl⟩ (fun w3 hW_ => ?_)
    clear hs0_ hs1_ hs2_ hs3_ hs4_ hx0 hx1 hx2
    clear hb0_ hb0_d hb0_n hb1_ hb1_d hb1_n hb2_ hb2_d hb2_n hb3_ hb3_d hb3_n hb4_ hb4_d hb4_n
    replace HB := Aside0.mk hW_.1
    replace HK := Aside0.mk hW_.2.1
    replace BK := Aside0.mk hW_.2.2.1
    replace HO := Aside0.mk hW_.2.2.2
    clear hW_ HX6 HX3 HX5 HBS
    refine (impl_Track_square.calls a b c _ _ l3 _ _ l4 (p : Int) x q _ (Kd.C_below HR3.out HB.out) HC3.out (Kd.C_below HR4.out HB.out) HC4.out G2.out).mono ?_
    rintro e w4 ⟨rfl, hb⟩
    replace HB : Aside0 (Below w0.heap.size w0 w4) := ⟨below_step HB.out hb⟩
    replace HO : Aside0 (Kd.S (Kd.slice 3 (Kd.int .i64)) 22 w4 w0.heap.size (fun k_ => ok k_ ∧ k_ < w.heap.size) (.slice (some ⟨g, 0, none⟩) s.length cs) (set2 s p t x)) := ⟨Kd.S_below HO.out hb⟩
    replace BK : Aside0 (w4.heap[B]? = some (.cells #[.int .i64 a, .int .i64 b, .int .i64 c, .slice A3 l3.length c3, .slice A4 l4.length c4] 27 (0, 0))) := ⟨blk_below BK.out hb⟩
    replace HK : Aside0 (Kept w w4 ok) := ⟨HK.out.below hb⟩
    clear hb
    go_wp2
    go_ret2
    exact ⟨rfl, Kd.S_mono HO.out (fun _ hk_ => hk_.1), HB.out, HK.out⟩

set_option maxHeartbeats 4000000 in
set_option maxRecDepth 100000 in
theorem goTok_safe (k : Nat) (a b c : Int) (A3 : Option Addr) (c3 : Nat) (l3 : List Int) (A4 : Option Addr) (c4 : Nat) (l4 : List Int) (ok : Nat → Prop) (g cs : Nat) (s : List (List Int)) (p t : Nat) (f : Int) (w0 w : World) (hB : Below w0.heap.size w0 w) (hr3 : Kd.C (Kd.int .i64) w0 A3 l3.length l3) (hc3 : l3.length ≤ c3) (hr4 : Kd.C (Kd.int .i64) w0 A4 l4.length l4) (hc4 : l4.length ≤ c4)
    (ho : Kd.S (Kd.slice 3 (Kd.int .i64)) 22 w w0.heap.size ok (.slice (some ⟨g, 0, none⟩) s.length cs) s) (hp : p < s.length) (row : List Int) (hrow : s.getD p [] = row) (ht : t < row.length)
    (x q : Int) (g1 : impl_Track_goes.f a b c l3 l4 (rd row (t : Int)) f = some (x, true)) (g2 : impl_Track_square.f a b c l3 l4 (p : Int) x = some q) (hq : ¬ q < 0) (g3 : impl_Track_isSafe.f k a b c l3 l4 q = some true) :
    Calls Try.prog 96 #[.agg #[.int .i64 a, .int .i64 b, .int .i64 c, .slice A3 l3.length c3, .slice A4 l4.length c4], .slice (some ⟨g, 0, none⟩) s.length cs, .int .i64 (p : Int), .int .i64 (t : Int), .int .i64 f] w fun e w' => e = .returned (.tuple #[.int .i64 0, .bool true]) ∧ Kd.S (Kd.slice 3 (Kd.int .i64)) 22 w' w0.heap.size ok (.slice (some ⟨g, 0, none⟩) s.length cs) (set2 s p t x) ∧ Below w0.heap.size w0 w' ∧ Kept w w' ok := by
  obtain ⟨y, hy⟩ : ∃ y, y = true := ⟨_, rfl⟩
  rw [← hy] at g1
  have G1 := Aside0.mk g1
  have G2 := Aside0.mk g2
  have G3 := Aside0.mk g3
  have HY := Aside0.mk hy
  have hqb : decide (q < 0) = false := decide_eq_false hq
  clear g1 g2 g3 hy hq
  have hu27 := Try.underlying27
  have HR3 := Aside0.mk hr3
  have HC3 := Aside0.mk hc3
  have HR4 := Aside0.mk hr4
  have HC4 := Aside0.mk hc4
  have HO := Aside0.mk (Kd.S_mono (Kd.S_bound ho) (fun k_ hk_ => (⟨hk_.1, hk_.2.2.1⟩ : ok k_ ∧ k_ < w.heap.size)))
  have HB := Aside0.mk hB
  have HK := Aside0.mk (Kept.refl w ok)
  clear hr3 hc3 hr4 hc4 ho hB
  have hpi : (p : Int) < (s.length : Int) := by omega
  have hp0 : (0 : Int) ≤ (p : Int) := by omega
  have ht0 : (0 : Int) ≤ (t : Int) := by omega
  have hti : (t : Int) < (row.length : Int) := by omega
  have HROW := Aside0.mk hrow
  have HPT := Aside0.mk (And.intro hp (show t < (s.getD p []).length by rw [hrow]; exact ht))
  clear hp ht hrow
  go_enter Try.func96, Try.ntmps96
  go_wp2_with ((with_reducible refine gate_dst (N := 5) rfl ?_); refine box_event ?hg (N := 5) ?hd (cs := #[.int .i64 a, .int .i64 b, .int .i64 c, .slice A3 l3.length c3, .slice A4 l4.length c4]) (t := 27) ?hr ?_; (case hd => rfl); (case hg => rfl); (case hr => first | (go_simp; done) | (go_simp; rfl)); intro B hgb_ w1 hbox hb; have BK := Aside0.mk hbox; have HGB := Aside0.mk (show w.heap.size ≤ B from (by rw [hgb_]; exact Nat.le_refl _)); have hb1 : Below w.heap.size w w1 := hb; clear hb hbox hgb_)
  replace HB : Aside0 (Below w0.heap.size w0 w1) := ⟨below_step HB.out hb1⟩
  replace HO : Aside0 (Kd.S (Kd.slice 3 (Kd.int .i64)) 22 w1 w0.heap.size (fun k_ => ok k_ ∧ k_ < w.heap.size) (.slice (some ⟨g, 0, none⟩) s.length cs) s) := ⟨Kd.S_below HO.out hb1⟩
  replace HK : Aside0 (Kept w w1 ok) := ⟨HK.out.below hb1⟩
  clear hb1
  obtain ⟨gr, cr, hx0, hx1, hx2, hx3, hx4, hx5, hx6⟩ := S2_at HO.out HPT.out.1 HPT.out.2
  clear hx2 hx3 hx4 hx5 hx6
  rw [HROW.out] at hx0 hx1
  have hr_ : w1.cell? ⟨g, p, none⟩ = some (.slice (some ⟨gr, 0, none⟩) row.length cr) := hx0
  have hr_d : w1.drew.cell? ⟨g, p, none⟩ = some (.slice (some ⟨gr, 0, none⟩) row.length cr) := hr_
  have hr_n : ∀ q_, (w1.drewN q_).cell? ⟨g, p, none⟩ = some (.slice (some ⟨gr, 0, none⟩) row.length cr) := fun _ => hr_
  have hn_ : w1.cell? ⟨gr, t, none⟩ = some (.int .i64 (rd row (t : Int))) := hx1
  have hn_d : w1.drew.cell? ⟨gr, t, none⟩ = some (.int .i64 (rd row (t : Int))) := hn_
  have hn_n : ∀ q_, (w1.drewN q_).cell? ⟨gr, t, none⟩ = some (.int .i64 (rd row (t : Int))) := fun _ => hn_
  have hb0_ : w1.cell? ⟨B, 0, none⟩ = some (.int .i64 a) := (blk_cell BK.out 0).trans rfl
  have hb0_d : w1.drew.cell? ⟨B, 0, none⟩ = some (.int .i64 a) := hb0_
  have hb0_n : ∀ q_, (w1.drewN q_).cell? ⟨B, 0, none⟩ = some (.int .i64 a) := fun _ => hb0_
  have hb1_ : w1.cell? ⟨B, 1, none⟩ = some (.int .i64 b) := (blk_cell BK.out 1).trans rfl
  have hb1_d : w1.drew.cell? ⟨B, 1, none⟩ = some (.int .i64 b) := hb1_
  have hb1_n : ∀ q_, (w1.drewN q_).cell? ⟨B, 1, none⟩ = some (.int .i64 b) := fun _ => hb1_
  have hb2_ : w1.cell? ⟨B, 2, none⟩ = some (.int .i64 c) := (blk_cell BK.out 2).trans rfl
  have hb2_d : w1.drew.cell? ⟨B, 2, none⟩ = some (.int .i64 c) := hb2_
  have hb2_n : ∀ q_, (w1.drewN q_).cell? ⟨B, 2, none⟩ = some (.int .i64 c) := fun _ => hb2_
  have hb3_ : w1.cell? ⟨B, 3, none⟩ = some (.slice A3 l3.length c3) := (blk_cell BK.out 3).trans rfl
  have hb3_d : w1.drew.cell? ⟨B, 3, none⟩ = some (.slice A3 l3.length c3) := hb3_
  have hb3_n : ∀ q_, (w1.drewN q_).cell? ⟨B, 3, none⟩ = some (.slice A3 l3.length c3) := fun _ => hb3_
  have hb4_ : w1.cell? ⟨B, 4, none⟩ = some (.slice A4 l4.length c4) := (blk_cell BK.out 4).trans rfl
  have hb4_d : w1.drew.cell? ⟨B, 4, none⟩ = some (.slice A4 l4.length c4) := hb4_
  have hb4_n : ∀ q_, (w1.drewN q_).cell? ⟨B, 4, none⟩ = some (.slice A4 l4.length c4) := fun _ => hb4_
  clear hx0 hx1
  go_region_with (go_at_call 84; refine calls_at (fun W_ => Below w1.heap.size w1 W_) (by repeat (first | (with_reducible first | exact Below.refl _ _ | apply below_alloc | apply pw_below_drewN | apply below_drew1) | exact Below.refl _ _)) (fun W_ hW_ => ?_); refine (impl_Track_goes.calls a b c _ _ l3 _ _ l4 (rd row (t : Int)) f x y _ (Kd.C_below HR3.out (below_step HB.out hW_)) HC3.out (Kd.C_below HR4.out (below_step HB.out hW_)) HC4.out G1.out).mono ?_; rintro e w2 ⟨rfl, hb⟩; have hb2 := below_step hW_ hb; clear hW_ hb)
  all_goals
    clear hr_ hr_d hr_n hn_ hn_d hn_n
    clear hb0_ hb0_d hb0_n hb1_ hb1_d hb1_n hb2_ hb2_d hb2_n hb3_ hb3_d hb3_n hb4_ hb4_d hb4_n
    replace HB : Aside0 (Below w0.heap.size w0 w2) := ⟨below_step HB.out hb2⟩
    replace HO : Aside0 (Kd.S (Kd.slice 3 (Kd.int .i64)) 22 w2 w0.heap.size (fun k_ => ok k_ ∧ k_ < w.heap.size) (.slice (some ⟨g, 0, none⟩) s.length cs) s) := ⟨Kd.S_below HO.out hb2⟩
    replace BK : Aside0 (w2.heap[B]? = some (.cells #[.int .i64 a, .int .i64 b, .int .i64 c, .slice A3 l3.length c3, .slice A4 l4.length c4] 27 (0, 0))) := ⟨blk_below BK.out hb2⟩
    replace HK : Aside0 (Kept w w2 ok) := ⟨HK.out.below hb2⟩
    clear hb2
    rw [HY.out]
    obtain ⟨gr, cr, hx0, hx1, hx2, hx3, hx4, hx5, hx6⟩ := S2_at HO.out HPT.out.1 HPT.out.2
    rw [HROW.out] at hx0 hx1
    have HX6 := Aside0.mk hx6
    have HX3 := Aside0.mk hx3
    have HX5 := Aside0.mk hx5
    clear hx3 hx4 hx5 hx6
    have hb0_ : w2.cell? ⟨B, 0, none⟩ = some (.int .i64 a) := (blk_cell BK.out 0).trans rfl
    have hb0_d : w2.drew.cell? ⟨B, 0, none⟩ = some (.int .i64 a) := hb0_
    have hb0_n : ∀ q_, (w2.drewN q_).cell? ⟨B, 0, none⟩ = some (.int .i64 a) := fun _ => hb0_
    have hb1_ : w2.cell? ⟨B, 1, none⟩ = some (.int .i64 b) := (blk_cell BK.out 1).trans rfl
    have hb1_d : w2.drew.cell? ⟨B, 1, none⟩ = some (.int .i64 b) := hb1_
    have hb1_n : ∀ q_, (w2.drewN q_).cell? ⟨B, 1, none⟩ = some (.int .i64 b) := fun _ => hb1_
    have hb2_ : w2.cell? ⟨B, 2, none⟩ = some (.int .i64 c) := (blk_cell BK.out 2).trans rfl
    have hb2_d : w2.drew.cell? ⟨B, 2, none⟩ = some (.int .i64 c) := hb2_
    have hb2_n : ∀ q_, (w2.drewN q_).cell? ⟨B, 2, none⟩ = some (.int .i64 c) := fun _ => hb2_
    have hb3_ : w2.cell? ⟨B, 3, none⟩ = some (.slice A3 l3.length c3) := (blk_cell BK.out 3).trans rfl
    have hb3_d : w2.drew.cell? ⟨B, 3, none⟩ = some (.slice A3 l3.length c3) := hb3_
    have hb3_n : ∀ q_, (w2.drewN q_).cell? ⟨B, 3, none⟩ = some (.slice A3 l3.length c3) := fun _ => hb3_
    have hb4_ : w2.cell? ⟨B, 4, none⟩ = some (.slice A4 l4.length c4) := (blk_cell BK.out 4).trans rfl
    have hb4_d : w2.drew.cell? ⟨B, 4, none⟩ = some (.slice A4 l4.length c4) := hb4_
    have hb4_n : ∀ q_, (w2.drewN q_).cell? ⟨B, 4, none⟩ = some (.slice A4 l4.length c4) := fun _ => hb4_
    have hbs0 : ∀ u, (w2.setCell ⟨gr, t, none⟩ u).heap[B]? = some (.cells #[.int .i64 a, .int .i64 b, .int .i64 c, .slice A3 l3.length c3, .slice A4 l4.length c4] 27 (0, 0)) := fun u => blk_far BK.out (fun e_ => by have := HX3.out.2; have := HGB.out; simp only at e_; omega) u
    have hs0_ : ∀ u, (w2.setCell ⟨gr, t, none⟩ u).cell? ⟨B, 0, none⟩ = some (.int .i64 a) := fun u => (blk_cell (hbs0 u) 0).trans rfl
    have hs1_ : ∀ u, (w2.setCell ⟨gr, t, none⟩ u).cell? ⟨B, 1, none⟩ = some (.int .i64 b) := fun u => (blk_cell (hbs0 u) 1).trans rfl
    have hs2_ : ∀ u, (w2.setCell ⟨gr, t, none⟩ u).cell? ⟨B, 2, none⟩ = some (.int .i64 c) := fun u => (blk_cell (hbs0 u) 2).trans rfl
    have hs3_ : ∀ u, (w2.setCell ⟨gr, t, none⟩ u).cell? ⟨B, 3, none⟩ = some (.slice A3 l3.length c3) := fun u => (blk_cell (hbs0 u) 3).trans rfl
    have hs4_ : ∀ u, (w2.setCell ⟨gr, t, none⟩ u).cell? ⟨B, 4, none⟩ = some (.slice A4 l4.length c4) := fun u => (blk_cell (hbs0 u) 4).trans rfl
    have HBS := Aside0.mk hbs0
    clear hbs0
    go_wp2_with (fail)
    go_at_call 72
    refine calls_at (fun W_ => Below w0.heap.size w0 W_ ∧ Kept w W_ ok ∧ W_.heap[B]? = some (.cells #[.int .i64 a, .int .i64 b, .int .i64 c, .slice A3 l3.length c3, .slice A4 l4.length c4] 27 (0, 0)) ∧ Kd.S (Kd.slice 3 (Kd.int .i64)) 22 W_ w0.heap.size (fun k_ => ok k_ ∧ k_ < w.heap.size) (.slice (some ⟨g, 0, none⟩) s.length cs) (set2 s p t x)) ⟨below_set HB.out HX5.out, HK.out.setCell (.inl HX3.out.1) _, HBS.out _, HX6.out w2 x rfl⟩ (fun w3 hW_ => ?_)
    clear hs0_ hs1_ hs2_ hs3_ hs4_ hx0 hx1 hx2
    clear hb0_ hb0_d hb0_n hb1_ hb1_d hb1_n hb2_ hb2_d hb2_n hb3_ hb3_d hb3_n hb4_ hb4_d hb4_n
    replace HB := Aside0.mk hW_.1
    replace HK := Aside0.mk hW_.2.1
    replace BK := Aside0.mk hW_.2.2.1
    replace HO := Aside0.mk hW_.2.2.2
    clear hW_ HX6 HX3 HX5 HBS
    refine (impl_Track_square.calls a b c _ _ l3 _ _ l4 (p : Int) x q _ (Kd.C_below HR3.out HB.out) HC3.out (Kd.C_below HR4.out HB.out) HC4.out G2.out).mono ?_
    rintro e w4 ⟨rfl, hb⟩
    replace HB : Aside0 (Below w0.heap.size w0 w4) := ⟨below_step HB.out hb⟩
    replace HO : Aside0 (Kd.S (Kd.slice 3 (Kd.int .i64)) 22 w4 w0.heap.size (fun k_ => ok k_ ∧ k_ < w.heap.size) (.slice (some ⟨g, 0, none⟩) s.length cs) (set2 s p t x)) := ⟨Kd.S_below HO.out hb⟩
    replace BK : Aside0 (w4.heap[B]? = some (.cells #[.int .i64 a, .int .i64 b, .int .i64 c, .slice A3 l3.length c3, .slice A4 l4.length c4] 27 (0, 0))) := ⟨blk_below BK.out hb⟩
    replace HK : Aside0 (Kept w w4 ok) := ⟨HK.out.below hb⟩
    clear hb
    have hb0_ : w4.cell? ⟨B, 0, none⟩ = some (.int .i64 a) := (blk_cell BK.out 0).trans rfl
    have hb0_d : w4.drew.cell? ⟨B, 0, none⟩ = some (.int .i64 a) := hb0_
    have hb0_n : ∀ q_, (w4.drewN q_).cell? ⟨B, 0, none⟩ = some (.int .i64 a) := fun _ => hb0_
    have hb1_ : w4.cell? ⟨B, 1, none⟩ = some (.int .i64 b) := (blk_cell BK.out 1).trans rfl
    have hb1_d : w4.drew.cell? ⟨B, 1, none⟩ = some (.int .i64 b) := hb1_
    have hb1_n : ∀ q_, (w4.drewN q_).cell? ⟨B, 1, none⟩ = some (.int .i64 b) := fun _ => hb1_
    have hb2_ : w4.cell? ⟨B, 2, none⟩ = some (.int .i64 c) := (blk_cell BK.out 2).trans rfl
    have hb2_d : w4.drew.cell? ⟨B, 2, none⟩ = some (.int .i64 c) := hb2_
    have hb2_n : ∀ q_, (w4.drewN q_).cell? ⟨B, 2, none⟩ = some (.int .i64 c) := fun _ => hb2_
    have hb3_ : w4.cell? ⟨B, 3, none⟩ = some (.slice A3 l3.length c3) := (blk_cell BK.out 3).trans rfl
    have hb3_d : w4.drew.cell? ⟨B, 3, none⟩ = some (.slice A3 l3.length c3) := hb3_
    have hb3_n : ∀ q_, (w4.drewN q_).cell? ⟨B, 3, none⟩ = some (.slice A3 l3.length c3) := fun _ => hb3_
    have hb4_ : w4.cell? ⟨B, 4, none⟩ = some (.slice A4 l4.length c4) := (blk_cell BK.out 4).trans rfl
    have hb4_d : w4.drew.cell? ⟨B, 4, none⟩ = some (.slice A4 l4.length c4) := hb4_
    have hb4_n : ∀ q_, (w4.drewN q_).cell? ⟨B, 4, none⟩ = some (.slice A4 l4.length c4) := fun _ => hb4_
    go_wp2_with (fail)
    go_at_call 89
    clear hb0_ hb0_d hb0_n hb1_ hb1_d hb1_n hb2_ hb2_d hb2_n hb3_ hb3_d hb3_n hb4_ hb4_d hb4_n
    refine calls_at (fun W_ => Below w4.heap.size w4 W_) (by repeat (first | (with_reducible first | exact Below.refl _ _ | apply below_alloc | apply pw_below_drewN | apply below_drew1) | exact Below.refl _ _)) (fun W_ hW_ => ?_)
    refine (impl_Track_isSafe.calls k a b c _ _ l3 _ _ l4 q true _ (Kd.C_below HR3.out (below_step HB.out hW_)) HC3.out (Kd.C_below HR4.out (below_step HB.out hW_)) HC4.out G3.out).mono ?_
    rintro e w5 ⟨rfl, hb⟩
    have hb5 := below_step hW_ hb
    replace HB : Aside0 (Below w0.heap.size w0 w5) := ⟨below_step HB.out hb5⟩
    replace HO : Aside0 (Kd.S (Kd.slice 3 (Kd.int .i64)) 22 w5 w0.heap.size (fun k_ => ok k_ ∧ k_ < w.heap.size) (.slice (some ⟨g, 0, none⟩) s.length cs) (set2 s p t x)) := ⟨Kd.S_below HO.out hb5⟩
    replace BK : Aside0 (w5.heap[B]? = some (.cells #[.int .i64 a, .int .i64 b, .int .i64 c, .slice A3 l3.length c3, .slice A4 l4.length c4] 27 (0, 0))) := ⟨blk_below BK.out hb5⟩
    replace HK : Aside0 (Kept w w5 ok) := ⟨HK.out.below hb5⟩
    clear hb5 hW_ hb
    go_wp2
    go_ret2
    exact ⟨rfl, Kd.S_mono HO.out (fun _ hk_ => hk_.1), HB.out, HK.out⟩

set_option maxHeartbeats 8000000 in
set_option maxRecDepth 100000 in
theorem goTok_send (k : Nat) (a b c : Int) (A3 : Option Addr) (c3 : Nat) (l3 : List Int) (A4 : Option Addr) (c4 : Nat) (l4 : List Int) (ok : Nat → Prop) (g cs : Nat) (s : List (List Int)) (p t : Nat) (f : Int) (w0 w : World) (hB : Below w0.heap.size w0 w) (hr3 : Kd.C (Kd.int .i64) w0 A3 l3.length l3) (hc3 : l3.length ≤ c3) (hr4 : Kd.C (Kd.int .i64) w0 A4 l4.length l4) (hc4 : l4.length ≤ c4)
    (ho : Kd.S (Kd.slice 3 (Kd.int .i64)) 22 w w0.heap.size ok (.slice (some ⟨g, 0, none⟩) s.length cs) s) (hp : p < s.length) (row : List Int) (hrow : s.getD p [] = row) (ht : t < row.length)
    (x q : Int) (toks : List (List Int)) (n' : Int) (s' : List (List Int)) (g1 : impl_Track_goes.f a b c l3 l4 (rd row (t : Int)) f = some (x, true)) (g2 : impl_Track_square.f a b c l3 l4 (p : Int) x = some q) (hq : ¬ q < 0) (g3 : impl_Track_isSafe.f k a b c l3 l4 q = some false) (g4 : impl_Track_tokensAt.f k a b c l3 l4 (set2 s p t x) q = some toks) (g5 : sendL (p : Int) toks 0 (set2 s p t x) = some (n', s')) :
    Calls Try.prog 96 #[.agg #[.int .i64 a, .int .i64 b, .int .i64 c, .slice A3 l3.length c3, .slice A4 l4.length c4], .slice (some ⟨g, 0, none⟩) s.length cs, .int .i64 (p : Int), .int .i64 (t : Int), .int .i64 f] w fun e w' => e = .returned (.tuple #[.int .i64 n', .bool true]) ∧ Kd.S (Kd.slice 3 (Kd.int .i64)) 22 w' w0.heap.size ok (.slice (some ⟨g, 0, none⟩) s.length cs) s' ∧ Below w0.heap.size w0 w' ∧ Kept w w' ok := by
  obtain ⟨y, hy⟩ : ∃ y, y = true := ⟨_, rfl⟩
  rw [← hy] at g1
  have G1 := Aside0.mk g1
  have G2 := Aside0.mk g2
  have G3 := Aside0.mk g3
  have G4 := Aside0.mk g4
  have G5 := Aside0.mk g5
  have HY := Aside0.mk hy
  have hqb : decide (q < 0) = false := decide_eq_false hq
  clear g1 g2 g3 g4 g5 hy hq
  have hu27 := Try.underlying27
  have HR3 := Aside0.mk hr3
  have HC3 := Aside0.mk hc3
  have HR4 := Aside0.mk hr4
  have HC4 := Aside0.mk hc4
  have HO := Aside0.mk (Kd.S_mono (Kd.S_bound ho) (fun k_ hk_ => (⟨hk_.1, hk_.2.2.1⟩ : ok k_ ∧ k_ < w.heap.size)))
  have HB := Aside0.mk hB
  have HK := Aside0.mk (Kept.refl w ok)
  clear hr3 hc3 hr4 hc4 ho hB
  have hpi : (p : Int) < (s.length : Int) := by omega
  have hp0 : (0 : Int) ≤ (p : Int) := by omega
  have ht0 : (0 : Int) ≤ (t : Int) := by omega
  have hti : (t : Int) < (row.length : Int) := by omega
  have HROW := Aside0.mk hrow
  have HPT := Aside0.mk (And.intro hp (show t < (s.getD p []).length by rw [hrow]; exact ht))
  clear hp ht hrow
  go_enter Try.func96, Try.ntmps96
  go_wp2_with ((with_reducible refine gate_dst (N := 5) rfl ?_); refine box_event ?hg (N := 5) ?hd (cs := #[.int .i64 a, .int .i64 b, .int .i64 c, .slice A3 l3.length c3, .slice A4 l4.length c4]) (t := 27) ?hr ?_; (case hd => rfl); (case hg => rfl); (case hr => first | (go_simp; done) | (go_simp; rfl)); intro B hgb_ w1 hbox hb; have BK := Aside0.mk hbox; have HGB := Aside0.mk (show w.heap.size ≤ B from (by rw [hgb_]; exact Nat.le_refl _)); have hb1 : Below w.heap.size w w1 := hb; clear hb hbox hgb_)
  replace HB : Aside0 (Below w0.heap.size w0 w1) := ⟨below_step HB.out hb1⟩
  replace HO : Aside0 (Kd.S (Kd.slice 3 (Kd.int .i64)) 22 w1 w0.heap.size (fun k_ => ok k_ ∧ k_ < w.heap.size) (.slice (some ⟨g, 0, none⟩) s.length cs) s) := ⟨Kd.S_below HO.out hb1⟩
  replace HK : Aside0 (Kept w w1 ok) := ⟨HK.out.below hb1⟩
  clear hb1
  obtain ⟨gr, cr, hx0, hx1, hx2, hx3, hx4, hx5, hx6⟩ := S2_at HO.out HPT.out.1 HPT.out.2
  clear hx2 hx3 hx4 hx5 hx6
  rw [HROW.out] at hx0 hx1
  have hr_ : w1.cell? ⟨g, p, none⟩ = some (.slice (some ⟨gr, 0, none⟩) row.length cr) := hx0
  have hr_d : w1.drew.cell? ⟨g, p, none⟩ = some (.slice (some ⟨gr, 0, none⟩) row.length cr) := hr_
  have hr_n : ∀ q_, (w1.drewN q_).cell? ⟨g, p, none⟩ = some (.slice (some ⟨gr, 0, none⟩) row.length cr) := fun _ => hr_
  have hn_ : w1.cell? ⟨gr, t, none⟩ = some (.int .i64 (rd row (t : Int))) := hx1
  have hn_d : w1.drew.cell? ⟨gr, t, none⟩ = some (.int .i64 (rd row (t : Int))) := hn_
  have hn_n : ∀ q_, (w1.drewN q_).cell? ⟨gr, t, none⟩ = some (.int .i64 (rd row (t : Int))) := fun _ => hn_
  have hb0_ : w1.cell? ⟨B, 0, none⟩ = some (.int .i64 a) := (blk_cell BK.out 0).trans rfl
  have hb0_d : w1.drew.cell? ⟨B, 0, none⟩ = some (.int .i64 a) := hb0_
  have hb0_n : ∀ q_, (w1.drewN q_).cell? ⟨B, 0, none⟩ = some (.int .i64 a) := fun _ => hb0_
  have hb1_ : w1.cell? ⟨B, 1, none⟩ = some (.int .i64 b) := (blk_cell BK.out 1).trans rfl
  have hb1_d : w1.drew.cell? ⟨B, 1, none⟩ = some (.int .i64 b) := hb1_
  have hb1_n : ∀ q_, (w1.drewN q_).cell? ⟨B, 1, none⟩ = some (.int .i64 b) := fun _ => hb1_
  have hb2_ : w1.cell? ⟨B, 2, none⟩ = some (.int .i64 c) := (blk_cell BK.out 2).trans rfl
  have hb2_d : w1.drew.cell? ⟨B, 2, none⟩ = some (.int .i64 c) := hb2_
  have hb2_n : ∀ q_, (w1.drewN q_).cell? ⟨B, 2, none⟩ = some (.int .i64 c) := fun _ => hb2_
  have hb3_ : w1.cell? ⟨B, 3, none⟩ = some (.slice A3 l3.length c3) := (blk_cell BK.out 3).trans rfl
  have hb3_d : w1.drew.cell? ⟨B, 3, none⟩ = some (.slice A3 l3.length c3) := hb3_
  have hb3_n : ∀ q_, (w1.drewN q_).cell? ⟨B, 3, none⟩ = some (.slice A3 l3.length c3) := fun _ => hb3_
  have hb4_ : w1.cell? ⟨B, 4, none⟩ = some (.slice A4 l4.length c4) := (blk_cell BK.out 4).trans rfl
  have hb4_d : w1.drew.cell? ⟨B, 4, none⟩ = some (.slice A4 l4.length c4) := hb4_
  have hb4_n : ∀ q_, (w1.drewN q_).cell? ⟨B, 4, none⟩ = some (.slice A4 l4.length c4) := fun _ => hb4_
  clear hx0 hx1
  go_region_with (go_at_call 84; refine calls_at (fun W_ => Below w1.heap.size w1 W_) (by repeat (first | (with_reducible first | exact Below.refl _ _ | apply below_alloc | apply pw_below_drewN | apply below_drew1) | exact Below.refl _ _)) (fun W_ hW_ => ?_); refine (impl_Track_goes.calls a b c _ _ l3 _ _ l4 (rd row (t : Int)) f x y _ (Kd.C_below HR3.out (below_step HB.out hW_)) HC3.out (Kd.C_below HR4.out (below_step HB.out hW_)) HC4.out G1.out).mono ?_; rintro e w2 ⟨rfl, hb⟩; have hb2 := below_step hW_ hb; clear hW_ hb)
  all_goals
    clear hr_ hr_d hr_n hn_ hn_d hn_n
    clear hb0_ hb0_d hb0_n hb1_ hb1_d hb1_n hb2_ hb2_d hb2_n hb3_ hb3_d hb3_n hb4_ hb4_d hb4_n
    replace HB : Aside0 (Below w0.heap.size w0 w2) := ⟨below_step HB.out hb2⟩
    replace HO : Aside0 (Kd.S (Kd.slice 3 (Kd.int .i64)) 22 w2 w0.heap.size (fun k_ => ok k_ ∧ k_ < w.heap.size) (.slice (some ⟨g, 0, none⟩) s.length cs) s) := ⟨Kd.S_below HO.out hb2⟩
    replace BK : Aside0 (w2.heap[B]? = some (.cells #[.int .i64 a, .int .i64 b, .int .i64 c, .slice A3 l3.length c3, .slice A4 l4.length c4] 27 (0, 0))) := ⟨blk_below BK.out hb2⟩
    replace HK : Aside0 (Kept w w2 ok) := ⟨HK.out.below hb2⟩
    clear hb2
    rw [HY.out]
    obtain ⟨gr, cr, hx0, hx1, hx2, hx3, hx4, hx5, hx6⟩ := S2_at HO.out HPT.out.1 HPT.out.2
    rw [HROW.out] at hx0 hx1
    have HX6 := Aside0.mk hx6
    have HX3 := Aside0.mk hx3
    have HX5 := Aside0.mk hx5
    clear hx3 hx4 hx5 hx6
    have hb0_ : w2.cell? ⟨B, 0, none⟩ = some (.int .i64 a) := (blk_cell BK.out 0).trans rfl
    have hb0_d : w2.drew.cell? ⟨B, 0, none⟩ = some (.int .i64 a) := hb0_
    have hb0_n : ∀ q_, (w2.drewN q_).cell? ⟨B, 0, none⟩ = some (.int .i64 a) := fun _ => hb0_
    have hb1_ : w2.cell? ⟨B, 1, none⟩ = some (.int .i64 b) := (blk_cell BK.out 1).trans rfl
    have hb1_d : w2.drew.cell? ⟨B, 1, none⟩ = some (.int .i64 b) := hb1_
    have hb1_n : ∀ q_, (w2.drewN q_).cell? ⟨B, 1, none⟩ = some (.int .i64 b) := fun _ => hb1_
    have hb2_ : w2.cell? ⟨B, 2, none⟩ = some (.int .i64 c) := (blk_cell BK.out 2).trans rfl
    have hb2_d : w2.drew.cell? ⟨B, 2, none⟩ = some (.int .i64 c) := hb2_
    have hb2_n : ∀ q_, (w2.drewN q_).cell? ⟨B, 2, none⟩ = some (.int .i64 c) := fun _ => hb2_
    have hb3_ : w2.cell? ⟨B, 3, none⟩ = some (.slice A3 l3.length c3) := (blk_cell BK.out 3).trans rfl
    have hb3_d : w2.drew.cell? ⟨B, 3, none⟩ = some (.slice A3 l3.length c3) := hb3_
    have hb3_n : ∀ q_, (w2.drewN q_).cell? ⟨B, 3, none⟩ = some (.slice A3 l3.length c3) := fun _ => hb3_
    have hb4_ : w2.cell? ⟨B, 4, none⟩ = some (.slice A4 l4.length c4) := (blk_cell BK.out 4).trans rfl
    have hb4_d : w2.drew.cell? ⟨B, 4, none⟩ = some (.slice A4 l4.length c4) := hb4_
    have hb4_n : ∀ q_, (w2.drewN q_).cell? ⟨B, 4, none⟩ = some (.slice A4 l4.length c4) := fun _ => hb4_
    have hbs0 : ∀ u, (w2.setCell ⟨gr, t, none⟩ u).heap[B]? = some (.cells #[.int .i64 a, .int .i64 b, .int .i64 c, .slice A3 l3.length c3, .slice A4 l4.length c4] 27 (0, 0)) := fun u => blk_far BK.out (fun e_ => by have := HX3.out.2; have := HGB.out; simp only at e_; omega) u
    have hs0_ : ∀ u, (w2.setCell ⟨gr, t, none⟩ u).cell? ⟨B, 0, none⟩ = some (.int .i64 a) := fun u => (blk_cell (hbs0 u) 0).trans rfl
    have hs1_ : ∀ u, (w2.setCell ⟨gr, t, none⟩ u).cell? ⟨B, 1, none⟩ = some (.int .i64 b) := fun u => (blk_cell (hbs0 u) 1).trans rfl
    have hs2_ : ∀ u, (w2.setCell ⟨gr, t, none⟩ u).cell? ⟨B, 2, none⟩ = some (.int .i64 c) := fun u => (blk_cell (hbs0 u) 2).trans rfl
    have hs3_ : ∀ u, (w2.setCell ⟨gr, t, none⟩ u).cell? ⟨B, 3, none⟩ = some (.slice A3 l3.length c3) := fun u => (blk_cell (hbs0 u) 3).trans rfl
    have hs4_ : ∀ u, (w2.setCell ⟨gr, t, none⟩ u).cell? ⟨B, 4, none⟩ = some (.slice A4 l4.length c4) := fun u => (blk_cell (hbs0 u) 4).trans rfl
    have HBS := Aside0.mk hbs0
    clear hbs0
    go_wp2_with (fail)
    go_at_call 72
    refine calls_at (fun W_ => Below w0.heap.size w0 W_ ∧ Kept w W_ ok ∧ W_.heap[B]? = some (.cells #[.int .i64 a, .int .i64 b, .int .i64 c, .slice A3 l3.length c3, .slice A4 l4.length c4] 27 (0, 0)) ∧ Kd.S (Kd.slice 3 (Kd.int .i64)) 22 W_ w0.heap.size (fun k_ => ok k_ ∧ k_ < w.heap.size) (.slice (some ⟨g, 0, none⟩) s.length cs) (set2 s p t x)) ⟨below_set HB.out HX5.out, HK.out.setCell (.inl HX3.out.1) _, HBS.out _, HX6.out w2 x rfl⟩ (fun w3 hW_ => ?_)
    clear hs0_ hs1_ hs2_ hs3_ hs4_ hx0 hx1 hx2
    clear hb0_ hb0_d hb0_n hb1_ hb1_d hb1_n hb2_ hb2_d hb2_n hb3_ hb3_d hb3_n hb4_ hb4_d hb4_n
    replace HB := Aside0.mk hW_.1
    replace HK := Aside0.mk hW_.2.1
    replace BK := Aside0.mk hW_.2.2.1
    replace HO := Aside0.mk hW_.2.2.2
    clear hW_ HX6 HX3 HX5 HBS
    refine (impl_Track_square.calls a b c _ _ l3 _ _ l4 (p : Int) x q _ (Kd.C_below HR3.out HB.out) HC3.out (Kd.C_below HR4.out HB.out) HC4.out G2.out).mono ?_
    rintro e w4 ⟨rfl, hb⟩
    replace HB : Aside0 (Below w0.heap.size w0 w4) := ⟨below_step HB.out hb⟩
    replace HO : Aside0 (Kd.S (Kd.slice 3 (Kd.int .i64)) 22 w4 w0.heap.size (fun k_ => ok k_ ∧ k_ < w.heap.size) (.slice (some ⟨g, 0, none⟩) s.length cs) (set2 s p t x)) := ⟨Kd.S_below HO.out hb⟩
    replace BK : Aside0 (w4.heap[B]? = some (.cells #[.int .i64 a, .int .i64 b, .int .i64 c, .slice A3 l3.length c3, .slice A4 l4.length c4] 27 (0, 0))) := ⟨blk_below BK.out hb⟩
    replace HK : Aside0 (Kept w w4 ok) := ⟨HK.out.below hb⟩
    clear hb
    have hb0_ : w4.cell? ⟨B, 0, none⟩ = some (.int .i64 a) := (blk_cell BK.out 0).trans rfl
    have hb0_d : w4.drew.cell? ⟨B, 0, none⟩ = some (.int .i64 a) := hb0_
    have hb0_n : ∀ q_, (w4.drewN q_).cell? ⟨B, 0, none⟩ = some (.int .i64 a) := fun _ => hb0_
    have hb1_ : w4.cell? ⟨B, 1, none⟩ = some (.int .i64 b) := (blk_cell BK.out 1).trans rfl
    have hb1_d : w4.drew.cell? ⟨B, 1, none⟩ = some (.int .i64 b) := hb1_
    have hb1_n : ∀ q_, (w4.drewN q_).cell? ⟨B, 1, none⟩ = some (.int .i64 b) := fun _ => hb1_
    have hb2_ : w4.cell? ⟨B, 2, none⟩ = some (.int .i64 c) := (blk_cell BK.out 2).trans rfl
    have hb2_d : w4.drew.cell? ⟨B, 2, none⟩ = some (.int .i64 c) := hb2_
    have hb2_n : ∀ q_, (w4.drewN q_).cell? ⟨B, 2, none⟩ = some (.int .i64 c) := fun _ => hb2_
    have hb3_ : w4.cell? ⟨B, 3, none⟩ = some (.slice A3 l3.length c3) := (blk_cell BK.out 3).trans rfl
    have hb3_d : w4.drew.cell? ⟨B, 3, none⟩ = some (.slice A3 l3.length c3) := hb3_
    have hb3_n : ∀ q_, (w4.drewN q_).cell? ⟨B, 3, none⟩ = some (.slice A3 l3.length c3) := fun _ => hb3_
    have hb4_ : w4.cell? ⟨B, 4, none⟩ = some (.slice A4 l4.length c4) := (blk_cell BK.out 4).trans rfl
    have hb4_d : w4.drew.cell? ⟨B, 4, none⟩ = some (.slice A4 l4.length c4) := hb4_
    have hb4_n : ∀ q_, (w4.drewN q_).cell? ⟨B, 4, none⟩ = some (.slice A4 l4.length c4) := fun _ => hb4_
    go_wp2_with (fail)
    go_at_call 89
    clear hb0_ hb0_d hb0_n hb1_ hb1_d hb1_n hb2_ hb2_d hb2_n hb3_ hb3_d hb3_n hb4_ hb4_d hb4_n
    refine calls_at (fun W_ => Below w4.heap.size w4 W_) (by repeat (first | (with_reducible first | exact Below.refl _ _ | apply below_alloc | apply pw_below_drewN | apply below_drew1) | exact Below.refl _ _)) (fun W_ hW_ => ?_)
    refine (impl_Track_isSafe.calls k a b c _ _ l3 _ _ l4 q false _ (Kd.C_below HR3.out (below_step HB.out hW_)) HC3.out (Kd.C_below HR4.out (below_step HB.out hW_)) HC4.out G3.out).mono ?_
    rintro e w5 ⟨rfl, hb⟩
    have hb5 := below_step hW_ hb
    replace HB : Aside0 (Below w0.heap.size w0 w5) := ⟨below_step HB.out hb5⟩
    replace HO : Aside0 (Kd.S (Kd.slice 3 (Kd.int .i64)) 22 w5 w0.heap.size (fun k_ => ok k_ ∧ k_ < w.heap.size) (.slice (some ⟨g, 0, none⟩) s.length cs) (set2 s p t x)) := ⟨Kd.S_below HO.out hb5⟩
    replace BK : Aside0 (w5.heap[B]? = some (.cells #[.int .i64 a, .int .i64 b, .int .i64 c, .slice A3 l3.length c3, .slice A4 l4.length c4] 27 (0, 0))) := ⟨blk_below BK.out hb5⟩
    replace HK : Aside0 (Kept w w5 ok) := ⟨HK.out.below hb5⟩
    clear hb5 hW_ hb
    have hb0_ : w5.cell? ⟨B, 0, none⟩ = some (.int .i64 a) := (blk_cell BK.out 0).trans rfl
    have hb0_d : w5.drew.cell? ⟨B, 0, none⟩ = some (.int .i64 a) := hb0_
    have hb0_n : ∀ q_, (w5.drewN q_).cell? ⟨B, 0, none⟩ = some (.int .i64 a) := fun _ => hb0_
    have hb1_ : w5.cell? ⟨B, 1, none⟩ = some (.int .i64 b) := (blk_cell BK.out 1).trans rfl
    have hb1_d : w5.drew.cell? ⟨B, 1, none⟩ = some (.int .i64 b) := hb1_
    have hb1_n : ∀ q_, (w5.drewN q_).cell? ⟨B, 1, none⟩ = some (.int .i64 b) := fun _ => hb1_
    have hb2_ : w5.cell? ⟨B, 2, none⟩ = some (.int .i64 c) := (blk_cell BK.out 2).trans rfl
    have hb2_d : w5.drew.cell? ⟨B, 2, none⟩ = some (.int .i64 c) := hb2_
    have hb2_n : ∀ q_, (w5.drewN q_).cell? ⟨B, 2, none⟩ = some (.int .i64 c) := fun _ => hb2_
    have hb3_ : w5.cell? ⟨B, 3, none⟩ = some (.slice A3 l3.length c3) := (blk_cell BK.out 3).trans rfl
    have hb3_d : w5.drew.cell? ⟨B, 3, none⟩ = some (.slice A3 l3.length c3) := hb3_
    have hb3_n : ∀ q_, (w5.drewN q_).cell? ⟨B, 3, none⟩ = some (.slice A3 l3.length c3) := fun _ => hb3_
    have hb4_ : w5.cell? ⟨B, 4, none⟩ = some (.slice A4 l4.length c4) := (blk_cell BK.out 4).trans rfl
    have hb4_d : w5.drew.cell? ⟨B, 4, none⟩ = some (.slice A4 l4.length c4) := hb4_
    have hb4_n : ∀ q_, (w5.drewN q_).cell? ⟨B, 4, none⟩ = some (.slice A4 l4.length c4) := fun _ => hb4_
    go_wp2_with (fail)
    go_at_call 86
    clear hb0_ hb0_d hb0_n hb1_ hb1_d hb1_n hb2_ hb2_d hb2_n hb3_ hb3_d hb3_n hb4_ hb4_d hb4_n
    refine calls_args (args' := #[.agg #[.int .i64 a, .int .i64 b, .int .i64 c, .slice A3 l3.length c3, .slice A4 l4.length c4], .slice (some ⟨g, 0, none⟩) (set2 s p t x).length cs, .int .i64 q]) (by rw [set2_length]) ?_
    refine calls_at (fun W_ => Below w5.heap.size w5 W_) (by repeat (first | (with_reducible first | exact Below.refl _ _ | apply below_alloc | apply pw_below_drewN | apply below_drew1) | exact Below.refl _ _)) (fun W_ hW_ => ?_)
    refine (impl_Track_tokensAt.calls k a b c _ _ l3 _ _ l4 _ _ (set2 s p t x) q toks _ (Kd.C_below HR3.out (below_step HB.out hW_)) HC3.out (Kd.C_below HR4.out (below_step HB.out hW_)) HC4.out (Kd.C_below (Kd.S_reads' HO.out).2.2 hW_) (by rw [set2_length]; exact (Kd.S_reads' HO.out).2.1) G4.out).mono ?_
    rintro e w6 ⟨v_, rfl, hto, hb⟩
    have hb6 := below_step hW_ hb
    obtain ⟨At, ct, e_⟩ := Kd.S_slice hto; subst e_
    have HF : Aside0 (Kd.F (Kd.slice 3 (Kd.int .i64)) w6 (fun k_ => w.heap.size ≤ k_) At toks.length toks) := ⟨Kd.S_F (Kd.S_mono (Kd.S_bound hto) (fun k_ hk_ => Nat.le_trans (Nat.le_trans HK.out.1 hW_.size) hk_.2.1))⟩
    replace HB : Aside0 (Below w0.heap.size w0 w6) := ⟨below_step HB.out hb6⟩
    replace HO : Aside0 (Kd.S (Kd.slice 3 (Kd.int .i64)) 22 w6 w0.heap.size (fun k_ => ok k_ ∧ k_ < w.heap.size) (.slice (some ⟨g, 0, none⟩) s.length cs) (set2 s p t x)) := ⟨Kd.S_below HO.out hb6⟩
    replace BK : Aside0 (w6.heap[B]? = some (.cells #[.int .i64 a, .int .i64 b, .int .i64 c, .slice A3 l3.length c3, .slice A4 l4.length c4] 27 (0, 0))) := ⟨blk_below BK.out hb6⟩
    replace HK : Aside0 (Kept w w6 ok) := ⟨HK.out.below hb6⟩
    clear hb6 hW_ hb hto BK
    have hbig : toks.length ≤ 9223372036854775807 := (Kd.F_now HF.out).2.1
    go_wp2
    go_loopg [15, 56] toks.length (fun gg v15 v56 wr => ∃ (i : Nat) (n : Int) (st : List (List Int)), i ≤ toks.length ∧ toks.length - i ≤ gg ∧ v15 = .int .i64 n ∧ v56 = .int .i64 i ∧ Aside0 (sendL (p : Int) (toks.drop i) n st = some (n', s')) ∧ Aside0 (Kd.S (Kd.slice 3 (Kd.int .i64)) 22 wr w0.heap.size (fun k_ => ok k_ ∧ k_ < w.heap.size) (.slice (some ⟨g, 0, none⟩) s.length cs) st) ∧ Aside0 (Kd.F (Kd.slice 3 (Kd.int .i64)) wr (fun k_ => w.heap.size ≤ k_) At toks.length toks) ∧ Aside0 (Below w0.heap.size w0 wr) ∧ Aside0 (Kept w wr ok))
    case atStart => exact ⟨0, 0, set2 s p t x, Nat.zero_le _, by omega, rfl, rfl, ⟨by rw [List.drop_zero]; exact G5.out⟩, HO, HF, HB, HK⟩
    case round =>
      clear HO HF HB HK
      obtain ⟨i, n, st, hi, hgg, rfl, rfl, HS, HO, HF, HB, HK⟩ := hrel
      by_cases hlt : i < toks.length
      case neg =>
        have hin : i = toks.length := by omega
        subst hin
        have hlti : ¬ (toks.length : Int) < (toks.length : Int) := by omega
        have h5 := HS.out
        rw [List.drop_of_length_le (Nat.le_refl _)] at h5
        simp only [sendL, Option.some.injEq, Prod.mk.injEq] at h5
        obtain ⟨rfl, rfl⟩ := h5
        clear HS hlt
        go_wp2
        go_ret2
        exact ⟨rfl, Kd.S_mono HO.out (fun _ hk_ => hk_.1), HB.out, HK.out⟩
      have hlti : (i : Int) < (toks.length : Int) := by omega
      have hi0 : (0 : Int) ≤ (i : Int) := by omega
      have HI := Aside0.mk hlt
      obtain ⟨ad, A0, c0, hA, hcell, hle, hC⟩ := at_L1 (Kd.F_now HF.out) (i : Int) hi0 hlti
      subst hA
      have hone : rd_L1 toks (i : Int) = toks[i] := by simp [rd_L1, rdOf, hlt]
      rw [Int.toNat_natCast] at hcell
      have hs := HS.out
      rw [List.drop_eq_getElem_cons hlt] at hs
      rw [hone] at hcell hle hC
      generalize toks[i] = one at hs hcell hle hC
      clear hone hle hlt
      unfold sendL at hs
      split at hs
      case isFalse => cases hs
      rename_i h2
      obtain ⟨ad1, e1, hx0⟩ := Kd.at_int hC 0 (by omega) (by omega)
      obtain ⟨ad2, e2, hx1⟩ := Kd.at_int hC 1 (by omega) (by omega)
      subst e1; cases e2
      obtain ⟨bk, of, sp⟩ := ad1
      have hx0' : wr.cell? ⟨bk, of, sp⟩ = some (.int .i64 (rd one 0)) := by simpa [Addr.add] using hx0
      have hx1' : wr.cell? (Addr.add ⟨bk, of, sp⟩ 1) = some (.int .i64 (rd one 1)) := hx1
      have hx2' : wr.cell? ⟨bk, of + 1, none⟩ = some (.int .i64 (rd one 1)) := by simpa [Addr.add] using hx1
      have h2i : (0 : Int) < (one.length : Int) := by omega
      have h2j : (1 : Int) < (one.length : Int) := by omega
      generalize rd one 0 = x0 at hs hx0 hx0'
      generalize rd one 1 = x1 at hs hx1 hx1' hx2'
      clear hC hx1 h2
      by_cases he : x0 = (p : Int)
      · subst he
        rw [if_pos rfl] at hs
        have HS2 := Aside0.mk hs
        clear hs HS
        go_wp2
        go_roundg (toks.length - (i + 1))
        case measure => have := HI.out; omega
        case rel => exact ⟨i + 1, n, st, HI.out, by have := HI.out; omega, rfl, by go_num, HS2, HO, HF, HB, HK⟩
      · rw [if_neg he] at hs
        split at hs
        case isFalse => cases hs
        rename_i hbd
        obtain ⟨b1, b2, b3, b4⟩ := hbd
        obtain ⟨qn, rfl⟩ : ∃ qn : Nat, x0 = (qn : Int) := ⟨x0.toNat, by omega⟩
        obtain ⟨jn, rfl⟩ : ∃ jn : Nat, x1 = (jn : Int) := ⟨x1.toNat, by omega⟩
        rw [Int.toNat_natCast] at b4
        simp only [Int.toNat_natCast] at hs
        have HS2 := Aside0.mk hs
        clear hs HS
        have hln := (Kd.S_reads' HO.out).1
        obtain ⟨gr, cr, hy0, hy1, hy2, hy3, hy4, hy5, hy6⟩ := S2_at HO.out (p := qn) (t := jn) (by omega) (by omega)
        have HY3 := Aside0.mk hy3; have HY5 := Aside0.mk hy5; have HY6 := Aside0.mk hy6
        clear hy3 hy4 hy5 hy6
        have hqs : (qn : Int) < (s.length : Int) := by omega
        clear b2 hln
        generalize st.getD qn [] = row2 at hy0 hy1 b4
        have he1 : ((qn : Int) == (p : Int)) = false := by simpa using he
        have he2 : ((qn : Int) != (p : Int)) = true := by simpa using he
        clear he
        have hx0d : wr.drew.cell? (Addr.add ⟨bk, of, sp⟩ ((0 : Int)).toNat) = some (.int .i64 (qn : Int)) := hx0
        have hx0n : ∀ q_, (wr.drewN q_).cell? (Addr.add ⟨bk, of, sp⟩ ((0 : Int)).toNat) = some (.int .i64 (qn : Int)) := fun _ => hx0
        have hx0'd : wr.drew.cell? ⟨bk, of, sp⟩ = some (.int .i64 (qn : Int)) := hx0'
        have hx0'n : ∀ q_, (wr.drewN q_).cell? ⟨bk, of, sp⟩ = some (.int .i64 (qn : Int)) := fun _ => hx0'
        have hx1'd : wr.drew.cell? (Addr.add ⟨bk, of, sp⟩ 1) = some (.int .i64 (jn : Int)) := hx1'
        have hx1'n : ∀ q_, (wr.drewN q_).cell? (Addr.add ⟨bk, of, sp⟩ 1) = some (.int .i64 (jn : Int)) := fun _ => hx1'
        have hx2'd : wr.drew.cell? ⟨bk, of + 1, none⟩ = some (.int .i64 (jn : Int)) := hx2'
        have hx2'n : ∀ q_, (wr.drewN q_).cell? ⟨bk, of + 1, none⟩ = some (.int .i64 (jn : Int)) := fun _ => hx2'
        have hy0d : wr.drew.cell? ⟨g, qn, none⟩ = some (.slice (some ⟨gr, 0, none⟩) row2.length cr) := hy0
        have hy0n : ∀ q_, (wr.drewN q_).cell? ⟨g, qn, none⟩ = some (.slice (some ⟨gr, 0, none⟩) row2.length cr) := fun _ => hy0
        have hy1d : wr.drew.cell? ⟨gr, jn, none⟩ = some (.int .i64 (rd row2 (jn : Int))) := hy1
        have hy1n : ∀ q_, (wr.drewN q_).cell? ⟨gr, jn, none⟩ = some (.int .i64 (rd row2 (jn : Int))) := fun _ => hy1
        have hy2d : wr.drew.frozen? ⟨gr, jn, none⟩ = false := hy2
        have hy2n : ∀ q_, (wr.drewN q_).frozen? ⟨gr, jn, none⟩ = false := fun _ => hy2
        go_wp2
        go_region_with (fail)
        all_goals
          go_wp2
          go_roundg (toks.length - (i + 1))
          case measure => have := HI.out; omega
          case rel => exact ⟨i + 1, wrap64 (n + 1), set2 st qn jn (-1), HI.out, by have := HI.out; omega, rfl, by go_num, HS2, ⟨by first | exact HY6.out _ _ rfl | exact Kd.S_drew (HY6.out _ _ rfl) | exact Kd.S_drewN (HY6.out _ _ rfl) _⟩, ⟨Kd.F_step HF.out (fun k_ hk_ _ => by first | exact Below.heap_setCell _ _ _ k_ (fun e_ => by have := HY3.out.2; simp only at e_; omega) | rfl)⟩, ⟨by first | exact below_set (pw_below_drewN HB.out _) HY5.out | exact below_set (below_drew1 HB.out) HY5.out | exact below_set HB.out HY5.out | exact below_drew1 (below_set HB.out HY5.out)⟩, ⟨by first | exact Kept.setCell HK.out (.inl HY3.out.1) _ | exact HK.out.setCell (.inl HY3.out.1) _⟩⟩

theorem impl_Track_goToken.calls (k : Nat) (a b c : Int) (A3 : Option Addr) (c3 : Nat) (l3 : List Int) (A4 : Option Addr) (c4 : Nat) (l4 : List Int) (ok : Nat → Prop) (v : Value) (s : List (List Int)) (p t f r1 : Int) (r2 : Bool) (s' : List (List Int)) (w0 w : World) (hB : Below w0.heap.size w0 w) (hr3 : Kd.C (Kd.int .i64) w0 A3 l3.length l3) (hc3 : l3.length ≤ c3) (hr4 : Kd.C (Kd.int .i64) w0 A4 l4.length l4) (hc4 : l4.length ≤ c4)
    (ho : Kd.S (Kd.slice 3 (Kd.int .i64)) 22 w w0.heap.size ok v s) (h : impl_Track_goToken.f k a b c l3 l4 s p t f = some (r1, r2, s')) :
    Calls Try.prog 96 #[.agg #[.int .i64 a, .int .i64 b, .int .i64 c, .slice A3 l3.length c3, .slice A4 l4.length c4], v, .int .i64 p, .int .i64 t, .int .i64 f] w fun e w' => e = .returned (.tuple #[.int .i64 r1, .bool r2]) ∧ Kd.S (Kd.slice 3 (Kd.int .i64)) 22 w' w0.heap.size ok v s' ∧ Below w0.heap.size w0 w' ∧ Kept w w' ok := by
  unfold impl_Track_goToken.f at h
  split at h
  case isFalse => cases h
  rename_i hb
  obtain ⟨b1, b2, b3, b4⟩ := hb
  obtain ⟨pn, rfl⟩ : ∃ pn : Nat, p = (pn : Int) := ⟨p.toNat, by omega⟩
  obtain ⟨tn, rfl⟩ : ∃ tn : Nat, t = (tn : Int) := ⟨t.toNat, by omega⟩
  rw [Int.toNat_natCast] at b4
  simp only [Int.toNat_natCast] at h
  obtain ⟨g, cs, rfl, _⟩ := Kd.S_form ho (by omega)
  have hp : pn < s.length := by omega
  have ht : tn < (s.getD pn []).length := by omega
  obtain ⟨⟨x, y⟩, g1, h⟩ := Option.bind_eq_some_iff.1 h
  cases y with
  | false =>
    rw [if_neg (by simp)] at h
    simp only [Option.some.injEq, Prod.mk.injEq] at h
    obtain ⟨rfl, rfl, rfl⟩ := h
    exact goTok_no a b c A3 c3 l3 A4 c4 l4 ok g cs s pn tn f w0 w hB hr3 hc3 hr4 hc4 ho hp _ rfl ht x g1
  | true =>
    rw [if_pos rfl] at h
    obtain ⟨q, g2, h⟩ := Option.bind_eq_some_iff.1 h
    by_cases hq : q < 0
    · rw [if_pos hq] at h
      simp only [Option.some.injEq, Prod.mk.injEq] at h
      obtain ⟨rfl, rfl, rfl⟩ := h
      exact goTok_home a b c A3 c3 l3 A4 c4 l4 ok g cs s pn tn f w0 w hB hr3 hc3 hr4 hc4 ho hp _ rfl ht x q g1 g2 hq
    rw [if_neg hq] at h
    obtain ⟨z, g3, h⟩ := Option.bind_eq_some_iff.1 h
    cases z with
    | true =>
      rw [if_pos rfl] at h
      simp only [Option.some.injEq, Prod.mk.injEq] at h
      obtain ⟨rfl, rfl, rfl⟩ := h
      exact goTok_safe k a b c A3 c3 l3 A4 c4 l4 ok g cs s pn tn f w0 w hB hr3 hc3 hr4 hc4 ho hp _ rfl ht x q g1 g2 hq g3
    | false =>
      rw [if_neg (by simp)] at h
      obtain ⟨toks, g4, h⟩ := Option.bind_eq_some_iff.1 h
      obtain ⟨⟨n', s2⟩, g5, h⟩ := Option.bind_eq_some_iff.1 h
      simp only [Option.some.injEq, Prod.mk.injEq] at h
      obtain ⟨rfl, rfl, rfl⟩ := h
      exact goTok_send k a b c A3 c3 l3 A4 c4 l4 ok g cs s pn tn f w0 w hB hr3 hc3 hr4 hc4 ho hp _ rfl ht x q toks n' s2 g1 g2 hq g3 g4 g5

end Go.Proofs.Ytcppahkdfajcaaa.P
namespace Go.Proofs.Ytcppahkdfajcaaa.P
open Go.RowKit Go.Proofs.YtcppahkdfajcaaaW.PrintWords Go.Proofs.YtcppahkdfajcaaaW.PrintLast Go.Proofs.YtcppahkdfajcaaaW.PrintMore
set_option linter.unusedVariables false
set_option linter.unusedSimpArgs false

theorem impl_Track_goToken.mono : ∀ a b c l3 l4 s p t f k, LeO (impl_Track_goToken.f k a b c l3 l4 s p t f) (impl_Track_goToken.f (k + 1) a b c l3 l4 s p t f) := by
  intro a b c l3 l4 s p t f k
  unfold impl_Track_goToken.f
  repeat' first
      | (with_reducible exact impl_Track_isSafe.mono ..)
      | (with_reducible exact impl_Track_tokensAt.mono ..)
      | (with_reducible exact LeO.refl _)
      | (with_reducible exact LeO.none _)
      | (with_reducible refine LeO.ite ?_ ?_)
      | (with_reducible refine LeO.bind ?_ (fun _ => ?_))

def impl_GoToken.f (k : Nat) (a0_0 : Int) (a0_1 : Int) (a0_2 : Int) (l0_3 : List Int) (l0_4 : List Int) (l1 : List (List Int)) (a2 : Int) (a3 : Int) (a4 : Int) : Option (List (List Int) × Int × Bool) := (impl_isTracked.f k a0_0 a0_1 a0_2 l0_3 l0_4 l1).bind fun t => (if t = true then ((impl_Track_isMove.f a0_0 a0_1 a0_2 l0_3 l0_4 a2 a3 a4).bind fun u => (if u = true then ((impl_ownState.f k l1).bind fun s1 => ((impl_Track_goToken.f k a0_0 a0_1 a0_2 l0_3 l0_4 s1 a2 a3 a4).bind fun r => (if r.2.1 = true then some (r.2.2, r.1, true) else some ([], 0, false)))) else some ([], 0, false))) else some ([], 0, false))
theorem impl_GoToken.mono : ∀ a0 a1 a2 a3 a4 a5 a6 a7 a8 k, LeO (impl_GoToken.f k a0 a1 a2 a3 a4 a5 a6 a7 a8) (impl_GoToken.f (k + 1) a0 a1 a2 a3 a4 a5 a6 a7 a8) := by
  intro a0 a1 a2 a3 a4 a5 a6 a7 a8 k
  unfold impl_GoToken.f
  repeat' first
      | (with_reducible exact impl_isTracked.mono ..)
      | (with_reducible exact impl_ownState.mono ..)
      | (with_reducible exact impl_Track_goToken.mono ..)
      | (with_reducible exact LeO.refl _)
      | (with_reducible exact LeO.none _)
      | (with_reducible refine LeO.ite ?_ ?_)
      | (with_reducible refine LeO.bind ?_ (fun _ => ?_))

set_option maxHeartbeats 4000000 in
set_option maxRecDepth 100000 in
theorem impl_GoToken.calls (k : Nat) (a0_0 : Int) (a0_1 : Int) (a0_2 : Int) (A0_3 : Option Addr) (c0_3 : Nat) (l0_3 : List Int) (A0_4 : Option Addr) (c0_4 : Nat) (l0_4 : List Int) (A1 : Option Addr) (c1 : Nat) (l1 : List (List Int)) (a2 : Int) (a3 : Int) (a4 : Int) (r1 : List (List Int)) (r2 : Int) (r3 : Bool) (w : World) (hr0_3 : Kd.C (Kd.int .i64) w A0_3 l0_3.length l0_3) (hc0_3 : l0_3.length ≤ c0_3) (hr0_4 : Kd.C (Kd.int .i64) w A0_4 l0_4.length l0_4) (hc0_4 : l0_4.length ≤ c0_4) (hr1 : Kd.C (Kd.slice 3 (Kd.int .i64)) w A1 l1.length l1) (hc1 : l1.length ≤ c1) (h : impl_GoToken.f k a0_0 a0_1 a0_2 l0_3 l0_4 l1 a2 a3 a4 = some (r1, r2, r3)) :
    Calls Try.prog 60 #[.agg #[.int .i64 a0_0, .int .i64 a0_1, .int .i64 a0_2, .slice A0_3 l0_3.length c0_3, .slice A0_4 l0_4.length c0_4], .slice A1 l1.length c1, .int .i64 a2, .int .i64 a3, .int .i64 a4] w fun e w' => ∃ v0_ : Value, e = .returned (.tuple #[v0_, .int .i64 r2, .bool r3]) ∧ Kd.S (Kd.slice 3 (Kd.int .i64)) 22 w' w.heap.size (fun _ => True) v0_ r1 ∧ Below w.heap.size w w' := by
  have HR3 := Aside0.mk hr0_3
  have HR4 := Aside0.mk hr0_4
  have HR1 := Aside0.mk hr1
  have HC3 := Aside0.mk hc0_3
  have HC4 := Aside0.mk hc0_4
  have HC1 := Aside0.mk hc1
  clear hr0_3 hr0_4 hr1 hc0_3 hc0_4 hc1
  have hu27 := Try.underlying27
  unfold impl_GoToken.f at h
  obtain ⟨t, ht, h⟩ := Option.bind_eq_some_iff.1 h
  have HT := Aside0.mk ht
  clear ht
  cases t with
  | false =>
    rw [if_neg (by simp)] at h
    obtain ⟨rfl, rfl, rfl⟩ : ([] : List (List Int)) = r1 ∧ (0 : Int) = r2 ∧ false = r3 := by simpa using h
    clear h
    go_enter Try.func60, Try.ntmps60
    go_wp2_with (go_at_call 76; refine calls_at (fun W_ => Below w.heap.size w W_ ∧ W_.heap[w.heap.size]? = some (.cells #[.int .i64 a0_0, .int .i64 a0_1, .int .i64 a0_2, .slice A0_3 l0_3.length c0_3, .slice A0_4 l0_4.length c0_4] 27 (0, 0))) ⟨by (with_reducible repeat (first | exact Below.refl _ _ | apply below_alloc | apply pw_below_drewN | apply below_drew1)) <;> first | exact Below.refl _ _ | exact Nat.le_refl _, by (with_reducible repeat (first | refine blk_drewN ?_ _ | refine blk_drew ?_)); exact blk_new w _⟩ (fun W_ hW_ => ?_); (with_reducible refine (impl_isTracked.calls k a0_0 a0_1 a0_2 _ _ l0_3 _ _ l0_4 _ _ l1 false _ (Kd.C_below HR3.out hW_.1) HC3.out (Kd.C_below HR4.out hW_.1) HC4.out (Kd.C_below HR1.out hW_.1) HC1.out HT.out).mono ?_); rintro e w1 ⟨rfl, hb1⟩; have HB1 := Aside0.mk (below_step hW_.1 hb1); have BK1 := Aside0.mk (blk_below hW_.2 hb1); clear hb1 hW_; have d0 : w1.cell? ⟨w.heap.size, 0, none⟩ = some (.int .i64 a0_0) := (blk_cell BK1.out 0).trans rfl; have d1 : w1.cell? ⟨w.heap.size, 1, none⟩ = some (.int .i64 a0_1) := (blk_cell BK1.out 1).trans rfl; have d2 : w1.cell? ⟨w.heap.size, 2, none⟩ = some (.int .i64 a0_2) := (blk_cell BK1.out 2).trans rfl; have d3 : w1.cell? ⟨w.heap.size, 3, none⟩ = some (.slice A0_3 l0_3.length c0_3) := (blk_cell BK1.out 3).trans rfl; have d4 : w1.cell? ⟨w.heap.size, 4, none⟩ = some (.slice A0_4 l0_4.length c0_4) := (blk_cell BK1.out 4).trans rfl)
    go_ret3
    exact ⟨_, rfl, Kd.S_nil _ _ _ _ _, HB1.out⟩
  | true =>
    rw [if_pos rfl] at h
    obtain ⟨u, hu, h⟩ := Option.bind_eq_some_iff.1 h
    have HU := Aside0.mk hu
    clear hu
    cases u with
    | false =>
      rw [if_neg (by simp)] at h
      obtain ⟨rfl, rfl, rfl⟩ : ([] : List (List Int)) = r1 ∧ (0 : Int) = r2 ∧ false = r3 := by simpa using h
      clear h
      go_enter Try.func60, Try.ntmps60
      go_wp2_with (first | (go_at_call 76; refine calls_at (fun W_ => Below w.heap.size w W_ ∧ W_.heap[w.heap.size]? = some (.cells #[.int .i64 a0_0, .int .i64 a0_1, .int .i64 a0_2, .slice A0_3 l0_3.length c0_3, .slice A0_4 l0_4.length c0_4] 27 (0, 0))) ⟨by (with_reducible repeat (first | exact Below.refl _ _ | apply below_alloc | apply pw_below_drewN | apply below_drew1)) <;> first | exact Below.refl _ _ | exact Nat.le_refl _, by (with_reducible repeat (first | refine blk_drewN ?_ _ | refine blk_drew ?_)); exact blk_new w _⟩ (fun W_ hW_ => ?_); (with_reducible refine (impl_isTracked.calls k a0_0 a0_1 a0_2 _ _ l0_3 _ _ l0_4 _ _ l1 true _ (Kd.C_below HR3.out hW_.1) HC3.out (Kd.C_below HR4.out hW_.1) HC4.out (Kd.C_below HR1.out hW_.1) HC1.out HT.out).mono ?_); rintro e w1 ⟨rfl, hb1⟩; have HB1 := Aside0.mk (below_step hW_.1 hb1); have BK1 := Aside0.mk (blk_below hW_.2 hb1); clear hb1 hW_; have d0 : w1.cell? ⟨w.heap.size, 0, none⟩ = some (.int .i64 a0_0) := (blk_cell BK1.out 0).trans rfl; have d1 : w1.cell? ⟨w.heap.size, 1, none⟩ = some (.int .i64 a0_1) := (blk_cell BK1.out 1).trans rfl; have d2 : w1.cell? ⟨w.heap.size, 2, none⟩ = some (.int .i64 a0_2) := (blk_cell BK1.out 2).trans rfl; have d3 : w1.cell? ⟨w.heap.size, 3, none⟩ = some (.slice A0_3 l0_3.length c0_3) := (blk_cell BK1.out 3).trans rfl; have d4 : w1.cell? ⟨w.heap.size, 4, none⟩ = some (.slice A0_4 l0_4.length c0_4) := (blk_cell BK1.out 4).trans rfl) | (go_at_call 83; refine calls_at (fun W_ => Below w.heap.size w W_ ∧ W_.heap[w.heap.size]? = some (.cells #[.int .i64 a0_0, .int .i64 a0_1, .int .i64 a0_2, .slice A0_3 l0_3.length c0_3, .slice A0_4 l0_4.length c0_4] 27 (0, 0))) ⟨by (with_reducible repeat (first | exact HB1.out | apply below_alloc | apply pw_below_drewN | apply below_drew1)) <;> first | exact HB1.out | exact Nat.le_refl _, by (with_reducible repeat (first | refine blk_drewN ?_ _ | refine blk_drew ?_)); exact BK1.out⟩ (fun W_ hW_ => ?_); (try clear d0 d1 d2 d3 d4); (with_reducible refine (impl_Track_isMove.calls a0_0 a0_1 a0_2 _ _ l0_3 _ _ l0_4 a2 a3 a4 false _ (Kd.C_below HR3.out hW_.1) HC3.out (Kd.C_below HR4.out hW_.1) HC4.out HU.out).mono ?_); rintro e w2 ⟨rfl, hb2⟩; have HB2 := Aside0.mk (below_step hW_.1 hb2); have BK2 := Aside0.mk (blk_below hW_.2 hb2); clear hb2 hW_; have d0 : w2.cell? ⟨w.heap.size, 0, none⟩ = some (.int .i64 a0_0) := (blk_cell BK2.out 0).trans rfl; have d1 : w2.cell? ⟨w.heap.size, 1, none⟩ = some (.int .i64 a0_1) := (blk_cell BK2.out 1).trans rfl; have d2 : w2.cell? ⟨w.heap.size, 2, none⟩ = some (.int .i64 a0_2) := (blk_cell BK2.out 2).trans rfl; have d3 : w2.cell? ⟨w.heap.size, 3, none⟩ = some (.slice A0_3 l0_3.length c0_3) := (blk_cell BK2.out 3).trans rfl; have d4 : w2.cell? ⟨w.heap.size, 4, none⟩ = some (.slice A0_4 l0_4.length c0_4) := (blk_cell BK2.out 4).trans rfl))
      go_ret3
      exact ⟨_, rfl, Kd.S_nil _ _ _ _ _, HB2.out⟩
    | true =>
      rw [if_pos rfl] at h
      obtain ⟨s1, ho, h⟩ := Option.bind_eq_some_iff.1 h
      obtain ⟨⟨x1, x2, x3⟩, hg, h⟩ := Option.bind_eq_some_iff.1 h
      have HO := Aside0.mk ho
      have HG := Aside0.mk hg
      clear ho hg
      simp only at h
      cases x2 with
      | false =>
        rw [if_neg (by simp)] at h
        obtain ⟨rfl, rfl, rfl⟩ : ([] : List (List Int)) = r1 ∧ (0 : Int) = r2 ∧ false = r3 := by simpa using h
        clear h
        go_enter Try.func60, Try.ntmps60
        go_wp2_with (first | (go_at_call 76; refine calls_at (fun W_ => Below w.heap.size w W_ ∧ W_.heap[w.heap.size]? = some (.cells #[.int .i64 a0_0, .int .i64 a0_1, .int .i64 a0_2, .slice A0_3 l0_3.length c0_3, .slice A0_4 l0_4.length c0_4] 27 (0, 0))) ⟨by (with_reducible repeat (first | exact Below.refl _ _ | apply below_alloc | apply pw_below_drewN | apply below_drew1)) <;> first | exact Below.refl _ _ | exact Nat.le_refl _, by (with_reducible repeat (first | refine blk_drewN ?_ _ | refine blk_drew ?_)); exact blk_new w _⟩ (fun W_ hW_ => ?_); (with_reducible refine (impl_isTracked.calls k a0_0 a0_1 a0_2 _ _ l0_3 _ _ l0_4 _ _ l1 true _ (Kd.C_below HR3.out hW_.1) HC3.out (Kd.C_below HR4.out hW_.1) HC4.out (Kd.C_below HR1.out hW_.1) HC1.out HT.out).mono ?_); rintro e w1 ⟨rfl, hb1⟩; have HB1 := Aside0.mk (below_step hW_.1 hb1); have BK1 := Aside0.mk (blk_below hW_.2 hb1); clear hb1 hW_; have d0 : w1.cell? ⟨w.heap.size, 0, none⟩ = some (.int .i64 a0_0) := (blk_cell BK1.out 0).trans rfl; have d1 : w1.cell? ⟨w.heap.size, 1, none⟩ = some (.int .i64 a0_1) := (blk_cell BK1.out 1).trans rfl; have d2 : w1.cell? ⟨w.heap.size, 2, none⟩ = some (.int .i64 a0_2) := (blk_cell BK1.out 2).trans rfl; have d3 : w1.cell? ⟨w.heap.size, 3, none⟩ = some (.slice A0_3 l0_3.length c0_3) := (blk_cell BK1.out 3).trans rfl; have d4 : w1.cell? ⟨w.heap.size, 4, none⟩ = some (.slice A0_4 l0_4.length c0_4) := (blk_cell BK1.out 4).trans rfl) | (go_at_call 83; refine calls_at (fun W_ => Below w.heap.size w W_ ∧ W_.heap[w.heap.size]? = some (.cells #[.int .i64 a0_0, .int .i64 a0_1, .int .i64 a0_2, .slice A0_3 l0_3.length c0_3, .slice A0_4 l0_4.length c0_4] 27 (0, 0))) ⟨by (with_reducible repeat (first | exact HB1.out | apply below_alloc | apply pw_below_drewN | apply below_drew1)) <;> first | exact HB1.out | exact Nat.le_refl _, by (with_reducible repeat (first | refine blk_drewN ?_ _ | refine blk_drew ?_)); exact BK1.out⟩ (fun W_ hW_ => ?_); (try clear d0 d1 d2 d3 d4); (with_reducible refine (impl_Track_isMove.calls a0_0 a0_1 a0_2 _ _ l0_3 _ _ l0_4 a2 a3 a4 true _ (Kd.C_below HR3.out hW_.1) HC3.out (Kd.C_below HR4.out hW_.1) HC4.out HU.out).mono ?_); rintro e w2 ⟨rfl, hb2⟩; have HB2 := Aside0.mk (below_step hW_.1 hb2); have BK2 := Aside0.mk (blk_below hW_.2 hb2); clear hb2 hW_; have d0 : w2.cell? ⟨w.heap.size, 0, none⟩ = some (.int .i64 a0_0) := (blk_cell BK2.out 0).trans rfl; have d1 : w2.cell? ⟨w.heap.size, 1, none⟩ = some (.int .i64 a0_1) := (blk_cell BK2.out 1).trans rfl; have d2 : w2.cell? ⟨w.heap.size, 2, none⟩ = some (.int .i64 a0_2) := (blk_cell BK2.out 2).trans rfl; have d3 : w2.cell? ⟨w.heap.size, 3, none⟩ = some (.slice A0_3 l0_3.length c0_3) := (blk_cell BK2.out 3).trans rfl; have d4 : w2.cell? ⟨w.heap.size, 4, none⟩ = some (.slice A0_4 l0_4.length c0_4) := (blk_cell BK2.out 4).trans rfl) | (go_at_call 97; refine calls_at (fun W_ => Below w.heap.size w W_ ∧ W_.heap[w.heap.size]? = some (.cells #[.int .i64 a0_0, .int .i64 a0_1, .int .i64 a0_2, .slice A0_3 l0_3.length c0_3, .slice A0_4 l0_4.length c0_4] 27 (0, 0))) ⟨by (with_reducible repeat (first | exact HB2.out | apply below_alloc | apply pw_below_drewN | apply below_drew1)) <;> first | exact HB2.out | exact Nat.le_refl _, by (with_reducible repeat (first | refine blk_drewN ?_ _ | refine blk_drew ?_)); exact BK2.out⟩ (fun W_ hW_ => ?_); (try clear d0 d1 d2 d3 d4); (with_reducible refine (impl_ownState.calls k _ _ l1 s1 _ (Kd.C_below HR1.out hW_.1) HC1.out HO.out).mono ?_); rintro e w3 ⟨v3, rfl, ho, hb3⟩; have HB3 := Aside0.mk (below_step hW_.1 hb3); have BK3 := Aside0.mk (blk_below hW_.2 hb3); have HS3 := Aside0.mk (Kd.S_lower ho (below_size hW_.1)); clear hb3 hW_ ho; have d0 : w3.cell? ⟨w.heap.size, 0, none⟩ = some (.int .i64 a0_0) := (blk_cell BK3.out 0).trans rfl; have d1 : w3.cell? ⟨w.heap.size, 1, none⟩ = some (.int .i64 a0_1) := (blk_cell BK3.out 1).trans rfl; have d2 : w3.cell? ⟨w.heap.size, 2, none⟩ = some (.int .i64 a0_2) := (blk_cell BK3.out 2).trans rfl; have d3 : w3.cell? ⟨w.heap.size, 3, none⟩ = some (.slice A0_3 l0_3.length c0_3) := (blk_cell BK3.out 3).trans rfl; have d4 : w3.cell? ⟨w.heap.size, 4, none⟩ = some (.slice A0_4 l0_4.length c0_4) := (blk_cell BK3.out 4).trans rfl) | (go_at_call 96; refine calls_at (fun W_ => Below w.heap.size w W_ ∧ Kd.S (Kd.slice 3 (Kd.int .i64)) 22 W_ w.heap.size (fun _ => True) v3 s1) ⟨by (with_reducible repeat (first | exact HB3.out | apply below_alloc | apply pw_below_drewN | apply below_drew1)) <;> first | exact HB3.out | exact Nat.le_refl _, by (with_reducible repeat (first | apply Kd.S_alloc | apply Kd.S_drewN | apply Kd.S_drew)); exact HS3.out⟩ (fun W_ hW_ => ?_); (try clear d0 d1 d2 d3 d4); (with_reducible refine (impl_Track_goToken.calls k a0_0 a0_1 a0_2 _ _ l0_3 _ _ l0_4 (fun _ => True) v3 s1 a2 a3 a4 x1 _ x3 w W_ hW_.1 HR3.out HC3.out HR4.out HC4.out hW_.2 HG.out).mono ?_); rintro e w4 ⟨rfl, ho, hb4, hk4⟩; have HB4 := Aside0.mk hb4; have HS4 := Aside0.mk ho; clear hb4 hW_ ho hk4))
        go_ret3
        exact ⟨_, rfl, Kd.S_nil _ _ _ _ _, HB4.out⟩
      | true =>
        rw [if_pos rfl] at h
        obtain ⟨rfl, rfl, rfl⟩ : x3 = r1 ∧ x1 = r2 ∧ true = r3 := by simpa using h
        clear h
        go_enter Try.func60, Try.ntmps60
        go_wp2_with (first | (go_at_call 76; refine calls_at (fun W_ => Below w.heap.size w W_ ∧ W_.heap[w.heap.size]? = some (.cells #[.int .i64 a0_0, .int .i64 a0_1, .int .i64 a0_2, .slice A0_3 l0_3.length c0_3, .slice A0_4 l0_4.length c0_4] 27 (0, 0))) ⟨by (with_reducible repeat (first | exact Below.refl _ _ | apply below_alloc | apply pw_below_drewN | apply below_drew1)) <;> first | exact Below.refl _ _ | exact Nat.le_refl _, by (with_reducible repeat (first | refine blk_drewN ?_ _ | refine blk_drew ?_)); exact blk_new w _⟩ (fun W_ hW_ => ?_); (with_reducible refine (impl_isTracked.calls k a0_0 a0_1 a0_2 _ _ l0_3 _ _ l0_4 _ _ l1 true _ (Kd.C_below HR3.out hW_.1) HC3.out (Kd.C_below HR4.out hW_.1) HC4.out (Kd.C_below HR1.out hW_.1) HC1.out HT.out).mono ?_); rintro e w1 ⟨rfl, hb1⟩; have HB1 := Aside0.mk (below_step hW_.1 hb1); have BK1 := Aside0.mk (blk_below hW_.2 hb1); clear hb1 hW_; have d0 : w1.cell? ⟨w.heap.size, 0, none⟩ = some (.int .i64 a0_0) := (blk_cell BK1.out 0).trans rfl; have d1 : w1.cell? ⟨w.heap.size, 1, none⟩ = some (.int .i64 a0_1) := (blk_cell BK1.out 1).trans rfl; have d2 : w1.cell? ⟨w.heap.size, 2, none⟩ = some (.int .i64 a0_2) := (blk_cell BK1.out 2).trans rfl; have d3 : w1.cell? ⟨w.heap.size, 3, none⟩ = some (.slice A0_3 l0_3.length c0_3) := (blk_cell BK1.out 3).trans rfl; have d4 : w1.cell? ⟨w.heap.size, 4, none⟩ = some (.slice A0_4 l0_4.length c0_4) := (blk_cell BK1.out 4).trans rfl) | (go_at_call 83; refine calls_at (fun W_ => Below w.heap.size w W_ ∧ W_.heap[w.heap.size]? = some (.cells #[.int .i64 a0_0, .int .i64 a0_1, .int .i64 a0_2, .slice A0_3 l0_3.length c0_3, .slice A0_4 l0_4.length c0_4] 27 (0, 0))) ⟨by (with_reducible repeat (first | exact HB1.out | apply below_alloc | apply pw_below_drewN | apply below_drew1)) <;> first | exact HB1.out | exact Nat.le_refl _, by (with_reducible repeat (first | refine blk_drewN ?_ _ | refine blk_drew ?_)); exact BK1.out⟩ (fun W_ hW_ => ?_); (try clear d0 d1 d2 d3 d4); (with_reducible refine (impl_Track_isMove.calls a0_0 a0_1 a0_2 _ _ l0_3 _ _ l0_4 a2 a3 a4 true _ (Kd.C_below HR3.out hW_.1) HC3.out (Kd.C_below HR4.out hW_.1) HC4.out HU.out).mono ?_); rintro e w2 ⟨rfl, hb2⟩; have HB2 := Aside0.mk (below_step hW_.1 hb2); have BK2 := Aside0.mk (blk_below hW_.2 hb2); clear hb2 hW_; have d0 : w2.cell? ⟨w.heap.size, 0, none⟩ = some (.int .i64 a0_0) := (blk_cell BK2.out 0).trans rfl; have d1 : w2.cell? ⟨w.heap.size, 1, none⟩ = some (.int .i64 a0_1) := (blk_cell BK2.out 1).trans rfl; have d2 : w2.cell? ⟨w.heap.size, 2, none⟩ = some (.int .i64 a0_2) := (blk_cell BK2.out 2).trans rfl; have d3 : w2.cell? ⟨w.heap.size, 3, none⟩ = some (.slice A0_3 l0_3.length c0_3) := (blk_cell BK2.out 3).trans rfl; have d4 : w2.cell? ⟨w.heap.size, 4, none⟩ = some (.slice A0_4 l0_4.length c0_4) := (blk_cell BK2.out 4).trans rfl) | (go_at_call 97; refine calls_at (fun W_ => Below w.heap.size w W_ ∧ W_.heap[w.heap.size]? = some (.cells #[.int .i64 a0_0, .int .i64 a0_1, .int .i64 a0_2, .slice A0_3 l0_3.length c0_3, .slice A0_4 l0_4.length c0_4] 27 (0, 0))) ⟨by (with_reducible repeat (first | exact HB2.out | apply below_alloc | apply pw_below_drewN | apply below_drew1)) <;> first | exact HB2.out | exact Nat.le_refl _, by (with_reducible repeat (first | refine blk_drewN ?_ _ | refine blk_drew ?_)); exact BK2.out⟩ (fun W_ hW_ => ?_); (try clear d0 d1 d2 d3 d4); (with_reducible refine (impl_ownState.calls k _ _ l1 s1 _ (Kd.C_below HR1.out hW_.1) HC1.out HO.out).mono ?_); rintro e w3 ⟨v3, rfl, ho, hb3⟩; have HB3 := Aside0.mk (below_step hW_.1 hb3); have BK3 := Aside0.mk (blk_below hW_.2 hb3); have HS3 := Aside0.mk (Kd.S_lower ho (below_size hW_.1)); clear hb3 hW_ ho; have d0 : w3.cell? ⟨w.heap.size, 0, none⟩ = some (.int .i64 a0_0) := (blk_cell BK3.out 0).trans rfl; have d1 : w3.cell? ⟨w.heap.size, 1, none⟩ = some (.int .i64 a0_1) := (blk_cell BK3.out 1).trans rfl; have d2 : w3.cell? ⟨w.heap.size, 2, none⟩ = some (.int .i64 a0_2) := (blk_cell BK3.out 2).trans rfl; have d3 : w3.cell? ⟨w.heap.size, 3, none⟩ = some (.slice A0_3 l0_3.length c0_3) := (blk_cell BK3.out 3).trans rfl; have d4 : w3.cell? ⟨w.heap.size, 4, none⟩ = some (.slice A0_4 l0_4.length c0_4) := (blk_cell BK3.out 4).trans rfl) | (go_at_call 96; refine calls_at (fun W_ => Below w.heap.size w W_ ∧ Kd.S (Kd.slice 3 (Kd.int .i64)) 22 W_ w.heap.size (fun _ => True) v3 s1) ⟨by (with_reducible repeat (first | exact HB3.out | apply below_alloc | apply pw_below_drewN | apply below_drew1)) <;> first | exact HB3.out | exact Nat.le_refl _, by (with_reducible repeat (first | apply Kd.S_alloc | apply Kd.S_drewN | apply Kd.S_drew)); exact HS3.out⟩ (fun W_ hW_ => ?_); (try clear d0 d1 d2 d3 d4); (with_reducible refine (impl_Track_goToken.calls k a0_0 a0_1 a0_2 _ _ l0_3 _ _ l0_4 (fun _ => True) v3 s1 a2 a3 a4 x1 _ x3 w W_ hW_.1 HR3.out HC3.out HR4.out HC4.out hW_.2 HG.out).mono ?_); rintro e w4 ⟨rfl, ho, hb4, hk4⟩; have HB4 := Aside0.mk hb4; have HS4 := Aside0.mk ho; clear hb4 hW_ ho hk4))
        go_ret3
        exact ⟨_, rfl, HS4.out, HB4.out⟩
end Go.Proofs.Ytcppahkdfajcaaa.P
