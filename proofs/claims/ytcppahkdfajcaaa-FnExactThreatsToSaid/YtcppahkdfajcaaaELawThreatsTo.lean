/- The law ThreatsTo: what its Go text answers, where both sides answer alike. -/
import Derived.Test.YtcppahkdfajcaaaELawKit
import Derived.Deep.RegionWith
import Derived.Test.YtcppahkdfajcaaaP63
import Derived.Test.YtcppahkdfajcaaaP63
import Derived.Test.YtcppahkdfajcaaaP63
import Derived.Test.YtcppahkdfajcaaaP63
import Derived.Test.YtcppahkdfajcaaaP63
import Derived.Test.YtcppahkdfajcaaaP63
import Derived.Test.YtcppahkdfajcaaaP47
import Derived.Test.YtcppahkdfajcaaaP88
import Derived.Test.YtcppahkdfajcaaaP52
import Derived.Test.YtcppahkdfajcaaaP63
import Derived.Test.YtcppahkdfajcaaaP47
import Derived.Test.YtcppahkdfajcaaaP47
namespace Go.Proofs.Ytcppahkdfajcaaa.P
open Go.RowKit Go.Proofs.YtcppahkdfajcaaaW.PrintWords Go.Proofs.YtcppahkdfajcaaaW.PrintLast Go.Proofs.YtcppahkdfajcaaaW.PrintMore
set_option linter.unusedVariables false
set_option linter.unusedSimpArgs false

set_option maxHeartbeats 8000000 in
set_option maxRecDepth 100000 in
theorem law_ThreatsTo_large0 (k : Nat) (a0_0 : Int) (a0_1 : Int) (a0_2 : Int) (A0_3 : Option Addr) (c0_3 : Nat) (l0_3 : List Int) (A0_4 : Option Addr) (c0_4 : Nat) (l0_4 : List Int) (A1 : Option Addr) (c1 : Nat) (l1 : List (List Int)) (a2 : Int) (w : World) (hr0_3 : Kd.C (Kd.int .i64) w A0_3 l0_3.length l0_3) (hc0_3 : l0_3.length ≤ c0_3) (hr0_4 : Kd.C (Kd.int .i64) w A0_4 l0_4.length l0_4) (hc0_4 : l0_4.length ≤ c0_4) (hr1 : Kd.C (Kd.slice 3 (Kd.int .i64)) w A1 l1.length l1) (hc1 : l1.length ≤ c1)
    (t0 : Int) (gz0 : laws_szTrack.f a0_0 a0_1 a0_2 l0_3 l0_4 1048576 = some t0)  (nz0 : t0 < 0) :
    Calls Try.prog 13 #[.agg #[.int .i64 a0_0, .int .i64 a0_1, .int .i64 a0_2, .slice A0_3 l0_3.length c0_3, .slice A0_4 l0_4.length c0_4], .slice A1 l1.length c1, .int .i64 a2] w fun e w' => e = .returned (.bool true) ∧ Below w.heap.size w w' := by
  have hu100 := Try.underlying24
  have hu200 := Try.underlying27
  have HR0_3 := Aside0.mk hr0_3
  have HC0_3 := Aside0.mk hc0_3
  clear hr0_3 hc0_3
  have HR0_4 := Aside0.mk hr0_4
  have HC0_4 := Aside0.mk hc0_4
  clear hr0_4 hc0_4
  have HR1 := Aside0.mk hr1
  have HC1 := Aside0.mk hc1
  clear hr1 hc1
  have HB := Aside0.mk (Below.refl w.heap.size w)
  have HS := Aside0.mk (Nat.le_refl w.heap.size)
  have GZ0 := Aside0.mk gz0
  clear gz0
  have hd0 : decide (t0 < 0) = true := decide_eq_true nz0
  clear nz0
  go_enter Try.func13, Try.ntmps13
  go_wp2_with (((with_reducible refine gate_dst (N := 3) rfl ?_); refine box_event ?hg (N := 3) ?hd (cs := #[.int .i64 a0_0, .int .i64 a0_1, .int .i64 a0_2, .slice A0_3 l0_3.length c0_3, .slice A0_4 l0_4.length c0_4]) (t := 24) ?hr ?_; (case hd => rfl); (case hg => rfl); (case hr => first | (go_simp; done) | (go_simp; rfl)); intro Ba0 hgb_ w1 hbox hb; have GEa0 := Aside0.mk (show w.heap.size ≤ Ba0 from (by rw [hgb_]; exact (by repeat (first | (with_reducible first | exact HB.out | apply below_alloc | apply pw_below_drewN | apply below_drew1) | exact HB.out) : Below w.heap.size w _).size)); have hle_ : w.heap.size ≤ Ba0 := (by rw [hgb_]; exact (by repeat (with_reducible first | exact Kept.refl _ _ | apply Kept.alloc | apply Kept.drewN | apply Kept.drew) : Kept w _ (fun _ => False)).1); have hkk_ : Kept w w1 (fun _ => False) := Kept.below (by repeat (with_reducible first | exact Kept.refl _ _ | apply Kept.alloc | apply Kept.drewN | apply Kept.drew)) hb; replace HB := Aside0.mk (below_step (by repeat (first | (with_reducible first | exact HB.out | apply below_alloc | apply pw_below_drewN | apply below_drew1) | exact HB.out) : Below w.heap.size w _) hb); obtain ⟨q1, hm_⟩ : ∃ m_ : Nat, m_ = w1.heap.size := ⟨_, rfl⟩; have HL1 := Aside0.mk (show w.heap.size ≤ q1 from (by have := HS.out; have := hkk_.1; omega)); have BKa0 := Aside0.mk hbox; have HBKa0 := Aside0.mk (show w.heap.size ≤ Ba0 ∧ Ba0 < q1 from ⟨Nat.le_trans HS.out hle_, (by rw [hm_]; exact blk_lt hbox)⟩); replace HS := Aside0.mk (Nat.le_of_eq hm_); clear hm_ hb hkk_ hle_ hgb_ hbox; have hz0 : w1.cell? ⟨Ba0, 0, none⟩ = some (.int .i64 a0_0) := (blk_cell BKa0.out 0).trans rfl; have hz1 : w1.cell? ⟨Ba0, 1, none⟩ = some (.int .i64 a0_1) := (blk_cell BKa0.out 1).trans rfl; have hz2 : w1.cell? ⟨Ba0, 2, none⟩ = some (.int .i64 a0_2) := (blk_cell BKa0.out 2).trans rfl; have hz3 : w1.cell? ⟨Ba0, 3, none⟩ = some (.slice A0_3 l0_3.length c0_3) := (blk_cell BKa0.out 3).trans rfl; have hz4 : w1.cell? ⟨Ba0, 4, none⟩ = some (.slice A0_4 l0_4.length c0_4) := (blk_cell BKa0.out 4).trans rfl))
  go_at_call 19
  refine calls_at (fun W_ => Below w.heap.size w W_ ∧ Kept w1 W_ (fun _ => False)) ⟨by repeat (first | (with_reducible first | exact HB.out | apply below_alloc | apply pw_below_drewN | apply below_drew1) | exact HB.out), by repeat (with_reducible first | exact Kept.refl _ _ | apply Kept.alloc | apply Kept.drewN | apply Kept.drew)⟩ (fun u2 hW_ => ?_)
  have hkk_ := hW_.2
  replace HB := Aside0.mk hW_.1
  replace BKa0 := Aside0.mk (blk_kept BKa0.out hkk_ (fun hs_ => hs_))
  replace HS := Aside0.mk (Nat.le_trans HS.out hkk_.1)
  clear hW_ hkk_
  clear hz0 hz1 hz2 hz3 hz4
  refine (laws_szTrack.calls a0_0 a0_1 a0_2 _ _ l0_3 _ _ l0_4 1048576 t0 _ (Kd.C_below HR0_3.out HB.out) HC0_3.out (Kd.C_below HR0_4.out HB.out) HC0_4.out GZ0.out).mono ?_
  rintro e w2 ⟨rfl, hb⟩
  have hB0_ := HB.out.size
  have hk_ := Kept.of_below hb (fun _ => False)
  replace BKa0 := Aside0.mk (blk_kept BKa0.out hk_ (fun hs_ => hs_))
  replace HB := Aside0.mk (below_step HB.out hb)
  obtain ⟨q2, hm_⟩ : ∃ m_ : Nat, m_ = w2.heap.size := ⟨_, rfl⟩
  have HL2 := Aside0.mk (show q1 ≤ q2 by have := HS.out; have := hb.size; omega)
  replace HS := Aside0.mk (Nat.le_of_eq hm_)
  clear hm_ hb hk_ hB0_
  go_wp2
  go_ret
  exact ⟨rfl, by repeat (first | (with_reducible first | exact HB.out | apply below_alloc | apply pw_below_drewN | apply below_drew1) | exact HB.out)⟩

set_option maxHeartbeats 8000000 in
set_option maxRecDepth 100000 in
theorem law_ThreatsTo_large1 (k : Nat) (a0_0 : Int) (a0_1 : Int) (a0_2 : Int) (A0_3 : Option Addr) (c0_3 : Nat) (l0_3 : List Int) (A0_4 : Option Addr) (c0_4 : Nat) (l0_4 : List Int) (A1 : Option Addr) (c1 : Nat) (l1 : List (List Int)) (a2 : Int) (w : World) (hr0_3 : Kd.C (Kd.int .i64) w A0_3 l0_3.length l0_3) (hc0_3 : l0_3.length ≤ c0_3) (hr0_4 : Kd.C (Kd.int .i64) w A0_4 l0_4.length l0_4) (hc0_4 : l0_4.length ≤ c0_4) (hr1 : Kd.C (Kd.slice 3 (Kd.int .i64)) w A1 l1.length l1) (hc1 : l1.length ≤ c1)
    (t0 : Int) (t1 : Int) (gz0 : laws_szTrack.f a0_0 a0_1 a0_2 l0_3 l0_4 1048576 = some t0) (gz1 : laws_szIntSS.f k l1 t0 = some t1) (nz0 : ¬ t0 < 0) (nz1 : t1 < 0) :
    Calls Try.prog 13 #[.agg #[.int .i64 a0_0, .int .i64 a0_1, .int .i64 a0_2, .slice A0_3 l0_3.length c0_3, .slice A0_4 l0_4.length c0_4], .slice A1 l1.length c1, .int .i64 a2] w fun e w' => e = .returned (.bool true) ∧ Below w.heap.size w w' := by
  have hu100 := Try.underlying24
  have hu200 := Try.underlying27
  have HR0_3 := Aside0.mk hr0_3
  have HC0_3 := Aside0.mk hc0_3
  clear hr0_3 hc0_3
  have HR0_4 := Aside0.mk hr0_4
  have HC0_4 := Aside0.mk hc0_4
  clear hr0_4 hc0_4
  have HR1 := Aside0.mk hr1
  have HC1 := Aside0.mk hc1
  clear hr1 hc1
  have HB := Aside0.mk (Below.refl w.heap.size w)
  have HS := Aside0.mk (Nat.le_refl w.heap.size)
  have GZ0 := Aside0.mk gz0
  clear gz0
  have GZ1 := Aside0.mk gz1
  clear gz1
  have hd0 : decide (t0 < 0) = false := decide_eq_false nz0
  clear nz0
  have hd1 : decide (t1 < 0) = true := decide_eq_true nz1
  clear nz1
  go_enter Try.func13, Try.ntmps13
  go_wp2_with (((with_reducible refine gate_dst (N := 3) rfl ?_); refine box_event ?hg (N := 3) ?hd (cs := #[.int .i64 a0_0, .int .i64 a0_1, .int .i64 a0_2, .slice A0_3 l0_3.length c0_3, .slice A0_4 l0_4.length c0_4]) (t := 24) ?hr ?_; (case hd => rfl); (case hg => rfl); (case hr => first | (go_simp; done) | (go_simp; rfl)); intro Ba0 hgb_ w1 hbox hb; have GEa0 := Aside0.mk (show w.heap.size ≤ Ba0 from (by rw [hgb_]; exact (by repeat (first | (with_reducible first | exact HB.out | apply below_alloc | apply pw_below_drewN | apply below_drew1) | exact HB.out) : Below w.heap.size w _).size)); have hle_ : w.heap.size ≤ Ba0 := (by rw [hgb_]; exact (by repeat (with_reducible first | exact Kept.refl _ _ | apply Kept.alloc | apply Kept.drewN | apply Kept.drew) : Kept w _ (fun _ => False)).1); have hkk_ : Kept w w1 (fun _ => False) := Kept.below (by repeat (with_reducible first | exact Kept.refl _ _ | apply Kept.alloc | apply Kept.drewN | apply Kept.drew)) hb; replace HB := Aside0.mk (below_step (by repeat (first | (with_reducible first | exact HB.out | apply below_alloc | apply pw_below_drewN | apply below_drew1) | exact HB.out) : Below w.heap.size w _) hb); obtain ⟨q1, hm_⟩ : ∃ m_ : Nat, m_ = w1.heap.size := ⟨_, rfl⟩; have HL1 := Aside0.mk (show w.heap.size ≤ q1 from (by have := HS.out; have := hkk_.1; omega)); have BKa0 := Aside0.mk hbox; have HBKa0 := Aside0.mk (show w.heap.size ≤ Ba0 ∧ Ba0 < q1 from ⟨Nat.le_trans HS.out hle_, (by rw [hm_]; exact blk_lt hbox)⟩); replace HS := Aside0.mk (Nat.le_of_eq hm_); clear hm_ hb hkk_ hle_ hgb_ hbox; have hz0 : w1.cell? ⟨Ba0, 0, none⟩ = some (.int .i64 a0_0) := (blk_cell BKa0.out 0).trans rfl; have hz1 : w1.cell? ⟨Ba0, 1, none⟩ = some (.int .i64 a0_1) := (blk_cell BKa0.out 1).trans rfl; have hz2 : w1.cell? ⟨Ba0, 2, none⟩ = some (.int .i64 a0_2) := (blk_cell BKa0.out 2).trans rfl; have hz3 : w1.cell? ⟨Ba0, 3, none⟩ = some (.slice A0_3 l0_3.length c0_3) := (blk_cell BKa0.out 3).trans rfl; have hz4 : w1.cell? ⟨Ba0, 4, none⟩ = some (.slice A0_4 l0_4.length c0_4) := (blk_cell BKa0.out 4).trans rfl))
  go_at_call 19
  refine calls_at (fun W_ => Below w.heap.size w W_ ∧ Kept w1 W_ (fun _ => False)) ⟨by repeat (first | (with_reducible first | exact HB.out | apply below_alloc | apply pw_below_drewN | apply below_drew1) | exact HB.out), by repeat (with_reducible first | exact Kept.refl _ _ | apply Kept.alloc | apply Kept.drewN | apply Kept.drew)⟩ (fun u2 hW_ => ?_)
  have hkk_ := hW_.2
  replace HB := Aside0.mk hW_.1
  replace BKa0 := Aside0.mk (blk_kept BKa0.out hkk_ (fun hs_ => hs_))
  replace HS := Aside0.mk (Nat.le_trans HS.out hkk_.1)
  clear hW_ hkk_
  clear hz0 hz1 hz2 hz3 hz4
  refine (laws_szTrack.calls a0_0 a0_1 a0_2 _ _ l0_3 _ _ l0_4 1048576 t0 _ (Kd.C_below HR0_3.out HB.out) HC0_3.out (Kd.C_below HR0_4.out HB.out) HC0_4.out GZ0.out).mono ?_
  rintro e w2 ⟨rfl, hb⟩
  have hB0_ := HB.out.size
  have hk_ := Kept.of_below hb (fun _ => False)
  replace BKa0 := Aside0.mk (blk_kept BKa0.out hk_ (fun hs_ => hs_))
  replace HB := Aside0.mk (below_step HB.out hb)
  obtain ⟨q2, hm_⟩ : ∃ m_ : Nat, m_ = w2.heap.size := ⟨_, rfl⟩
  have HL2 := Aside0.mk (show q1 ≤ q2 by have := HS.out; have := hb.size; omega)
  replace HS := Aside0.mk (Nat.le_of_eq hm_)
  clear hm_ hb hk_ hB0_
  go_wp2_with (fail)
  go_at_call 26
  refine calls_at (fun W_ => Below w.heap.size w W_ ∧ Kept w2 W_ (fun _ => False)) ⟨by repeat (first | (with_reducible first | exact HB.out | apply below_alloc | apply pw_below_drewN | apply below_drew1) | exact HB.out), by repeat (with_reducible first | exact Kept.refl _ _ | apply Kept.alloc | apply Kept.drewN | apply Kept.drew)⟩ (fun u3 hW_ => ?_)
  have hkk_ := hW_.2
  replace HB := Aside0.mk hW_.1
  replace BKa0 := Aside0.mk (blk_kept BKa0.out hkk_ (fun hs_ => hs_))
  replace HS := Aside0.mk (Nat.le_trans HS.out hkk_.1)
  clear hW_ hkk_
  refine (laws_szIntSS.calls k _ _ l1 t0 t1 _ (Kd.C_below HR1.out HB.out) HC1.out GZ1.out).mono ?_
  rintro e w' ⟨rfl, ⟨nd, rfl⟩⟩
  go_wp2
  go_ret
  exact ⟨rfl, by repeat (first | (with_reducible first | exact HB.out | apply below_alloc | apply pw_below_drewN | apply below_drew1) | exact HB.out)⟩

set_option maxHeartbeats 8000000 in
set_option maxRecDepth 100000 in
theorem law_ThreatsTo_way (k : Nat) (a0_0 : Int) (a0_1 : Int) (a0_2 : Int) (A0_3 : Option Addr) (c0_3 : Nat) (l0_3 : List Int) (A0_4 : Option Addr) (c0_4 : Nat) (l0_4 : List Int) (A1 : Option Addr) (c1 : Nat) (l1 : List (List Int)) (a2 : Int) (w : World) (hr0_3 : Kd.C (Kd.int .i64) w A0_3 l0_3.length l0_3) (hc0_3 : l0_3.length ≤ c0_3) (hr0_4 : Kd.C (Kd.int .i64) w A0_4 l0_4.length l0_4) (hc0_4 : l0_4.length ≤ c0_4) (hr1 : Kd.C (Kd.slice 3 (Kd.int .i64)) w A1 l1.length l1) (hc1 : l1.length ≤ c1)
    (t0 : Int) (t1 : Int) (x0_0 : Int) (x0_1 : Int) (x0_2 : Int) (x0_3 : List Int) (x0_4 : List Int) (s1 : List (List Int)) (r0 : List Int) (r1 : Bool) (k0 : Int) (y0_3 : List Int) (y0_4 : List Int) (k1 : Int) (y1 : List (List Int)) (mk : Int) (zk : List Int) (nz0 : ¬ t0 < 0) (nz1 : ¬ t1 < 0) (nk : ¬ k1 < 0) (nm : ¬ mk < 0)
    (gz0 : laws_szTrack.f a0_0 a0_1 a0_2 l0_3 l0_4 1048576 = some t0) (gz1 : laws_szIntSS.f k l1 t0 = some t1) (gt0 : laws_toTrack.f k a0_0 a0_1 a0_2 l0_3 l0_4 = some (x0_0, x0_1, x0_2, x0_3, x0_4)) (ge0 : laws_eqTrack.f k x0_0 x0_1 x0_2 x0_3 x0_4 x0_0 x0_1 x0_2 x0_3 x0_4 = some true) (gt1 : laws_toIntSS.f k l1 = some s1) (ge1 : laws_eqIntSS.f k s1 s1 = some true) (gs : spec_ThreatsTo.f k x0_0 x0_1 x0_2 x0_3 x0_4 s1 a2 = some (r0, r1)) (gi : impl_ThreatsTo.f k x0_0 x0_1 x0_2 x0_3 x0_4 s1 a2 = some (r0, r1)) (gr : laws_eqIntS.f k r0 r0 = some true) (gm0 : laws_markTrack.f k x0_0 x0_1 x0_2 x0_3 x0_4 1 = some (k0, y0_3, y0_4)) (gm1 : laws_markIntSS.f k s1 k0 = some (k1, y1)) (gk : laws_markIntS.f k r0 1 = some (mk, zk)) (gh : laws_heldIntS.f k zk 1 = some mk) :
    Calls Try.prog 13 #[.agg #[.int .i64 a0_0, .int .i64 a0_1, .int .i64 a0_2, .slice A0_3 l0_3.length c0_3, .slice A0_4 l0_4.length c0_4], .slice A1 l1.length c1, .int .i64 a2] w fun e w' => e = .returned (.bool true) ∧ Below w.heap.size w w' := by
  have hu100 := Try.underlying24
  have hu200 := Try.underlying27
  have HR0_3 := Aside0.mk hr0_3
  have HC0_3 := Aside0.mk hc0_3
  clear hr0_3 hc0_3
  have HR0_4 := Aside0.mk hr0_4
  have HC0_4 := Aside0.mk hc0_4
  clear hr0_4 hc0_4
  have HR1 := Aside0.mk hr1
  have HC1 := Aside0.mk hc1
  clear hr1 hc1
  have HB := Aside0.mk (Below.refl w.heap.size w)
  have HS := Aside0.mk (Nat.le_refl w.heap.size)
  have GZ0 := Aside0.mk gz0
  clear gz0
  have GZ1 := Aside0.mk gz1
  clear gz1
  have GT0 := Aside0.mk gt0
  clear gt0
  have GE0 := Aside0.mk ge0
  clear ge0
  have GT1 := Aside0.mk gt1
  clear gt1
  have GE1 := Aside0.mk ge1
  clear ge1
  have GS := Aside0.mk gs
  clear gs
  have GI := Aside0.mk gi
  clear gi
  have GR := Aside0.mk gr
  clear gr
  have GM0 := Aside0.mk gm0
  clear gm0
  have GM1 := Aside0.mk gm1
  clear gm1
  have GK := Aside0.mk gk
  clear gk
  have GH := Aside0.mk gh
  clear gh
  have hd0 : decide (t0 < 0) = false := decide_eq_false nz0
  clear nz0
  have hd1 : decide (t1 < 0) = false := decide_eq_false nz1
  clear nz1
  have hd2 : decide (k1 < 0) = false := decide_eq_false nk
  clear nk
  have hd3 : decide (mk < 0) = false := decide_eq_false nm
  clear nm
  go_enter Try.func13, Try.ntmps13
  go_wp2_with (((with_reducible refine gate_dst (N := 3) rfl ?_); refine box_event ?hg (N := 3) ?hd (cs := #[.int .i64 a0_0, .int .i64 a0_1, .int .i64 a0_2, .slice A0_3 l0_3.length c0_3, .slice A0_4 l0_4.length c0_4]) (t := 24) ?hr ?_; (case hd => rfl); (case hg => rfl); (case hr => first | (go_simp; done) | (go_simp; rfl)); intro Ba0 hgb_ w1 hbox hb; have GEa0 := Aside0.mk (show w.heap.size ≤ Ba0 from (by rw [hgb_]; exact (by repeat (first | (with_reducible first | exact HB.out | apply below_alloc | apply pw_below_drewN | apply below_drew1) | exact HB.out) : Below w.heap.size w _).size)); have hle_ : w.heap.size ≤ Ba0 := (by rw [hgb_]; exact (by repeat (with_reducible first | exact Kept.refl _ _ | apply Kept.alloc | apply Kept.drewN | apply Kept.drew) : Kept w _ (fun _ => False)).1); have hkk_ : Kept w w1 (fun _ => False) := Kept.below (by repeat (with_reducible first | exact Kept.refl _ _ | apply Kept.alloc | apply Kept.drewN | apply Kept.drew)) hb; replace HB := Aside0.mk (below_step (by repeat (first | (with_reducible first | exact HB.out | apply below_alloc | apply pw_below_drewN | apply below_drew1) | exact HB.out) : Below w.heap.size w _) hb); obtain ⟨q1, hm_⟩ : ∃ m_ : Nat, m_ = w1.heap.size := ⟨_, rfl⟩; have HL1 := Aside0.mk (show w.heap.size ≤ q1 from (by have := HS.out; have := hkk_.1; omega)); have BKa0 := Aside0.mk hbox; have HBKa0 := Aside0.mk (show w.heap.size ≤ Ba0 ∧ Ba0 < q1 from ⟨Nat.le_trans HS.out hle_, (by rw [hm_]; exact blk_lt hbox)⟩); replace HS := Aside0.mk (Nat.le_of_eq hm_); clear hm_ hb hkk_ hle_ hgb_ hbox; have hz0 : w1.cell? ⟨Ba0, 0, none⟩ = some (.int .i64 a0_0) := (blk_cell BKa0.out 0).trans rfl; have hz1 : w1.cell? ⟨Ba0, 1, none⟩ = some (.int .i64 a0_1) := (blk_cell BKa0.out 1).trans rfl; have hz2 : w1.cell? ⟨Ba0, 2, none⟩ = some (.int .i64 a0_2) := (blk_cell BKa0.out 2).trans rfl; have hz3 : w1.cell? ⟨Ba0, 3, none⟩ = some (.slice A0_3 l0_3.length c0_3) := (blk_cell BKa0.out 3).trans rfl; have hz4 : w1.cell? ⟨Ba0, 4, none⟩ = some (.slice A0_4 l0_4.length c0_4) := (blk_cell BKa0.out 4).trans rfl))
  go_at_call 19
  refine calls_at (fun W_ => Below w.heap.size w W_ ∧ Kept w1 W_ (fun _ => False)) ⟨by repeat (first | (with_reducible first | exact HB.out | apply below_alloc | apply pw_below_drewN | apply below_drew1) | exact HB.out), by repeat (with_reducible first | exact Kept.refl _ _ | apply Kept.alloc | apply Kept.drewN | apply Kept.drew)⟩ (fun u2 hW_ => ?_)
  have hkk_ := hW_.2
  replace HB := Aside0.mk hW_.1
  replace BKa0 := Aside0.mk (blk_kept BKa0.out hkk_ (fun hs_ => hs_))
  replace HS := Aside0.mk (Nat.le_trans HS.out hkk_.1)
  clear hW_ hkk_
  clear hz0 hz1 hz2 hz3 hz4
  refine (laws_szTrack.calls a0_0 a0_1 a0_2 _ _ l0_3 _ _ l0_4 1048576 t0 _ (Kd.C_below HR0_3.out HB.out) HC0_3.out (Kd.C_below HR0_4.out HB.out) HC0_4.out GZ0.out).mono ?_
  rintro e w2 ⟨rfl, hb⟩
  have hB0_ := HB.out.size
  have hk_ := Kept.of_below hb (fun _ => False)
  replace BKa0 := Aside0.mk (blk_kept BKa0.out hk_ (fun hs_ => hs_))
  replace HB := Aside0.mk (below_step HB.out hb)
  obtain ⟨q2, hm_⟩ : ∃ m_ : Nat, m_ = w2.heap.size := ⟨_, rfl⟩
  have HL2 := Aside0.mk (show q1 ≤ q2 by have := HS.out; have := hb.size; omega)
  replace HS := Aside0.mk (Nat.le_of_eq hm_)
  clear hm_ hb hk_ hB0_
  go_wp2_with (fail)
  go_at_call 26
  refine calls_at (fun W_ => Below w.heap.size w W_ ∧ Kept w2 W_ (fun _ => False)) ⟨by repeat (first | (with_reducible first | exact HB.out | apply below_alloc | apply pw_below_drewN | apply below_drew1) | exact HB.out), by repeat (with_reducible first | exact Kept.refl _ _ | apply Kept.alloc | apply Kept.drewN | apply Kept.drew)⟩ (fun u3 hW_ => ?_)
  have hkk_ := hW_.2
  replace HB := Aside0.mk hW_.1
  replace BKa0 := Aside0.mk (blk_kept BKa0.out hkk_ (fun hs_ => hs_))
  replace HS := Aside0.mk (Nat.le_trans HS.out hkk_.1)
  clear hW_ hkk_
  refine (laws_szIntSS.calls k _ _ l1 t0 t1 _ (Kd.C_below HR1.out HB.out) HC1.out GZ1.out).mono ?_
  rintro e w' ⟨rfl, ⟨nd, rfl⟩⟩
  have hz0 : u3.cell? ⟨Ba0, 0, none⟩ = some (.int .i64 a0_0) := (blk_cell BKa0.out 0).trans rfl
  have hz1 : u3.cell? ⟨Ba0, 1, none⟩ = some (.int .i64 a0_1) := (blk_cell BKa0.out 1).trans rfl
  have hz2 : u3.cell? ⟨Ba0, 2, none⟩ = some (.int .i64 a0_2) := (blk_cell BKa0.out 2).trans rfl
  have hz3 : u3.cell? ⟨Ba0, 3, none⟩ = some (.slice A0_3 l0_3.length c0_3) := (blk_cell BKa0.out 3).trans rfl
  have hz4 : u3.cell? ⟨Ba0, 4, none⟩ = some (.slice A0_4 l0_4.length c0_4) := (blk_cell BKa0.out 4).trans rfl
  go_wp2_with (fail)
  go_at_call 21
  refine calls_at (fun W_ => Below w.heap.size w W_ ∧ Kept u3 W_ (fun _ => False)) ⟨by repeat (first | (with_reducible first | exact HB.out | apply below_alloc | apply pw_below_drewN | apply below_drew1) | exact HB.out), by repeat (with_reducible first | exact Kept.refl _ _ | apply Kept.alloc | apply Kept.drewN | apply Kept.drew)⟩ (fun u4 hW_ => ?_)
  have hkk_ := hW_.2
  replace HB := Aside0.mk hW_.1
  replace BKa0 := Aside0.mk (blk_kept BKa0.out hkk_ (fun hs_ => hs_))
  replace HS := Aside0.mk (Nat.le_trans HS.out hkk_.1)
  clear hW_ hkk_
  clear hz0 hz1 hz2 hz3 hz4
  refine (laws_toTrack.calls k a0_0 a0_1 a0_2 _ _ l0_3 _ _ l0_4 x0_0 x0_1 x0_2 x0_3 x0_4 _ (Kd.C_below HR0_3.out HB.out) HC0_3.out (Kd.C_below HR0_4.out HB.out) HC0_4.out GT0.out).mono ?_
  rintro e w4 ⟨v3_, v4_, rfl, ho3, ho4, hb⟩
  obtain ⟨AT0_3, cT0_3, e_⟩ := Kd.R_slice ho3; subst e_
  obtain ⟨AT0_4, cT0_4, e_⟩ := Kd.R_slice ho4; subst e_
  have hB0_ := HB.out.size
  have hk_ := Kept.of_below hb (fun _ => False)
  replace BKa0 := Aside0.mk (blk_kept BKa0.out hk_ (fun hs_ => hs_))
  replace HB := Aside0.mk (below_step HB.out hb)
  obtain ⟨q4, hm_⟩ : ∃ m_ : Nat, m_ = w4.heap.size := ⟨_, rfl⟩
  have HL4 := Aside0.mk (show q2 ≤ q4 by have := HS.out; have := hb.size; omega)
  have T0_3 : Aside0 (Kd.R (Kd.int .i64) 3 w4 w.heap.size (fun k_ => Iv q2 q4 k_ ∧ some k_ ≠ ((.slice AT0_4 x0_4.length cT0_4) : Value).ownBlock) (.slice AT0_3 x0_3.length cT0_3) x0_3) := ⟨Kd.R_lower (Kd.R_mono (Kd.R_bound ho3) (fun k_ hk_ => ⟨⟨Nat.le_trans HS.out hk_.2.1, by rw [hm_]; exact hk_.2.2.1⟩, hk_.1⟩)) hB0_⟩
  have T0_4 : Aside0 (Kd.R (Kd.int .i64) 3 w4 w.heap.size (fun k_ => Iv q2 q4 k_ ∧ some k_ ≠ ((.slice AT0_3 x0_3.length cT0_3) : Value).ownBlock) (.slice AT0_4 x0_4.length cT0_4) x0_4) := ⟨Kd.R_lower (Kd.R_mono (Kd.R_bound ho4) (fun k_ hk_ => ⟨⟨Nat.le_trans HS.out hk_.2.1, by rw [hm_]; exact hk_.2.2.1⟩, hk_.1⟩)) hB0_⟩
  replace HS := Aside0.mk (Nat.le_of_eq hm_)
  clear hm_ hb hk_ hB0_
  clear ho3 ho4
  go_wp2_with (fail)
  go_at_call 28
  refine calls_at (fun W_ => Below w.heap.size w W_ ∧ Kept w4 W_ (fun _ => False)) ⟨by repeat (first | (with_reducible first | exact HB.out | apply below_alloc | apply pw_below_drewN | apply below_drew1) | exact HB.out), by repeat (with_reducible first | exact Kept.refl _ _ | apply Kept.alloc | apply Kept.drewN | apply Kept.drew)⟩ (fun u5 hW_ => ?_)
  have hkk_ := hW_.2
  replace HB := Aside0.mk hW_.1
  replace T0_3 := Aside0.mk (R_next T0_3.out hkk_ (fun _ _ hs_ => hs_))
  replace T0_4 := Aside0.mk (R_next T0_4.out hkk_ (fun _ _ hs_ => hs_))
  replace BKa0 := Aside0.mk (blk_kept BKa0.out hkk_ (fun hs_ => hs_))
  replace HS := Aside0.mk (Nat.le_trans HS.out hkk_.1)
  clear hW_ hkk_
  refine (laws_toIntSS.calls k _ _ l1 s1 _ (Kd.C_below HR1.out HB.out) HC1.out GT1.out).mono ?_
  rintro e w5 ⟨v_, rfl, ho, hb⟩
  obtain ⟨AT1, cT1, e_⟩ := Kd.S_slice ho; subst e_
  have hB0_ := HB.out.size
  have hk_ := Kept.of_below hb (fun _ => False)
  replace T0_3 := Aside0.mk (R_next T0_3.out hk_ (fun _ _ hs_ => hs_))
  replace T0_4 := Aside0.mk (R_next T0_4.out hk_ (fun _ _ hs_ => hs_))
  replace BKa0 := Aside0.mk (blk_kept BKa0.out hk_ (fun hs_ => hs_))
  replace HB := Aside0.mk (below_step HB.out hb)
  obtain ⟨q5, hm_⟩ : ∃ m_ : Nat, m_ = w5.heap.size := ⟨_, rfl⟩
  have HL5 := Aside0.mk (show q4 ≤ q5 by have := HS.out; have := hb.size; omega)
  have T1 : Aside0 (Kd.S (Kd.slice 3 (Kd.int .i64)) 22 w5 w.heap.size (Iv q4 q5) (.slice AT1 s1.length cT1) s1) := ⟨Kd.S_lower (Kd.S_mono (Kd.S_bound ho) (fun k_ hk_ => ⟨Nat.le_trans HS.out hk_.2.1, by rw [hm_]; exact hk_.2.2.1⟩)) hB0_⟩
  replace HS := Aside0.mk (Nat.le_of_eq hm_)
  clear hm_ hb hk_ hB0_
  clear ho
  go_wp2_with (fail)
  go_at_call 51
  refine calls_at (fun W_ => Below w.heap.size w W_ ∧ Kept w5 W_ (fun _ => False)) ⟨by repeat (first | (with_reducible first | exact HB.out | apply below_alloc | apply pw_below_drewN | apply below_drew1) | exact HB.out), by repeat (with_reducible first | exact Kept.refl _ _ | apply Kept.alloc | apply Kept.drewN | apply Kept.drew)⟩ (fun u6 hW_ => ?_)
  have hkk_ := hW_.2
  replace HB := Aside0.mk hW_.1
  replace T0_3 := Aside0.mk (R_next T0_3.out hkk_ (fun _ _ hs_ => hs_))
  replace T0_4 := Aside0.mk (R_next T0_4.out hkk_ (fun _ _ hs_ => hs_))
  replace T1 := Aside0.mk (S_next T1.out hkk_ (fun _ _ hs_ => hs_))
  replace BKa0 := Aside0.mk (blk_kept BKa0.out hkk_ (fun hs_ => hs_))
  replace HS := Aside0.mk (Nat.le_trans HS.out hkk_.1)
  clear hW_ hkk_
  refine (spec_ThreatsTo.calls k x0_0 x0_1 x0_2 _ _ x0_3 _ _ x0_4 _ _ s1 a2 r0 r1 _ (Kd.R_reads' T0_3.out).2.2 (Kd.R_reads' T0_3.out).2.1 (Kd.R_reads' T0_4.out).2.2 (Kd.R_reads' T0_4.out).2.1 (Kd.S_reads' T1.out).2.2 (Kd.S_reads' T1.out).2.1 GS.out).mono ?_
  rintro e w6 ⟨v_, rfl, ho, hb⟩
  obtain ⟨ARW, cRW, e_⟩ := Kd.R_slice ho; subst e_
  have hB0_ := HB.out.size
  have hk_ := Kept.of_below hb (fun _ => False)
  replace T0_3 := Aside0.mk (R_next T0_3.out hk_ (fun _ _ hs_ => hs_))
  replace T0_4 := Aside0.mk (R_next T0_4.out hk_ (fun _ _ hs_ => hs_))
  replace T1 := Aside0.mk (S_next T1.out hk_ (fun _ _ hs_ => hs_))
  replace BKa0 := Aside0.mk (blk_kept BKa0.out hk_ (fun hs_ => hs_))
  replace HB := Aside0.mk (below_step HB.out hb)
  obtain ⟨q6, hm_⟩ : ∃ m_ : Nat, m_ = w6.heap.size := ⟨_, rfl⟩
  have HL6 := Aside0.mk (show q5 ≤ q6 by have := HS.out; have := hb.size; omega)
  have RW : Aside0 (Kd.R (Kd.int .i64) 3 w6 w.heap.size (Iv q5 q6) (.slice ARW r0.length cRW) r0) := ⟨Kd.R_lower (Kd.R_mono (Kd.R_bound ho) (fun k_ hk_ => ⟨Nat.le_trans HS.out hk_.2.1, by rw [hm_]; exact hk_.2.2.1⟩)) hB0_⟩
  replace HS := Aside0.mk (Nat.le_of_eq hm_)
  clear hm_ hb hk_ hB0_
  clear ho
  clear T0_3 T0_4 T1
  have hz0 : w6.cell? ⟨Ba0, 0, none⟩ = some (.int .i64 a0_0) := (blk_cell BKa0.out 0).trans rfl
  have hz1 : w6.cell? ⟨Ba0, 1, none⟩ = some (.int .i64 a0_1) := (blk_cell BKa0.out 1).trans rfl
  have hz2 : w6.cell? ⟨Ba0, 2, none⟩ = some (.int .i64 a0_2) := (blk_cell BKa0.out 2).trans rfl
  have hz3 : w6.cell? ⟨Ba0, 3, none⟩ = some (.slice A0_3 l0_3.length c0_3) := (blk_cell BKa0.out 3).trans rfl
  have hz4 : w6.cell? ⟨Ba0, 4, none⟩ = some (.slice A0_4 l0_4.length c0_4) := (blk_cell BKa0.out 4).trans rfl
  go_wp2_with (fail)
  go_at_call 21
  refine calls_at (fun W_ => Below w.heap.size w W_ ∧ Kept w6 W_ (fun _ => False)) ⟨by repeat (first | (with_reducible first | exact HB.out | apply below_alloc | apply pw_below_drewN | apply below_drew1) | exact HB.out), by repeat (with_reducible first | exact Kept.refl _ _ | apply Kept.alloc | apply Kept.drewN | apply Kept.drew)⟩ (fun u7 hW_ => ?_)
  have hkk_ := hW_.2
  replace HB := Aside0.mk hW_.1
  replace RW := Aside0.mk (R_next RW.out hkk_ (fun _ _ hs_ => hs_))
  replace BKa0 := Aside0.mk (blk_kept BKa0.out hkk_ (fun hs_ => hs_))
  replace HS := Aside0.mk (Nat.le_trans HS.out hkk_.1)
  clear hW_ hkk_
  clear hz0 hz1 hz2 hz3 hz4
  refine (laws_toTrack.calls k a0_0 a0_1 a0_2 _ _ l0_3 _ _ l0_4 x0_0 x0_1 x0_2 x0_3 x0_4 _ (Kd.C_below HR0_3.out HB.out) HC0_3.out (Kd.C_below HR0_4.out HB.out) HC0_4.out GT0.out).mono ?_
  rintro e w7 ⟨v3_, v4_, rfl, ho3, ho4, hb⟩
  obtain ⟨AX0_3, cX0_3, e_⟩ := Kd.R_slice ho3; subst e_
  obtain ⟨AX0_4, cX0_4, e_⟩ := Kd.R_slice ho4; subst e_
  have hB0_ := HB.out.size
  have hk_ := Kept.of_below hb (fun _ => False)
  replace RW := Aside0.mk (R_next RW.out hk_ (fun _ _ hs_ => hs_))
  replace BKa0 := Aside0.mk (blk_kept BKa0.out hk_ (fun hs_ => hs_))
  replace HB := Aside0.mk (below_step HB.out hb)
  obtain ⟨q7, hm_⟩ : ∃ m_ : Nat, m_ = w7.heap.size := ⟨_, rfl⟩
  have HL7 := Aside0.mk (show q6 ≤ q7 by have := HS.out; have := hb.size; omega)
  have X0_3 : Aside0 (Kd.R (Kd.int .i64) 3 w7 w.heap.size (fun k_ => Iv q6 q7 k_ ∧ some k_ ≠ ((.slice AX0_4 x0_4.length cX0_4) : Value).ownBlock) (.slice AX0_3 x0_3.length cX0_3) x0_3) := ⟨Kd.R_lower (Kd.R_mono (Kd.R_bound ho3) (fun k_ hk_ => ⟨⟨Nat.le_trans HS.out hk_.2.1, by rw [hm_]; exact hk_.2.2.1⟩, hk_.1⟩)) hB0_⟩
  have X0_4 : Aside0 (Kd.R (Kd.int .i64) 3 w7 w.heap.size (fun k_ => Iv q6 q7 k_ ∧ some k_ ≠ ((.slice AX0_3 x0_3.length cX0_3) : Value).ownBlock) (.slice AX0_4 x0_4.length cX0_4) x0_4) := ⟨Kd.R_lower (Kd.R_mono (Kd.R_bound ho4) (fun k_ hk_ => ⟨⟨Nat.le_trans HS.out hk_.2.1, by rw [hm_]; exact hk_.2.2.1⟩, hk_.1⟩)) hB0_⟩
  replace HS := Aside0.mk (Nat.le_of_eq hm_)
  clear hm_ hb hk_ hB0_
  clear ho3 ho4
  go_wp2_with (((with_reducible refine gate_dst (N := 10) rfl ?_); refine box_event ?hg (N := 10) ?hd (cs := #[.int .i64 0, .int .i64 0, .int .i64 0, .slice none 0 0, .slice none 0 0]) (t := 27) ?hr ?_; (case hd => rfl); (case hg => rfl); (case hr => first | (go_simp; done) | (go_simp; rfl)); intro Bx0 hgb_ w8 hbox hb; have GEx0 := Aside0.mk (show w.heap.size ≤ Bx0 from (by rw [hgb_]; exact (by repeat (first | (with_reducible first | exact HB.out | apply below_alloc | apply pw_below_drewN | apply below_drew1) | exact HB.out) : Below w.heap.size w _).size)); have hle_ : w7.heap.size ≤ Bx0 := (by rw [hgb_]; exact (by repeat (with_reducible first | exact Kept.refl _ _ | apply Kept.alloc | apply Kept.drewN | apply Kept.drew) : Kept w7 _ (fun _ => False)).1); have hkk_ : Kept w7 w8 (fun _ => False) := Kept.below (by repeat (with_reducible first | exact Kept.refl _ _ | apply Kept.alloc | apply Kept.drewN | apply Kept.drew)) hb; replace RW := Aside0.mk (R_next RW.out hkk_ (fun _ _ hs_ => hs_)); replace X0_3 := Aside0.mk (R_next X0_3.out hkk_ (fun _ _ hs_ => hs_)); replace X0_4 := Aside0.mk (R_next X0_4.out hkk_ (fun _ _ hs_ => hs_)); replace BKa0 := Aside0.mk (blk_kept BKa0.out hkk_ (fun hs_ => hs_)); replace HB := Aside0.mk (below_step (by repeat (first | (with_reducible first | exact HB.out | apply below_alloc | apply pw_below_drewN | apply below_drew1) | exact HB.out) : Below w.heap.size w _) hb); obtain ⟨q8, hm_⟩ : ∃ m_ : Nat, m_ = w8.heap.size := ⟨_, rfl⟩; have HL8 := Aside0.mk (show q7 ≤ q8 from (by have := HS.out; have := hkk_.1; omega)); have BKx0 := Aside0.mk hbox; have HBKx0 := Aside0.mk (show q7 ≤ Bx0 ∧ Bx0 < q8 from ⟨Nat.le_trans HS.out hle_, (by rw [hm_]; exact blk_lt hbox)⟩); replace HS := Aside0.mk (Nat.le_of_eq hm_); clear hm_ hb hkk_ hle_ hgb_ hbox; have hf0_ := blk_frozen BKx0.out 0; have hf1_ := blk_frozen BKx0.out 1; have hf2_ := blk_frozen BKx0.out 2; have hf3_ := blk_frozen BKx0.out 3; have hf4_ := blk_frozen BKx0.out 4; have hy0 : w8.cell? ⟨Bx0, 0, none⟩ = some (.int .i64 0) := (blk_cell BKx0.out 0).trans rfl; have hy1 : w8.cell? ⟨Bx0, 1, none⟩ = some (.int .i64 0) := (blk_cell BKx0.out 1).trans rfl; have hy2 : w8.cell? ⟨Bx0, 2, none⟩ = some (.int .i64 0) := (blk_cell BKx0.out 2).trans rfl; have hy3 : w8.cell? ⟨Bx0, 3, none⟩ = some (.slice none 0 0) := (blk_cell BKx0.out 3).trans rfl; have hy4 : w8.cell? ⟨Bx0, 4, none⟩ = some (.slice none 0 0) := (blk_cell BKx0.out 4).trans rfl))
  clear hf0_ hy0 hf1_ hy1 hf2_ hy2 hf3_ hy3 hf4_ hy4
  go_at_call 28
  refine calls_at (fun W_ => Below w.heap.size w W_ ∧ Kept w8 W_ (fun k_ => k_ = Bx0) ∧ W_.heap[Bx0]? = some (.cells #[.int .i64 x0_0, .int .i64 x0_1, .int .i64 x0_2, .slice AX0_3 x0_3.length cX0_3, .slice AX0_4 x0_4.length cX0_4] 27 (0, 0))) ⟨by repeat (first | (with_reducible first | exact HB.out | apply below_alloc | apply pw_below_drewN | apply below_drew1 | refine below_set ?_ GEx0.out) | exact HB.out), by repeat (with_reducible first | exact Kept.refl _ _ | apply Kept.alloc | apply Kept.drewN | apply Kept.drew | apply kept_put), by (with_reducible repeat (first | refine blk_drewN ?_ _ | refine blk_drew ?_ | refine blk_alloc ?_ _)); refine blk_put (cs := #[.int .i64 x0_0, .int .i64 x0_1, .int .i64 x0_2, .slice AX0_3 x0_3.length cX0_3, .slice none 0 0]) ?_ 4 _ rfl; refine blk_put (cs := #[.int .i64 x0_0, .int .i64 x0_1, .int .i64 x0_2, .slice none 0 0, .slice none 0 0]) ?_ 3 _ rfl; refine blk_put (cs := #[.int .i64 x0_0, .int .i64 x0_1, .int .i64 0, .slice none 0 0, .slice none 0 0]) ?_ 2 _ rfl; refine blk_put (cs := #[.int .i64 x0_0, .int .i64 0, .int .i64 0, .slice none 0 0, .slice none 0 0]) ?_ 1 _ rfl; refine blk_put (cs := #[.int .i64 0, .int .i64 0, .int .i64 0, .slice none 0 0, .slice none 0 0]) ?_ 0 _ rfl; exact BKx0.out⟩ (fun u9 hW_ => ?_)
  have hkk_ := hW_.2.1
  replace HB := Aside0.mk hW_.1
  replace RW := Aside0.mk (R_next RW.out hkk_ (fun k_ hk_ hs_ => by have := HL1.out; have := HL2.out; have := HL4.out; have := HL5.out; have := HL6.out; have := HL7.out; have := HL8.out; have := HBKx0.out; have hq_ := hk_; have hr_ := (show k_ = Bx0 from hs_); unfold Iv at hq_; omega))
  replace X0_3 := Aside0.mk (R_next X0_3.out hkk_ (fun k_ hk_ hs_ => by have := HL1.out; have := HL2.out; have := HL4.out; have := HL5.out; have := HL6.out; have := HL7.out; have := HL8.out; have := HBKx0.out; have hq_ := hk_.1; have hr_ := (show k_ = Bx0 from hs_); unfold Iv at hq_; omega))
  replace X0_4 := Aside0.mk (R_next X0_4.out hkk_ (fun k_ hk_ hs_ => by have := HL1.out; have := HL2.out; have := HL4.out; have := HL5.out; have := HL6.out; have := HL7.out; have := HL8.out; have := HBKx0.out; have hq_ := hk_.1; have hr_ := (show k_ = Bx0 from hs_); unfold Iv at hq_; omega))
  replace BKa0 := Aside0.mk (blk_kept BKa0.out hkk_ (fun hs_ => by have := HL1.out; have := HL2.out; have := HL4.out; have := HL5.out; have := HL6.out; have := HL7.out; have := HL8.out; have := HBKx0.out; have hq_ := HBKa0.out; have hr_ := (show Ba0 = Bx0 from hs_); omega))
  replace BKx0 := Aside0.mk hW_.2.2
  replace HS := Aside0.mk (Nat.le_trans HS.out hkk_.1)
  clear hW_ hkk_
  refine (laws_toIntSS.calls k _ _ l1 s1 _ (Kd.C_below HR1.out HB.out) HC1.out GT1.out).mono ?_
  rintro e w9 ⟨v_, rfl, ho, hb⟩
  obtain ⟨AX1, cX1, e_⟩ := Kd.S_slice ho; subst e_
  have hB0_ := HB.out.size
  have hk_ := Kept.of_below hb (fun _ => False)
  replace RW := Aside0.mk (R_next RW.out hk_ (fun _ _ hs_ => hs_))
  replace X0_3 := Aside0.mk (R_next X0_3.out hk_ (fun _ _ hs_ => hs_))
  replace X0_4 := Aside0.mk (R_next X0_4.out hk_ (fun _ _ hs_ => hs_))
  replace BKa0 := Aside0.mk (blk_kept BKa0.out hk_ (fun hs_ => hs_))
  replace BKx0 := Aside0.mk (blk_kept BKx0.out hk_ (fun hs_ => hs_))
  replace HB := Aside0.mk (below_step HB.out hb)
  obtain ⟨q9, hm_⟩ : ∃ m_ : Nat, m_ = w9.heap.size := ⟨_, rfl⟩
  have HL9 := Aside0.mk (show q8 ≤ q9 by have := HS.out; have := hb.size; omega)
  have X1 : Aside0 (Kd.S (Kd.slice 3 (Kd.int .i64)) 22 w9 w.heap.size (Iv q8 q9) (.slice AX1 s1.length cX1) s1) := ⟨Kd.S_lower (Kd.S_mono (Kd.S_bound ho) (fun k_ hk_ => ⟨Nat.le_trans HS.out hk_.2.1, by rw [hm_]; exact hk_.2.2.1⟩)) hB0_⟩
  replace HS := Aside0.mk (Nat.le_of_eq hm_)
  clear hm_ hb hk_ hB0_
  clear ho
  have hz0 : w9.cell? ⟨Bx0, 0, none⟩ = some (.int .i64 x0_0) := (blk_cell BKx0.out 0).trans rfl
  have hz1 : w9.cell? ⟨Bx0, 1, none⟩ = some (.int .i64 x0_1) := (blk_cell BKx0.out 1).trans rfl
  have hz2 : w9.cell? ⟨Bx0, 2, none⟩ = some (.int .i64 x0_2) := (blk_cell BKx0.out 2).trans rfl
  have hz3 : w9.cell? ⟨Bx0, 3, none⟩ = some (.slice AX0_3 x0_3.length cX0_3) := (blk_cell BKx0.out 3).trans rfl
  have hz4 : w9.cell? ⟨Bx0, 4, none⟩ = some (.slice AX0_4 x0_4.length cX0_4) := (blk_cell BKx0.out 4).trans rfl
  go_wp2_with (fail)
  go_at_call 52
  refine calls_at (fun W_ => Below w.heap.size w W_ ∧ Kept w9 W_ (fun _ => False)) ⟨by repeat (first | (with_reducible first | exact HB.out | apply below_alloc | apply pw_below_drewN | apply below_drew1) | exact HB.out), by repeat (with_reducible first | exact Kept.refl _ _ | apply Kept.alloc | apply Kept.drewN | apply Kept.drew)⟩ (fun u10 hW_ => ?_)
  have hkk_ := hW_.2
  replace HB := Aside0.mk hW_.1
  replace RW := Aside0.mk (R_next RW.out hkk_ (fun _ _ hs_ => hs_))
  replace X0_3 := Aside0.mk (R_next X0_3.out hkk_ (fun _ _ hs_ => hs_))
  replace X0_4 := Aside0.mk (R_next X0_4.out hkk_ (fun _ _ hs_ => hs_))
  replace X1 := Aside0.mk (S_next X1.out hkk_ (fun _ _ hs_ => hs_))
  replace BKa0 := Aside0.mk (blk_kept BKa0.out hkk_ (fun hs_ => hs_))
  replace BKx0 := Aside0.mk (blk_kept BKx0.out hkk_ (fun hs_ => hs_))
  replace HS := Aside0.mk (Nat.le_trans HS.out hkk_.1)
  clear hW_ hkk_
  clear hz0 hz1 hz2 hz3 hz4
  refine (impl_ThreatsTo.calls k x0_0 x0_1 x0_2 _ _ x0_3 _ _ x0_4 _ _ s1 a2 r0 r1 _ (Kd.R_reads' X0_3.out).2.2 (Kd.R_reads' X0_3.out).2.1 (Kd.R_reads' X0_4.out).2.2 (Kd.R_reads' X0_4.out).2.1 (Kd.S_reads' X1.out).2.2 (Kd.S_reads' X1.out).2.1 GI.out).mono ?_
  rintro e w10 ⟨v_, rfl, ho, hb⟩
  obtain ⟨ARG, cRG, e_⟩ := Kd.R_slice ho; subst e_
  have hB0_ := HB.out.size
  have hk_ := Kept.of_below hb (fun _ => False)
  replace RW := Aside0.mk (R_next RW.out hk_ (fun _ _ hs_ => hs_))
  replace X0_3 := Aside0.mk (R_next X0_3.out hk_ (fun _ _ hs_ => hs_))
  replace X0_4 := Aside0.mk (R_next X0_4.out hk_ (fun _ _ hs_ => hs_))
  replace X1 := Aside0.mk (S_next X1.out hk_ (fun _ _ hs_ => hs_))
  replace BKa0 := Aside0.mk (blk_kept BKa0.out hk_ (fun hs_ => hs_))
  replace BKx0 := Aside0.mk (blk_kept BKx0.out hk_ (fun hs_ => hs_))
  replace HB := Aside0.mk (below_step HB.out hb)
  obtain ⟨q10, hm_⟩ : ∃ m_ : Nat, m_ = w10.heap.size := ⟨_, rfl⟩
  have HL10 := Aside0.mk (show q9 ≤ q10 by have := HS.out; have := hb.size; omega)
  have RG : Aside0 (Kd.R (Kd.int .i64) 3 w10 w.heap.size (Iv q9 q10) (.slice ARG r0.length cRG) r0) := ⟨Kd.R_lower (Kd.R_mono (Kd.R_bound ho) (fun k_ hk_ => ⟨Nat.le_trans HS.out hk_.2.1, by rw [hm_]; exact hk_.2.2.1⟩)) hB0_⟩
  replace HS := Aside0.mk (Nat.le_of_eq hm_)
  clear hm_ hb hk_ hB0_
  clear ho
  go_wp2_with (fail)
  go_at_call 46
  refine calls_at (fun W_ => Below w.heap.size w W_ ∧ Kept w10 W_ (fun _ => False)) ⟨by repeat (first | (with_reducible first | exact HB.out | apply below_alloc | apply pw_below_drewN | apply below_drew1) | exact HB.out), by repeat (with_reducible first | exact Kept.refl _ _ | apply Kept.alloc | apply Kept.drewN | apply Kept.drew)⟩ (fun u11 hW_ => ?_)
  have hkk_ := hW_.2
  replace HB := Aside0.mk hW_.1
  replace RW := Aside0.mk (R_next RW.out hkk_ (fun _ _ hs_ => hs_))
  replace X0_3 := Aside0.mk (R_next X0_3.out hkk_ (fun _ _ hs_ => hs_))
  replace X0_4 := Aside0.mk (R_next X0_4.out hkk_ (fun _ _ hs_ => hs_))
  replace X1 := Aside0.mk (S_next X1.out hkk_ (fun _ _ hs_ => hs_))
  replace RG := Aside0.mk (R_next RG.out hkk_ (fun _ _ hs_ => hs_))
  replace BKa0 := Aside0.mk (blk_kept BKa0.out hkk_ (fun hs_ => hs_))
  replace BKx0 := Aside0.mk (blk_kept BKx0.out hkk_ (fun hs_ => hs_))
  replace HS := Aside0.mk (Nat.le_trans HS.out hkk_.1)
  clear hW_ hkk_
  refine (laws_eqIntS.calls k _ _ r0 _ _ r0 true _ (Kd.R_reads' RG.out).2.2 (Kd.R_reads' RG.out).2.1 (Kd.R_reads' RW.out).2.2 (Kd.R_reads' RW.out).2.1 GR.out).mono ?_
  rintro e w' ⟨rfl, ⟨nd, rfl⟩⟩
  have hx0 : u11.cell? ⟨Bx0, 0, none⟩ = some (.int .i64 x0_0) := (blk_cell BKx0.out 0).trans rfl
  have hxd0 : u11.drew.cell? ⟨Bx0, 0, none⟩ = some (.int .i64 x0_0) := hx0
  have hxn0 : ∀ q_, (u11.drewN q_).cell? ⟨Bx0, 0, none⟩ = some (.int .i64 x0_0) := fun _ => hx0
  have hx1 : u11.cell? ⟨Bx0, 1, none⟩ = some (.int .i64 x0_1) := (blk_cell BKx0.out 1).trans rfl
  have hxd1 : u11.drew.cell? ⟨Bx0, 1, none⟩ = some (.int .i64 x0_1) := hx1
  have hxn1 : ∀ q_, (u11.drewN q_).cell? ⟨Bx0, 1, none⟩ = some (.int .i64 x0_1) := fun _ => hx1
  have hx2 : u11.cell? ⟨Bx0, 2, none⟩ = some (.int .i64 x0_2) := (blk_cell BKx0.out 2).trans rfl
  have hxd2 : u11.drew.cell? ⟨Bx0, 2, none⟩ = some (.int .i64 x0_2) := hx2
  have hxn2 : ∀ q_, (u11.drewN q_).cell? ⟨Bx0, 2, none⟩ = some (.int .i64 x0_2) := fun _ => hx2
  have hx3 : u11.cell? ⟨Bx0, 3, none⟩ = some (.slice AX0_3 x0_3.length cX0_3) := (blk_cell BKx0.out 3).trans rfl
  have hxd3 : u11.drew.cell? ⟨Bx0, 3, none⟩ = some (.slice AX0_3 x0_3.length cX0_3) := hx3
  have hxn3 : ∀ q_, (u11.drewN q_).cell? ⟨Bx0, 3, none⟩ = some (.slice AX0_3 x0_3.length cX0_3) := fun _ => hx3
  have hx4 : u11.cell? ⟨Bx0, 4, none⟩ = some (.slice AX0_4 x0_4.length cX0_4) := (blk_cell BKx0.out 4).trans rfl
  have hxd4 : u11.drew.cell? ⟨Bx0, 4, none⟩ = some (.slice AX0_4 x0_4.length cX0_4) := hx4
  have hxn4 : ∀ q_, (u11.drewN q_).cell? ⟨Bx0, 4, none⟩ = some (.slice AX0_4 x0_4.length cX0_4) := fun _ => hx4
  have hz0 : u11.cell? ⟨Ba0, 0, none⟩ = some (.int .i64 a0_0) := (blk_cell BKa0.out 0).trans rfl
  have hzd0 : u11.drew.cell? ⟨Ba0, 0, none⟩ = some (.int .i64 a0_0) := hz0
  have hzn0 : ∀ q_, (u11.drewN q_).cell? ⟨Ba0, 0, none⟩ = some (.int .i64 a0_0) := fun _ => hz0
  have hz1 : u11.cell? ⟨Ba0, 1, none⟩ = some (.int .i64 a0_1) := (blk_cell BKa0.out 1).trans rfl
  have hzd1 : u11.drew.cell? ⟨Ba0, 1, none⟩ = some (.int .i64 a0_1) := hz1
  have hzn1 : ∀ q_, (u11.drewN q_).cell? ⟨Ba0, 1, none⟩ = some (.int .i64 a0_1) := fun _ => hz1
  have hz2 : u11.cell? ⟨Ba0, 2, none⟩ = some (.int .i64 a0_2) := (blk_cell BKa0.out 2).trans rfl
  have hzd2 : u11.drew.cell? ⟨Ba0, 2, none⟩ = some (.int .i64 a0_2) := hz2
  have hzn2 : ∀ q_, (u11.drewN q_).cell? ⟨Ba0, 2, none⟩ = some (.int .i64 a0_2) := fun _ => hz2
  have hz3 : u11.cell? ⟨Ba0, 3, none⟩ = some (.slice A0_3 l0_3.length c0_3) := (blk_cell BKa0.out 3).trans rfl
  have hzd3 : u11.drew.cell? ⟨Ba0, 3, none⟩ = some (.slice A0_3 l0_3.length c0_3) := hz3
  have hzn3 : ∀ q_, (u11.drewN q_).cell? ⟨Ba0, 3, none⟩ = some (.slice A0_3 l0_3.length c0_3) := fun _ => hz3
  have hz4 : u11.cell? ⟨Ba0, 4, none⟩ = some (.slice A0_4 l0_4.length c0_4) := (blk_cell BKa0.out 4).trans rfl
  have hzd4 : u11.drew.cell? ⟨Ba0, 4, none⟩ = some (.slice A0_4 l0_4.length c0_4) := hz4
  have hzn4 : ∀ q_, (u11.drewN q_).cell? ⟨Ba0, 4, none⟩ = some (.slice A0_4 l0_4.length c0_4) := fun _ => hz4
  go_wp2_with (fail)
  go_region_with (first | (go_at_call 21; refine calls_at (fun W_ => Below w.heap.size w W_ ∧ Kept u11 W_ (fun _ => False)) ⟨by repeat (first | (with_reducible first | exact HB.out | apply below_alloc | apply pw_below_drewN | apply below_drew1) | exact HB.out), by repeat (with_reducible first | exact Kept.refl _ _ | apply Kept.alloc | apply Kept.drewN | apply Kept.drew)⟩ (fun u12 hW_ => ?_); have hkk_ := hW_.2; replace HB := Aside0.mk hW_.1; replace RW := Aside0.mk (R_next RW.out hkk_ (fun _ _ hs_ => hs_)); replace X0_3 := Aside0.mk (R_next X0_3.out hkk_ (fun _ _ hs_ => hs_)); replace X0_4 := Aside0.mk (R_next X0_4.out hkk_ (fun _ _ hs_ => hs_)); replace X1 := Aside0.mk (S_next X1.out hkk_ (fun _ _ hs_ => hs_)); replace RG := Aside0.mk (R_next RG.out hkk_ (fun _ _ hs_ => hs_)); replace BKa0 := Aside0.mk (blk_kept BKa0.out hkk_ (fun hs_ => hs_)); replace BKx0 := Aside0.mk (blk_kept BKx0.out hkk_ (fun hs_ => hs_)); replace HS := Aside0.mk (Nat.le_trans HS.out hkk_.1); clear hW_ hkk_; refine (laws_toTrack.calls k a0_0 a0_1 a0_2 _ _ l0_3 _ _ l0_4 x0_0 x0_1 x0_2 x0_3 x0_4 _ (Kd.C_below HR0_3.out HB.out) HC0_3.out (Kd.C_below HR0_4.out HB.out) HC0_4.out GT0.out).mono ?_; rintro e w12 ⟨v3_, v4_, rfl, ho3, ho4, hb⟩; obtain ⟨AE0_3, cE0_3, e_⟩ := Kd.R_slice ho3; subst e_; obtain ⟨AE0_4, cE0_4, e_⟩ := Kd.R_slice ho4; subst e_; have hB0_ := HB.out.size; have hk_ := Kept.of_below hb (fun _ => False); replace RW := Aside0.mk (R_next RW.out hk_ (fun _ _ hs_ => hs_)); replace X0_3 := Aside0.mk (R_next X0_3.out hk_ (fun _ _ hs_ => hs_)); replace X0_4 := Aside0.mk (R_next X0_4.out hk_ (fun _ _ hs_ => hs_)); replace X1 := Aside0.mk (S_next X1.out hk_ (fun _ _ hs_ => hs_)); replace RG := Aside0.mk (R_next RG.out hk_ (fun _ _ hs_ => hs_)); replace BKa0 := Aside0.mk (blk_kept BKa0.out hk_ (fun hs_ => hs_)); replace BKx0 := Aside0.mk (blk_kept BKx0.out hk_ (fun hs_ => hs_)); replace HB := Aside0.mk (below_step HB.out hb); obtain ⟨q12, hm_⟩ : ∃ m_ : Nat, m_ = w12.heap.size := ⟨_, rfl⟩; have HL12 := Aside0.mk (show q10 ≤ q12 by have := HS.out; have := hb.size; omega); have E0_3 : Aside0 (Kd.R (Kd.int .i64) 3 w12 w.heap.size (fun k_ => Iv q10 q12 k_ ∧ some k_ ≠ ((.slice AE0_4 x0_4.length cE0_4) : Value).ownBlock) (.slice AE0_3 x0_3.length cE0_3) x0_3) := ⟨Kd.R_lower (Kd.R_mono (Kd.R_bound ho3) (fun k_ hk_ => ⟨⟨Nat.le_trans HS.out hk_.2.1, by rw [hm_]; exact hk_.2.2.1⟩, hk_.1⟩)) hB0_⟩; have E0_4 : Aside0 (Kd.R (Kd.int .i64) 3 w12 w.heap.size (fun k_ => Iv q10 q12 k_ ∧ some k_ ≠ ((.slice AE0_3 x0_3.length cE0_3) : Value).ownBlock) (.slice AE0_4 x0_4.length cE0_4) x0_4) := ⟨Kd.R_lower (Kd.R_mono (Kd.R_bound ho4) (fun k_ hk_ => ⟨⟨Nat.le_trans HS.out hk_.2.1, by rw [hm_]; exact hk_.2.2.1⟩, hk_.1⟩)) hB0_⟩; replace HS := Aside0.mk (Nat.le_of_eq hm_); clear hm_ hb hk_ hB0_; clear ho3 ho4; have hw0 : w12.cell? ⟨Bx0, 0, none⟩ = some (.int .i64 x0_0) := (blk_cell BKx0.out 0).trans rfl; have hwd0 : w12.drew.cell? ⟨Bx0, 0, none⟩ = some (.int .i64 x0_0) := hw0; have hwn0 : ∀ q_, (w12.drewN q_).cell? ⟨Bx0, 0, none⟩ = some (.int .i64 x0_0) := fun _ => hw0; have hw1 : w12.cell? ⟨Bx0, 1, none⟩ = some (.int .i64 x0_1) := (blk_cell BKx0.out 1).trans rfl; have hwd1 : w12.drew.cell? ⟨Bx0, 1, none⟩ = some (.int .i64 x0_1) := hw1; have hwn1 : ∀ q_, (w12.drewN q_).cell? ⟨Bx0, 1, none⟩ = some (.int .i64 x0_1) := fun _ => hw1; have hw2 : w12.cell? ⟨Bx0, 2, none⟩ = some (.int .i64 x0_2) := (blk_cell BKx0.out 2).trans rfl; have hwd2 : w12.drew.cell? ⟨Bx0, 2, none⟩ = some (.int .i64 x0_2) := hw2; have hwn2 : ∀ q_, (w12.drewN q_).cell? ⟨Bx0, 2, none⟩ = some (.int .i64 x0_2) := fun _ => hw2; have hw3 : w12.cell? ⟨Bx0, 3, none⟩ = some (.slice AX0_3 x0_3.length cX0_3) := (blk_cell BKx0.out 3).trans rfl; have hwd3 : w12.drew.cell? ⟨Bx0, 3, none⟩ = some (.slice AX0_3 x0_3.length cX0_3) := hw3; have hwn3 : ∀ q_, (w12.drewN q_).cell? ⟨Bx0, 3, none⟩ = some (.slice AX0_3 x0_3.length cX0_3) := fun _ => hw3; have hw4 : w12.cell? ⟨Bx0, 4, none⟩ = some (.slice AX0_4 x0_4.length cX0_4) := (blk_cell BKx0.out 4).trans rfl; have hwd4 : w12.drew.cell? ⟨Bx0, 4, none⟩ = some (.slice AX0_4 x0_4.length cX0_4) := hw4; have hwn4 : ∀ q_, (w12.drewN q_).cell? ⟨Bx0, 4, none⟩ = some (.slice AX0_4 x0_4.length cX0_4) := fun _ => hw4) | (go_at_call 23; refine calls_at (fun W_ => Below w.heap.size w W_ ∧ Kept w12 W_ (fun _ => False)) ⟨by repeat (first | (with_reducible first | exact HB.out | apply below_alloc | apply pw_below_drewN | apply below_drew1) | exact HB.out), by repeat (with_reducible first | exact Kept.refl _ _ | apply Kept.alloc | apply Kept.drewN | apply Kept.drew)⟩ (fun u13 hW_ => ?_); have hkk_ := hW_.2; replace HB := Aside0.mk hW_.1; replace RW := Aside0.mk (R_next RW.out hkk_ (fun _ _ hs_ => hs_)); replace X0_3 := Aside0.mk (R_next X0_3.out hkk_ (fun _ _ hs_ => hs_)); replace X0_4 := Aside0.mk (R_next X0_4.out hkk_ (fun _ _ hs_ => hs_)); replace X1 := Aside0.mk (S_next X1.out hkk_ (fun _ _ hs_ => hs_)); replace RG := Aside0.mk (R_next RG.out hkk_ (fun _ _ hs_ => hs_)); replace E0_3 := Aside0.mk (R_next E0_3.out hkk_ (fun _ _ hs_ => hs_)); replace E0_4 := Aside0.mk (R_next E0_4.out hkk_ (fun _ _ hs_ => hs_)); replace BKa0 := Aside0.mk (blk_kept BKa0.out hkk_ (fun hs_ => hs_)); replace BKx0 := Aside0.mk (blk_kept BKx0.out hkk_ (fun hs_ => hs_)); replace HS := Aside0.mk (Nat.le_trans HS.out hkk_.1); clear hW_ hkk_; refine (laws_eqTrack.calls k x0_0 x0_1 x0_2 _ _ x0_3 _ _ x0_4 x0_0 x0_1 x0_2 _ _ x0_3 _ _ x0_4 true _ (Kd.R_reads' X0_3.out).2.2 (Kd.R_reads' X0_3.out).2.1 (Kd.R_reads' X0_4.out).2.2 (Kd.R_reads' X0_4.out).2.1 (Kd.R_reads' E0_3.out).2.2 (Kd.R_reads' E0_3.out).2.1 (Kd.R_reads' E0_4.out).2.2 (Kd.R_reads' E0_4.out).2.1 GE0.out).mono ?_; rintro e w13 ⟨rfl, hb⟩; have hB0_ := HB.out.size; have hk_ := Kept.of_below hb (fun _ => False); replace RW := Aside0.mk (R_next RW.out hk_ (fun _ _ hs_ => hs_)); replace X0_3 := Aside0.mk (R_next X0_3.out hk_ (fun _ _ hs_ => hs_)); replace X0_4 := Aside0.mk (R_next X0_4.out hk_ (fun _ _ hs_ => hs_)); replace X1 := Aside0.mk (S_next X1.out hk_ (fun _ _ hs_ => hs_)); replace RG := Aside0.mk (R_next RG.out hk_ (fun _ _ hs_ => hs_)); replace E0_3 := Aside0.mk (R_next E0_3.out hk_ (fun _ _ hs_ => hs_)); replace E0_4 := Aside0.mk (R_next E0_4.out hk_ (fun _ _ hs_ => hs_)); replace BKa0 := Aside0.mk (blk_kept BKa0.out hk_ (fun hs_ => hs_)); replace BKx0 := Aside0.mk (blk_kept BKx0.out hk_ (fun hs_ => hs_)); replace HB := Aside0.mk (below_step HB.out hb); obtain ⟨q13, hm_⟩ : ∃ m_ : Nat, m_ = w13.heap.size := ⟨_, rfl⟩; have HL13 := Aside0.mk (show q12 ≤ q13 by have := HS.out; have := hb.size; omega); replace HS := Aside0.mk (Nat.le_of_eq hm_); clear hm_ hb hk_ hB0_))
  all_goals (clear hx0 hxd0 hxn0 hx1 hxd1 hxn1 hx2 hxd2 hxn2 hx3 hxd3 hxn3 hx4 hxd4 hxn4 hz0 hzd0 hzn0 hz1 hzd1 hzn1 hz2 hzd2 hzn2 hz3 hzd3 hzn3 hz4 hzd4 hzn4 hw0 hwd0 hwn0 hw1 hwd1 hwn1 hw2 hwd2 hwn2 hw3 hwd3 hwn3 hw4 hwd4 hwn4)
  all_goals
    clear E0_3 E0_4
    go_wp2_with (fail)
    go_at_call 28
    refine calls_at (fun W_ => Below w.heap.size w W_ ∧ Kept w13 W_ (fun _ => False)) ⟨by repeat (first | (with_reducible first | exact HB.out | apply below_alloc | apply pw_below_drewN | apply below_drew1) | exact HB.out), by repeat (with_reducible first | exact Kept.refl _ _ | apply Kept.alloc | apply Kept.drewN | apply Kept.drew)⟩ (fun u14 hW_ => ?_)
    have hkk_ := hW_.2
    replace HB := Aside0.mk hW_.1
    replace RW := Aside0.mk (R_next RW.out hkk_ (fun _ _ hs_ => hs_))
    replace X0_3 := Aside0.mk (R_next X0_3.out hkk_ (fun _ _ hs_ => hs_))
    replace X0_4 := Aside0.mk (R_next X0_4.out hkk_ (fun _ _ hs_ => hs_))
    replace X1 := Aside0.mk (S_next X1.out hkk_ (fun _ _ hs_ => hs_))
    replace RG := Aside0.mk (R_next RG.out hkk_ (fun _ _ hs_ => hs_))
    replace BKa0 := Aside0.mk (blk_kept BKa0.out hkk_ (fun hs_ => hs_))
    replace BKx0 := Aside0.mk (blk_kept BKx0.out hkk_ (fun hs_ => hs_))
    replace HS := Aside0.mk (Nat.le_trans HS.out hkk_.1)
    clear hW_ hkk_
    refine (laws_toIntSS.calls k _ _ l1 s1 _ (Kd.C_below HR1.out HB.out) HC1.out GT1.out).mono ?_
    rintro e w14 ⟨v_, rfl, ho, hb⟩
    obtain ⟨AE1, cE1, e_⟩ := Kd.S_slice ho; subst e_
    have hB0_ := HB.out.size
    have hk_ := Kept.of_below hb (fun _ => False)
    replace RW := Aside0.mk (R_next RW.out hk_ (fun _ _ hs_ => hs_))
    replace X0_3 := Aside0.mk (R_next X0_3.out hk_ (fun _ _ hs_ => hs_))
    replace X0_4 := Aside0.mk (R_next X0_4.out hk_ (fun _ _ hs_ => hs_))
    replace X1 := Aside0.mk (S_next X1.out hk_ (fun _ _ hs_ => hs_))
    replace RG := Aside0.mk (R_next RG.out hk_ (fun _ _ hs_ => hs_))
    replace BKa0 := Aside0.mk (blk_kept BKa0.out hk_ (fun hs_ => hs_))
    replace BKx0 := Aside0.mk (blk_kept BKx0.out hk_ (fun hs_ => hs_))
    replace HB := Aside0.mk (below_step HB.out hb)
    obtain ⟨q14, hm_⟩ : ∃ m_ : Nat, m_ = w14.heap.size := ⟨_, rfl⟩
    have HL14 := Aside0.mk (show q13 ≤ q14 by have := HS.out; have := hb.size; omega)
    have E1 : Aside0 (Kd.S (Kd.slice 3 (Kd.int .i64)) 22 w14 w.heap.size (Iv q13 q14) (.slice AE1 s1.length cE1) s1) := ⟨Kd.S_lower (Kd.S_mono (Kd.S_bound ho) (fun k_ hk_ => ⟨Nat.le_trans HS.out hk_.2.1, by rw [hm_]; exact hk_.2.2.1⟩)) hB0_⟩
    replace HS := Aside0.mk (Nat.le_of_eq hm_)
    clear hm_ hb hk_ hB0_
    clear ho
    go_wp2_with (fail)
    go_at_call 30
    refine calls_at (fun W_ => Below w.heap.size w W_ ∧ Kept w14 W_ (fun _ => False)) ⟨by repeat (first | (with_reducible first | exact HB.out | apply below_alloc | apply pw_below_drewN | apply below_drew1) | exact HB.out), by repeat (with_reducible first | exact Kept.refl _ _ | apply Kept.alloc | apply Kept.drewN | apply Kept.drew)⟩ (fun u15 hW_ => ?_)
    have hkk_ := hW_.2
    replace HB := Aside0.mk hW_.1
    replace RW := Aside0.mk (R_next RW.out hkk_ (fun _ _ hs_ => hs_))
    replace X0_3 := Aside0.mk (R_next X0_3.out hkk_ (fun _ _ hs_ => hs_))
    replace X0_4 := Aside0.mk (R_next X0_4.out hkk_ (fun _ _ hs_ => hs_))
    replace X1 := Aside0.mk (S_next X1.out hkk_ (fun _ _ hs_ => hs_))
    replace RG := Aside0.mk (R_next RG.out hkk_ (fun _ _ hs_ => hs_))
    replace E1 := Aside0.mk (S_next E1.out hkk_ (fun _ _ hs_ => hs_))
    replace BKa0 := Aside0.mk (blk_kept BKa0.out hkk_ (fun hs_ => hs_))
    replace BKx0 := Aside0.mk (blk_kept BKx0.out hkk_ (fun hs_ => hs_))
    replace HS := Aside0.mk (Nat.le_trans HS.out hkk_.1)
    clear hW_ hkk_
    refine (laws_eqIntSS.calls k _ _ s1 _ _ s1 true _ (Kd.S_reads' X1.out).2.2 (Kd.S_reads' X1.out).2.1 (Kd.S_reads' E1.out).2.2 (Kd.S_reads' E1.out).2.1 GE1.out).mono ?_
    rintro e w' ⟨rfl, ⟨nd, rfl⟩⟩
    clear E1
    have hz0 : u15.cell? ⟨Bx0, 0, none⟩ = some (.int .i64 x0_0) := (blk_cell BKx0.out 0).trans rfl
    have hz1 : u15.cell? ⟨Bx0, 1, none⟩ = some (.int .i64 x0_1) := (blk_cell BKx0.out 1).trans rfl
    have hz2 : u15.cell? ⟨Bx0, 2, none⟩ = some (.int .i64 x0_2) := (blk_cell BKx0.out 2).trans rfl
    have hz3 : u15.cell? ⟨Bx0, 3, none⟩ = some (.slice AX0_3 x0_3.length cX0_3) := (blk_cell BKx0.out 3).trans rfl
    have hz4 : u15.cell? ⟨Bx0, 4, none⟩ = some (.slice AX0_4 x0_4.length cX0_4) := (blk_cell BKx0.out 4).trans rfl
    go_wp2_with (fail)
    go_at_call 35
    refine calls_at (fun W_ => Below w.heap.size w W_ ∧ Kept u15 W_ (fun _ => False)) ⟨by repeat (first | (with_reducible first | exact HB.out | apply below_alloc | apply pw_below_drewN | apply below_drew1) | exact HB.out), by repeat (with_reducible first | exact Kept.refl _ _ | apply Kept.alloc | apply Kept.drewN | apply Kept.drew)⟩ (fun u16 hW_ => ?_)
    have hkk_ := hW_.2
    replace HB := Aside0.mk hW_.1
    replace RW := Aside0.mk (R_next RW.out hkk_ (fun _ _ hs_ => hs_))
    replace X0_3 := Aside0.mk (R_next X0_3.out hkk_ (fun _ _ hs_ => hs_))
    replace X0_4 := Aside0.mk (R_next X0_4.out hkk_ (fun _ _ hs_ => hs_))
    replace X1 := Aside0.mk (S_next X1.out hkk_ (fun _ _ hs_ => hs_))
    replace RG := Aside0.mk (R_next RG.out hkk_ (fun _ _ hs_ => hs_))
    replace BKa0 := Aside0.mk (blk_kept BKa0.out hkk_ (fun hs_ => hs_))
    replace BKx0 := Aside0.mk (blk_kept BKx0.out hkk_ (fun hs_ => hs_))
    replace HS := Aside0.mk (Nat.le_trans HS.out hkk_.1)
    clear hW_ hkk_
    clear hz0 hz1 hz2 hz3 hz4
    refine (laws_markTrack.calls k x0_0 x0_1 x0_2 (fun k_ => some k_ = (.slice AX0_3 x0_3.length cX0_3 : Value).ownBlock) (.slice AX0_3 x0_3.length cX0_3) x0_3 (fun k_ => some k_ = (.slice AX0_4 x0_4.length cX0_4 : Value).ownBlock) (.slice AX0_4 x0_4.length cX0_4) x0_4 1 k0 y0_3 y0_4 w _ HB.out (Kd.R_tight rfl X0_3.out) (fun k_ e_ e2_ => (X0_3.out.1 k_ e_.symm).2 e2_) (Kd.R_tight rfl X0_4.out) (fun k_ e_ e2_ => (X0_4.out.1 k_ e_.symm).2 e2_) GM0.out).mono ?_
    rintro e w16 ⟨rfl, -, -, hb, hkm_⟩
    have hks_ : Kept u16 w16 (Iv q6 q7) := hkm_.mono (fun k_ hs_ => (Or.elim hs_ (fun e_ => (X0_3.out.1 k_ e_.symm).1) (fun e_ => (X0_4.out.1 k_ e_.symm).1)))
    clear hkm_
    clear X0_3 X0_4
    clear BKx0
    replace RW := Aside0.mk (R_next RW.out hks_ (fun k_ hk_ hs_ => by have := HL1.out; have := HL2.out; have := HL4.out; have := HL5.out; have := HL6.out; have := HL7.out; have := HL8.out; have := HL9.out; have := HL10.out; have := HL12.out; have := HL13.out; have := HL14.out; have hq_ := hk_; have hr_ := (show Iv q6 q7 k_ from hs_); unfold Iv at hq_ hr_; omega))
    replace X1 := Aside0.mk (S_next X1.out hks_ (fun k_ hk_ hs_ => by have := HL1.out; have := HL2.out; have := HL4.out; have := HL5.out; have := HL6.out; have := HL7.out; have := HL8.out; have := HL9.out; have := HL10.out; have := HL12.out; have := HL13.out; have := HL14.out; have hq_ := hk_; have hr_ := (show Iv q6 q7 k_ from hs_); unfold Iv at hq_ hr_; omega))
    replace RG := Aside0.mk (R_next RG.out hks_ (fun k_ hk_ hs_ => by have := HL1.out; have := HL2.out; have := HL4.out; have := HL5.out; have := HL6.out; have := HL7.out; have := HL8.out; have := HL9.out; have := HL10.out; have := HL12.out; have := HL13.out; have := HL14.out; have hq_ := hk_; have hr_ := (show Iv q6 q7 k_ from hs_); unfold Iv at hq_ hr_; omega))
    replace BKa0 := Aside0.mk (blk_kept BKa0.out hks_ (fun hs_ => by have := HL1.out; have := HL2.out; have := HL4.out; have := HL5.out; have := HL6.out; have := HL7.out; have := HL8.out; have := HL9.out; have := HL10.out; have := HL12.out; have := HL13.out; have := HL14.out; have hq_ := HBKa0.out; have hr_ := (show Iv q6 q7 Ba0 from hs_); unfold Iv at hr_; omega))
    replace HB := Aside0.mk hb
    obtain ⟨q16, hm_⟩ : ∃ m_ : Nat, m_ = w16.heap.size := ⟨_, rfl⟩
    have HL16 := Aside0.mk (show q14 ≤ q16 from (by have := HS.out; have := hks_.1; omega))
    replace HS := Aside0.mk (Nat.le_of_eq hm_)
    clear hm_ hb hks_
    go_wp2_with (fail)
    go_at_call 36
    refine calls_at (fun W_ => Below w.heap.size w W_ ∧ Kept w16 W_ (fun _ => False)) ⟨by repeat (first | (with_reducible first | exact HB.out | apply below_alloc | apply pw_below_drewN | apply below_drew1) | exact HB.out), by repeat (with_reducible first | exact Kept.refl _ _ | apply Kept.alloc | apply Kept.drewN | apply Kept.drew)⟩ (fun u17 hW_ => ?_)
    have hkk_ := hW_.2
    replace HB := Aside0.mk hW_.1
    replace RW := Aside0.mk (R_next RW.out hkk_ (fun _ _ hs_ => hs_))
    replace X1 := Aside0.mk (S_next X1.out hkk_ (fun _ _ hs_ => hs_))
    replace RG := Aside0.mk (R_next RG.out hkk_ (fun _ _ hs_ => hs_))
    replace BKa0 := Aside0.mk (blk_kept BKa0.out hkk_ (fun hs_ => hs_))
    replace HS := Aside0.mk (Nat.le_trans HS.out hkk_.1)
    clear hW_ hkk_
    refine (laws_markIntSS.calls k (Iv q8 q9) (.slice AX1 s1.length cX1) s1 k0 k1 y1 w _ HB.out X1.out GM1.out).mono ?_
    rintro e w17 ⟨rfl, -, hb, hks_⟩
    clear X1
    replace RW := Aside0.mk (R_next RW.out hks_ (fun k_ hk_ hs_ => by have := HL1.out; have := HL2.out; have := HL4.out; have := HL5.out; have := HL6.out; have := HL7.out; have := HL8.out; have := HL9.out; have := HL10.out; have := HL12.out; have := HL13.out; have := HL14.out; have := HL16.out; have hq_ := hk_; have hr_ := (show Iv q8 q9 k_ from hs_); unfold Iv at hq_ hr_; omega))
    replace RG := Aside0.mk (R_next RG.out hks_ (fun k_ hk_ hs_ => by have := HL1.out; have := HL2.out; have := HL4.out; have := HL5.out; have := HL6.out; have := HL7.out; have := HL8.out; have := HL9.out; have := HL10.out; have := HL12.out; have := HL13.out; have := HL14.out; have := HL16.out; have hq_ := hk_; have hr_ := (show Iv q8 q9 k_ from hs_); unfold Iv at hq_ hr_; omega))
    replace BKa0 := Aside0.mk (blk_kept BKa0.out hks_ (fun hs_ => by have := HL1.out; have := HL2.out; have := HL4.out; have := HL5.out; have := HL6.out; have := HL7.out; have := HL8.out; have := HL9.out; have := HL10.out; have := HL12.out; have := HL13.out; have := HL14.out; have := HL16.out; have hq_ := HBKa0.out; have hr_ := (show Iv q8 q9 Ba0 from hs_); unfold Iv at hr_; omega))
    replace HB := Aside0.mk hb
    obtain ⟨q17, hm_⟩ : ∃ m_ : Nat, m_ = w17.heap.size := ⟨_, rfl⟩
    have HL17 := Aside0.mk (show q16 ≤ q17 from (by have := HS.out; have := hks_.1; omega))
    replace HS := Aside0.mk (Nat.le_of_eq hm_)
    clear hm_ hb hks_
    go_wp2_with (fail)
    go_at_call 46
    refine calls_at (fun W_ => Below w.heap.size w W_ ∧ Kept w17 W_ (fun _ => False)) ⟨by repeat (first | (with_reducible first | exact HB.out | apply below_alloc | apply pw_below_drewN | apply below_drew1) | exact HB.out), by repeat (with_reducible first | exact Kept.refl _ _ | apply Kept.alloc | apply Kept.drewN | apply Kept.drew)⟩ (fun u18 hW_ => ?_)
    have hkk_ := hW_.2
    replace HB := Aside0.mk hW_.1
    replace RW := Aside0.mk (R_next RW.out hkk_ (fun _ _ hs_ => hs_))
    replace RG := Aside0.mk (R_next RG.out hkk_ (fun _ _ hs_ => hs_))
    replace BKa0 := Aside0.mk (blk_kept BKa0.out hkk_ (fun hs_ => hs_))
    replace HS := Aside0.mk (Nat.le_trans HS.out hkk_.1)
    clear hW_ hkk_
    refine (laws_eqIntS.calls k _ _ r0 _ _ r0 true _ (Kd.R_reads' RG.out).2.2 (Kd.R_reads' RG.out).2.1 (Kd.R_reads' RW.out).2.2 (Kd.R_reads' RW.out).2.1 GR.out).mono ?_
    rintro e w' ⟨rfl, ⟨nd, rfl⟩⟩
    go_wp2_with (fail)
    go_at_call 47
    refine calls_at (fun W_ => Below w.heap.size w W_ ∧ Kept u18 W_ (fun _ => False)) ⟨by repeat (first | (with_reducible first | exact HB.out | apply below_alloc | apply pw_below_drewN | apply below_drew1) | exact HB.out), by repeat (with_reducible first | exact Kept.refl _ _ | apply Kept.alloc | apply Kept.drewN | apply Kept.drew)⟩ (fun u19 hW_ => ?_)
    have hkk_ := hW_.2
    replace HB := Aside0.mk hW_.1
    replace RW := Aside0.mk (R_next RW.out hkk_ (fun _ _ hs_ => hs_))
    replace RG := Aside0.mk (R_next RG.out hkk_ (fun _ _ hs_ => hs_))
    replace BKa0 := Aside0.mk (blk_kept BKa0.out hkk_ (fun hs_ => hs_))
    replace HS := Aside0.mk (Nat.le_trans HS.out hkk_.1)
    clear hW_ hkk_
    refine (laws_markIntS.calls k (Iv q9 q10) (.slice ARG r0.length cRG) r0 1 mk zk w _ HB.out RG.out GK.out).mono ?_
    rintro e w19 ⟨rfl, hy0_, hb, hks_⟩
    have hy_ := Kd.R_mono (Kd.R_tight rfl hy0_) (fun k_ e_ => RG.out.1 k_ e_.symm)
    clear hy0_
    replace RW := Aside0.mk (R_next RW.out hks_ (fun k_ hk_ hs_ => by have := HL1.out; have := HL2.out; have := HL4.out; have := HL5.out; have := HL6.out; have := HL7.out; have := HL8.out; have := HL9.out; have := HL10.out; have := HL12.out; have := HL13.out; have := HL14.out; have := HL16.out; have := HL17.out; have hq_ := hk_; have hr_ := (show Iv q9 q10 k_ from hs_); unfold Iv at hq_ hr_; omega))
    replace BKa0 := Aside0.mk (blk_kept BKa0.out hks_ (fun hs_ => by have := HL1.out; have := HL2.out; have := HL4.out; have := HL5.out; have := HL6.out; have := HL7.out; have := HL8.out; have := HL9.out; have := HL10.out; have := HL12.out; have := HL13.out; have := HL14.out; have := HL16.out; have := HL17.out; have hq_ := HBKa0.out; have hr_ := (show Iv q9 q10 Ba0 from hs_); unfold Iv at hr_; omega))
    replace HB := Aside0.mk hb
    replace RG : Aside0 (Kd.R (Kd.int .i64) 3 w19 w.heap.size (Iv q9 q10) (.slice ARG r0.length cRG) zk) := ⟨hy_⟩
    have HN := Aside0.mk (Kd.R_reads' hy_).1
    clear hy_
    obtain ⟨q19, hm_⟩ : ∃ m_ : Nat, m_ = w19.heap.size := ⟨_, rfl⟩
    have HL19 := Aside0.mk (show q17 ≤ q19 from (by have := HS.out; have := hks_.1; omega))
    replace HS := Aside0.mk (Nat.le_of_eq hm_)
    clear hm_ hb hks_
    go_wp2_with (fail)
    go_at_call 48
    refine calls_at (fun W_ => Below w.heap.size w W_ ∧ Kept w19 W_ (fun _ => False)) ⟨by repeat (first | (with_reducible first | exact HB.out | apply below_alloc | apply pw_below_drewN | apply below_drew1) | exact HB.out), by repeat (with_reducible first | exact Kept.refl _ _ | apply Kept.alloc | apply Kept.drewN | apply Kept.drew)⟩ (fun u20 hW_ => ?_)
    have hkk_ := hW_.2
    replace HB := Aside0.mk hW_.1
    replace RW := Aside0.mk (R_next RW.out hkk_ (fun _ _ hs_ => hs_))
    replace RG := Aside0.mk (R_next RG.out hkk_ (fun _ _ hs_ => hs_))
    replace BKa0 := Aside0.mk (blk_kept BKa0.out hkk_ (fun hs_ => hs_))
    replace HS := Aside0.mk (Nat.le_trans HS.out hkk_.1)
    clear hW_ hkk_
    refine calls_len2 (show zk.length = r0.length from HN.out.symm) ?_
    refine (laws_heldIntS.calls k _ _ zk 1 mk _ (Kd.R_reads' RG.out).2.2 (by rw [← HN.out]; exact (Kd.R_reads' RG.out).2.1) GH.out).mono ?_
    rintro e w' ⟨rfl, ⟨nd, rfl⟩⟩
    have hz0 : u20.cell? ⟨Ba0, 0, none⟩ = some (.int .i64 a0_0) := (blk_cell BKa0.out 0).trans rfl
    have hz1 : u20.cell? ⟨Ba0, 1, none⟩ = some (.int .i64 a0_1) := (blk_cell BKa0.out 1).trans rfl
    have hz2 : u20.cell? ⟨Ba0, 2, none⟩ = some (.int .i64 a0_2) := (blk_cell BKa0.out 2).trans rfl
    have hz3 : u20.cell? ⟨Ba0, 3, none⟩ = some (.slice A0_3 l0_3.length c0_3) := (blk_cell BKa0.out 3).trans rfl
    have hz4 : u20.cell? ⟨Ba0, 4, none⟩ = some (.slice A0_4 l0_4.length c0_4) := (blk_cell BKa0.out 4).trans rfl
    go_wp2_with (fail)
    go_at_call 21
    refine calls_at (fun W_ => Below w.heap.size w W_ ∧ Kept u20 W_ (fun _ => False)) ⟨by repeat (first | (with_reducible first | exact HB.out | apply below_alloc | apply pw_below_drewN | apply below_drew1) | exact HB.out), by repeat (with_reducible first | exact Kept.refl _ _ | apply Kept.alloc | apply Kept.drewN | apply Kept.drew)⟩ (fun u21 hW_ => ?_)
    have hkk_ := hW_.2
    replace HB := Aside0.mk hW_.1
    replace RW := Aside0.mk (R_next RW.out hkk_ (fun _ _ hs_ => hs_))
    replace RG := Aside0.mk (R_next RG.out hkk_ (fun _ _ hs_ => hs_))
    replace BKa0 := Aside0.mk (blk_kept BKa0.out hkk_ (fun hs_ => hs_))
    replace HS := Aside0.mk (Nat.le_trans HS.out hkk_.1)
    clear hW_ hkk_
    clear hz0 hz1 hz2 hz3 hz4
    refine (laws_toTrack.calls k a0_0 a0_1 a0_2 _ _ l0_3 _ _ l0_4 x0_0 x0_1 x0_2 x0_3 x0_4 _ (Kd.C_below HR0_3.out HB.out) HC0_3.out (Kd.C_below HR0_4.out HB.out) HC0_4.out GT0.out).mono ?_
    rintro e w21 ⟨v3_, v4_, rfl, ho3, ho4, hb⟩
    obtain ⟨AU0_3, cU0_3, e_⟩ := Kd.R_slice ho3; subst e_
    obtain ⟨AU0_4, cU0_4, e_⟩ := Kd.R_slice ho4; subst e_
    have hB0_ := HB.out.size
    have hk_ := Kept.of_below hb (fun _ => False)
    replace RW := Aside0.mk (R_next RW.out hk_ (fun _ _ hs_ => hs_))
    replace RG := Aside0.mk (R_next RG.out hk_ (fun _ _ hs_ => hs_))
    replace BKa0 := Aside0.mk (blk_kept BKa0.out hk_ (fun hs_ => hs_))
    replace HB := Aside0.mk (below_step HB.out hb)
    obtain ⟨q21, hm_⟩ : ∃ m_ : Nat, m_ = w21.heap.size := ⟨_, rfl⟩
    have HL21 := Aside0.mk (show q19 ≤ q21 by have := HS.out; have := hb.size; omega)
    have U0_3 : Aside0 (Kd.R (Kd.int .i64) 3 w21 w.heap.size (fun k_ => Iv q19 q21 k_ ∧ some k_ ≠ ((.slice AU0_4 x0_4.length cU0_4) : Value).ownBlock) (.slice AU0_3 x0_3.length cU0_3) x0_3) := ⟨Kd.R_lower (Kd.R_mono (Kd.R_bound ho3) (fun k_ hk_ => ⟨⟨Nat.le_trans HS.out hk_.2.1, by rw [hm_]; exact hk_.2.2.1⟩, hk_.1⟩)) hB0_⟩
    have U0_4 : Aside0 (Kd.R (Kd.int .i64) 3 w21 w.heap.size (fun k_ => Iv q19 q21 k_ ∧ some k_ ≠ ((.slice AU0_3 x0_3.length cU0_3) : Value).ownBlock) (.slice AU0_4 x0_4.length cU0_4) x0_4) := ⟨Kd.R_lower (Kd.R_mono (Kd.R_bound ho4) (fun k_ hk_ => ⟨⟨Nat.le_trans HS.out hk_.2.1, by rw [hm_]; exact hk_.2.2.1⟩, hk_.1⟩)) hB0_⟩
    replace HS := Aside0.mk (Nat.le_of_eq hm_)
    clear hm_ hb hk_ hB0_
    clear ho3 ho4
    go_wp2_with (fail)
    go_at_call 28
    refine calls_at (fun W_ => Below w.heap.size w W_ ∧ Kept w21 W_ (fun _ => False)) ⟨by repeat (first | (with_reducible first | exact HB.out | apply below_alloc | apply pw_below_drewN | apply below_drew1) | exact HB.out), by repeat (with_reducible first | exact Kept.refl _ _ | apply Kept.alloc | apply Kept.drewN | apply Kept.drew)⟩ (fun u22 hW_ => ?_)
    have hkk_ := hW_.2
    replace HB := Aside0.mk hW_.1
    replace RW := Aside0.mk (R_next RW.out hkk_ (fun _ _ hs_ => hs_))
    replace RG := Aside0.mk (R_next RG.out hkk_ (fun _ _ hs_ => hs_))
    replace U0_3 := Aside0.mk (R_next U0_3.out hkk_ (fun _ _ hs_ => hs_))
    replace U0_4 := Aside0.mk (R_next U0_4.out hkk_ (fun _ _ hs_ => hs_))
    replace BKa0 := Aside0.mk (blk_kept BKa0.out hkk_ (fun hs_ => hs_))
    replace HS := Aside0.mk (Nat.le_trans HS.out hkk_.1)
    clear hW_ hkk_
    refine (laws_toIntSS.calls k _ _ l1 s1 _ (Kd.C_below HR1.out HB.out) HC1.out GT1.out).mono ?_
    rintro e w22 ⟨v_, rfl, ho, hb⟩
    obtain ⟨AU1, cU1, e_⟩ := Kd.S_slice ho; subst e_
    have hB0_ := HB.out.size
    have hk_ := Kept.of_below hb (fun _ => False)
    replace RW := Aside0.mk (R_next RW.out hk_ (fun _ _ hs_ => hs_))
    replace RG := Aside0.mk (R_next RG.out hk_ (fun _ _ hs_ => hs_))
    replace U0_3 := Aside0.mk (R_next U0_3.out hk_ (fun _ _ hs_ => hs_))
    replace U0_4 := Aside0.mk (R_next U0_4.out hk_ (fun _ _ hs_ => hs_))
    replace BKa0 := Aside0.mk (blk_kept BKa0.out hk_ (fun hs_ => hs_))
    replace HB := Aside0.mk (below_step HB.out hb)
    obtain ⟨q22, hm_⟩ : ∃ m_ : Nat, m_ = w22.heap.size := ⟨_, rfl⟩
    have HL22 := Aside0.mk (show q21 ≤ q22 by have := HS.out; have := hb.size; omega)
    have U1 : Aside0 (Kd.S (Kd.slice 3 (Kd.int .i64)) 22 w22 w.heap.size (Iv q21 q22) (.slice AU1 s1.length cU1) s1) := ⟨Kd.S_lower (Kd.S_mono (Kd.S_bound ho) (fun k_ hk_ => ⟨Nat.le_trans HS.out hk_.2.1, by rw [hm_]; exact hk_.2.2.1⟩)) hB0_⟩
    replace HS := Aside0.mk (Nat.le_of_eq hm_)
    clear hm_ hb hk_ hB0_
    clear ho
    go_wp2_with (fail)
    go_at_call 52
    refine calls_at (fun W_ => Below w.heap.size w W_ ∧ Kept w22 W_ (fun _ => False)) ⟨by repeat (first | (with_reducible first | exact HB.out | apply below_alloc | apply pw_below_drewN | apply below_drew1) | exact HB.out), by repeat (with_reducible first | exact Kept.refl _ _ | apply Kept.alloc | apply Kept.drewN | apply Kept.drew)⟩ (fun u23 hW_ => ?_)
    have hkk_ := hW_.2
    replace HB := Aside0.mk hW_.1
    replace RW := Aside0.mk (R_next RW.out hkk_ (fun _ _ hs_ => hs_))
    replace RG := Aside0.mk (R_next RG.out hkk_ (fun _ _ hs_ => hs_))
    replace U0_3 := Aside0.mk (R_next U0_3.out hkk_ (fun _ _ hs_ => hs_))
    replace U0_4 := Aside0.mk (R_next U0_4.out hkk_ (fun _ _ hs_ => hs_))
    replace U1 := Aside0.mk (S_next U1.out hkk_ (fun _ _ hs_ => hs_))
    replace BKa0 := Aside0.mk (blk_kept BKa0.out hkk_ (fun hs_ => hs_))
    replace HS := Aside0.mk (Nat.le_trans HS.out hkk_.1)
    clear hW_ hkk_
    refine (impl_ThreatsTo.calls k x0_0 x0_1 x0_2 _ _ x0_3 _ _ x0_4 _ _ s1 a2 r0 r1 _ (Kd.R_reads' U0_3.out).2.2 (Kd.R_reads' U0_3.out).2.1 (Kd.R_reads' U0_4.out).2.2 (Kd.R_reads' U0_4.out).2.1 (Kd.S_reads' U1.out).2.2 (Kd.S_reads' U1.out).2.1 GI.out).mono ?_
    rintro e w23 ⟨v_, rfl, ho, hb⟩
    obtain ⟨ARH, cRH, e_⟩ := Kd.R_slice ho; subst e_
    have hB0_ := HB.out.size
    have hk_ := Kept.of_below hb (fun _ => False)
    replace RW := Aside0.mk (R_next RW.out hk_ (fun _ _ hs_ => hs_))
    replace RG := Aside0.mk (R_next RG.out hk_ (fun _ _ hs_ => hs_))
    replace U0_3 := Aside0.mk (R_next U0_3.out hk_ (fun _ _ hs_ => hs_))
    replace U0_4 := Aside0.mk (R_next U0_4.out hk_ (fun _ _ hs_ => hs_))
    replace U1 := Aside0.mk (S_next U1.out hk_ (fun _ _ hs_ => hs_))
    replace BKa0 := Aside0.mk (blk_kept BKa0.out hk_ (fun hs_ => hs_))
    replace HB := Aside0.mk (below_step HB.out hb)
    obtain ⟨q23, hm_⟩ : ∃ m_ : Nat, m_ = w23.heap.size := ⟨_, rfl⟩
    have HL23 := Aside0.mk (show q22 ≤ q23 by have := HS.out; have := hb.size; omega)
    have RH : Aside0 (Kd.R (Kd.int .i64) 3 w23 w.heap.size (Iv q22 q23) (.slice ARH r0.length cRH) r0) := ⟨Kd.R_lower (Kd.R_mono (Kd.R_bound ho) (fun k_ hk_ => ⟨Nat.le_trans HS.out hk_.2.1, by rw [hm_]; exact hk_.2.2.1⟩)) hB0_⟩
    replace HS := Aside0.mk (Nat.le_of_eq hm_)
    clear hm_ hb hk_ hB0_
    clear ho
    clear U0_3 U0_4 U1
    go_wp2_with (fail)
    go_at_call 46
    refine calls_at (fun W_ => Below w.heap.size w W_ ∧ Kept w23 W_ (fun _ => False)) ⟨by repeat (first | (with_reducible first | exact HB.out | apply below_alloc | apply pw_below_drewN | apply below_drew1) | exact HB.out), by repeat (with_reducible first | exact Kept.refl _ _ | apply Kept.alloc | apply Kept.drewN | apply Kept.drew)⟩ (fun u24 hW_ => ?_)
    have hkk_ := hW_.2
    replace HB := Aside0.mk hW_.1
    replace RW := Aside0.mk (R_next RW.out hkk_ (fun _ _ hs_ => hs_))
    replace RG := Aside0.mk (R_next RG.out hkk_ (fun _ _ hs_ => hs_))
    replace RH := Aside0.mk (R_next RH.out hkk_ (fun _ _ hs_ => hs_))
    replace BKa0 := Aside0.mk (blk_kept BKa0.out hkk_ (fun hs_ => hs_))
    replace HS := Aside0.mk (Nat.le_trans HS.out hkk_.1)
    clear hW_ hkk_
    refine (laws_eqIntS.calls k _ _ r0 _ _ r0 true _ (Kd.R_reads' RH.out).2.2 (Kd.R_reads' RH.out).2.1 (Kd.R_reads' RW.out).2.2 (Kd.R_reads' RW.out).2.1 GR.out).mono ?_
    rintro e w' ⟨rfl, ⟨nd, rfl⟩⟩
    go_wp2_with (fail)
    go_at_call 48
    refine calls_at (fun W_ => Below w.heap.size w W_ ∧ Kept u24 W_ (fun _ => False)) ⟨by repeat (first | (with_reducible first | exact HB.out | apply below_alloc | apply pw_below_drewN | apply below_drew1) | exact HB.out), by repeat (with_reducible first | exact Kept.refl _ _ | apply Kept.alloc | apply Kept.drewN | apply Kept.drew)⟩ (fun u25 hW_ => ?_)
    have hkk_ := hW_.2
    replace HB := Aside0.mk hW_.1
    replace RW := Aside0.mk (R_next RW.out hkk_ (fun _ _ hs_ => hs_))
    replace RG := Aside0.mk (R_next RG.out hkk_ (fun _ _ hs_ => hs_))
    replace RH := Aside0.mk (R_next RH.out hkk_ (fun _ _ hs_ => hs_))
    replace BKa0 := Aside0.mk (blk_kept BKa0.out hkk_ (fun hs_ => hs_))
    replace HS := Aside0.mk (Nat.le_trans HS.out hkk_.1)
    clear hW_ hkk_
    refine calls_len2 (show zk.length = r0.length from HN.out.symm) ?_
    refine (laws_heldIntS.calls k _ _ zk 1 mk _ (Kd.R_reads' RG.out).2.2 (by rw [← HN.out]; exact (Kd.R_reads' RG.out).2.1) GH.out).mono ?_
    rintro e w' ⟨rfl, ⟨nd, rfl⟩⟩
    go_wp2
    go_ret
    exact ⟨rfl, by repeat (first | (with_reducible first | exact HB.out | apply below_alloc | apply pw_below_drewN | apply below_drew1) | exact HB.out)⟩

def laws_FnExactThreatsTo.f (k : Nat) (a0_0 : Int) (a0_1 : Int) (a0_2 : Int) (l0_3 : List Int) (l0_4 : List Int) (l1 : List (List Int)) (a2 : Int) : Option Bool :=
  (laws_szTrack.f a0_0 a0_1 a0_2 l0_3 l0_4 1048576).bind fun t0 => if t0 < 0 then some true else (laws_szIntSS.f k l1 t0).bind fun t1 => if t1 < 0 then some true else (laws_toTrack.f k a0_0 a0_1 a0_2 l0_3 l0_4).bind fun x0 => (laws_toIntSS.f k l1).bind fun s1 => (laws_eqTrack.f k x0.1 x0.2.1 x0.2.2.1 x0.2.2.2.1 x0.2.2.2.2 x0.1 x0.2.1 x0.2.2.1 x0.2.2.2.1 x0.2.2.2.2).bind fun b0 => if b0 = true then (laws_eqIntSS.f k s1 s1).bind fun b1 => if b1 = true then (spec_ThreatsTo.f k x0.1 x0.2.1 x0.2.2.1 x0.2.2.2.1 x0.2.2.2.2 s1 a2).bind fun r => (impl_ThreatsTo.f k x0.1 x0.2.1 x0.2.2.1 x0.2.2.2.1 x0.2.2.2.2 s1 a2).bind fun g => if g = r then (laws_eqIntS.f k r.1 r.1).bind fun br => if br = true then (laws_markTrack.f k x0.1 x0.2.1 x0.2.2.1 x0.2.2.2.1 x0.2.2.2.2 1).bind fun k0 => (laws_markIntSS.f k s1 k0.1).bind fun k1 => if k1.1 < 0 then none else (laws_markIntS.f k r.1 1).bind fun mz => (laws_heldIntS.f k mz.2 1).bind fun hd => if hd = mz.1 then if mz.1 < 0 then none else some true else none else none else none else none else none
theorem laws_FnExactThreatsTo.calls (k : Nat) (a0_0 : Int) (a0_1 : Int) (a0_2 : Int) (A0_3 : Option Addr) (c0_3 : Nat) (l0_3 : List Int) (A0_4 : Option Addr) (c0_4 : Nat) (l0_4 : List Int) (A1 : Option Addr) (c1 : Nat) (l1 : List (List Int)) (a2 : Int) (r : Bool) (w : World) (hr0_3 : Kd.C (Kd.int .i64) w A0_3 l0_3.length l0_3) (hc0_3 : l0_3.length ≤ c0_3) (hr0_4 : Kd.C (Kd.int .i64) w A0_4 l0_4.length l0_4) (hc0_4 : l0_4.length ≤ c0_4) (hr1 : Kd.C (Kd.slice 3 (Kd.int .i64)) w A1 l1.length l1) (hc1 : l1.length ≤ c1) (h : laws_FnExactThreatsTo.f k a0_0 a0_1 a0_2 l0_3 l0_4 l1 a2 = some r) :
    Calls Try.prog 13 #[.agg #[.int .i64 a0_0, .int .i64 a0_1, .int .i64 a0_2, .slice A0_3 l0_3.length c0_3, .slice A0_4 l0_4.length c0_4], .slice A1 l1.length c1, .int .i64 a2] w fun e w' => e = .returned (.bool r) ∧ Below w.heap.size w w' := by
  unfold laws_FnExactThreatsTo.f at h
  obtain ⟨t0, gz0, h⟩ := Option.bind_eq_some_iff.1 h
  by_cases nz0 : t0 < 0
  · rw [if_pos nz0] at h; obtain rfl := Option.some.inj h; exact law_ThreatsTo_large0 k a0_0 a0_1 a0_2 A0_3 c0_3 l0_3 A0_4 c0_4 l0_4 A1 c1 l1 a2 w hr0_3 hc0_3 hr0_4 hc0_4 hr1 hc1 t0 gz0  nz0
  rw [if_neg nz0] at h
  obtain ⟨t1, gz1, h⟩ := Option.bind_eq_some_iff.1 h
  by_cases nz1 : t1 < 0
  · rw [if_pos nz1] at h; obtain rfl := Option.some.inj h; exact law_ThreatsTo_large1 k a0_0 a0_1 a0_2 A0_3 c0_3 l0_3 A0_4 c0_4 l0_4 A1 c1 l1 a2 w hr0_3 hc0_3 hr0_4 hc0_4 hr1 hc1 t0 t1 gz0 gz1 nz0 nz1
  rw [if_neg nz1] at h
  obtain ⟨⟨x0_0, x0_1, x0_2, x0_3, x0_4⟩, gt0, h⟩ := Option.bind_eq_some_iff.1 h
  dsimp only at h
  obtain ⟨s1, gt1, h⟩ := Option.bind_eq_some_iff.1 h
  skip
  obtain ⟨b0, ge0, h⟩ := Option.bind_eq_some_iff.1 h
  by_cases e0 : b0 = true
  case neg => rw [if_neg e0] at h; cases h
  rw [if_pos e0] at h; subst e0
  obtain ⟨b1, ge1, h⟩ := Option.bind_eq_some_iff.1 h
  by_cases e1 : b1 = true
  case neg => rw [if_neg e1] at h; cases h
  rw [if_pos e1] at h; subst e1
  obtain ⟨⟨r0, r1⟩, gs, h⟩ := Option.bind_eq_some_iff.1 h
  obtain ⟨g, gi, h⟩ := Option.bind_eq_some_iff.1 h
  by_cases eg : g = (r0, r1)
  case neg => rw [if_neg eg] at h; cases h
  rw [if_pos eg] at h; subst eg
  obtain ⟨br, gr, h⟩ := Option.bind_eq_some_iff.1 h
  by_cases er : br = true
  case neg => rw [if_neg er] at h; cases h
  rw [if_pos er] at h; subst er
  obtain ⟨⟨k0, y0_3, y0_4⟩, gm0, h⟩ := Option.bind_eq_some_iff.1 h
  obtain ⟨⟨k1, y1⟩, gm1, h⟩ := Option.bind_eq_some_iff.1 h
  by_cases nk : k1 < 0
  · rw [if_pos nk] at h; cases h
  rw [if_neg nk] at h
  obtain ⟨⟨mk, zk⟩, gk, h⟩ := Option.bind_eq_some_iff.1 h
  obtain ⟨hd, gh, h⟩ := Option.bind_eq_some_iff.1 h
  by_cases eh : hd = mk
  case neg => rw [if_neg eh] at h; cases h
  rw [if_pos eh] at h; subst eh
  by_cases nm : hd < 0
  · rw [if_pos nm] at h; cases h
  rw [if_neg nm] at h; obtain rfl := Option.some.inj h
  exact law_ThreatsTo_way k a0_0 a0_1 a0_2 A0_3 c0_3 l0_3 A0_4 c0_4 l0_4 A1 c1 l1 a2 w hr0_3 hc0_3 hr0_4 hc0_4 hr1 hc1 t0 t1 x0_0 x0_1 x0_2 x0_3 x0_4 s1 r0 r1 k0 y0_3 y0_4 k1 y1 hd zk nz0 nz1 nk nm gz0 gz1 gt0 ge0 gt1 ge1 gs gi gr gm0 gm1 gk gh
end Go.Proofs.Ytcppahkdfajcaaa.P
