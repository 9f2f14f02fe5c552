/- The law TrackStart: what its Go text answers, where both sides answer alike. -/
import Derived.Test.YtcppahkdfajcaaaELawKit
import Derived.Deep.RegionWith
import Derived.Test.YtcppahkdfajcaaaP63
import Derived.Test.YtcppahkdfajcaaaP63
import Derived.Test.YtcppahkdfajcaaaP63
import Derived.Test.YtcppahkdfajcaaaP47
import Derived.Test.YtcppahkdfajcaaaP33
import Derived.Test.YtcppahkdfajcaaaP34
import Derived.Test.YtcppahkdfajcaaaP63
import Derived.Test.YtcppahkdfajcaaaP37
namespace Go.Proofs.Ytcppahkdfajcaaa.P
open Go.RowKit Go.Proofs.YtcppahkdfajcaaaW.PrintWords Go.Proofs.YtcppahkdfajcaaaW.PrintLast Go.Proofs.YtcppahkdfajcaaaW.PrintMore
set_option linter.unusedVariables false
set_option linter.unusedSimpArgs false

set_option maxHeartbeats 8000000 in
set_option maxRecDepth 100000 in
theorem law_TrackStart_large0 (k : Nat) (a0_0 : Int) (a0_1 : Int) (a0_2 : Int) (A0_3 : Option Addr) (c0_3 : Nat) (l0_3 : List Int) (A0_4 : Option Addr) (c0_4 : Nat) (l0_4 : List Int) (w : World) (hr0_3 : Kd.C (Kd.int .i64) w A0_3 l0_3.length l0_3) (hc0_3 : l0_3.length ≤ c0_3) (hr0_4 : Kd.C (Kd.int .i64) w A0_4 l0_4.length l0_4) (hc0_4 : l0_4.length ≤ c0_4)
    (t0 : Int) (gz0 : laws_szTrack.f a0_0 a0_1 a0_2 l0_3 l0_4 1048576 = some t0)  (nz0 : t0 < 0) :
    Calls Try.prog 7 #[.agg #[.int .i64 a0_0, .int .i64 a0_1, .int .i64 a0_2, .slice A0_3 l0_3.length c0_3, .slice A0_4 l0_4.length c0_4]] w fun e w' => e = .returned (.bool true) ∧ Below w.heap.size w w' := by
  have hu100 := Try.underlying24
  have hu200 := Try.underlying27
  have HR0_3 := Aside0.mk hr0_3
  have HC0_3 := Aside0.mk hc0_3
  clear hr0_3 hc0_3
  have HR0_4 := Aside0.mk hr0_4
  have HC0_4 := Aside0.mk hc0_4
  clear hr0_4 hc0_4
  have HB := Aside0.mk (Below.refl w.heap.size w)
  have HS := Aside0.mk (Nat.le_refl w.heap.size)
  have GZ0 := Aside0.mk gz0
  clear gz0
  have hd0 : decide (t0 < 0) = true := decide_eq_true nz0
  clear nz0
  go_enter Try.func7, Try.ntmps7
  go_wp2_with (((with_reducible refine gate_dst (N := 1) rfl ?_); refine box_event ?hg (N := 1) ?hd (cs := #[.int .i64 a0_0, .int .i64 a0_1, .int .i64 a0_2, .slice A0_3 l0_3.length c0_3, .slice A0_4 l0_4.length c0_4]) (t := 24) ?hr ?_; (case hd => rfl); (case hg => rfl); (case hr => first | (go_simp; done) | (go_simp; rfl)); intro Ba0 hgb_ w1 hbox hb; have GEa0 := Aside0.mk (show w.heap.size ≤ Ba0 from (by rw [hgb_]; exact (by repeat (first | (with_reducible first | exact HB.out | apply below_alloc | apply pw_below_drewN | apply below_drew1) | exact HB.out) : Below w.heap.size w _).size)); have hle_ : w.heap.size ≤ Ba0 := (by rw [hgb_]; exact (by repeat (with_reducible first | exact Kept.refl _ _ | apply Kept.alloc | apply Kept.drewN | apply Kept.drew) : Kept w _ (fun _ => False)).1); have hkk_ : Kept w w1 (fun _ => False) := Kept.below (by repeat (with_reducible first | exact Kept.refl _ _ | apply Kept.alloc | apply Kept.drewN | apply Kept.drew)) hb; replace HB := Aside0.mk (below_step (by repeat (first | (with_reducible first | exact HB.out | apply below_alloc | apply pw_below_drewN | apply below_drew1) | exact HB.out) : Below w.heap.size w _) hb); obtain ⟨q1, hm_⟩ : ∃ m_ : Nat, m_ = w1.heap.size := ⟨_, rfl⟩; have HL1 := Aside0.mk (show w.heap.size ≤ q1 from (by have := HS.out; have := hkk_.1; omega)); have BKa0 := Aside0.mk hbox; have HBKa0 := Aside0.mk (show w.heap.size ≤ Ba0 ∧ Ba0 < q1 from ⟨Nat.le_trans HS.out hle_, (by rw [hm_]; exact blk_lt hbox)⟩); replace HS := Aside0.mk (Nat.le_of_eq hm_); clear hm_ hb hkk_ hle_ hgb_ hbox; have hz0 : w1.cell? ⟨Ba0, 0, none⟩ = some (.int .i64 a0_0) := (blk_cell BKa0.out 0).trans rfl; have hz1 : w1.cell? ⟨Ba0, 1, none⟩ = some (.int .i64 a0_1) := (blk_cell BKa0.out 1).trans rfl; have hz2 : w1.cell? ⟨Ba0, 2, none⟩ = some (.int .i64 a0_2) := (blk_cell BKa0.out 2).trans rfl; have hz3 : w1.cell? ⟨Ba0, 3, none⟩ = some (.slice A0_3 l0_3.length c0_3) := (blk_cell BKa0.out 3).trans rfl; have hz4 : w1.cell? ⟨Ba0, 4, none⟩ = some (.slice A0_4 l0_4.length c0_4) := (blk_cell BKa0.out 4).trans rfl))
  go_at_call 19
  refine calls_at (fun W_ => Below w.heap.size w W_ ∧ Kept w1 W_ (fun _ => False)) ⟨by repeat (first | (with_reducible first | exact HB.out | apply below_alloc | apply pw_below_drewN | apply below_drew1) | exact HB.out), by repeat (with_reducible first | exact Kept.refl _ _ | apply Kept.alloc | apply Kept.drewN | apply Kept.drew)⟩ (fun u2 hW_ => ?_)
  have hkk_ := hW_.2
  replace HB := Aside0.mk hW_.1
  replace BKa0 := Aside0.mk (blk_kept BKa0.out hkk_ (fun hs_ => hs_))
  replace HS := Aside0.mk (Nat.le_trans HS.out hkk_.1)
  clear hW_ hkk_
  clear hz0 hz1 hz2 hz3 hz4
  refine (laws_szTrack.calls a0_0 a0_1 a0_2 _ _ l0_3 _ _ l0_4 1048576 t0 _ (Kd.C_below HR0_3.out HB.out) HC0_3.out (Kd.C_below HR0_4.out HB.out) HC0_4.out GZ0.out).mono ?_
  rintro e w2 ⟨rfl, hb⟩
  have hB0_ := HB.out.size
  have hk_ := Kept.of_below hb (fun _ => False)
  replace BKa0 := Aside0.mk (blk_kept BKa0.out hk_ (fun hs_ => hs_))
  replace HB := Aside0.mk (below_step HB.out hb)
  obtain ⟨q2, hm_⟩ : ∃ m_ : Nat, m_ = w2.heap.size := ⟨_, rfl⟩
  have HL2 := Aside0.mk (show q1 ≤ q2 by have := HS.out; have := hb.size; omega)
  replace HS := Aside0.mk (Nat.le_of_eq hm_)
  clear hm_ hb hk_ hB0_
  go_wp2
  go_ret
  exact ⟨rfl, by repeat (first | (with_reducible first | exact HB.out | apply below_alloc | apply pw_below_drewN | apply below_drew1) | exact HB.out)⟩

set_option maxHeartbeats 8000000 in
set_option maxRecDepth 100000 in
theorem law_TrackStart_way (k : Nat) (a0_0 : Int) (a0_1 : Int) (a0_2 : Int) (A0_3 : Option Addr) (c0_3 : Nat) (l0_3 : List Int) (A0_4 : Option Addr) (c0_4 : Nat) (l0_4 : List Int) (w : World) (hr0_3 : Kd.C (Kd.int .i64) w A0_3 l0_3.length l0_3) (hc0_3 : l0_3.length ≤ c0_3) (hr0_4 : Kd.C (Kd.int .i64) w A0_4 l0_4.length l0_4) (hc0_4 : l0_4.length ≤ c0_4)
    (t0 : Int) (x0_0 : Int) (x0_1 : Int) (x0_2 : Int) (x0_3 : List Int) (x0_4 : List Int) (r0 : List (List Int)) (r1 : Bool) (k0 : Int) (y0_3 : List Int) (y0_4 : List Int) (mk : Int) (zk : List (List Int)) (nz0 : ¬ t0 < 0) (nk : ¬ k0 < 0) (nm : ¬ mk < 0)
    (gz0 : laws_szTrack.f a0_0 a0_1 a0_2 l0_3 l0_4 1048576 = some t0) (gt0 : laws_toTrack.f k a0_0 a0_1 a0_2 l0_3 l0_4 = some (x0_0, x0_1, x0_2, x0_3, x0_4)) (ge0 : laws_eqTrack.f k x0_0 x0_1 x0_2 x0_3 x0_4 x0_0 x0_1 x0_2 x0_3 x0_4 = some true) (gs : spec_TrackStart.f k x0_0 x0_1 x0_2 x0_3 x0_4 = some (r0, r1)) (gi : impl_TrackStart.f k x0_0 x0_1 x0_2 x0_3 x0_4 = some (r0, r1)) (gr : laws_eqIntSS.f k r0 r0 = some true) (gm0 : laws_markTrack.f k x0_0 x0_1 x0_2 x0_3 x0_4 1 = some (k0, y0_3, y0_4)) (gk : laws_markIntSS.f k r0 1 = some (mk, zk)) (gh : laws_heldIntSS.f k zk 1 = some mk) :
    Calls Try.prog 7 #[.agg #[.int .i64 a0_0, .int .i64 a0_1, .int .i64 a0_2, .slice A0_3 l0_3.length c0_3, .slice A0_4 l0_4.length c0_4]] w fun e w' => e = .returned (.bool true) ∧ Below w.heap.size w w' := by
  have hu100 := Try.underlying24
  have hu200 := Try.underlying27
  have HR0_3 := Aside0.mk hr0_3
  have HC0_3 := Aside0.mk hc0_3
  clear hr0_3 hc0_3
  have HR0_4 := Aside0.mk hr0_4
  have HC0_4 := Aside0.mk hc0_4
  clear hr0_4 hc0_4
  have HB := Aside0.mk (Below.refl w.heap.size w)
  have HS := Aside0.mk (Nat.le_refl w.heap.size)
  have GZ0 := Aside0.mk gz0
  clear gz0
  have GT0 := Aside0.mk gt0
  clear gt0
  have GE0 := Aside0.mk ge0
  clear ge0
  have GS := Aside0.mk gs
  clear gs
  have GI := Aside0.mk gi
  clear gi
  have GR := Aside0.mk gr
  clear gr
  have GM0 := Aside0.mk gm0
  clear gm0
  have GK := Aside0.mk gk
  clear gk
  have GH := Aside0.mk gh
  clear gh
  have hd0 : decide (t0 < 0) = false := decide_eq_false nz0
  clear nz0
  have hd1 : decide (k0 < 0) = false := decide_eq_false nk
  clear nk
  have hd2 : decide (mk < 0) = false := decide_eq_false nm
  clear nm
  go_enter Try.func7, Try.ntmps7
  go_wp2_with (((with_reducible refine gate_dst (N := 1) rfl ?_); refine box_event ?hg (N := 1) ?hd (cs := #[.int .i64 a0_0, .int .i64 a0_1, .int .i64 a0_2, .slice A0_3 l0_3.length c0_3, .slice A0_4 l0_4.length c0_4]) (t := 24) ?hr ?_; (case hd => rfl); (case hg => rfl); (case hr => first | (go_simp; done) | (go_simp; rfl)); intro Ba0 hgb_ w1 hbox hb; have GEa0 := Aside0.mk (show w.heap.size ≤ Ba0 from (by rw [hgb_]; exact (by repeat (first | (with_reducible first | exact HB.out | apply below_alloc | apply pw_below_drewN | apply below_drew1) | exact HB.out) : Below w.heap.size w _).size)); have hle_ : w.heap.size ≤ Ba0 := (by rw [hgb_]; exact (by repeat (with_reducible first | exact Kept.refl _ _ | apply Kept.alloc | apply Kept.drewN | apply Kept.drew) : Kept w _ (fun _ => False)).1); have hkk_ : Kept w w1 (fun _ => False) := Kept.below (by repeat (with_reducible first | exact Kept.refl _ _ | apply Kept.alloc | apply Kept.drewN | apply Kept.drew)) hb; replace HB := Aside0.mk (below_step (by repeat (first | (with_reducible first | exact HB.out | apply below_alloc | apply pw_below_drewN | apply below_drew1) | exact HB.out) : Below w.heap.size w _) hb); obtain ⟨q1, hm_⟩ : ∃ m_ : Nat, m_ = w1.heap.size := ⟨_, rfl⟩; have HL1 := Aside0.mk (show w.heap.size ≤ q1 from (by have := HS.out; have := hkk_.1; omega)); have BKa0 := Aside0.mk hbox; have HBKa0 := Aside0.mk (show w.heap.size ≤ Ba0 ∧ Ba0 < q1 from ⟨Nat.le_trans HS.out hle_, (by rw [hm_]; exact blk_lt hbox)⟩); replace HS := Aside0.mk (Nat.le_of_eq hm_); clear hm_ hb hkk_ hle_ hgb_ hbox; have hz0 : w1.cell? ⟨Ba0, 0, none⟩ = some (.int .i64 a0_0) := (blk_cell BKa0.out 0).trans rfl; have hz1 : w1.cell? ⟨Ba0, 1, none⟩ = some (.int .i64 a0_1) := (blk_cell BKa0.out 1).trans rfl; have hz2 : w1.cell? ⟨Ba0, 2, none⟩ = some (.int .i64 a0_2) := (blk_cell BKa0.out 2).trans rfl; have hz3 : w1.cell? ⟨Ba0, 3, none⟩ = some (.slice A0_3 l0_3.length c0_3) := (blk_cell BKa0.out 3).trans rfl; have hz4 : w1.cell? ⟨Ba0, 4, none⟩ = some (.slice A0_4 l0_4.length c0_4) := (blk_cell BKa0.out 4).trans rfl))
  go_at_call 19
  refine calls_at (fun W_ => Below w.heap.size w W_ ∧ Kept w1 W_ (fun _ => False)) ⟨by repeat (first | (with_reducible first | exact HB.out | apply below_alloc | apply pw_below_drewN | apply below_drew1) | exact HB.out), by repeat (with_reducible first | exact Kept.refl _ _ | apply Kept.alloc | apply Kept.drewN | apply Kept.drew)⟩ (fun u2 hW_ => ?_)
  have hkk_ := hW_.2
  replace HB := Aside0.mk hW_.1
  replace BKa0 := Aside0.mk (blk_kept BKa0.out hkk_ (fun hs_ => hs_))
  replace HS := Aside0.mk (Nat.le_trans HS.out hkk_.1)
  clear hW_ hkk_
  clear hz0 hz1 hz2 hz3 hz4
  refine (laws_szTrack.calls a0_0 a0_1 a0_2 _ _ l0_3 _ _ l0_4 1048576 t0 _ (Kd.C_below HR0_3.out HB.out) HC0_3.out (Kd.C_below HR0_4.out HB.out) HC0_4.out GZ0.out).mono ?_
  rintro e w2 ⟨rfl, hb⟩
  have hB0_ := HB.out.size
  have hk_ := Kept.of_below hb (fun _ => False)
  replace BKa0 := Aside0.mk (blk_kept BKa0.out hk_ (fun hs_ => hs_))
  replace HB := Aside0.mk (below_step HB.out hb)
  obtain ⟨q2, hm_⟩ : ∃ m_ : Nat, m_ = w2.heap.size := ⟨_, rfl⟩
  have HL2 := Aside0.mk (show q1 ≤ q2 by have := HS.out; have := hb.size; omega)
  replace HS := Aside0.mk (Nat.le_of_eq hm_)
  clear hm_ hb hk_ hB0_
  have hz0 : w2.cell? ⟨Ba0, 0, none⟩ = some (.int .i64 a0_0) := (blk_cell BKa0.out 0).trans rfl
  have hz1 : w2.cell? ⟨Ba0, 1, none⟩ = some (.int .i64 a0_1) := (blk_cell BKa0.out 1).trans rfl
  have hz2 : w2.cell? ⟨Ba0, 2, none⟩ = some (.int .i64 a0_2) := (blk_cell BKa0.out 2).trans rfl
  have hz3 : w2.cell? ⟨Ba0, 3, none⟩ = some (.slice A0_3 l0_3.length c0_3) := (blk_cell BKa0.out 3).trans rfl
  have hz4 : w2.cell? ⟨Ba0, 4, none⟩ = some (.slice A0_4 l0_4.length c0_4) := (blk_cell BKa0.out 4).trans rfl
  go_wp2_with (fail)
  go_at_call 21
  refine calls_at (fun W_ => Below w.heap.size w W_ ∧ Kept w2 W_ (fun _ => False)) ⟨by repeat (first | (with_reducible first | exact HB.out | apply below_alloc | apply pw_below_drewN | apply below_drew1) | exact HB.out), by repeat (with_reducible first | exact Kept.refl _ _ | apply Kept.alloc | apply Kept.drewN | apply Kept.drew)⟩ (fun u3 hW_ => ?_)
  have hkk_ := hW_.2
  replace HB := Aside0.mk hW_.1
  replace BKa0 := Aside0.mk (blk_kept BKa0.out hkk_ (fun hs_ => hs_))
  replace HS := Aside0.mk (Nat.le_trans HS.out hkk_.1)
  clear hW_ hkk_
  clear hz0 hz1 hz2 hz3 hz4
  refine (laws_toTrack.calls k a0_0 a0_1 a0_2 _ _ l0_3 _ _ l0_4 x0_0 x0_1 x0_2 x0_3 x0_4 _ (Kd.C_below HR0_3.out HB.out) HC0_3.out (Kd.C_below HR0_4.out HB.out) HC0_4.out GT0.out).mono ?_
  rintro e w3 ⟨v3_, v4_, rfl, ho3, ho4, hb⟩
  obtain ⟨AT0_3, cT0_3, e_⟩ := Kd.R_slice ho3; subst e_
  obtain ⟨AT0_4, cT0_4, e_⟩ := Kd.R_slice ho4; subst e_
  have hB0_ := HB.out.size
  have hk_ := Kept.of_below hb (fun _ => False)
  replace BKa0 := Aside0.mk (blk_kept BKa0.out hk_ (fun hs_ => hs_))
  replace HB := Aside0.mk (below_step HB.out hb)
  obtain ⟨q3, hm_⟩ : ∃ m_ : Nat, m_ = w3.heap.size := ⟨_, rfl⟩
  have HL3 := Aside0.mk (show q2 ≤ q3 by have := HS.out; have := hb.size; omega)
  have T0_3 : Aside0 (Kd.R (Kd.int .i64) 3 w3 w.heap.size (fun k_ => Iv q2 q3 k_ ∧ some k_ ≠ ((.slice AT0_4 x0_4.length cT0_4) : Value).ownBlock) (.slice AT0_3 x0_3.length cT0_3) x0_3) := ⟨Kd.R_lower (Kd.R_mono (Kd.R_bound ho3) (fun k_ hk_ => ⟨⟨Nat.le_trans HS.out hk_.2.1, by rw [hm_]; exact hk_.2.2.1⟩, hk_.1⟩)) hB0_⟩
  have T0_4 : Aside0 (Kd.R (Kd.int .i64) 3 w3 w.heap.size (fun k_ => Iv q2 q3 k_ ∧ some k_ ≠ ((.slice AT0_3 x0_3.length cT0_3) : Value).ownBlock) (.slice AT0_4 x0_4.length cT0_4) x0_4) := ⟨Kd.R_lower (Kd.R_mono (Kd.R_bound ho4) (fun k_ hk_ => ⟨⟨Nat.le_trans HS.out hk_.2.1, by rw [hm_]; exact hk_.2.2.1⟩, hk_.1⟩)) hB0_⟩
  replace HS := Aside0.mk (Nat.le_of_eq hm_)
  clear hm_ hb hk_ hB0_
  clear ho3 ho4
  go_wp2_with (fail)
  go_at_call 33
  refine calls_at (fun W_ => Below w.heap.size w W_ ∧ Kept w3 W_ (fun _ => False)) ⟨by repeat (first | (with_reducible first | exact HB.out | apply below_alloc | apply pw_below_drewN | apply below_drew1) | exact HB.out), by repeat (with_reducible first | exact Kept.refl _ _ | apply Kept.alloc | apply Kept.drewN | apply Kept.drew)⟩ (fun u4 hW_ => ?_)
  have hkk_ := hW_.2
  replace HB := Aside0.mk hW_.1
  replace T0_3 := Aside0.mk (R_next T0_3.out hkk_ (fun _ _ hs_ => hs_))
  replace T0_4 := Aside0.mk (R_next T0_4.out hkk_ (fun _ _ hs_ => hs_))
  replace BKa0 := Aside0.mk (blk_kept BKa0.out hkk_ (fun hs_ => hs_))
  replace HS := Aside0.mk (Nat.le_trans HS.out hkk_.1)
  clear hW_ hkk_
  refine (spec_TrackStart.calls k x0_0 x0_1 x0_2 _ _ x0_3 _ _ x0_4 r0 r1 _ (Kd.R_reads' T0_3.out).2.2 (Kd.R_reads' T0_3.out).2.1 (Kd.R_reads' T0_4.out).2.2 (Kd.R_reads' T0_4.out).2.1 GS.out).mono ?_
  rintro e w4 ⟨v_, rfl, ho, hb⟩
  obtain ⟨ARW, cRW, e_⟩ := Kd.S_slice ho; subst e_
  have hB0_ := HB.out.size
  have hk_ := Kept.of_below hb (fun _ => False)
  replace T0_3 := Aside0.mk (R_next T0_3.out hk_ (fun _ _ hs_ => hs_))
  replace T0_4 := Aside0.mk (R_next T0_4.out hk_ (fun _ _ hs_ => hs_))
  replace BKa0 := Aside0.mk (blk_kept BKa0.out hk_ (fun hs_ => hs_))
  replace HB := Aside0.mk (below_step HB.out hb)
  obtain ⟨q4, hm_⟩ : ∃ m_ : Nat, m_ = w4.heap.size := ⟨_, rfl⟩
  have HL4 := Aside0.mk (show q3 ≤ q4 by have := HS.out; have := hb.size; omega)
  have RW : Aside0 (Kd.S (Kd.slice 3 (Kd.int .i64)) 22 w4 w.heap.size (Iv q3 q4) (.slice ARW r0.length cRW) r0) := ⟨Kd.S_lower (Kd.S_mono (Kd.S_bound ho) (fun k_ hk_ => ⟨Nat.le_trans HS.out hk_.2.1, by rw [hm_]; exact hk_.2.2.1⟩)) hB0_⟩
  replace HS := Aside0.mk (Nat.le_of_eq hm_)
  clear hm_ hb hk_ hB0_
  clear ho
  clear T0_3 T0_4
  have hz0 : w4.cell? ⟨Ba0, 0, none⟩ = some (.int .i64 a0_0) := (blk_cell BKa0.out 0).trans rfl
  have hz1 : w4.cell? ⟨Ba0, 1, none⟩ = some (.int .i64 a0_1) := (blk_cell BKa0.out 1).trans rfl
  have hz2 : w4.cell? ⟨Ba0, 2, none⟩ = some (.int .i64 a0_2) := (blk_cell BKa0.out 2).trans rfl
  have hz3 : w4.cell? ⟨Ba0, 3, none⟩ = some (.slice A0_3 l0_3.length c0_3) := (blk_cell BKa0.out 3).trans rfl
  have hz4 : w4.cell? ⟨Ba0, 4, none⟩ = some (.slice A0_4 l0_4.length c0_4) := (blk_cell BKa0.out 4).trans rfl
  go_wp2_with (fail)
  go_at_call 21
  refine calls_at (fun W_ => Below w.heap.size w W_ ∧ Kept w4 W_ (fun _ => False)) ⟨by repeat (first | (with_reducible first | exact HB.out | apply below_alloc | apply pw_below_drewN | apply below_drew1) | exact HB.out), by repeat (with_reducible first | exact Kept.refl _ _ | apply Kept.alloc | apply Kept.drewN | apply Kept.drew)⟩ (fun u5 hW_ => ?_)
  have hkk_ := hW_.2
  replace HB := Aside0.mk hW_.1
  replace RW := Aside0.mk (S_next RW.out hkk_ (fun _ _ hs_ => hs_))
  replace BKa0 := Aside0.mk (blk_kept BKa0.out hkk_ (fun hs_ => hs_))
  replace HS := Aside0.mk (Nat.le_trans HS.out hkk_.1)
  clear hW_ hkk_
  clear hz0 hz1 hz2 hz3 hz4
  refine (laws_toTrack.calls k a0_0 a0_1 a0_2 _ _ l0_3 _ _ l0_4 x0_0 x0_1 x0_2 x0_3 x0_4 _ (Kd.C_below HR0_3.out HB.out) HC0_3.out (Kd.C_below HR0_4.out HB.out) HC0_4.out GT0.out).mono ?_
  rintro e w5 ⟨v3_, v4_, rfl, ho3, ho4, hb⟩
  obtain ⟨AX0_3, cX0_3, e_⟩ := Kd.R_slice ho3; subst e_
  obtain ⟨AX0_4, cX0_4, e_⟩ := Kd.R_slice ho4; subst e_
  have hB0_ := HB.out.size
  have hk_ := Kept.of_below hb (fun _ => False)
  replace RW := Aside0.mk (S_next RW.out hk_ (fun _ _ hs_ => hs_))
  replace BKa0 := Aside0.mk (blk_kept BKa0.out hk_ (fun hs_ => hs_))
  replace HB := Aside0.mk (below_step HB.out hb)
  obtain ⟨q5, hm_⟩ : ∃ m_ : Nat, m_ = w5.heap.size := ⟨_, rfl⟩
  have HL5 := Aside0.mk (show q4 ≤ q5 by have := HS.out; have := hb.size; omega)
  have X0_3 : Aside0 (Kd.R (Kd.int .i64) 3 w5 w.heap.size (fun k_ => Iv q4 q5 k_ ∧ some k_ ≠ ((.slice AX0_4 x0_4.length cX0_4) : Value).ownBlock) (.slice AX0_3 x0_3.length cX0_3) x0_3) := ⟨Kd.R_lower (Kd.R_mono (Kd.R_bound ho3) (fun k_ hk_ => ⟨⟨Nat.le_trans HS.out hk_.2.1, by rw [hm_]; exact hk_.2.2.1⟩, hk_.1⟩)) hB0_⟩
  have X0_4 : Aside0 (Kd.R (Kd.int .i64) 3 w5 w.heap.size (fun k_ => Iv q4 q5 k_ ∧ some k_ ≠ ((.slice AX0_3 x0_3.length cX0_3) : Value).ownBlock) (.slice AX0_4 x0_4.length cX0_4) x0_4) := ⟨Kd.R_lower (Kd.R_mono (Kd.R_bound ho4) (fun k_ hk_ => ⟨⟨Nat.le_trans HS.out hk_.2.1, by rw [hm_]; exact hk_.2.2.1⟩, hk_.1⟩)) hB0_⟩
  replace HS := Aside0.mk (Nat.le_of_eq hm_)
  clear hm_ hb hk_ hB0_
  clear ho3 ho4
  go_wp2_with (((with_reducible refine gate_dst (N := 6) rfl ?_); refine box_event ?hg (N := 6) ?hd (cs := #[.int .i64 0, .int .i64 0, .int .i64 0, .slice none 0 0, .slice none 0 0]) (t := 27) ?hr ?_; (case hd => rfl); (case hg => rfl); (case hr => first | (go_simp; done) | (go_simp; rfl)); intro Bx0 hgb_ w6 hbox hb; have GEx0 := Aside0.mk (show w.heap.size ≤ Bx0 from (by rw [hgb_]; exact (by repeat (first | (with_reducible first | exact HB.out | apply below_alloc | apply pw_below_drewN | apply below_drew1) | exact HB.out) : Below w.heap.size w _).size)); have hle_ : w5.heap.size ≤ Bx0 := (by rw [hgb_]; exact (by repeat (with_reducible first | exact Kept.refl _ _ | apply Kept.alloc | apply Kept.drewN | apply Kept.drew) : Kept w5 _ (fun _ => False)).1); have hkk_ : Kept w5 w6 (fun _ => False) := Kept.below (by repeat (with_reducible first | exact Kept.refl _ _ | apply Kept.alloc | apply Kept.drewN | apply Kept.drew)) hb; replace RW := Aside0.mk (S_next RW.out hkk_ (fun _ _ hs_ => hs_)); replace X0_3 := Aside0.mk (R_next X0_3.out hkk_ (fun _ _ hs_ => hs_)); replace X0_4 := Aside0.mk (R_next X0_4.out hkk_ (fun _ _ hs_ => hs_)); replace BKa0 := Aside0.mk (blk_kept BKa0.out hkk_ (fun hs_ => hs_)); replace HB := Aside0.mk (below_step (by repeat (first | (with_reducible first | exact HB.out | apply below_alloc | apply pw_below_drewN | apply below_drew1) | exact HB.out) : Below w.heap.size w _) hb); obtain ⟨q6, hm_⟩ : ∃ m_ : Nat, m_ = w6.heap.size := ⟨_, rfl⟩; have HL6 := Aside0.mk (show q5 ≤ q6 from (by have := HS.out; have := hkk_.1; omega)); have BKx0 := Aside0.mk hbox; have HBKx0 := Aside0.mk (show q5 ≤ Bx0 ∧ Bx0 < q6 from ⟨Nat.le_trans HS.out hle_, (by rw [hm_]; exact blk_lt hbox)⟩); replace HS := Aside0.mk (Nat.le_of_eq hm_); clear hm_ hb hkk_ hle_ hgb_ hbox; have hf0_ := blk_frozen BKx0.out 0; have hf1_ := blk_frozen BKx0.out 1; have hf2_ := blk_frozen BKx0.out 2; have hf3_ := blk_frozen BKx0.out 3; have hf4_ := blk_frozen BKx0.out 4; have hy0 : w6.cell? ⟨Bx0, 0, none⟩ = some (.int .i64 0) := (blk_cell BKx0.out 0).trans rfl; have hy1 : w6.cell? ⟨Bx0, 1, none⟩ = some (.int .i64 0) := (blk_cell BKx0.out 1).trans rfl; have hy2 : w6.cell? ⟨Bx0, 2, none⟩ = some (.int .i64 0) := (blk_cell BKx0.out 2).trans rfl; have hy3 : w6.cell? ⟨Bx0, 3, none⟩ = some (.slice none 0 0) := (blk_cell BKx0.out 3).trans rfl; have hy4 : w6.cell? ⟨Bx0, 4, none⟩ = some (.slice none 0 0) := (blk_cell BKx0.out 4).trans rfl))
  clear hf0_ hy0 hf1_ hy1 hf2_ hy2 hf3_ hy3 hf4_ hy4
  go_at_call 34
  refine calls_at (fun W_ => Below w.heap.size w W_ ∧ Kept w6 W_ (fun k_ => k_ = Bx0) ∧ W_.heap[Bx0]? = some (.cells #[.int .i64 x0_0, .int .i64 x0_1, .int .i64 x0_2, .slice AX0_3 x0_3.length cX0_3, .slice AX0_4 x0_4.length cX0_4] 27 (0, 0))) ⟨by repeat (first | (with_reducible first | exact HB.out | apply below_alloc | apply pw_below_drewN | apply below_drew1 | refine below_set ?_ GEx0.out) | exact HB.out), by repeat (with_reducible first | exact Kept.refl _ _ | apply Kept.alloc | apply Kept.drewN | apply Kept.drew | apply kept_put), by (with_reducible repeat (first | refine blk_drewN ?_ _ | refine blk_drew ?_ | refine blk_alloc ?_ _)); refine blk_put (cs := #[.int .i64 x0_0, .int .i64 x0_1, .int .i64 x0_2, .slice AX0_3 x0_3.length cX0_3, .slice none 0 0]) ?_ 4 _ rfl; refine blk_put (cs := #[.int .i64 x0_0, .int .i64 x0_1, .int .i64 x0_2, .slice none 0 0, .slice none 0 0]) ?_ 3 _ rfl; refine blk_put (cs := #[.int .i64 x0_0, .int .i64 x0_1, .int .i64 0, .slice none 0 0, .slice none 0 0]) ?_ 2 _ rfl; refine blk_put (cs := #[.int .i64 x0_0, .int .i64 0, .int .i64 0, .slice none 0 0, .slice none 0 0]) ?_ 1 _ rfl; refine blk_put (cs := #[.int .i64 0, .int .i64 0, .int .i64 0, .slice none 0 0, .slice none 0 0]) ?_ 0 _ rfl; exact BKx0.out⟩ (fun u7 hW_ => ?_)
  have hkk_ := hW_.2.1
  replace HB := Aside0.mk hW_.1
  replace RW := Aside0.mk (S_next RW.out hkk_ (fun k_ hk_ hs_ => by have := HL1.out; have := HL2.out; have := HL3.out; have := HL4.out; have := HL5.out; have := HL6.out; have := HBKx0.out; have hq_ := hk_; have hr_ := (show k_ = Bx0 from hs_); unfold Iv at hq_; omega))
  replace X0_3 := Aside0.mk (R_next X0_3.out hkk_ (fun k_ hk_ hs_ => by have := HL1.out; have := HL2.out; have := HL3.out; have := HL4.out; have := HL5.out; have := HL6.out; have := HBKx0.out; have hq_ := hk_.1; have hr_ := (show k_ = Bx0 from hs_); unfold Iv at hq_; omega))
  replace X0_4 := Aside0.mk (R_next X0_4.out hkk_ (fun k_ hk_ hs_ => by have := HL1.out; have := HL2.out; have := HL3.out; have := HL4.out; have := HL5.out; have := HL6.out; have := HBKx0.out; have hq_ := hk_.1; have hr_ := (show k_ = Bx0 from hs_); unfold Iv at hq_; omega))
  replace BKa0 := Aside0.mk (blk_kept BKa0.out hkk_ (fun hs_ => by have := HL1.out; have := HL2.out; have := HL3.out; have := HL4.out; have := HL5.out; have := HL6.out; have := HBKx0.out; have hq_ := HBKa0.out; have hr_ := (show Ba0 = Bx0 from hs_); omega))
  replace BKx0 := Aside0.mk hW_.2.2
  replace HS := Aside0.mk (Nat.le_trans HS.out hkk_.1)
  clear hW_ hkk_
  refine (impl_TrackStart.calls k x0_0 x0_1 x0_2 _ _ x0_3 _ _ x0_4 r0 r1 _ (Kd.R_reads' X0_3.out).2.2 (Kd.R_reads' X0_3.out).2.1 (Kd.R_reads' X0_4.out).2.2 (Kd.R_reads' X0_4.out).2.1 GI.out).mono ?_
  rintro e w7 ⟨v_, rfl, ho, hb⟩
  obtain ⟨ARG, cRG, e_⟩ := Kd.S_slice ho; subst e_
  have hB0_ := HB.out.size
  have hk_ := Kept.of_below hb (fun _ => False)
  replace RW := Aside0.mk (S_next RW.out hk_ (fun _ _ hs_ => hs_))
  replace X0_3 := Aside0.mk (R_next X0_3.out hk_ (fun _ _ hs_ => hs_))
  replace X0_4 := Aside0.mk (R_next X0_4.out hk_ (fun _ _ hs_ => hs_))
  replace BKa0 := Aside0.mk (blk_kept BKa0.out hk_ (fun hs_ => hs_))
  replace BKx0 := Aside0.mk (blk_kept BKx0.out hk_ (fun hs_ => hs_))
  replace HB := Aside0.mk (below_step HB.out hb)
  obtain ⟨q7, hm_⟩ : ∃ m_ : Nat, m_ = w7.heap.size := ⟨_, rfl⟩
  have HL7 := Aside0.mk (show q6 ≤ q7 by have := HS.out; have := hb.size; omega)
  have RG : Aside0 (Kd.S (Kd.slice 3 (Kd.int .i64)) 22 w7 w.heap.size (Iv q6 q7) (.slice ARG r0.length cRG) r0) := ⟨Kd.S_lower (Kd.S_mono (Kd.S_bound ho) (fun k_ hk_ => ⟨Nat.le_trans HS.out hk_.2.1, by rw [hm_]; exact hk_.2.2.1⟩)) hB0_⟩
  replace HS := Aside0.mk (Nat.le_of_eq hm_)
  clear hm_ hb hk_ hB0_
  clear ho
  go_wp2_with (fail)
  go_at_call 30
  refine calls_at (fun W_ => Below w.heap.size w W_ ∧ Kept w7 W_ (fun _ => False)) ⟨by repeat (first | (with_reducible first | exact HB.out | apply below_alloc | apply pw_below_drewN | apply below_drew1) | exact HB.out), by repeat (with_reducible first | exact Kept.refl _ _ | apply Kept.alloc | apply Kept.drewN | apply Kept.drew)⟩ (fun u8 hW_ => ?_)
  have hkk_ := hW_.2
  replace HB := Aside0.mk hW_.1
  replace RW := Aside0.mk (S_next RW.out hkk_ (fun _ _ hs_ => hs_))
  replace X0_3 := Aside0.mk (R_next X0_3.out hkk_ (fun _ _ hs_ => hs_))
  replace X0_4 := Aside0.mk (R_next X0_4.out hkk_ (fun _ _ hs_ => hs_))
  replace RG := Aside0.mk (S_next RG.out hkk_ (fun _ _ hs_ => hs_))
  replace BKa0 := Aside0.mk (blk_kept BKa0.out hkk_ (fun hs_ => hs_))
  replace BKx0 := Aside0.mk (blk_kept BKx0.out hkk_ (fun hs_ => hs_))
  replace HS := Aside0.mk (Nat.le_trans HS.out hkk_.1)
  clear hW_ hkk_
  refine (laws_eqIntSS.calls k _ _ r0 _ _ r0 true _ (Kd.S_reads' RG.out).2.2 (Kd.S_reads' RG.out).2.1 (Kd.S_reads' RW.out).2.2 (Kd.S_reads' RW.out).2.1 GR.out).mono ?_
  rintro e w' ⟨rfl, ⟨nd, rfl⟩⟩
  have hx0 : u8.cell? ⟨Bx0, 0, none⟩ = some (.int .i64 x0_0) := (blk_cell BKx0.out 0).trans rfl
  have hxd0 : u8.drew.cell? ⟨Bx0, 0, none⟩ = some (.int .i64 x0_0) := hx0
  have hxn0 : ∀ q_, (u8.drewN q_).cell? ⟨Bx0, 0, none⟩ = some (.int .i64 x0_0) := fun _ => hx0
  have hx1 : u8.cell? ⟨Bx0, 1, none⟩ = some (.int .i64 x0_1) := (blk_cell BKx0.out 1).trans rfl
  have hxd1 : u8.drew.cell? ⟨Bx0, 1, none⟩ = some (.int .i64 x0_1) := hx1
  have hxn1 : ∀ q_, (u8.drewN q_).cell? ⟨Bx0, 1, none⟩ = some (.int .i64 x0_1) := fun _ => hx1
  have hx2 : u8.cell? ⟨Bx0, 2, none⟩ = some (.int .i64 x0_2) := (blk_cell BKx0.out 2).trans rfl
  have hxd2 : u8.drew.cell? ⟨Bx0, 2, none⟩ = some (.int .i64 x0_2) := hx2
  have hxn2 : ∀ q_, (u8.drewN q_).cell? ⟨Bx0, 2, none⟩ = some (.int .i64 x0_2) := fun _ => hx2
  have hx3 : u8.cell? ⟨Bx0, 3, none⟩ = some (.slice AX0_3 x0_3.length cX0_3) := (blk_cell BKx0.out 3).trans rfl
  have hxd3 : u8.drew.cell? ⟨Bx0, 3, none⟩ = some (.slice AX0_3 x0_3.length cX0_3) := hx3
  have hxn3 : ∀ q_, (u8.drewN q_).cell? ⟨Bx0, 3, none⟩ = some (.slice AX0_3 x0_3.length cX0_3) := fun _ => hx3
  have hx4 : u8.cell? ⟨Bx0, 4, none⟩ = some (.slice AX0_4 x0_4.length cX0_4) := (blk_cell BKx0.out 4).trans rfl
  have hxd4 : u8.drew.cell? ⟨Bx0, 4, none⟩ = some (.slice AX0_4 x0_4.length cX0_4) := hx4
  have hxn4 : ∀ q_, (u8.drewN q_).cell? ⟨Bx0, 4, none⟩ = some (.slice AX0_4 x0_4.length cX0_4) := fun _ => hx4
  have hz0 : u8.cell? ⟨Ba0, 0, none⟩ = some (.int .i64 a0_0) := (blk_cell BKa0.out 0).trans rfl
  have hzd0 : u8.drew.cell? ⟨Ba0, 0, none⟩ = some (.int .i64 a0_0) := hz0
  have hzn0 : ∀ q_, (u8.drewN q_).cell? ⟨Ba0, 0, none⟩ = some (.int .i64 a0_0) := fun _ => hz0
  have hz1 : u8.cell? ⟨Ba0, 1, none⟩ = some (.int .i64 a0_1) := (blk_cell BKa0.out 1).trans rfl
  have hzd1 : u8.drew.cell? ⟨Ba0, 1, none⟩ = some (.int .i64 a0_1) := hz1
  have hzn1 : ∀ q_, (u8.drewN q_).cell? ⟨Ba0, 1, none⟩ = some (.int .i64 a0_1) := fun _ => hz1
  have hz2 : u8.cell? ⟨Ba0, 2, none⟩ = some (.int .i64 a0_2) := (blk_cell BKa0.out 2).trans rfl
  have hzd2 : u8.drew.cell? ⟨Ba0, 2, none⟩ = some (.int .i64 a0_2) := hz2
  have hzn2 : ∀ q_, (u8.drewN q_).cell? ⟨Ba0, 2, none⟩ = some (.int .i64 a0_2) := fun _ => hz2
  have hz3 : u8.cell? ⟨Ba0, 3, none⟩ = some (.slice A0_3 l0_3.length c0_3) := (blk_cell BKa0.out 3).trans rfl
  have hzd3 : u8.drew.cell? ⟨Ba0, 3, none⟩ = some (.slice A0_3 l0_3.length c0_3) := hz3
  have hzn3 : ∀ q_, (u8.drewN q_).cell? ⟨Ba0, 3, none⟩ = some (.slice A0_3 l0_3.length c0_3) := fun _ => hz3
  have hz4 : u8.cell? ⟨Ba0, 4, none⟩ = some (.slice A0_4 l0_4.length c0_4) := (blk_cell BKa0.out 4).trans rfl
  have hzd4 : u8.drew.cell? ⟨Ba0, 4, none⟩ = some (.slice A0_4 l0_4.length c0_4) := hz4
  have hzn4 : ∀ q_, (u8.drewN q_).cell? ⟨Ba0, 4, none⟩ = some (.slice A0_4 l0_4.length c0_4) := fun _ => hz4
  go_wp2_with (fail)
  go_region_with (first | (go_at_call 21; refine calls_at (fun W_ => Below w.heap.size w W_ ∧ Kept u8 W_ (fun _ => False)) ⟨by repeat (first | (with_reducible first | exact HB.out | apply below_alloc | apply pw_below_drewN | apply below_drew1) | exact HB.out), by repeat (with_reducible first | exact Kept.refl _ _ | apply Kept.alloc | apply Kept.drewN | apply Kept.drew)⟩ (fun u9 hW_ => ?_); have hkk_ := hW_.2; replace HB := Aside0.mk hW_.1; replace RW := Aside0.mk (S_next RW.out hkk_ (fun _ _ hs_ => hs_)); replace X0_3 := Aside0.mk (R_next X0_3.out hkk_ (fun _ _ hs_ => hs_)); replace X0_4 := Aside0.mk (R_next X0_4.out hkk_ (fun _ _ hs_ => hs_)); replace RG := Aside0.mk (S_next RG.out hkk_ (fun _ _ hs_ => hs_)); replace BKa0 := Aside0.mk (blk_kept BKa0.out hkk_ (fun hs_ => hs_)); replace BKx0 := Aside0.mk (blk_kept BKx0.out hkk_ (fun hs_ => hs_)); replace HS := Aside0.mk (Nat.le_trans HS.out hkk_.1); clear hW_ hkk_; refine (laws_toTrack.calls k a0_0 a0_1 a0_2 _ _ l0_3 _ _ l0_4 x0_0 x0_1 x0_2 x0_3 x0_4 _ (Kd.C_below HR0_3.out HB.out) HC0_3.out (Kd.C_below HR0_4.out HB.out) HC0_4.out GT0.out).mono ?_; rintro e w9 ⟨v3_, v4_, rfl, ho3, ho4, hb⟩; obtain ⟨AE0_3, cE0_3, e_⟩ := Kd.R_slice ho3; subst e_; obtain ⟨AE0_4, cE0_4, e_⟩ := Kd.R_slice ho4; subst e_; have hB0_ := HB.out.size; have hk_ := Kept.of_below hb (fun _ => False); replace RW := Aside0.mk (S_next RW.out hk_ (fun _ _ hs_ => hs_)); replace X0_3 := Aside0.mk (R_next X0_3.out hk_ (fun _ _ hs_ => hs_)); replace X0_4 := Aside0.mk (R_next X0_4.out hk_ (fun _ _ hs_ => hs_)); replace RG := Aside0.mk (S_next RG.out hk_ (fun _ _ hs_ => hs_)); replace BKa0 := Aside0.mk (blk_kept BKa0.out hk_ (fun hs_ => hs_)); replace BKx0 := Aside0.mk (blk_kept BKx0.out hk_ (fun hs_ => hs_)); replace HB := Aside0.mk (below_step HB.out hb); obtain ⟨q9, hm_⟩ : ∃ m_ : Nat, m_ = w9.heap.size := ⟨_, rfl⟩; have HL9 := Aside0.mk (show q7 ≤ q9 by have := HS.out; have := hb.size; omega); have E0_3 : Aside0 (Kd.R (Kd.int .i64) 3 w9 w.heap.size (fun k_ => Iv q7 q9 k_ ∧ some k_ ≠ ((.slice AE0_4 x0_4.length cE0_4) : Value).ownBlock) (.slice AE0_3 x0_3.length cE0_3) x0_3) := ⟨Kd.R_lower (Kd.R_mono (Kd.R_bound ho3) (fun k_ hk_ => ⟨⟨Nat.le_trans HS.out hk_.2.1, by rw [hm_]; exact hk_.2.2.1⟩, hk_.1⟩)) hB0_⟩; have E0_4 : Aside0 (Kd.R (Kd.int .i64) 3 w9 w.heap.size (fun k_ => Iv q7 q9 k_ ∧ some k_ ≠ ((.slice AE0_3 x0_3.length cE0_3) : Value).ownBlock) (.slice AE0_4 x0_4.length cE0_4) x0_4) := ⟨Kd.R_lower (Kd.R_mono (Kd.R_bound ho4) (fun k_ hk_ => ⟨⟨Nat.le_trans HS.out hk_.2.1, by rw [hm_]; exact hk_.2.2.1⟩, hk_.1⟩)) hB0_⟩; replace HS := Aside0.mk (Nat.le_of_eq hm_); clear hm_ hb hk_ hB0_; clear ho3 ho4; have hw0 : w9.cell? ⟨Bx0, 0, none⟩ = some (.int .i64 x0_0) := (blk_cell BKx0.out 0).trans rfl; have hwd0 : w9.drew.cell? ⟨Bx0, 0, none⟩ = some (.int .i64 x0_0) := hw0; have hwn0 : ∀ q_, (w9.drewN q_).cell? ⟨Bx0, 0, none⟩ = some (.int .i64 x0_0) := fun _ => hw0; have hw1 : w9.cell? ⟨Bx0, 1, none⟩ = some (.int .i64 x0_1) := (blk_cell BKx0.out 1).trans rfl; have hwd1 : w9.drew.cell? ⟨Bx0, 1, none⟩ = some (.int .i64 x0_1) := hw1; have hwn1 : ∀ q_, (w9.drewN q_).cell? ⟨Bx0, 1, none⟩ = some (.int .i64 x0_1) := fun _ => hw1; have hw2 : w9.cell? ⟨Bx0, 2, none⟩ = some (.int .i64 x0_2) := (blk_cell BKx0.out 2).trans rfl; have hwd2 : w9.drew.cell? ⟨Bx0, 2, none⟩ = some (.int .i64 x0_2) := hw2; have hwn2 : ∀ q_, (w9.drewN q_).cell? ⟨Bx0, 2, none⟩ = some (.int .i64 x0_2) := fun _ => hw2; have hw3 : w9.cell? ⟨Bx0, 3, none⟩ = some (.slice AX0_3 x0_3.length cX0_3) := (blk_cell BKx0.out 3).trans rfl; have hwd3 : w9.drew.cell? ⟨Bx0, 3, none⟩ = some (.slice AX0_3 x0_3.length cX0_3) := hw3; have hwn3 : ∀ q_, (w9.drewN q_).cell? ⟨Bx0, 3, none⟩ = some (.slice AX0_3 x0_3.length cX0_3) := fun _ => hw3; have hw4 : w9.cell? ⟨Bx0, 4, none⟩ = some (.slice AX0_4 x0_4.length cX0_4) := (blk_cell BKx0.out 4).trans rfl; have hwd4 : w9.drew.cell? ⟨Bx0, 4, none⟩ = some (.slice AX0_4 x0_4.length cX0_4) := hw4; have hwn4 : ∀ q_, (w9.drewN q_).cell? ⟨Bx0, 4, none⟩ = some (.slice AX0_4 x0_4.length cX0_4) := fun _ => hw4) | (go_at_call 23; refine calls_at (fun W_ => Below w.heap.size w W_ ∧ Kept w9 W_ (fun _ => False)) ⟨by repeat (first | (with_reducible first | exact HB.out | apply below_alloc | apply pw_below_drewN | apply below_drew1) | exact HB.out), by repeat (with_reducible first | exact Kept.refl _ _ | apply Kept.alloc | apply Kept.drewN | apply Kept.drew)⟩ (fun u10 hW_ => ?_); have hkk_ := hW_.2; replace HB := Aside0.mk hW_.1; replace RW := Aside0.mk (S_next RW.out hkk_ (fun _ _ hs_ => hs_)); replace X0_3 := Aside0.mk (R_next X0_3.out hkk_ (fun _ _ hs_ => hs_)); replace X0_4 := Aside0.mk (R_next X0_4.out hkk_ (fun _ _ hs_ => hs_)); replace RG := Aside0.mk (S_next RG.out hkk_ (fun _ _ hs_ => hs_)); replace E0_3 := Aside0.mk (R_next E0_3.out hkk_ (fun _ _ hs_ => hs_)); replace E0_4 := Aside0.mk (R_next E0_4.out hkk_ (fun _ _ hs_ => hs_)); replace BKa0 := Aside0.mk (blk_kept BKa0.out hkk_ (fun hs_ => hs_)); replace BKx0 := Aside0.mk (blk_kept BKx0.out hkk_ (fun hs_ => hs_)); replace HS := Aside0.mk (Nat.le_trans HS.out hkk_.1); clear hW_ hkk_; refine (laws_eqTrack.calls k x0_0 x0_1 x0_2 _ _ x0_3 _ _ x0_4 x0_0 x0_1 x0_2 _ _ x0_3 _ _ x0_4 true _ (Kd.R_reads' X0_3.out).2.2 (Kd.R_reads' X0_3.out).2.1 (Kd.R_reads' X0_4.out).2.2 (Kd.R_reads' X0_4.out).2.1 (Kd.R_reads' E0_3.out).2.2 (Kd.R_reads' E0_3.out).2.1 (Kd.R_reads' E0_4.out).2.2 (Kd.R_reads' E0_4.out).2.1 GE0.out).mono ?_; rintro e w10 ⟨rfl, hb⟩; have hB0_ := HB.out.size; have hk_ := Kept.of_below hb (fun _ => False); replace RW := Aside0.mk (S_next RW.out hk_ (fun _ _ hs_ => hs_)); replace X0_3 := Aside0.mk (R_next X0_3.out hk_ (fun _ _ hs_ => hs_)); replace X0_4 := Aside0.mk (R_next X0_4.out hk_ (fun _ _ hs_ => hs_)); replace RG := Aside0.mk (S_next RG.out hk_ (fun _ _ hs_ => hs_)); replace E0_3 := Aside0.mk (R_next E0_3.out hk_ (fun _ _ hs_ => hs_)); replace E0_4 := Aside0.mk (R_next E0_4.out hk_ (fun _ _ hs_ => hs_)); replace BKa0 := Aside0.mk (blk_kept BKa0.out hk_ (fun hs_ => hs_)); replace BKx0 := Aside0.mk (blk_kept BKx0.out hk_ (fun hs_ => hs_)); replace HB := Aside0.mk (below_step HB.out hb); obtain ⟨q10, hm_⟩ : ∃ m_ : Nat, m_ = w10.heap.size := ⟨_, rfl⟩; have HL10 := Aside0.mk (show q9 ≤ q10 by have := HS.out; have := hb.size; omega); replace HS := Aside0.mk (Nat.le_of_eq hm_); clear hm_ hb hk_ hB0_))
  all_goals (clear hx0 hxd0 hxn0 hx1 hxd1 hxn1 hx2 hxd2 hxn2 hx3 hxd3 hxn3 hx4 hxd4 hxn4 hz0 hzd0 hzn0 hz1 hzd1 hzn1 hz2 hzd2 hzn2 hz3 hzd3 hzn3 hz4 hzd4 hzn4 hw0 hwd0 hwn0 hw1 hwd1 hwn1 hw2 hwd2 hwn2 hw3 hwd3 hwn3 hw4 hwd4 hwn4)
  all_goals
    clear E0_3 E0_4
    have hz0 : w10.cell? ⟨Bx0, 0, none⟩ = some (.int .i64 x0_0) := (blk_cell BKx0.out 0).trans rfl
    have hz1 : w10.cell? ⟨Bx0, 1, none⟩ = some (.int .i64 x0_1) := (blk_cell BKx0.out 1).trans rfl
    have hz2 : w10.cell? ⟨Bx0, 2, none⟩ = some (.int .i64 x0_2) := (blk_cell BKx0.out 2).trans rfl
    have hz3 : w10.cell? ⟨Bx0, 3, none⟩ = some (.slice AX0_3 x0_3.length cX0_3) := (blk_cell BKx0.out 3).trans rfl
    have hz4 : w10.cell? ⟨Bx0, 4, none⟩ = some (.slice AX0_4 x0_4.length cX0_4) := (blk_cell BKx0.out 4).trans rfl
    go_wp2_with (fail)
    go_at_call 35
    refine calls_at (fun W_ => Below w.heap.size w W_ ∧ Kept w10 W_ (fun _ => False)) ⟨by repeat (first | (with_reducible first | exact HB.out | apply below_alloc | apply pw_below_drewN | apply below_drew1) | exact HB.out), by repeat (with_reducible first | exact Kept.refl _ _ | apply Kept.alloc | apply Kept.drewN | apply Kept.drew)⟩ (fun u11 hW_ => ?_)
    have hkk_ := hW_.2
    replace HB := Aside0.mk hW_.1
    replace RW := Aside0.mk (S_next RW.out hkk_ (fun _ _ hs_ => hs_))
    replace X0_3 := Aside0.mk (R_next X0_3.out hkk_ (fun _ _ hs_ => hs_))
    replace X0_4 := Aside0.mk (R_next X0_4.out hkk_ (fun _ _ hs_ => hs_))
    replace RG := Aside0.mk (S_next RG.out hkk_ (fun _ _ hs_ => hs_))
    replace BKa0 := Aside0.mk (blk_kept BKa0.out hkk_ (fun hs_ => hs_))
    replace BKx0 := Aside0.mk (blk_kept BKx0.out hkk_ (fun hs_ => hs_))
    replace HS := Aside0.mk (Nat.le_trans HS.out hkk_.1)
    clear hW_ hkk_
    clear hz0 hz1 hz2 hz3 hz4
    refine (laws_markTrack.calls k x0_0 x0_1 x0_2 (fun k_ => some k_ = (.slice AX0_3 x0_3.length cX0_3 : Value).ownBlock) (.slice AX0_3 x0_3.length cX0_3) x0_3 (fun k_ => some k_ = (.slice AX0_4 x0_4.length cX0_4 : Value).ownBlock) (.slice AX0_4 x0_4.length cX0_4) x0_4 1 k0 y0_3 y0_4 w _ HB.out (Kd.R_tight rfl X0_3.out) (fun k_ e_ e2_ => (X0_3.out.1 k_ e_.symm).2 e2_) (Kd.R_tight rfl X0_4.out) (fun k_ e_ e2_ => (X0_4.out.1 k_ e_.symm).2 e2_) GM0.out).mono ?_
    rintro e w11 ⟨rfl, -, -, hb, hkm_⟩
    have hks_ : Kept u11 w11 (Iv q4 q5) := hkm_.mono (fun k_ hs_ => (Or.elim hs_ (fun e_ => (X0_3.out.1 k_ e_.symm).1) (fun e_ => (X0_4.out.1 k_ e_.symm).1)))
    clear hkm_
    clear X0_3 X0_4
    clear BKx0
    replace RW := Aside0.mk (S_next RW.out hks_ (fun k_ hk_ hs_ => by have := HL1.out; have := HL2.out; have := HL3.out; have := HL4.out; have := HL5.out; have := HL6.out; have := HL7.out; have := HL9.out; have := HL10.out; have hq_ := hk_; have hr_ := (show Iv q4 q5 k_ from hs_); unfold Iv at hq_ hr_; omega))
    replace RG := Aside0.mk (S_next RG.out hks_ (fun k_ hk_ hs_ => by have := HL1.out; have := HL2.out; have := HL3.out; have := HL4.out; have := HL5.out; have := HL6.out; have := HL7.out; have := HL9.out; have := HL10.out; have hq_ := hk_; have hr_ := (show Iv q4 q5 k_ from hs_); unfold Iv at hq_ hr_; omega))
    replace BKa0 := Aside0.mk (blk_kept BKa0.out hks_ (fun hs_ => by have := HL1.out; have := HL2.out; have := HL3.out; have := HL4.out; have := HL5.out; have := HL6.out; have := HL7.out; have := HL9.out; have := HL10.out; have hq_ := HBKa0.out; have hr_ := (show Iv q4 q5 Ba0 from hs_); unfold Iv at hr_; omega))
    replace HB := Aside0.mk hb
    obtain ⟨q11, hm_⟩ : ∃ m_ : Nat, m_ = w11.heap.size := ⟨_, rfl⟩
    have HL11 := Aside0.mk (show q10 ≤ q11 from (by have := HS.out; have := hks_.1; omega))
    replace HS := Aside0.mk (Nat.le_of_eq hm_)
    clear hm_ hb hks_
    go_wp2_with (fail)
    go_at_call 30
    refine calls_at (fun W_ => Below w.heap.size w W_ ∧ Kept w11 W_ (fun _ => False)) ⟨by repeat (first | (with_reducible first | exact HB.out | apply below_alloc | apply pw_below_drewN | apply below_drew1) | exact HB.out), by repeat (with_reducible first | exact Kept.refl _ _ | apply Kept.alloc | apply Kept.drewN | apply Kept.drew)⟩ (fun u12 hW_ => ?_)
    have hkk_ := hW_.2
    replace HB := Aside0.mk hW_.1
    replace RW := Aside0.mk (S_next RW.out hkk_ (fun _ _ hs_ => hs_))
    replace RG := Aside0.mk (S_next RG.out hkk_ (fun _ _ hs_ => hs_))
    replace BKa0 := Aside0.mk (blk_kept BKa0.out hkk_ (fun hs_ => hs_))
    replace HS := Aside0.mk (Nat.le_trans HS.out hkk_.1)
    clear hW_ hkk_
    refine (laws_eqIntSS.calls k _ _ r0 _ _ r0 true _ (Kd.S_reads' RG.out).2.2 (Kd.S_reads' RG.out).2.1 (Kd.S_reads' RW.out).2.2 (Kd.S_reads' RW.out).2.1 GR.out).mono ?_
    rintro e w' ⟨rfl, ⟨nd, rfl⟩⟩
    go_wp2_with (fail)
    go_at_call 36
    refine calls_at (fun W_ => Below w.heap.size w W_ ∧ Kept u12 W_ (fun _ => False)) ⟨by repeat (first | (with_reducible first | exact HB.out | apply below_alloc | apply pw_below_drewN | apply below_drew1) | exact HB.out), by repeat (with_reducible first | exact Kept.refl _ _ | apply Kept.alloc | apply Kept.drewN | apply Kept.drew)⟩ (fun u13 hW_ => ?_)
    have hkk_ := hW_.2
    replace HB := Aside0.mk hW_.1
    replace RW := Aside0.mk (S_next RW.out hkk_ (fun _ _ hs_ => hs_))
    replace RG := Aside0.mk (S_next RG.out hkk_ (fun _ _ hs_ => hs_))
    replace BKa0 := Aside0.mk (blk_kept BKa0.out hkk_ (fun hs_ => hs_))
    replace HS := Aside0.mk (Nat.le_trans HS.out hkk_.1)
    clear hW_ hkk_
    refine (laws_markIntSS.calls k (Iv q6 q7) (.slice ARG r0.length cRG) r0 1 mk zk w _ HB.out RG.out GK.out).mono ?_
    rintro e w13 ⟨rfl, hy_, hb, hks_⟩
    replace RW := Aside0.mk (S_next RW.out hks_ (fun k_ hk_ hs_ => by have := HL1.out; have := HL2.out; have := HL3.out; have := HL4.out; have := HL5.out; have := HL6.out; have := HL7.out; have := HL9.out; have := HL10.out; have := HL11.out; have hq_ := hk_; have hr_ := (show Iv q6 q7 k_ from hs_); unfold Iv at hq_ hr_; omega))
    replace BKa0 := Aside0.mk (blk_kept BKa0.out hks_ (fun hs_ => by have := HL1.out; have := HL2.out; have := HL3.out; have := HL4.out; have := HL5.out; have := HL6.out; have := HL7.out; have := HL9.out; have := HL10.out; have := HL11.out; have hq_ := HBKa0.out; have hr_ := (show Iv q6 q7 Ba0 from hs_); unfold Iv at hr_; omega))
    replace HB := Aside0.mk hb
    replace RG : Aside0 (Kd.S (Kd.slice 3 (Kd.int .i64)) 22 w13 w.heap.size (Iv q6 q7) (.slice ARG r0.length cRG) zk) := ⟨hy_⟩
    have HN := Aside0.mk (Kd.S_reads' hy_).1
    clear hy_
    obtain ⟨q13, hm_⟩ : ∃ m_ : Nat, m_ = w13.heap.size := ⟨_, rfl⟩
    have HL13 := Aside0.mk (show q11 ≤ q13 from (by have := HS.out; have := hks_.1; omega))
    replace HS := Aside0.mk (Nat.le_of_eq hm_)
    clear hm_ hb hks_
    go_wp2_with (fail)
    go_at_call 37
    refine calls_at (fun W_ => Below w.heap.size w W_ ∧ Kept w13 W_ (fun _ => False)) ⟨by repeat (first | (with_reducible first | exact HB.out | apply below_alloc | apply pw_below_drewN | apply below_drew1) | exact HB.out), by repeat (with_reducible first | exact Kept.refl _ _ | apply Kept.alloc | apply Kept.drewN | apply Kept.drew)⟩ (fun u14 hW_ => ?_)
    have hkk_ := hW_.2
    replace HB := Aside0.mk hW_.1
    replace RW := Aside0.mk (S_next RW.out hkk_ (fun _ _ hs_ => hs_))
    replace RG := Aside0.mk (S_next RG.out hkk_ (fun _ _ hs_ => hs_))
    replace BKa0 := Aside0.mk (blk_kept BKa0.out hkk_ (fun hs_ => hs_))
    replace HS := Aside0.mk (Nat.le_trans HS.out hkk_.1)
    clear hW_ hkk_
    refine calls_len2 (show zk.length = r0.length from HN.out.symm) ?_
    refine (laws_heldIntSS.calls k _ _ zk 1 mk _ (Kd.S_reads' RG.out).2.2 (by rw [← HN.out]; exact (Kd.S_reads' RG.out).2.1) GH.out).mono ?_
    rintro e w' ⟨rfl, ⟨nd, rfl⟩⟩
    have hz0 : u14.cell? ⟨Ba0, 0, none⟩ = some (.int .i64 a0_0) := (blk_cell BKa0.out 0).trans rfl
    have hz1 : u14.cell? ⟨Ba0, 1, none⟩ = some (.int .i64 a0_1) := (blk_cell BKa0.out 1).trans rfl
    have hz2 : u14.cell? ⟨Ba0, 2, none⟩ = some (.int .i64 a0_2) := (blk_cell BKa0.out 2).trans rfl
    have hz3 : u14.cell? ⟨Ba0, 3, none⟩ = some (.slice A0_3 l0_3.length c0_3) := (blk_cell BKa0.out 3).trans rfl
    have hz4 : u14.cell? ⟨Ba0, 4, none⟩ = some (.slice A0_4 l0_4.length c0_4) := (blk_cell BKa0.out 4).trans rfl
    go_wp2_with (fail)
    go_at_call 21
    refine calls_at (fun W_ => Below w.heap.size w W_ ∧ Kept u14 W_ (fun _ => False)) ⟨by repeat (first | (with_reducible first | exact HB.out | apply below_alloc | apply pw_below_drewN | apply below_drew1) | exact HB.out), by repeat (with_reducible first | exact Kept.refl _ _ | apply Kept.alloc | apply Kept.drewN | apply Kept.drew)⟩ (fun u15 hW_ => ?_)
    have hkk_ := hW_.2
    replace HB := Aside0.mk hW_.1
    replace RW := Aside0.mk (S_next RW.out hkk_ (fun _ _ hs_ => hs_))
    replace RG := Aside0.mk (S_next RG.out hkk_ (fun _ _ hs_ => hs_))
    replace BKa0 := Aside0.mk (blk_kept BKa0.out hkk_ (fun hs_ => hs_))
    replace HS := Aside0.mk (Nat.le_trans HS.out hkk_.1)
    clear hW_ hkk_
    clear hz0 hz1 hz2 hz3 hz4
    refine (laws_toTrack.calls k a0_0 a0_1 a0_2 _ _ l0_3 _ _ l0_4 x0_0 x0_1 x0_2 x0_3 x0_4 _ (Kd.C_below HR0_3.out HB.out) HC0_3.out (Kd.C_below HR0_4.out HB.out) HC0_4.out GT0.out).mono ?_
    rintro e w15 ⟨v3_, v4_, rfl, ho3, ho4, hb⟩
    obtain ⟨AU0_3, cU0_3, e_⟩ := Kd.R_slice ho3; subst e_
    obtain ⟨AU0_4, cU0_4, e_⟩ := Kd.R_slice ho4; subst e_
    have hB0_ := HB.out.size
    have hk_ := Kept.of_below hb (fun _ => False)
    replace RW := Aside0.mk (S_next RW.out hk_ (fun _ _ hs_ => hs_))
    replace RG := Aside0.mk (S_next RG.out hk_ (fun _ _ hs_ => hs_))
    replace BKa0 := Aside0.mk (blk_kept BKa0.out hk_ (fun hs_ => hs_))
    replace HB := Aside0.mk (below_step HB.out hb)
    obtain ⟨q15, hm_⟩ : ∃ m_ : Nat, m_ = w15.heap.size := ⟨_, rfl⟩
    have HL15 := Aside0.mk (show q13 ≤ q15 by have := HS.out; have := hb.size; omega)
    have U0_3 : Aside0 (Kd.R (Kd.int .i64) 3 w15 w.heap.size (fun k_ => Iv q13 q15 k_ ∧ some k_ ≠ ((.slice AU0_4 x0_4.length cU0_4) : Value).ownBlock) (.slice AU0_3 x0_3.length cU0_3) x0_3) := ⟨Kd.R_lower (Kd.R_mono (Kd.R_bound ho3) (fun k_ hk_ => ⟨⟨Nat.le_trans HS.out hk_.2.1, by rw [hm_]; exact hk_.2.2.1⟩, hk_.1⟩)) hB0_⟩
    have U0_4 : Aside0 (Kd.R (Kd.int .i64) 3 w15 w.heap.size (fun k_ => Iv q13 q15 k_ ∧ some k_ ≠ ((.slice AU0_3 x0_3.length cU0_3) : Value).ownBlock) (.slice AU0_4 x0_4.length cU0_4) x0_4) := ⟨Kd.R_lower (Kd.R_mono (Kd.R_bound ho4) (fun k_ hk_ => ⟨⟨Nat.le_trans HS.out hk_.2.1, by rw [hm_]; exact hk_.2.2.1⟩, hk_.1⟩)) hB0_⟩
    replace HS := Aside0.mk (Nat.le_of_eq hm_)
    clear hm_ hb hk_ hB0_
    clear ho3 ho4
    go_wp2_with (fail)
    go_at_call 34
    refine calls_at (fun W_ => Below w.heap.size w W_ ∧ Kept w15 W_ (fun _ => False)) ⟨by repeat (first | (with_reducible first | exact HB.out | apply below_alloc | apply pw_below_drewN | apply below_drew1) | exact HB.out), by repeat (with_reducible first | exact Kept.refl _ _ | apply Kept.alloc | apply Kept.drewN | apply Kept.drew)⟩ (fun u16 hW_ => ?_)
    have hkk_ := hW_.2
    replace HB := Aside0.mk hW_.1
    replace RW := Aside0.mk (S_next RW.out hkk_ (fun _ _ hs_ => hs_))
    replace RG := Aside0.mk (S_next RG.out hkk_ (fun _ _ hs_ => hs_))
    replace U0_3 := Aside0.mk (R_next U0_3.out hkk_ (fun _ _ hs_ => hs_))
    replace U0_4 := Aside0.mk (R_next U0_4.out hkk_ (fun _ _ hs_ => hs_))
    replace BKa0 := Aside0.mk (blk_kept BKa0.out hkk_ (fun hs_ => hs_))
    replace HS := Aside0.mk (Nat.le_trans HS.out hkk_.1)
    clear hW_ hkk_
    refine (impl_TrackStart.calls k x0_0 x0_1 x0_2 _ _ x0_3 _ _ x0_4 r0 r1 _ (Kd.R_reads' U0_3.out).2.2 (Kd.R_reads' U0_3.out).2.1 (Kd.R_reads' U0_4.out).2.2 (Kd.R_reads' U0_4.out).2.1 GI.out).mono ?_
    rintro e w16 ⟨v_, rfl, ho, hb⟩
    obtain ⟨ARH, cRH, e_⟩ := Kd.S_slice ho; subst e_
    have hB0_ := HB.out.size
    have hk_ := Kept.of_below hb (fun _ => False)
    replace RW := Aside0.mk (S_next RW.out hk_ (fun _ _ hs_ => hs_))
    replace RG := Aside0.mk (S_next RG.out hk_ (fun _ _ hs_ => hs_))
    replace U0_3 := Aside0.mk (R_next U0_3.out hk_ (fun _ _ hs_ => hs_))
    replace U0_4 := Aside0.mk (R_next U0_4.out hk_ (fun _ _ hs_ => hs_))
    replace BKa0 := Aside0.mk (blk_kept BKa0.out hk_ (fun hs_ => hs_))
    replace HB := Aside0.mk (below_step HB.out hb)
    obtain ⟨q16, hm_⟩ : ∃ m_ : Nat, m_ = w16.heap.size := ⟨_, rfl⟩
    have HL16 := Aside0.mk (show q15 ≤ q16 by have := HS.out; have := hb.size; omega)
    have RH : Aside0 (Kd.S (Kd.slice 3 (Kd.int .i64)) 22 w16 w.heap.size (Iv q15 q16) (.slice ARH r0.length cRH) r0) := ⟨Kd.S_lower (Kd.S_mono (Kd.S_bound ho) (fun k_ hk_ => ⟨Nat.le_trans HS.out hk_.2.1, by rw [hm_]; exact hk_.2.2.1⟩)) hB0_⟩
    replace HS := Aside0.mk (Nat.le_of_eq hm_)
    clear hm_ hb hk_ hB0_
    clear ho
    clear U0_3 U0_4
    go_wp2_with (fail)
    go_at_call 30
    refine calls_at (fun W_ => Below w.heap.size w W_ ∧ Kept w16 W_ (fun _ => False)) ⟨by repeat (first | (with_reducible first | exact HB.out | apply below_alloc | apply pw_below_drewN | apply below_drew1) | exact HB.out), by repeat (with_reducible first | exact Kept.refl _ _ | apply Kept.alloc | apply Kept.drewN | apply Kept.drew)⟩ (fun u17 hW_ => ?_)
    have hkk_ := hW_.2
    replace HB := Aside0.mk hW_.1
    replace RW := Aside0.mk (S_next RW.out hkk_ (fun _ _ hs_ => hs_))
    replace RG := Aside0.mk (S_next RG.out hkk_ (fun _ _ hs_ => hs_))
    replace RH := Aside0.mk (S_next RH.out hkk_ (fun _ _ hs_ => hs_))
    replace BKa0 := Aside0.mk (blk_kept BKa0.out hkk_ (fun hs_ => hs_))
    replace HS := Aside0.mk (Nat.le_trans HS.out hkk_.1)
    clear hW_ hkk_
    refine (laws_eqIntSS.calls k _ _ r0 _ _ r0 true _ (Kd.S_reads' RH.out).2.2 (Kd.S_reads' RH.out).2.1 (Kd.S_reads' RW.out).2.2 (Kd.S_reads' RW.out).2.1 GR.out).mono ?_
    rintro e w' ⟨rfl, ⟨nd, rfl⟩⟩
    go_wp2_with (fail)
    go_at_call 37
    refine calls_at (fun W_ => Below w.heap.size w W_ ∧ Kept u17 W_ (fun _ => False)) ⟨by repeat (first | (with_reducible first | exact HB.out | apply below_alloc | apply pw_below_drewN | apply below_drew1) | exact HB.out), by repeat (with_reducible first | exact Kept.refl _ _ | apply Kept.alloc | apply Kept.drewN | apply Kept.drew)⟩ (fun u18 hW_ => ?_)
    have hkk_ := hW_.2
    replace HB := Aside0.mk hW_.1
    replace RW := Aside0.mk (S_next RW.out hkk_ (fun _ _ hs_ => hs_))
    replace RG := Aside0.mk (S_next RG.out hkk_ (fun _ _ hs_ => hs_))
    replace RH := Aside0.mk (S_next RH.out hkk_ (fun _ _ hs_ => hs_))
    replace BKa0 := Aside0.mk (blk_kept BKa0.out hkk_ (fun hs_ => hs_))
    replace HS := Aside0.mk (Nat.le_trans HS.out hkk_.1)
    clear hW_ hkk_
    refine calls_len2 (show zk.length = r0.length from HN.out.symm) ?_
    refine (laws_heldIntSS.calls k _ _ zk 1 mk _ (Kd.S_reads' RG.out).2.2 (by rw [← HN.out]; exact (Kd.S_reads' RG.out).2.1) GH.out).mono ?_
    rintro e w' ⟨rfl, ⟨nd, rfl⟩⟩
    go_wp2
    go_ret
    exact ⟨rfl, by repeat (first | (with_reducible first | exact HB.out | apply below_alloc | apply pw_below_drewN | apply below_drew1) | exact HB.out)⟩

def laws_FnExactTrackStart.f (k : Nat) (a0_0 : Int) (a0_1 : Int) (a0_2 : Int) (l0_3 : List Int) (l0_4 : List Int) : Option Bool :=
  (laws_szTrack.f a0_0 a0_1 a0_2 l0_3 l0_4 1048576).bind fun t0 => if t0 < 0 then some true else (laws_toTrack.f k a0_0 a0_1 a0_2 l0_3 l0_4).bind fun x0 => (laws_eqTrack.f k x0.1 x0.2.1 x0.2.2.1 x0.2.2.2.1 x0.2.2.2.2 x0.1 x0.2.1 x0.2.2.1 x0.2.2.2.1 x0.2.2.2.2).bind fun b0 => if b0 = true then (spec_TrackStart.f k x0.1 x0.2.1 x0.2.2.1 x0.2.2.2.1 x0.2.2.2.2).bind fun r => (impl_TrackStart.f k x0.1 x0.2.1 x0.2.2.1 x0.2.2.2.1 x0.2.2.2.2).bind fun g => if g = r then (laws_eqIntSS.f k r.1 r.1).bind fun br => if br = true then (laws_markTrack.f k x0.1 x0.2.1 x0.2.2.1 x0.2.2.2.1 x0.2.2.2.2 1).bind fun k0 => if k0.1 < 0 then none else (laws_markIntSS.f k r.1 1).bind fun mz => (laws_heldIntSS.f k mz.2 1).bind fun hd => if hd = mz.1 then if mz.1 < 0 then none else some true else none else none else none else none
theorem laws_FnExactTrackStart.calls (k : Nat) (a0_0 : Int) (a0_1 : Int) (a0_2 : Int) (A0_3 : Option Addr) (c0_3 : Nat) (l0_3 : List Int) (A0_4 : Option Addr) (c0_4 : Nat) (l0_4 : List Int) (r : Bool) (w : World) (hr0_3 : Kd.C (Kd.int .i64) w A0_3 l0_3.length l0_3) (hc0_3 : l0_3.length ≤ c0_3) (hr0_4 : Kd.C (Kd.int .i64) w A0_4 l0_4.length l0_4) (hc0_4 : l0_4.length ≤ c0_4) (h : laws_FnExactTrackStart.f k a0_0 a0_1 a0_2 l0_3 l0_4 = some r) :
    Calls Try.prog 7 #[.agg #[.int .i64 a0_0, .int .i64 a0_1, .int .i64 a0_2, .slice A0_3 l0_3.length c0_3, .slice A0_4 l0_4.length c0_4]] w fun e w' => e = .returned (.bool r) ∧ Below w.heap.size w w' := by
  unfold laws_FnExactTrackStart.f at h
  obtain ⟨t0, gz0, h⟩ := Option.bind_eq_some_iff.1 h
  by_cases nz0 : t0 < 0
  · rw [if_pos nz0] at h; obtain rfl := Option.some.inj h; exact law_TrackStart_large0 k a0_0 a0_1 a0_2 A0_3 c0_3 l0_3 A0_4 c0_4 l0_4 w hr0_3 hc0_3 hr0_4 hc0_4 t0 gz0  nz0
  rw [if_neg nz0] at h
  obtain ⟨⟨x0_0, x0_1, x0_2, x0_3, x0_4⟩, gt0, h⟩ := Option.bind_eq_some_iff.1 h
  dsimp only at h
  obtain ⟨b0, ge0, h⟩ := Option.bind_eq_some_iff.1 h
  by_cases e0 : b0 = true
  case neg => rw [if_neg e0] at h; cases h
  rw [if_pos e0] at h; subst e0
  obtain ⟨⟨r0, r1⟩, gs, h⟩ := Option.bind_eq_some_iff.1 h
  obtain ⟨g, gi, h⟩ := Option.bind_eq_some_iff.1 h
  by_cases eg : g = (r0, r1)
  case neg => rw [if_neg eg] at h; cases h
  rw [if_pos eg] at h; subst eg
  obtain ⟨br, gr, h⟩ := Option.bind_eq_some_iff.1 h
  by_cases er : br = true
  case neg => rw [if_neg er] at h; cases h
  rw [if_pos er] at h; subst er
  obtain ⟨⟨k0, y0_3, y0_4⟩, gm0, h⟩ := Option.bind_eq_some_iff.1 h
  by_cases nk : k0 < 0
  · rw [if_pos nk] at h; cases h
  rw [if_neg nk] at h
  obtain ⟨⟨mk, zk⟩, gk, h⟩ := Option.bind_eq_some_iff.1 h
  obtain ⟨hd, gh, h⟩ := Option.bind_eq_some_iff.1 h
  by_cases eh : hd = mk
  case neg => rw [if_neg eh] at h; cases h
  rw [if_pos eh] at h; subst eh
  by_cases nm : hd < 0
  · rw [if_pos nm] at h; cases h
  rw [if_neg nm] at h; obtain rfl := Option.some.inj h
  exact law_TrackStart_way k a0_0 a0_1 a0_2 A0_3 c0_3 l0_3 A0_4 c0_4 l0_4 w hr0_3 hc0_3 hr0_4 hc0_4 t0 x0_0 x0_1 x0_2 x0_3 x0_4 r0 r1 k0 y0_3 y0_4 hd zk nz0 nk nm gz0 gt0 ge0 gs gi gr gm0 gk gh
end Go.Proofs.Ytcppahkdfajcaaa.P
