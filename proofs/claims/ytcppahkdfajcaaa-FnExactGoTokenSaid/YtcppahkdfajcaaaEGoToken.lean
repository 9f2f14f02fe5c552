/- GoToken of the program: what the Go text returns. -/
import Derived.Test.YtcppahkdfajcaaaEGoTok
import Derived.Test.YtcppahkdfajcaaaP76
import Derived.Test.YtcppahkdfajcaaaP105
import Derived.Test.YtcppahkdfajcaaaP97
namespace Go.Proofs.Ytcppahkdfajcaaa.P
open Go.RowKit Go.Proofs.YtcppahkdfajcaaaW.PrintWords Go.Proofs.YtcppahkdfajcaaaW.PrintLast Go.Proofs.YtcppahkdfajcaaaW.PrintMore
set_option linter.unusedVariables false
set_option linter.unusedSimpArgs false

theorem impl_Track_goToken.mono : ∀ a b c l3 l4 s p t f k, LeO (impl_Track_goToken.f k a b c l3 l4 s p t f) (impl_Track_goToken.f (k + 1) a b c l3 l4 s p t f) := by
  intro a b c l3 l4 s p t f k
  unfold impl_Track_goToken.f
  repeat' first
      | (with_reducible exact impl_Track_isSafe.mono ..)
      | (with_reducible exact impl_Track_tokensAt.mono ..)
      | (with_reducible exact LeO.refl _)
      | (with_reducible exact LeO.none _)
      | (with_reducible refine LeO.ite ?_ ?_)
      | (with_reducible refine LeO.bind ?_ (fun _ => ?_))

def impl_GoToken.f (k : Nat) (a0_0 : Int) (a0_1 : Int) (a0_2 : Int) (l0_3 : List Int) (l0_4 : List Int) (l1 : List (List Int)) (a2 : Int) (a3 : Int) (a4 : Int) : Option (List (List Int) × Int × Bool) := (impl_isTracked.f k a0_0 a0_1 a0_2 l0_3 l0_4 l1).bind fun t => (if t = true then ((impl_Track_isMove.f a0_0 a0_1 a0_2 l0_3 l0_4 a2 a3 a4).bind fun u => (if u = true then ((impl_ownState.f k l1).bind fun s1 => ((impl_Track_goToken.f k a0_0 a0_1 a0_2 l0_3 l0_4 s1 a2 a3 a4).bind fun r => (if r.2.1 = true then some (r.2.2, r.1, true) else some ([], 0, false)))) else some ([], 0, false))) else some ([], 0, false))
theorem impl_GoToken.mono : ∀ a0 a1 a2 a3 a4 a5 a6 a7 a8 k, LeO (impl_GoToken.f k a0 a1 a2 a3 a4 a5 a6 a7 a8) (impl_GoToken.f (k + 1) a0 a1 a2 a3 a4 a5 a6 a7 a8) := by
  intro a0 a1 a2 a3 a4 a5 a6 a7 a8 k
  unfold impl_GoToken.f
  repeat' first
      | (with_reducible exact impl_isTracked.mono ..)
      | (with_reducible exact impl_ownState.mono ..)
      | (with_reducible exact impl_Track_goToken.mono ..)
      | (with_reducible exact LeO.refl _)
      | (with_reducible exact LeO.none _)
      | (with_reducible refine LeO.ite ?_ ?_)
      | (with_reducible refine LeO.bind ?_ (fun _ => ?_))

set_option maxHeartbeats 4000000 in
set_option maxRecDepth 100000 in
theorem impl_GoToken.calls (k : Nat) (a0_0 : Int) (a0_1 : Int) (a0_2 : Int) (A0_3 : Option Addr) (c0_3 : Nat) (l0_3 : List Int) (A0_4 : Option Addr) (c0_4 : Nat) (l0_4 : List Int) (A1 : Option Addr) (c1 : Nat) (l1 : List (List Int)) (a2 : Int) (a3 : Int) (a4 : Int) (r1 : List (List Int)) (r2 : Int) (r3 : Bool) (w : World) (hr0_3 : Kd.C (Kd.int .i64) w A0_3 l0_3.length l0_3) (hc0_3 : l0_3.length ≤ c0_3) (hr0_4 : Kd.C (Kd.int .i64) w A0_4 l0_4.length l0_4) (hc0_4 : l0_4.length ≤ c0_4) (hr1 : Kd.C (Kd.slice 3 (Kd.int .i64)) w A1 l1.length l1) (hc1 : l1.length ≤ c1) (h : impl_GoToken.f k a0_0 a0_1 a0_2 l0_3 l0_4 l1 a2 a3 a4 = some (r1, r2, r3)) :
    Calls Try.prog 60 #[.agg #[.int .i64 a0_0, .int .i64 a0_1, .int .i64 a0_2, .slice A0_3 l0_3.length c0_3, .slice A0_4 l0_4.length c0_4], .slice A1 l1.length c1, .int .i64 a2, .int .i64 a3, .int .i64 a4] w fun e w' => ∃ v0_ : Value, e = .returned (.tuple #[v0_, .int .i64 r2, .bool r3]) ∧ Kd.S (Kd.slice 3 (Kd.int .i64)) 22 w' w.heap.size (fun _ => True) v0_ r1 ∧ Below w.heap.size w w' := by
  have HR3 := Aside0.mk hr0_3
  have HR4 := Aside0.mk hr0_4
  have HR1 := Aside0.mk hr1
  have HC3 := Aside0.mk hc0_3
  have HC4 := Aside0.mk hc0_4
  have HC1 := Aside0.mk hc1
  clear hr0_3 hr0_4 hr1 hc0_3 hc0_4 hc1
  have hu27 := Try.underlying27
  unfold impl_GoToken.f at h
  obtain ⟨t, ht, h⟩ := Option.bind_eq_some_iff.1 h
  have HT := Aside0.mk ht
  clear ht
  cases t with
  | false =>
    rw [if_neg (by simp)] at h
    obtain ⟨rfl, rfl, rfl⟩ : ([] : List (List Int)) = r1 ∧ (0 : Int) = r2 ∧ false = r3 := by simpa using h
    clear h
    go_enter Try.func60, Try.ntmps60
    go_wp2_with (go_at_call 76; refine calls_at (fun W_ => Below w.heap.size w W_ ∧ W_.heap[w.heap.size]? = some (.cells #[.int .i64 a0_0, .int .i64 a0_1, .int .i64 a0_2, .slice A0_3 l0_3.length c0_3, .slice A0_4 l0_4.length c0_4] 27 (0, 0))) ⟨by (with_reducible repeat (first | exact Below.refl _ _ | apply below_alloc | apply pw_below_drewN | apply below_drew1)) <;> first | exact Below.refl _ _ | exact Nat.le_refl _, by (with_reducible repeat (first | refine blk_drewN ?_ _ | refine blk_drew ?_)); exact blk_new w _⟩ (fun W_ hW_ => ?_); (with_reducible refine (impl_isTracked.calls k a0_0 a0_1 a0_2 _ _ l0_3 _ _ l0_4 _ _ l1 false _ (Kd.C_below HR3.out hW_.1) HC3.out (Kd.C_below HR4.out hW_.1) HC4.out (Kd.C_below HR1.out hW_.1) HC1.out HT.out).mono ?_); rintro e w1 ⟨rfl, hb1⟩; have HB1 := Aside0.mk (below_step hW_.1 hb1); have BK1 := Aside0.mk (blk_below hW_.2 hb1); clear hb1 hW_; have d0 : w1.cell? ⟨w.heap.size, 0, none⟩ = some (.int .i64 a0_0) := (blk_cell BK1.out 0).trans rfl; have d1 : w1.cell? ⟨w.heap.size, 1, none⟩ = some (.int .i64 a0_1) := (blk_cell BK1.out 1).trans rfl; have d2 : w1.cell? ⟨w.heap.size, 2, none⟩ = some (.int .i64 a0_2) := (blk_cell BK1.out 2).trans rfl; have d3 : w1.cell? ⟨w.heap.size, 3, none⟩ = some (.slice A0_3 l0_3.length c0_3) := (blk_cell BK1.out 3).trans rfl; have d4 : w1.cell? ⟨w.heap.size, 4, none⟩ = some (.slice A0_4 l0_4.length c0_4) := (blk_cell BK1.out 4).trans rfl)
    go_ret3
    exact ⟨_, rfl, Kd.S_nil _ _ _ _ _, HB1.out⟩
  | true =>
    rw [if_pos rfl] at h
    obtain ⟨u, hu, h⟩ := Option.bind_eq_some_iff.1 h
    have HU := Aside0.mk hu
    clear hu
    cases u with
    | false =>
      rw [if_neg (by simp)] at h
      obtain ⟨rfl, rfl, rfl⟩ : ([] : List (List Int)) = r1 ∧ (0 : Int) = r2 ∧ false = r3 := by simpa using h
      clear h
      go_enter Try.func60, Try.ntmps60
      go_wp2_with (first | (go_at_call 76; refine calls_at (fun W_ => Below w.heap.size w W_ ∧ W_.heap[w.heap.size]? = some (.cells #[.int .i64 a0_0, .int .i64 a0_1, .int .i64 a0_2, .slice A0_3 l0_3.length c0_3, .slice A0_4 l0_4.length c0_4] 27 (0, 0))) ⟨by (with_reducible repeat (first | exact Below.refl _ _ | apply below_alloc | apply pw_below_drewN | apply below_drew1)) <;> first | exact Below.refl _ _ | exact Nat.le_refl _, by (with_reducible repeat (first | refine blk_drewN ?_ _ | refine blk_drew ?_)); exact blk_new w _⟩ (fun W_ hW_ => ?_); (with_reducible refine (impl_isTracked.calls k a0_0 a0_1 a0_2 _ _ l0_3 _ _ l0_4 _ _ l1 true _ (Kd.C_below HR3.out hW_.1) HC3.out (Kd.C_below HR4.out hW_.1) HC4.out (Kd.C_below HR1.out hW_.1) HC1.out HT.out).mono ?_); rintro e w1 ⟨rfl, hb1⟩; have HB1 := Aside0.mk (below_step hW_.1 hb1); have BK1 := Aside0.mk (blk_below hW_.2 hb1); clear hb1 hW_; have d0 : w1.cell? ⟨w.heap.size, 0, none⟩ = some (.int .i64 a0_0) := (blk_cell BK1.out 0).trans rfl; have d1 : w1.cell? ⟨w.heap.size, 1, none⟩ = some (.int .i64 a0_1) := (blk_cell BK1.out 1).trans rfl; have d2 : w1.cell? ⟨w.heap.size, 2, none⟩ = some (.int .i64 a0_2) := (blk_cell BK1.out 2).trans rfl; have d3 : w1.cell? ⟨w.heap.size, 3, none⟩ = some (.slice A0_3 l0_3.length c0_3) := (blk_cell BK1.out 3).trans rfl; have d4 : w1.cell? ⟨w.heap.size, 4, none⟩ = some (.slice A0_4 l0_4.length c0_4) := (blk_cell BK1.out 4).trans rfl) | (go_at_call 83; refine calls_at (fun W_ => Below w.heap.size w W_ ∧ W_.heap[w.heap.size]? = some (.cells #[.int .i64 a0_0, .int .i64 a0_1, .int .i64 a0_2, .slice A0_3 l0_3.length c0_3, .slice A0_4 l0_4.length c0_4] 27 (0, 0))) ⟨by (with_reducible repeat (first | exact HB1.out | apply below_alloc | apply pw_below_drewN | apply below_drew1)) <;> first | exact HB1.out | exact Nat.le_refl _, by (with_reducible repeat (first | refine blk_drewN ?_ _ | refine blk_drew ?_)); exact BK1.out⟩ (fun W_ hW_ => ?_); (try clear d0 d1 d2 d3 d4); (with_reducible refine (impl_Track_isMove.calls a0_0 a0_1 a0_2 _ _ l0_3 _ _ l0_4 a2 a3 a4 false _ (Kd.C_below HR3.out hW_.1) HC3.out (Kd.C_below HR4.out hW_.1) HC4.out HU.out).mono ?_); rintro e w2 ⟨rfl, hb2⟩; have HB2 := Aside0.mk (below_step hW_.1 hb2); have BK2 := Aside0.mk (blk_below hW_.2 hb2); clear hb2 hW_; have d0 : w2.cell? ⟨w.heap.size, 0, none⟩ = some (.int .i64 a0_0) := (blk_cell BK2.out 0).trans rfl; have d1 : w2.cell? ⟨w.heap.size, 1, none⟩ = some (.int .i64 a0_1) := (blk_cell BK2.out 1).trans rfl; have d2 : w2.cell? ⟨w.heap.size, 2, none⟩ = some (.int .i64 a0_2) := (blk_cell BK2.out 2).trans rfl; have d3 : w2.cell? ⟨w.heap.size, 3, none⟩ = some (.slice A0_3 l0_3.length c0_3) := (blk_cell BK2.out 3).trans rfl; have d4 : w2.cell? ⟨w.heap.size, 4, none⟩ = some (.slice A0_4 l0_4.length c0_4) := (blk_cell BK2.out 4).trans rfl))
      go_ret3
      exact ⟨_, rfl, Kd.S_nil _ _ _ _ _, HB2.out⟩
    | true =>
      rw [if_pos rfl] at h
      obtain ⟨s1, ho, h⟩ := Option.bind_eq_some_iff.1 h
      obtain ⟨⟨x1, x2, x3⟩, hg, h⟩ := Option.bind_eq_some_iff.1 h
      have HO := Aside0.mk ho
      have HG := Aside0.mk hg
      clear ho hg
      simp only at h
      cases x2 with
      | false =>
        rw [if_neg (by simp)] at h
        obtain ⟨rfl, rfl, rfl⟩ : ([] : List (List Int)) = r1 ∧ (0 : Int) = r2 ∧ false = r3 := by simpa using h
        clear h
        go_enter Try.func60, Try.ntmps60
        go_wp2_with (first | (go_at_call 76; refine calls_at (fun W_ => Below w.heap.size w W_ ∧ W_.heap[w.heap.size]? = some (.cells #[.int .i64 a0_0, .int .i64 a0_1, .int .i64 a0_2, .slice A0_3 l0_3.length c0_3, .slice A0_4 l0_4.length c0_4] 27 (0, 0))) ⟨by (with_reducible repeat (first | exact Below.refl _ _ | apply below_alloc | apply pw_below_drewN | apply below_drew1)) <;> first | exact Below.refl _ _ | exact Nat.le_refl _, by (with_reducible repeat (first | refine blk_drewN ?_ _ | refine blk_drew ?_)); exact blk_new w _⟩ (fun W_ hW_ => ?_); (with_reducible refine (impl_isTracked.calls k a0_0 a0_1 a0_2 _ _ l0_3 _ _ l0_4 _ _ l1 true _ (Kd.C_below HR3.out hW_.1) HC3.out (Kd.C_below HR4.out hW_.1) HC4.out (Kd.C_below HR1.out hW_.1) HC1.out HT.out).mono ?_); rintro e w1 ⟨rfl, hb1⟩; have HB1 := Aside0.mk (below_step hW_.1 hb1); have BK1 := Aside0.mk (blk_below hW_.2 hb1); clear hb1 hW_; have d0 : w1.cell? ⟨w.heap.size, 0, none⟩ = some (.int .i64 a0_0) := (blk_cell BK1.out 0).trans rfl; have d1 : w1.cell? ⟨w.heap.size, 1, none⟩ = some (.int .i64 a0_1) := (blk_cell BK1.out 1).trans rfl; have d2 : w1.cell? ⟨w.heap.size, 2, none⟩ = some (.int .i64 a0_2) := (blk_cell BK1.out 2).trans rfl; have d3 : w1.cell? ⟨w.heap.size, 3, none⟩ = some (.slice A0_3 l0_3.length c0_3) := (blk_cell BK1.out 3).trans rfl; have d4 : w1.cell? ⟨w.heap.size, 4, none⟩ = some (.slice A0_4 l0_4.length c0_4) := (blk_cell BK1.out 4).trans rfl) | (go_at_call 83; refine calls_at (fun W_ => Below w.heap.size w W_ ∧ W_.heap[w.heap.size]? = some (.cells #[.int .i64 a0_0, .int .i64 a0_1, .int .i64 a0_2, .slice A0_3 l0_3.length c0_3, .slice A0_4 l0_4.length c0_4] 27 (0, 0))) ⟨by (with_reducible repeat (first | exact HB1.out | apply below_alloc | apply pw_below_drewN | apply below_drew1)) <;> first | exact HB1.out | exact Nat.le_refl _, by (with_reducible repeat (first | refine blk_drewN ?_ _ | refine blk_drew ?_)); exact BK1.out⟩ (fun W_ hW_ => ?_); (try clear d0 d1 d2 d3 d4); (with_reducible refine (impl_Track_isMove.calls a0_0 a0_1 a0_2 _ _ l0_3 _ _ l0_4 a2 a3 a4 true _ (Kd.C_below HR3.out hW_.1) HC3.out (Kd.C_below HR4.out hW_.1) HC4.out HU.out).mono ?_); rintro e w2 ⟨rfl, hb2⟩; have HB2 := Aside0.mk (below_step hW_.1 hb2); have BK2 := Aside0.mk (blk_below hW_.2 hb2); clear hb2 hW_; have d0 : w2.cell? ⟨w.heap.size, 0, none⟩ = some (.int .i64 a0_0) := (blk_cell BK2.out 0).trans rfl; have d1 : w2.cell? ⟨w.heap.size, 1, none⟩ = some (.int .i64 a0_1) := (blk_cell BK2.out 1).trans rfl; have d2 : w2.cell? ⟨w.heap.size, 2, none⟩ = some (.int .i64 a0_2) := (blk_cell BK2.out 2).trans rfl; have d3 : w2.cell? ⟨w.heap.size, 3, none⟩ = some (.slice A0_3 l0_3.length c0_3) := (blk_cell BK2.out 3).trans rfl; have d4 : w2.cell? ⟨w.heap.size, 4, none⟩ = some (.slice A0_4 l0_4.length c0_4) := (blk_cell BK2.out 4).trans rfl) | (go_at_call 97; refine calls_at (fun W_ => Below w.heap.size w W_ ∧ W_.heap[w.heap.size]? = some (.cells #[.int .i64 a0_0, .int .i64 a0_1, .int .i64 a0_2, .slice A0_3 l0_3.length c0_3, .slice A0_4 l0_4.length c0_4] 27 (0, 0))) ⟨by (with_reducible repeat (first | exact HB2.out | apply below_alloc | apply pw_below_drewN | apply below_drew1)) <;> first | exact HB2.out | exact Nat.le_refl _, by (with_reducible repeat (first | refine blk_drewN ?_ _ | refine blk_drew ?_)); exact BK2.out⟩ (fun W_ hW_ => ?_); (try clear d0 d1 d2 d3 d4); (with_reducible refine (impl_ownState.calls k _ _ l1 s1 _ (Kd.C_below HR1.out hW_.1) HC1.out HO.out).mono ?_); rintro e w3 ⟨v3, rfl, ho, hb3⟩; have HB3 := Aside0.mk (below_step hW_.1 hb3); have BK3 := Aside0.mk (blk_below hW_.2 hb3); have HS3 := Aside0.mk (Kd.S_lower ho (below_size hW_.1)); clear hb3 hW_ ho; have d0 : w3.cell? ⟨w.heap.size, 0, none⟩ = some (.int .i64 a0_0) := (blk_cell BK3.out 0).trans rfl; have d1 : w3.cell? ⟨w.heap.size, 1, none⟩ = some (.int .i64 a0_1) := (blk_cell BK3.out 1).trans rfl; have d2 : w3.cell? ⟨w.heap.size, 2, none⟩ = some (.int .i64 a0_2) := (blk_cell BK3.out 2).trans rfl; have d3 : w3.cell? ⟨w.heap.size, 3, none⟩ = some (.slice A0_3 l0_3.length c0_3) := (blk_cell BK3.out 3).trans rfl; have d4 : w3.cell? ⟨w.heap.size, 4, none⟩ = some (.slice A0_4 l0_4.length c0_4) := (blk_cell BK3.out 4).trans rfl) | (go_at_call 96; refine calls_at (fun W_ => Below w.heap.size w W_ ∧ Kd.S (Kd.slice 3 (Kd.int .i64)) 22 W_ w.heap.size (fun _ => True) v3 s1) ⟨by (with_reducible repeat (first | exact HB3.out | apply below_alloc | apply pw_below_drewN | apply below_drew1)) <;> first | exact HB3.out | exact Nat.le_refl _, by (with_reducible repeat (first | apply Kd.S_alloc | apply Kd.S_drewN | apply Kd.S_drew)); exact HS3.out⟩ (fun W_ hW_ => ?_); (try clear d0 d1 d2 d3 d4); (with_reducible refine (impl_Track_goToken.calls k a0_0 a0_1 a0_2 _ _ l0_3 _ _ l0_4 (fun _ => True) v3 s1 a2 a3 a4 x1 _ x3 w W_ hW_.1 HR3.out HC3.out HR4.out HC4.out hW_.2 HG.out).mono ?_); rintro e w4 ⟨rfl, ho, hb4, hk4⟩; have HB4 := Aside0.mk hb4; have HS4 := Aside0.mk ho; clear hb4 hW_ ho hk4))
        go_ret3
        exact ⟨_, rfl, Kd.S_nil _ _ _ _ _, HB4.out⟩
      | true =>
        rw [if_pos rfl] at h
        obtain ⟨rfl, rfl, rfl⟩ : x3 = r1 ∧ x1 = r2 ∧ true = r3 := by simpa using h
        clear h
        go_enter Try.func60, Try.ntmps60
        go_wp2_with (first | (go_at_call 76; refine calls_at (fun W_ => Below w.heap.size w W_ ∧ W_.heap[w.heap.size]? = some (.cells #[.int .i64 a0_0, .int .i64 a0_1, .int .i64 a0_2, .slice A0_3 l0_3.length c0_3, .slice A0_4 l0_4.length c0_4] 27 (0, 0))) ⟨by (with_reducible repeat (first | exact Below.refl _ _ | apply below_alloc | apply pw_below_drewN | apply below_drew1)) <;> first | exact Below.refl _ _ | exact Nat.le_refl _, by (with_reducible repeat (first | refine blk_drewN ?_ _ | refine blk_drew ?_)); exact blk_new w _⟩ (fun W_ hW_ => ?_); (with_reducible refine (impl_isTracked.calls k a0_0 a0_1 a0_2 _ _ l0_3 _ _ l0_4 _ _ l1 true _ (Kd.C_below HR3.out hW_.1) HC3.out (Kd.C_below HR4.out hW_.1) HC4.out (Kd.C_below HR1.out hW_.1) HC1.out HT.out).mono ?_); rintro e w1 ⟨rfl, hb1⟩; have HB1 := Aside0.mk (below_step hW_.1 hb1); have BK1 := Aside0.mk (blk_below hW_.2 hb1); clear hb1 hW_; have d0 : w1.cell? ⟨w.heap.size, 0, none⟩ = some (.int .i64 a0_0) := (blk_cell BK1.out 0).trans rfl; have d1 : w1.cell? ⟨w.heap.size, 1, none⟩ = some (.int .i64 a0_1) := (blk_cell BK1.out 1).trans rfl; have d2 : w1.cell? ⟨w.heap.size, 2, none⟩ = some (.int .i64 a0_2) := (blk_cell BK1.out 2).trans rfl; have d3 : w1.cell? ⟨w.heap.size, 3, none⟩ = some (.slice A0_3 l0_3.length c0_3) := (blk_cell BK1.out 3).trans rfl; have d4 : w1.cell? ⟨w.heap.size, 4, none⟩ = some (.slice A0_4 l0_4.length c0_4) := (blk_cell BK1.out 4).trans rfl) | (go_at_call 83; refine calls_at (fun W_ => Below w.heap.size w W_ ∧ W_.heap[w.heap.size]? = some (.cells #[.int .i64 a0_0, .int .i64 a0_1, .int .i64 a0_2, .slice A0_3 l0_3.length c0_3, .slice A0_4 l0_4.length c0_4] 27 (0, 0))) ⟨by (with_reducible repeat (first | exact HB1.out | apply below_alloc | apply pw_below_drewN | apply below_drew1)) <;> first | exact HB1.out | exact Nat.le_refl _, by (with_reducible repeat (first | refine blk_drewN ?_ _ | refine blk_drew ?_)); exact BK1.out⟩ (fun W_ hW_ => ?_); (try clear d0 d1 d2 d3 d4); (with_reducible refine (impl_Track_isMove.calls a0_0 a0_1 a0_2 _ _ l0_3 _ _ l0_4 a2 a3 a4 true _ (Kd.C_below HR3.out hW_.1) HC3.out (Kd.C_below HR4.out hW_.1) HC4.out HU.out).mono ?_); rintro e w2 ⟨rfl, hb2⟩; have HB2 := Aside0.mk (below_step hW_.1 hb2); have BK2 := Aside0.mk (blk_below hW_.2 hb2); clear hb2 hW_; have d0 : w2.cell? ⟨w.heap.size, 0, none⟩ = some (.int .i64 a0_0) := (blk_cell BK2.out 0).trans rfl; have d1 : w2.cell? ⟨w.heap.size, 1, none⟩ = some (.int .i64 a0_1) := (blk_cell BK2.out 1).trans rfl; have d2 : w2.cell? ⟨w.heap.size, 2, none⟩ = some (.int .i64 a0_2) := (blk_cell BK2.out 2).trans rfl; have d3 : w2.cell? ⟨w.heap.size, 3, none⟩ = some (.slice A0_3 l0_3.length c0_3) := (blk_cell BK2.out 3).trans rfl; have d4 : w2.cell? ⟨w.heap.size, 4, none⟩ = some (.slice A0_4 l0_4.length c0_4) := (blk_cell BK2.out 4).trans rfl) | (go_at_call 97; refine calls_at (fun W_ => Below w.heap.size w W_ ∧ W_.heap[w.heap.size]? = some (.cells #[.int .i64 a0_0, .int .i64 a0_1, .int .i64 a0_2, .slice A0_3 l0_3.length c0_3, .slice A0_4 l0_4.length c0_4] 27 (0, 0))) ⟨by (with_reducible repeat (first | exact HB2.out | apply below_alloc | apply pw_below_drewN | apply below_drew1)) <;> first | exact HB2.out | exact Nat.le_refl _, by (with_reducible repeat (first | refine blk_drewN ?_ _ | refine blk_drew ?_)); exact BK2.out⟩ (fun W_ hW_ => ?_); (try clear d0 d1 d2 d3 d4); (with_reducible refine (impl_ownState.calls k _ _ l1 s1 _ (Kd.C_below HR1.out hW_.1) HC1.out HO.out).mono ?_); rintro e w3 ⟨v3, rfl, ho, hb3⟩; have HB3 := Aside0.mk (below_step hW_.1 hb3); have BK3 := Aside0.mk (blk_below hW_.2 hb3); have HS3 := Aside0.mk (Kd.S_lower ho (below_size hW_.1)); clear hb3 hW_ ho; have d0 : w3.cell? ⟨w.heap.size, 0, none⟩ = some (.int .i64 a0_0) := (blk_cell BK3.out 0).trans rfl; have d1 : w3.cell? ⟨w.heap.size, 1, none⟩ = some (.int .i64 a0_1) := (blk_cell BK3.out 1).trans rfl; have d2 : w3.cell? ⟨w.heap.size, 2, none⟩ = some (.int .i64 a0_2) := (blk_cell BK3.out 2).trans rfl; have d3 : w3.cell? ⟨w.heap.size, 3, none⟩ = some (.slice A0_3 l0_3.length c0_3) := (blk_cell BK3.out 3).trans rfl; have d4 : w3.cell? ⟨w.heap.size, 4, none⟩ = some (.slice A0_4 l0_4.length c0_4) := (blk_cell BK3.out 4).trans rfl) | (go_at_call 96; refine calls_at (fun W_ => Below w.heap.size w W_ ∧ Kd.S (Kd.slice 3 (Kd.int .i64)) 22 W_ w.heap.size (fun _ => True) v3 s1) ⟨by (with_reducible repeat (first | exact HB3.out | apply below_alloc | apply pw_below_drewN | apply below_drew1)) <;> first | exact HB3.out | exact Nat.le_refl _, by (with_reducible repeat (first | apply Kd.S_alloc | apply Kd.S_drewN | apply Kd.S_drew)); exact HS3.out⟩ (fun W_ hW_ => ?_); (try clear d0 d1 d2 d3 d4); (with_reducible refine (impl_Track_goToken.calls k a0_0 a0_1 a0_2 _ _ l0_3 _ _ l0_4 (fun _ => True) v3 s1 a2 a3 a4 x1 _ x3 w W_ hW_.1 HR3.out HC3.out HR4.out HC4.out hW_.2 HG.out).mono ?_); rintro e w4 ⟨rfl, ho, hb4, hk4⟩; have HB4 := Aside0.mk hb4; have HS4 := Aside0.mk ho; clear hb4 hW_ ho hk4))
        go_ret3
        exact ⟨_, rfl, HS4.out, HB4.out⟩
end Go.Proofs.Ytcppahkdfajcaaa.P
