/- slices.IndexFunc and slices.ContainsFunc at []Clue, at whatever predicate that only makes new memory: what the Go text returns. No condition beyond the predicate's own contract. -/
import Derived.Test.YtifgjihjcloloaaP
import Derived.Shelf.Abstract
namespace Go.Proofs.Ytifgjihjcloloaa.P
open Go.RowKit Go.Proofs.YtifgjihjcloloaaW.PrintWords Go.Proofs.YtifgjihjcloloaaW.PrintLast Go.Proofs.YtifgjihjcloloaaW.PrintMore
set_option linter.unusedVariables false
set_option linter.unusedSimpArgs false

/-- Function g, bound to lb, hands back p x, in whatever later world. -/
def PredOkC (g : Nat) (lb : Array Value) (p : S28 → Bool) (w : World) : Prop :=
  ∀ (W : World) (x : S28), Below w.heap.size w W → Calls Try.prog g (#[.agg #[.int .i64 x.f0, .int .i64 x.f1, .int .i64 x.f2, .int .i64 x.f3]] ++ lb) W fun e w' => e = .returned (.bool (p x)) ∧ Below W.heap.size W w'

/-- The place of the first one, or -1. -/
def fidxC (p : S28 → Bool) (l : List S28) : Int := if l.any p then (l.findIdx p : Int) else -1
theorem fidxC_nonneg (p : S28 → Bool) (l : List S28) : decide (0 ≤ fidxC p l) = l.any p := by
  unfold fidxC
  split
  · rename_i h; rw [h]; simp
  · rename_i h; simp only [Bool.not_eq_true] at h; rw [h]; simp
theorem fidxC_hit {p : S28 → Bool} {l : List S28} {k : Nat} (hk : k < l.length) (h : p (rd_T28 l k) = true) (hb : ∀ j, j < k → p (rd_T28 l (j : Int)) = false) : fidxC p l = k := by
  unfold fidxC
  have h1 : l[k] = rd_T28 l k := by simp [rd_T28, rdOf, hk]
  have hany : l.any p = true := List.any_eq_true.2 ⟨l[k], List.getElem_mem hk, by rw [h1]; exact h⟩
  rw [if_pos hany]
  congr 1
  rw [List.findIdx_eq hk]
  refine ⟨by rw [h1]; exact h, fun j hj => ?_⟩
  have hj' : j < l.length := by omega
  have := hb j hj
  simpa [rd_T28, rdOf, hj'] using this
theorem fidxC_miss {p : S28 → Bool} {l : List S28} (hb : ∀ j, j < l.length → p (rd_T28 l (j : Int)) = false) : fidxC p l = -1 := by
  unfold fidxC
  rw [if_neg]
  intro h
  obtain ⟨x, hx, hp⟩ := List.any_eq_true.1 h
  obtain ⟨j, hj, rfl⟩ := List.mem_iff_getElem.1 hx
  have := hb j hj
  simp [rd_T28, rdOf, hj] at this
  rw [this] at hp; cases hp

set_option maxHeartbeats 4000000 in
set_option maxRecDepth 100000 in
theorem indexFunc_clue (p : S28 → Bool) (g : Nat) (lb : Array Value) (eg : ∀ args w, (callFunc g args).run Try.prog w = .ok (.enter g args) w) (A0 : Option Addr) (c0 : Nat) (l0 : List S28) (w : World)
    (hp : PredOkC g lb p w) (hr0 : Kd.C k28 w A0 l0.length l0) :
    Calls Try.prog 112 #[.slice A0 l0.length c0, .func (.func g) #[] lb] w fun e w' => e = .returned (.int .i64 (fidxC p l0)) ∧ Below w.heap.size w w' := by
  have hbig : l0.length ≤ 9223372036854775807 := hr0.2.1
  have HP := Aside0.mk hp
  clear hp
  have HR0 := Aside0.mk hr0
  clear hr0
  have hu28 := Try.underlying28
  go_enter Try.func112, Try.ntmps112
  go_wp2
  go_loopg [5, 8] l0.length (fun gg _ s8 wr => ∃ kk : Nat, kk ≤ l0.length ∧ l0.length - kk ≤ gg ∧ s8 = .int .i64 kk ∧ Aside0 (Below w.heap.size w wr) ∧ Aside0 (∀ j : Nat, j < kk → p (rd_T28 l0 (j : Int)) = false))
  case atStart => exact ⟨0, Nat.zero_le _, by omega, rfl, ⟨Below.refl _ _⟩, ⟨fun j hj => absurd hj (Nat.not_lt_zero _)⟩⟩
  case round =>
    obtain ⟨kk, hkk, hg, rfl, HB, A⟩ := hrel
    by_cases hlt : kk < l0.length
    · have hltz : (kk : Int) < (l0.length : Int) := by omega
      have hkz : (0 : Int) ≤ (kk : Int) := by omega
      obtain ⟨ad, e0, hx_0, hx_1, hx_2, hx_3⟩ := at_T28 HR0.out (kk : Int) hkz hltz
      cases e0
      rw [show ((kk : Int)).toNat = kk by omega] at hx_0 hx_1 hx_2 hx_3
      replace hx_0 := (HB.out.cell (World.block_lt_of_cell? w _ hx_0)).trans hx_0
      replace hx_1 := (HB.out.cell (World.block_lt_of_cell? w _ hx_1)).trans hx_1
      replace hx_2 := (HB.out.cell (World.block_lt_of_cell? w _ hx_2)).trans hx_2
      replace hx_3 := (HB.out.cell (World.block_lt_of_cell? w _ hx_3)).trans hx_3
      generalize hy : rd_T28 l0 (kk : Int) = y at hx_0 hx_1 hx_2 hx_3
      have B := Aside0.mk hy
      clear hy
      have hcall := HP.out wr y HB.out
      have HPY := Aside0.mk (rfl : p y = p y)
      cases hq : p y with
      | true =>
        rw [hq] at hcall
        go_wp2_with (go_at_fn g; refine hcall.mono ?_; rintro e w' ⟨rfl, hb1⟩; have HB1 := Aside0.mk (below_step HB.out hb1); clear hb1)
        go_ret
        refine ⟨?_, HB1.out⟩
        rw [fidxC_hit hlt (by rw [B.out]; exact hq) A.out]
        rfl
      | false =>
        rw [hq] at hcall
        go_wp2_with (go_at_fn g; refine hcall.mono ?_; rintro e w' ⟨rfl, hb1⟩; have HB1 := Aside0.mk (below_step HB.out hb1); clear hb1)
        go_roundg (l0.length - (kk + 1))
        case measure => omega
        case rel =>
          refine ⟨kk + 1, by omega, by omega, by go_num, HB1, ⟨fun j hj => ?_⟩⟩
          by_cases e : j = kk
          · subst e
            rw [B.out]; exact hq
          · exact A.out j (by omega)
    · have hltz : ¬ (kk : Int) < (l0.length : Int) := by omega
      have hkn : kk = l0.length := by omega
      subst hkn
      go_wp2
      go_ret
      refine ⟨?_, HB.out⟩
      rw [fidxC_miss A.out]
      rfl

set_option maxHeartbeats 4000000 in
set_option maxRecDepth 100000 in
theorem containsFunc_clue (p : S28 → Bool) (g : Nat) (lb : Array Value) (eg : ∀ args w, (callFunc g args).run Try.prog w = .ok (.enter g args) w) (A0 : Option Addr) (c0 : Nat) (l0 : List S28) (w : World)
    (hp : PredOkC g lb p w) (hr0 : Kd.C k28 w A0 l0.length l0) :
    Calls Try.prog 85 #[.slice A0 l0.length c0, .func (.func g) #[] lb] w fun e w' => e = .returned (.bool (l0.any p)) ∧ Below w.heap.size w w' := by
  rw [← fidxC_nonneg]
  have HP := Aside0.mk hp
  have HR0 := Aside0.mk hr0
  clear hp hr0
  go_enter Try.func85, Try.ntmps85
  go_wp2_with (go_at_call 112; refine (indexFunc_clue p g lb eg A0 c0 l0 _ HP.out HR0.out).mono ?_; rintro e w' ⟨rfl, hb1⟩; have HB1 := Aside0.mk hb1; clear hb1)
  go_ret
  exact ⟨rfl, HB1.out⟩

end Go.Proofs.Ytifgjihjcloloaa.P
