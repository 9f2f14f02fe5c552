/- slices.IndexFunc and slices.ContainsFunc at []int, at whatever predicate that only reads: what the Go text returns. No condition beyond the predicate's own contract. -/
import Derived.Test.YtcppahkdfajcaaaP
import Derived.Shelf.Abstract
namespace Go.Proofs.Ytcppahkdfajcaaa.P
open Go.RowKit Go.Proofs.YtcppahkdfajcaaaW.PrintWords Go.Proofs.YtcppahkdfajcaaaW.PrintLast Go.Proofs.YtcppahkdfajcaaaW.PrintMore
set_option linter.unusedVariables false
set_option linter.unusedSimpArgs false

/-- Function g, bound to lb, hands back p x, in whatever later world; it may draw. -/
def PredOk (g : Nat) (lb : Array Value) (p : Int → Bool) (w : World) : Prop :=
  ∀ (W : World) (x : Int), Below w.heap.size w W → Calls Try.prog g (#[.int .i64 x] ++ lb) W fun e w' => e = .returned (.bool (p x)) ∧ ∃ q, w' = W.drewN q

/-- The place of the first one, or -1. -/
def fidx (p : Int → Bool) (l : List Int) : Int := if l.any p then (l.findIdx p : Int) else -1
theorem fidx_nonneg (p : Int → Bool) (l : List Int) : decide (0 ≤ fidx p l) = l.any p := by
  unfold fidx
  split
  · rename_i h; rw [h]; simp
  · rename_i h; simp only [Bool.not_eq_true] at h; rw [h]; simp
theorem fidx_hit {p : Int → Bool} {l : List Int} {k : Nat} (hk : k < l.length) (h : p (rd l k) = true) (hb : ∀ j, j < k → p (rd l (j : Int)) = false) : fidx p l = k := by
  unfold fidx
  have h1 : l[k] = rd l k := by simp [rd, hk]
  have hany : l.any p = true := List.any_eq_true.2 ⟨l[k], List.getElem_mem hk, by rw [h1]; exact h⟩
  rw [if_pos hany]
  congr 1
  rw [List.findIdx_eq hk]
  refine ⟨by rw [h1]; exact h, fun j hj => ?_⟩
  have hj' : j < l.length := by omega
  have := hb j hj
  simpa [rd, hj'] using this
theorem fidx_miss {p : Int → Bool} {l : List Int} (hb : ∀ j, j < l.length → p (rd l (j : Int)) = false) : fidx p l = -1 := by
  unfold fidx
  rw [if_neg]
  intro h
  obtain ⟨x, hx, hp⟩ := List.any_eq_true.1 h
  obtain ⟨j, hj, rfl⟩ := List.mem_iff_getElem.1 hx
  have := hb j hj
  simp [rd, hj] at this
  rw [this] at hp; cases hp

set_option maxHeartbeats 2000000 in
theorem indexFunc_int (p : Int → Bool) (g : Nat) (lb : Array Value) (eg : ∀ args w, (callFunc g args).run Try.prog w = .ok (.enter g args) w) (A0 : Option Addr) (c0 : Nat) (l0 : List Int) (w : World)
    (hp : PredOk g lb p w) (hr0 : Kd.C (Kd.int .i64) w A0 l0.length l0) :
    Calls Try.prog 103 #[.slice A0 l0.length c0, .func (.func g) #[] lb] w fun e w' => e = .returned (.int .i64 (fidx p l0)) ∧ ∃ q, w' = w.drewN q := by
  have hbig : l0.length ≤ 9223372036854775807 := hr0.2.1
  have hpAt : ∀ (x : Int) (q : Nat), Calls Try.prog g (#[.int .i64 x] ++ lb) (w.drewN q) fun e w' => e = .returned (.bool (p x)) ∧ ∃ q', w' = (w.drewN q).drewN q' := fun x q => hp _ x (pw_below_drewN (Below.refl _ w) q)
  clear hp
  have HR0 := Aside0.mk hr0
  clear hr0
  go_enter Try.func103, Try.ntmps103
  go_wp2
  go_loopg [5, 8] l0.length (fun gg _ s8 wr => ∃ kk q : Nat, kk ≤ l0.length ∧ l0.length - kk ≤ gg ∧ s8 = .int .i64 kk ∧ wr = w.drewN q ∧ Aside0 (∀ j : Nat, j < kk → p (rd l0 (j : Int)) = false))
  case atStart => exact ⟨0, 0, Nat.zero_le _, by omega, rfl, rfl, ⟨fun j hj => absurd hj (Nat.not_lt_zero _)⟩⟩
  case round =>
    obtain ⟨kk, q, hkk, hg, rfl, rfl, A⟩ := hrel
    by_cases hlt : kk < l0.length
    · have hltz : (kk : Int) < (l0.length : Int) := by omega
      obtain ⟨ad, e0, hcell⟩ := Kd.at_int HR0.out (kk : Int) (by omega) hltz
      cases e0
      rw [show ((kk : Int)).toNat = kk by omega] at hcell
      generalize hy : rd l0 (kk : Int) = y at hcell
      have B := Aside0.mk hy
      clear hy
      have hcall := hpAt y
      cases hq : p y with
      | true =>
        rw [hq] at hcall
        go_wp2_with (go_at_fn g; refine (hcall _).mono ?_; rintro e w' ⟨rfl, q', rfl⟩)
        go_ret
        refine ⟨?_, _, rfl⟩
        rw [fidx_hit hlt (by rw [B.out]; exact hq) A.out]
        rfl
      | false =>
        rw [hq] at hcall
        go_wp2_with (go_at_fn g; refine (hcall _).mono ?_; rintro e w' ⟨rfl, q', rfl⟩)
        go_roundg (l0.length - (kk + 1))
        case measure => omega
        case rel =>
          refine ⟨kk + 1, _, by omega, by omega, by go_num, rfl, ⟨fun j hj => ?_⟩⟩
          by_cases e : j = kk
          · subst e
            rw [B.out]; exact hq
          · exact A.out j (by omega)
    · have hltz : ¬ (kk : Int) < (l0.length : Int) := by omega
      have hkn : kk = l0.length := by omega
      subst hkn
      go_wp2
      go_ret
      refine ⟨?_, q, rfl⟩
      rw [fidx_miss A.out]
      rfl

set_option maxHeartbeats 2000000 in
theorem containsFunc_int (p : Int → Bool) (g : Nat) (lb : Array Value) (eg : ∀ args w, (callFunc g args).run Try.prog w = .ok (.enter g args) w) (A0 : Option Addr) (c0 : Nat) (l0 : List Int) (w : World)
    (hp : PredOk g lb p w) (hr0 : Kd.C (Kd.int .i64) w A0 l0.length l0) :
    Calls Try.prog 77 #[.slice A0 l0.length c0, .func (.func g) #[] lb] w fun e w' => e = .returned (.bool (l0.any p)) ∧ ∃ q, w' = w.drewN q := by
  rw [← fidx_nonneg]
  have HP := Aside0.mk hp
  have HR0 := Aside0.mk hr0
  clear hp hr0
  go_enter Try.func77, Try.ntmps77
  go_wp2_with (go_at_call 103; refine (indexFunc_int p g lb eg A0 c0 l0 _ HP.out HR0.out).mono ?_; rintro e w' ⟨rfl, q, rfl⟩)
  go_ret
  exact ⟨rfl, q, rfl⟩

end Go.Proofs.Ytcppahkdfajcaaa.P
