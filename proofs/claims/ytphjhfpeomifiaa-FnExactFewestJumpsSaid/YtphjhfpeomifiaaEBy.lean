/- Board.byJumps: how many games go by each number of jumps: what the Go text returns. Boards with at most eight faces, at most sixteen throws. -/
import Derived.Test.YtphjhfpeomifiaaECount
import Derived.Test.YtphjhfpeomifiaaP56
namespace Go.Proofs.Ytphjhfpeomifiaa.P
open Go.RowKit Go.Proofs.Ytphjhfpeomifiaa.Q Go.Proofs.YtphjhfpeomifiaaW.PrintWords Go.Proofs.YtphjhfpeomifiaaW.PrintLast Go.Proofs.YtphjhfpeomifiaaW.PrintMore
set_option linter.unusedVariables false
set_option linter.unusedSimpArgs false

/-- Sums of functions. -/
def sumOF : Nat → (Nat → Option (Int → Int)) → Option (Int → Int)
  | 0, _ => some fun _ => 0
  | n + 1, g => (sumOF n g).bind fun a => (g n).bind fun b => some fun j => a j + b j
theorem sumOF_some {n : Nat} {g : Nat → Option (Int → Int)} {r : Int → Int} (h : sumOF n g = some r) : (∀ i, i < n → ∃ x, g i = some x) ∧ ∀ j, r j = sumN n fun i => ((g i).getD fun _ => 0) j := by
  induction n generalizing r with
  | zero => exact ⟨fun i hi => absurd hi (Nat.not_lt_zero _), fun j => by rw [← Option.some.inj h]; rfl⟩
  | succ n ih =>
    obtain ⟨a, ha, h⟩ := Option.bind_eq_some_iff.1 h
    obtain ⟨b, hb, h⟩ := Option.bind_eq_some_iff.1 h
    obtain ⟨h1, h2⟩ := ih ha
    refine ⟨fun i hi => ?_, fun j => ?_⟩
    · by_cases e : i = n
      · exact ⟨b, e ▸ hb⟩
      · exact h1 i (by omega)
    · rw [← Option.some.inj h]
      show a j + b j = sumN n _ + ((g n).getD fun _ => 0) j
      rw [← h2, hb]
      rfl
theorem sumOF_mono {n : Nat} {g h : Nat → Option (Int → Int)} (e : ∀ i, LeO (g i) (h i)) : LeO (sumOF n g) (sumOF n h) := by
  induction n with
  | zero => exact fun r h => h
  | succ n ih =>
    intro r hr
    obtain ⟨a, ha, hr⟩ := Option.bind_eq_some_iff.1 hr
    obtain ⟨b, hb, hr⟩ := Option.bind_eq_some_iff.1 hr
    show (sumOF n h).bind _ = _
    rw [ih a ha]
    show (h n).bind _ = _
    rw [e n b hb]
    exact hr

def inM (q m : Int) : Prop := inW q ∧ 0 ≤ m ∧ m ≤ 16
instance (q m : Int) : Decidable (inM q m) := inferInstanceAs (Decidable (_ ∧ _))
/-- The count of the lists of n throws from a square on, by their marks in the end. -/
def cbF (k : Nat) (s f o : Int) (l0 : List S70) : Nat → Int → Int → Option (Int → Int)
  | 0, q, m => if inM q m then some (fun j => if q = s then (if m = j then 1 else 0) else 0) else none
  | n + 1, q, m => if inM q m then (if q = s then some (fun _ => 0) else sumOF f.toNat fun i => (impl_Board_throw.f k s f o l0 q ((i : Int) + 1)).bind fun t => (impl_Board_jumpsBy.f k s f o l0 q ((i : Int) + 1)).bind fun d => cbF k s f o l0 n t (wrap64 (m + d))) else none
theorem cbF_mono (k : Nat) (s f o : Int) (l0 : List S70) : ∀ n q m, LeO (cbF k s f o l0 n q m) (cbF (k + 1) s f o l0 n q m)
  | 0, q, m => fun r h => h
  | n + 1, q, m => by
    intro r h
    unfold cbF at h ⊢
    by_cases h1 : inM q m
    · rw [if_pos h1] at h ⊢
      by_cases h2 : q = s
      · rw [if_pos h2] at h ⊢; exact h
      · rw [if_neg h2] at h ⊢
        refine sumOF_mono (fun i => ?_) r h
        intro x hx
        obtain ⟨t, ht, hx⟩ := Option.bind_eq_some_iff.1 hx
        obtain ⟨d, hd, hx⟩ := Option.bind_eq_some_iff.1 hx
        rw [impl_Board_throw.mono _ _ _ _ _ _ _ t ht, Option.bind_some, impl_Board_jumpsBy.mono _ _ _ _ _ _ _ d hd]
        exact cbF_mono k s f o l0 n t _ x hx
    · rw [if_neg h1] at h; cases h

def impl_Board_byJumps.f (k : Nat) (a0_0 : Int) (a0_1 : Int) (a0_2 : Int) (l0_3 : List S70) (a1 : Int) : Option (List Int) := if 0 ≤ a0_1 ∧ a0_1 ≤ 8 ∧ a1.toNat ≤ 16 then (cbF k a0_0 a0_1 a0_2 l0_3 a1.toNat 0 0).map (fun g => (List.range 17).map fun j : Nat => wrap64 (g (j : Int))) else none
theorem impl_Board_byJumps.mono : ∀ a0 a1 a2 a3 a4 k, LeO (impl_Board_byJumps.f k a0 a1 a2 a3 a4) (impl_Board_byJumps.f (k + 1) a0 a1 a2 a3 a4) := by
  intro a0 a1 a2 a3 a4 k r h
  unfold impl_Board_byJumps.f at h ⊢
  by_cases h1 : 0 ≤ a1 ∧ a1 ≤ 8 ∧ a4.toNat ≤ 16
  · rw [if_pos h1] at h ⊢
    obtain ⟨x, hx, h⟩ := Option.map_eq_some_iff.1 h
    rw [cbF_mono _ _ _ _ _ _ _ _ x hx]
    rw [Option.map_some, h]
  · rw [if_neg h1] at h; cases h

/-- The mark as a total function. -/
def mvF (k : Nat) (s f o : Int) (l0 : List S70) (q m j : Int) : Int := wrap64 (m + (impl_Board_jumpsBy.f k s f o l0 q j).getD 0)
theorem valG_cbF (k : Nat) (s f o : Int) (l0 : List S70) (j : Int) : ∀ n q m g, cbF k s f o l0 n q m = some g → valG s f (tvF k s f o l0) (mvF k s f o l0) (fun z => if z = j then 1 else 0) n q m = g j
  | 0, q, m, g, h => by
    unfold cbF at h
    by_cases h1 : inM q m
    · rw [if_pos h1] at h
      obtain rfl := Option.some.inj h
      rfl
    · rw [if_neg h1] at h; cases h
  | n + 1, q, m, g, h => by
    unfold cbF at h
    by_cases h1 : inM q m
    · rw [if_pos h1] at h
      by_cases h2 : q = s
      · rw [if_pos h2] at h
        obtain rfl := Option.some.inj h
        show (if q = s then (0 : Int) else _) = _
        rw [if_pos h2]
      · rw [if_neg h2] at h
        obtain ⟨h3, h4⟩ := sumOF_some h
        show (if q = s then (0 : Int) else _) = _
        rw [if_neg h2, h4]
        refine sumN_congr fun i hi => ?_
        obtain ⟨x, hx⟩ := h3 i hi
        obtain ⟨t, ht, hx1⟩ := Option.bind_eq_some_iff.1 hx
        obtain ⟨d, hd, hx2⟩ := Option.bind_eq_some_iff.1 hx1
        have e1 : tvF k s f o l0 q ((i : Int) + 1) = t := by unfold tvF; rw [ht]; rfl
        have e2 : mvF k s f o l0 q m ((i : Int) + 1) = wrap64 (m + d) := by unfold mvF; rw [hd]; rfl
        rw [e1, e2, valG_cbF k s f o l0 j n t _ x hx2, hx]
        rfl
    · rw [if_neg h1] at h; cases h

/-- What holds of a spot on the way. -/
def cbI (k : Nat) (s f o : Int) (l0 : List S70) (n : Nat) (q m : Int) : Prop := ∃ r, cbF k s f o l0 n q m = some r
theorem cbI_in {k : Nat} {s f o : Int} {l0 : List S70} {n : Nat} {q m : Int} (h : cbI k s f o l0 n q m) : inM q m := by
  obtain ⟨r, h⟩ := h
  cases n <;> (unfold cbF at h; by_cases h3 : inM q m; exact h3; rw [if_neg h3] at h; cases h)
theorem cb_step {k : Nat} {s f o : Int} {l0 : List S70} {n : Nat} {q m : Int} (h : cbI k s f o l0 (n + 1) q m) (hq : q ≠ s) {j : Int} (h1 : 1 ≤ j) (h2 : j ≤ f) : impl_Board_throw.f k s f o l0 q j = some (tvF k s f o l0 q j) ∧ (∃ d, impl_Board_jumpsBy.f k s f o l0 q j = some d ∧ mvF k s f o l0 q m j = wrap64 (m + d)) ∧ cbI k s f o l0 n (tvF k s f o l0 q j) (mvF k s f o l0 q m j) := by
  have hin := cbI_in h
  obtain ⟨r, h⟩ := h
  unfold cbF at h
  rw [if_pos hin, if_neg hq] at h
  obtain ⟨h4, _⟩ := sumOF_some h
  obtain ⟨x, hx⟩ := h4 (j - 1).toNat (by omega)
  rw [show (((j - 1).toNat : Nat) : Int) + 1 = j by omega] at hx
  obtain ⟨t, ht, hx⟩ := Option.bind_eq_some_iff.1 hx
  obtain ⟨d, hd, hx⟩ := Option.bind_eq_some_iff.1 hx
  have e1 : tvF k s f o l0 q j = t := by unfold tvF; rw [ht]; rfl
  have e2 : mvF k s f o l0 q m j = wrap64 (m + d) := by unfold mvF; rw [hd]; rfl
  exact ⟨by rw [e1]; exact ht, ⟨d, hd, e2⟩, x, by rw [e1, e2]; exact hx⟩
theorem cb_way {k : Nat} {s f o : Int} {l0 : List S70} (f0 : 0 ≤ f) (f8 : f ≤ 8) : Way k s f o l0 (tvF k s f o l0) (mvF k s f o l0) (cbI k s f o l0) :=
  ⟨f0, f8, fun n q m h hq j h1 h2 => ⟨(cb_step h hq h1 h2).1, (cb_step h hq h1 h2).2.2⟩, fun n q m h => ⟨wf_of (cbI_in h).1.1 (cbI_in h).1.2, wf_of (by have := (cbI_in h).2; omega) (by have := (cbI_in h).2; omega)⟩⟩

set_option maxHeartbeats 2000000 in
theorem byMark_ok (k : Nat) (s f o : Int) (A0 : Option Addr) (c0 : Nat) (l0 : List S70) (B : Nat) (w : World) (hc : w.heap[B]? = some (.cells #[.int .i64 s, .int .i64 f, .int .i64 o, .slice A0 l0.length c0] 30 (0, 0))) (hr0 : Kd.C k70 w A0 l0.length l0) (hc0 : l0.length ≤ c0) :
    MarkOk 72 #[.pointer (some ⟨B, 0, none⟩)] s f (mvF k s f o l0) (cbI k s f o l0) w := by
  intro W n q m j hb hI hq h1 h2
  obtain ⟨_, ⟨d, hd, hm⟩, _⟩ := cb_step hI hq h1 h2
  rw [hm]
  have HD := Aside0.mk hd
  have HR := Aside0.mk (Kd.C_below hr0 hb)
  have HC := Aside0.mk hc0
  have HBK := Aside0.mk (blk_below hc hb)
  have hu76 := Try.underlying76
  have hu30 := Try.underlying30
  clear hd hm hr0 hc0 hc hb hI hq h1 h2
  show Calls Try.prog 72 #[.agg #[.int .i64 q, .int .i64 m], .int .i64 j, .pointer (some ⟨B, 0, none⟩)] W fun e w' => e = .returned (.int .i64 (wrap64 (m + d))) ∧ Below W.heap.size W w'
  go_enter Try.func72, Try.ntmps72
  go_wp2_with ((with_reducible refine gate_dst (N := 3) rfl ?_); refine box_event ?hg (N := 3) ?hd (cs := #[.int .i64 q, .int .i64 m]) (t := 76) ?hr ?_; (case hd => rfl); (case hg => rfl); (case hr => first | (go_simp; done) | (go_simp; rfl)); intro B3 hgb_ w1 hbox hb; have HB1 := Aside0.mk hb; have hk0_ := blk_below HBK.out hb; have hb0 : w1.cell? ⟨B, 0, none⟩ = some (.int .i64 s) := (blk_cell hk0_ 0).trans rfl; have hb1 : w1.cell? ⟨B, 1, none⟩ = some (.int .i64 f) := (blk_cell hk0_ 1).trans rfl; have hb2 : w1.cell? ⟨B, 2, none⟩ = some (.int .i64 o) := (blk_cell hk0_ 2).trans rfl; have hb3 : w1.cell? ⟨B, 3, none⟩ = some (.slice A0 l0.length c0) := (blk_cell hk0_ 3).trans rfl; have hs0 : w1.cell? ⟨B3, 0, none⟩ = some (.int .i64 q) := (blk_cell hbox 0).trans rfl; have hs1 : w1.cell? ⟨B3, 1, none⟩ = some (.int .i64 m) := (blk_cell hbox 1).trans rfl; have hb0d : w1.drew.cell? ⟨B, 0, none⟩ = some (.int .i64 s) := hb0; have hb1d : w1.drew.cell? ⟨B, 1, none⟩ = some (.int .i64 f) := hb1; have hb2d : w1.drew.cell? ⟨B, 2, none⟩ = some (.int .i64 o) := hb2; have hb3d : w1.drew.cell? ⟨B, 3, none⟩ = some (.slice A0 l0.length c0) := hb3; have hs0d : w1.drew.cell? ⟨B3, 0, none⟩ = some (.int .i64 q) := hs0; have hs1d : w1.drew.cell? ⟨B3, 1, none⟩ = some (.int .i64 m) := hs1; have HS := Aside0.mk hbox; clear hb hbox hgb_ hk0_)
  go_region_with (go_at_call 60; refine calls_at (fun W_ => Below W.heap.size W W_ ∧ W_.heap[B3]? = some (.cells #[.int .i64 q, .int .i64 m] 76 (0, 0))) ⟨by (with_reducible repeat (first | exact HB1.out | apply below_alloc | apply pw_below_drewN | apply below_drew1)) <;> first | exact HB1.out | exact Nat.le_refl _, HS.out⟩ (fun W_ hW_ => ?_); (with_reducible refine (impl_Board_jumpsBy.calls k s f o A0 c0 l0 q j d _ (Kd.C_below HR.out hW_.1) HC.out HD.out).mono ?_); rintro e w4 ⟨rfl, hb⟩; have HB4 := Aside0.mk (below_step hW_.1 hb); have hk4_ := blk_below hW_.2 hb; have hs14 : w4.cell? ⟨B3, 1, none⟩ = some (.int .i64 m) := (blk_cell hk4_ 1).trans rfl; clear hW_ hb hk4_)
  all_goals
    go_wp2
    go_ret
    have e_ : IntKind.i64.wrap (m + d) = wrap64 (m + d) := by rw [IntKind.wrap_i64]; unfold wrap64; omega
    exact ⟨by rw [← e_]; rfl, HB4.out⟩

end Go.Proofs.Ytphjhfpeomifiaa.P
