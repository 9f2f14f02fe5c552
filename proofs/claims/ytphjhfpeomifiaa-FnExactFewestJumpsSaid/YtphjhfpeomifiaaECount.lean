/- Board.countGames: how many lists of so many throws lead from a square to the end just by the last one: what the Go text returns. Boards with at most eight faces, at most sixteen throws. -/
import Derived.Test.YtphjhfpeomifiaaEGamesW
import Derived.Test.YtphjhfpeomifiaaEGames
namespace Go.Proofs.Ytphjhfpeomifiaa.P
open Go.RowKit Go.Proofs.Ytphjhfpeomifiaa.Q Go.Proofs.YtphjhfpeomifiaaW.PrintWords Go.Proofs.YtphjhfpeomifiaaW.PrintLast Go.Proofs.YtphjhfpeomifiaaW.PrintMore
set_option linter.unusedVariables false
set_option linter.unusedSimpArgs false

def sumO : Nat → (Nat → Option Int) → Option Int
  | 0, _ => some 0
  | n + 1, g => (sumO n g).bind fun a => (g n).bind fun b => some (a + b)
theorem sumO_some {n : Nat} {g : Nat → Option Int} {r : Int} (h : sumO n g = some r) : (∀ i, i < n → ∃ x, g i = some x) ∧ r = sumN n fun i => (g i).getD 0 := by
  induction n generalizing r with
  | zero => exact ⟨fun i hi => absurd hi (Nat.not_lt_zero _), (Option.some.inj h).symm⟩
  | succ n ih =>
    obtain ⟨a, ha, h⟩ := Option.bind_eq_some_iff.1 h
    obtain ⟨b, hb, h⟩ := Option.bind_eq_some_iff.1 h
    obtain ⟨h1, h2⟩ := ih ha
    refine ⟨fun i hi => ?_, ?_⟩
    · by_cases e : i = n
      · exact ⟨b, e ▸ hb⟩
      · exact h1 i (by omega)
    · show r = sumN n _ + (g n).getD 0
      rw [← h2, hb]
      exact (Option.some.inj h).symm
theorem sumO_mono {n : Nat} {g h : Nat → Option Int} (e : ∀ i, LeO (g i) (h i)) : LeO (sumO n g) (sumO n h) := by
  induction n with
  | zero => exact fun r h => h
  | succ n ih =>
    intro r hr
    obtain ⟨a, ha, hr⟩ := Option.bind_eq_some_iff.1 hr
    obtain ⟨b, hb, hr⟩ := Option.bind_eq_some_iff.1 hr
    show (sumO n h).bind _ = _
    rw [ih a ha]
    show (h n).bind _ = _
    rw [e n b hb]
    exact hr

def inW (q : Int) : Prop := -9223372036854775808 ≤ q ∧ q ≤ 9223372036854775807
instance (q : Int) : Decidable (inW q) := inferInstanceAs (Decidable (_ ∧ _))
/-- The count of the lists of n throws from a square on. -/
def cgF (k : Nat) (s f o : Int) (l0 : List S70) : Nat → Int → Option Int
  | 0, q => if inW q then (if q = s then some 1 else some 0) else none
  | n + 1, q => if inW q then (if q = s then some 0 else sumO f.toNat fun i => (impl_Board_throw.f k s f o l0 q ((i : Int) + 1)).bind (cgF k s f o l0 n)) else none
theorem cgF_mono (k : Nat) (s f o : Int) (l0 : List S70) : ∀ n q, LeO (cgF k s f o l0 n q) (cgF (k + 1) s f o l0 n q)
  | 0, q => fun r h => h
  | n + 1, q => by
    intro r h
    unfold cgF at h ⊢
    by_cases h1 : inW q
    · rw [if_pos h1] at h ⊢
      by_cases h2 : q = s
      · rw [if_pos h2] at h ⊢; exact h
      · rw [if_neg h2] at h ⊢
        refine sumO_mono (fun i => ?_) r h
        intro x hx
        obtain ⟨t, ht, hx⟩ := Option.bind_eq_some_iff.1 hx
        rw [impl_Board_throw.mono _ _ _ _ _ _ _ t ht]
        exact cgF_mono k s f o l0 n t x hx
    · rw [if_neg h1] at h; cases h

def impl_Board_countGames.f (k : Nat) (a0_0 : Int) (a0_1 : Int) (a0_2 : Int) (l0_3 : List S70) (a1 : Int) (a2 : Int) : Option Int := if 0 ≤ a0_1 ∧ a0_1 ≤ 8 ∧ a2.toNat ≤ 16 then (cgF k a0_0 a0_1 a0_2 l0_3 a2.toNat a1).map wrap64 else none
theorem impl_Board_countGames.mono : ∀ a0 a1 a2 a3 a4 a5 k, LeO (impl_Board_countGames.f k a0 a1 a2 a3 a4 a5) (impl_Board_countGames.f (k + 1) a0 a1 a2 a3 a4 a5) := by
  intro a0 a1 a2 a3 a4 a5 k r h
  unfold impl_Board_countGames.f at h ⊢
  by_cases h1 : 0 ≤ a1 ∧ a1 ≤ 8 ∧ a5.toNat ≤ 16
  · rw [if_pos h1] at h ⊢
    obtain ⟨x, hx, h⟩ := Option.map_eq_some_iff.1 h
    rw [cgF_mono _ _ _ _ _ _ _ x hx]
    rw [Option.map_some, h]
  · rw [if_neg h1] at h; cases h

/-- The throw as a total function. -/
def tvF (k : Nat) (s f o : Int) (l0 : List S70) (q j : Int) : Int := (impl_Board_throw.f k s f o l0 q j).getD 0
theorem valG_cgF (k : Nat) (s f o : Int) (l0 : List S70) (F : Int → Int) : ∀ n q r, cgF k s f o l0 n q = some r → valG s f (tvF k s f o l0) (fun _ _ _ => 0) F n q 0 = r * F 0
  | 0, q, r, h => by
    unfold cgF at h
    by_cases h1 : inW q
    · rw [if_pos h1] at h
      by_cases h2 : q = s
      · rw [if_pos h2] at h
        obtain rfl := Option.some.inj h
        show (if q = s then F 0 else 0) = _
        rw [if_pos h2, Int.one_mul]
      · rw [if_neg h2] at h
        obtain rfl := Option.some.inj h
        show (if q = s then F 0 else 0) = _
        rw [if_neg h2, Int.zero_mul]
    · rw [if_neg h1] at h; cases h
  | n + 1, q, r, h => by
    unfold cgF at h
    by_cases h1 : inW q
    · rw [if_pos h1] at h
      by_cases h2 : q = s
      · rw [if_pos h2] at h
        obtain rfl := Option.some.inj h
        show (if q = s then (0 : Int) else _) = _
        rw [if_pos h2, Int.zero_mul]
      · rw [if_neg h2] at h
        obtain ⟨h3, rfl⟩ := sumO_some h
        show (if q = s then (0 : Int) else _) = _
        rw [if_neg h2, Int.mul_comm, ← sumN_mul]
        refine sumN_congr fun i hi => ?_
        obtain ⟨x, hx⟩ := h3 i hi
        obtain ⟨t, ht, hx⟩ := Option.bind_eq_some_iff.1 hx
        have e1 : tvF k s f o l0 q ((i : Int) + 1) = t := by unfold tvF; rw [ht]; rfl
        rw [e1, valG_cgF k s f o l0 F n t x hx, ht]
        show x * F 0 = F 0 * (cgF k s f o l0 n t).getD 0
        rw [hx, Int.mul_comm]
        rfl
    · rw [if_neg h1] at h; cases h

/-- What holds of a spot on the way. -/
def cgI (k : Nat) (s f o : Int) (l0 : List S70) (n : Nat) (q m : Int) : Prop := (∃ r, cgF k s f o l0 n q = some r) ∧ m = 0
theorem cg_way {k : Nat} {s f o : Int} {l0 : List S70} (f0 : 0 ≤ f) (f8 : f ≤ 8) : Way k s f o l0 (tvF k s f o l0) (fun _ _ _ => 0) (cgI k s f o l0) := by
  refine ⟨f0, f8, ?_, ?_⟩
  · rintro n q m ⟨⟨r, h⟩, rfl⟩ hq j h1 h2
    unfold cgF at h
    by_cases h3 : inW q
    · rw [if_pos h3, if_neg hq] at h
      obtain ⟨h4, _⟩ := sumO_some h
      obtain ⟨x, hx⟩ := h4 (j - 1).toNat (by omega)
      rw [show (((j - 1).toNat : Nat) : Int) + 1 = j by omega] at hx
      obtain ⟨t, ht, hx⟩ := Option.bind_eq_some_iff.1 hx
      have e1 : tvF k s f o l0 q j = t := by unfold tvF; rw [ht]; rfl
      exact ⟨by rw [e1]; exact ht, ⟨x, by rw [e1]; exact hx⟩, rfl⟩
    · rw [if_neg h3] at h; cases h
  · rintro n q m ⟨⟨r, h⟩, rfl⟩
    have h3 : inW q := by
      cases n <;> (unfold cgF at h; by_cases h3 : inW q; exact h3; rw [if_neg h3] at h; cases h)
    exact ⟨wf_of h3.1 h3.2, by decide⟩

theorem pick_val {L : List (Value × Value)} (hmk : ∀ x ∈ L, ∃ m c : Int, x = (.int .i64 m, .int .i64 c)) {j c : Int} (hind : ∀ F : Value → Int, (∀ v, v ≠ .int .i64 j → F v = 0) → c * F (.int .i64 j) = wsum F L) : c = wsum (fun v => (fun z : Int => if z = j then 1 else 0) (intOf v)) L := by
  classical
  have h1 := hind (fun v => if v = .int .i64 j then 1 else 0) (fun v hv => if_neg hv)
  rw [if_pos rfl, Int.mul_one] at h1
  rw [h1]
  refine vsum_congr _ fun y hy => ?_
  obtain ⟨m, c', rfl⟩ := hmk y hy
  show c' * (if Value.int .i64 m = Value.int .i64 j then 1 else 0) = c' * (if m = j then 1 else 0)
  by_cases h0 : m = j
  · rw [if_pos h0, if_pos (by rw [h0])]
  · rw [if_neg h0, if_neg (by intro h; cases h; exact h0 rfl)]

set_option maxHeartbeats 1000000 in
theorem unmarked_ok (s f : Int) (Iv : Nat → Int → Int → Prop) (w : World) : MarkOk 70 #[] s f (fun _ _ _ => 0) Iv w := by
  intro W n q m j _ _ _ _ _
  have hu76 := Try.underlying76
  show Calls Try.prog 70 #[.agg #[.int .i64 q, .int .i64 m], .int .i64 j] W fun e w' => e = .returned (.int .i64 0) ∧ Below W.heap.size W w'
  go_enter Try.func70, Try.ntmps70
  go_wp2
  go_ret
  exact ⟨rfl, (Below.refl _ _).alloc (Nat.le_refl _) _⟩

set_option maxHeartbeats 2000000 in
theorem impl_Board_countGames.calls (k : Nat) (a0_0 : Int) (a0_1 : Int) (a0_2 : Int) (A0_3 : Option Addr) (c0_3 : Nat) (l0_3 : List S70) (a1 : Int) (a2 : Int) (r : Int) (w : World) (hr0_3 : Kd.C k70 w A0_3 l0_3.length l0_3) (hc0_3 : l0_3.length ≤ c0_3) (h : impl_Board_countGames.f k a0_0 a0_1 a0_2 l0_3 a1 a2 = some r) :
    Calls Try.prog 49 #[.agg #[.int .i64 a0_0, .int .i64 a0_1, .int .i64 a0_2, .slice A0_3 l0_3.length c0_3], .int .i64 a1, .int .i64 a2] w fun e w' => e = .returned (.int .i64 r) ∧ Below w.heap.size w w' := by
  unfold impl_Board_countGames.f at h
  by_cases hp : 0 ≤ a0_1 ∧ a0_1 ≤ 8 ∧ a2.toNat ≤ 16
  case neg => rw [if_neg hp] at h; cases h
  rw [if_pos hp] at h
  obtain ⟨x, hx, hr⟩ := Option.map_eq_some_iff.1 h
  have HX := Aside0.mk hx
  have HRR := Aside0.mk hr
  have HP := Aside0.mk hp
  have HR := Aside0.mk hr0_3
  have HC := Aside0.mk hc0_3
  clear h hx hr hp hr0_3 hc0_3
  have hu30 := Try.underlying30
  have hu76 := Try.underlying76
  have HCI : Aside0 (cgI k a0_0 a0_1 a0_2 l0_3 a2.toNat a1 0) := ⟨⟨⟨x, HX.out⟩, rfl⟩⟩
  have EG : Aside0 (∀ args w, (callFunc 70 args).run Try.prog w = .ok (.enter 70 args) w) := ⟨enters_of Try.func70 (by kernel_rfl) rfl⟩
  go_enter Try.func49, Try.ntmps49
  go_wp2_with (first
    | (go_at_call 69; refine calls_at (fun W_ => Below w.heap.size w W_) (by (with_reducible repeat (first | exact Below.refl _ _ | apply below_alloc | apply pw_below_drewN | apply below_drew1)) <;> first | exact Below.refl _ _ | exact Nat.le_refl _) (fun W_ hW_ => ?_); (with_reducible refine (games_way k a0_0 a0_1 a0_2 A0_3 c0_3 l0_3 a1 0 a2 70 #[] EG.out (tvF k a0_0 a0_1 a0_2 l0_3) (fun _ _ _ => 0) (cgI k a0_0 a0_1 a0_2 l0_3) _ (Kd.C_below HR.out hW_) HC.out (cg_way HP.out.1 HP.out.2.1) (unmarked_ok _ _ _ _) HP.out.2.2 HCI.out).mono ?_); rintro e w2 ⟨b, L, rfl, hb0, hm, hmk, hsum, hb⟩; have HM := Aside0.mk hm; have HMK := Aside0.mk hmk; have HSUM := Aside0.mk hsum; have HB := Aside0.mk (below_step hW_ hb); clear hm hmk hsum hb hW_ hb0)
    | ((with_reducible refine gate_dst (N := 12) rfl ?_); refine lookupW (N := 12) (b := b) (L := L) (key := .int .i64 0) rfl rfl _ _ 73 3 3 rfl int_law Try.underlying73 Try.underlying3 zeroI rfl HM.out rfl (int_key (by decide)) ?_; intro c hind hwf; have HIND := Aside0.mk hind; have HWF := Aside0.mk hwf; clear hind hwf))
  go_ret
  have e1 : c = r := by
    have h1 := pick_val (fun y hy => by obtain ⟨m, c', h_, _⟩ := HMK.out y hy; exact ⟨m, c', h_⟩) HIND.out
    have h3 := HSUM.out (fun z : Int => if z = 0 then 1 else 0)
    rw [valG_cgF k a0_0 a0_1 a0_2 l0_3 _ _ _ x HX.out, if_pos rfl, Int.mul_one] at h3
    rw [← h1] at h3
    refine Cg.eq (h3.trans ?_) (inI_of_wf HWF.out) (HRR.out ▸ InI.wrap x)
    rw [← HRR.out]
    exact (Cg.wrap x).symm
  subst e1
  exact ⟨rfl, HB.out⟩

end Go.Proofs.Ytphjhfpeomifiaa.P
