/- Tracks with a state: both sides' tests alike. Plain Lean; no Go in it. -/
import Derived.Test.YtcppahkdfajcaaaQState
import Derived.Test.YtcppahkdfajcaaaP76
import Derived.Test.YtcppahkdfajcaaaP75
import Derived.Test.YtcppahkdfajcaaaP81
import Derived.Test.YtcppahkdfajcaaaP105
import Derived.Test.YtcppahkdfajcaaaP82
namespace Go.Proofs.Ytcppahkdfajcaaa.Q
open Go.RowKit Go.Proofs.Ytcppahkdfajcaaa.P Go.Proofs.YtcppahkdfajcaaaW.PrintWords
set_option linter.unusedVariables false
set_option linter.unusedSimpArgs false

structure Small (l3 l4 : List Int) (s : List (List Int)) : Prop where
  k3 : l3.length ≤ 1048576
  k4 : l4.length ≤ 1048576
  ks : s.length ≤ 1048576
  kr : ∀ r ∈ s, r.length ≤ 1048576

structure Facts (a b c : Int) (l3 l4 : List Int) (s : List (List Int)) : Prop where
  fa : 4 ≤ a ∧ a ≤ 60
  fb : 1 ≤ b ∧ b ≤ 8
  fc : 1 ≤ c ∧ c ≤ 4
  fn : 2 ≤ l3.length ∧ l3.length ≤ 4
  fst : ∀ x ∈ l3, 0 ≤ x ∧ x ≤ a - 1
  flen : s.length = l3.length
  frow : ∀ r ∈ s, (r.length : Int) = c ∧ ∀ x ∈ r, -1 ≤ x ∧ x ≤ a
  fal : alone a l3 l4 0 s

theorem good_facts {a b c : Int} {l3 l4 : List Int} (hg : good a b c l3 l4 = true) : (4 ≤ a ∧ a ≤ 60) ∧ (1 ≤ b ∧ b ≤ 8) ∧ (1 ≤ c ∧ c ≤ 4) ∧ (2 ≤ l3.length ∧ l3.length ≤ 4) ∧ (∀ x ∈ l3, 0 ≤ x ∧ x ≤ a - 1) := by
  simp only [good, Bool.and_eq_true] at hg
  have hn := inR_iff.1 hg.2.2.2.1
  refine ⟨inR_iff.1 hg.1, inR_iff.1 hg.2.1, inR_iff.1 hg.2.2.1, by omega, fun x hx => inR_iff.1 (List.all_eq_true.1 hg.2.2.2.2.1 x hx)⟩

theorem facts_of {a b c : Int} {l3 l4 : List Int} {s : List (List Int)} (hg : good a b c l3 l4 = true) (hs : stateB a c l3 l4 s = true) : Facts a b c l3 l4 s := by
  obtain ⟨h1, h2, h3, h4, h5⟩ := good_facts hg
  unfold stateB at hs
  split at hs
  · rename_i hl
    obtain ⟨i1, i2, _⟩ := (stRows_iff s 0 _ (fun q o h => by cases h)).1 hs
    exact ⟨h1, h2, h3, h4, h5, hl, fun r hr => ⟨(i1 r hr).1, fun x hx => inR_iff.1 ((i1 r hr).2 x hx)⟩, i2⟩
  · cases hs

variable {a b c : Int} {l3 l4 : List Int} {s : List (List Int)}
theorem isTracked_ans (z : Small l3 l4 s) : Ans (fun k => impl_isTracked.f k a b c l3 l4 s) (good a b c l3 l4 && stateB a c l3 l4 s) := by
  unfold impl_isTracked.f
  refine Ans.bind (IsTrack_ans z.k3 z.k4) ?_
  cases hg : good a b c l3 l4 with
  | true => exact Ans.iteP rfl ((Ans.pbind (isState_val hg) (Ans.now rfl)).val (by simp))
  | false => exact Ans.iteN (by simp) (Ans.now (by simp))

theorem isPlayer_val (h : l3.length ≤ 1048576) (x : Int) : impl_Track_isPlayer.f a b c l3 l4 x = some (inR x 0 ((l3.length : Int) - 1)) := by
  unfold impl_Track_isPlayer.f
  rw [wrap_of (x := (l3.length : Int) - 1) (by omega) (by omega)]
  rw [show impl_within.f x 0 ((l3.length : Int) - 1) = some (inR x 0 ((l3.length : Int) - 1)) from inR_eq _ _ _]
  rfl

theorem trPlayer_ans (z : Small l3 l4 s) (p : Int) : Ans (fun k => spec_trPlayer.f k a b c l3 l4 s p) (good a b c l3 l4 && (stateB a c l3 l4 s && inR p 0 ((l3.length : Int) - 1))) := by
  have hz := z.k3
  unfold spec_trPlayer.f
  refine Ans.bind (trGood_ans z.k3 z.k4) ?_
  cases hg : good a b c l3 l4 with
  | false => exact Ans.iteN (by simp) (Ans.now (by simp))
  | true =>
    refine Ans.iteP rfl ?_
    refine Ans.bind (trState_ans hg z.k4 z.ks z.kr) ?_
    cases hs : stateB a c l3 l4 s with
    | false => exact Ans.iteN (by simp) (Ans.now (by simp))
    | true =>
      refine Ans.iteP rfl ?_
      rw [wrap_of (x := (l3.length : Int) - 1) (by omega) (by omega)]
      exact (Ans.pbind (l1In_inR _ _ _) (Ans.now rfl)).val (by simp)

def moveB (b c : Int) (l3 : List Int) (p t f : Int) : Bool := inR p 0 ((l3.length : Int) - 1) && (inR t 0 (c - 1) && inR f 1 b)
theorem trMove_val (h : l3.length ≤ 1048576) (hc : 1 ≤ c ∧ c ≤ 4) (p t f : Int) : spec_trMove.f a b c l3 l4 p t f = some (moveB b c l3 p t f) := by
  unfold spec_trMove.f moveB
  rw [wrap_of (x := (l3.length : Int) - 1) (by omega) (by omega), wrap_of (x := c - 1) (by omega) (by omega), l1In_inR, l1In_inR, l1In_inR]
  cases inR p 0 ((l3.length : Int) - 1) <;> cases inR t 0 (c - 1) <;> simp
theorem isMove_val (h : l3.length ≤ 1048576) (hc : 1 ≤ c ∧ c ≤ 4) (p t f : Int) : impl_Track_isMove.f a b c l3 l4 p t f = some (moveB b c l3 p t f) := by
  unfold impl_Track_isMove.f moveB
  rw [isPlayer_val h, wrap_of (x := c - 1) (by omega) (by omega), show impl_within.f t 0 (c - 1) = some (inR t 0 (c - 1)) from inR_eq _ _ _, show impl_within.f f 1 b = some (inR f 1 b) from inR_eq _ _ _]
  cases inR p 0 ((l3.length : Int) - 1) <;> cases inR t 0 (c - 1) <;> simp

theorem trAsked_ans (z : Small l3 l4 s) (p t f : Int) : Ans (fun k => spec_trAsked.f k a b c l3 l4 s p t f) (good a b c l3 l4 && (stateB a c l3 l4 s && moveB b c l3 p t f)) := by
  unfold spec_trAsked.f
  refine Ans.bind (trGood_ans z.k3 z.k4) ?_
  cases hg : good a b c l3 l4 with
  | false => exact Ans.iteN (by simp) (Ans.now (by simp))
  | true =>
    refine Ans.iteP rfl ?_
    refine Ans.bind (trState_ans hg z.k4 z.ks z.kr) ?_
    cases hs : stateB a c l3 l4 s with
    | false => exact Ans.iteN (by simp) (Ans.now (by simp))
    | true =>
      refine Ans.iteP rfl ?_
      exact (Ans.pbind (trMove_val z.k3 (good_facts hg).2.2.1 p t f) (Ans.now rfl)).val (by simp)

/-- A token can go. -/
def canB (a b x f : Int) : Bool := if x = -1 then f == b else if x = a then false else decide (x + f ≤ a)
theorem can_val (F : Facts a b c l3 l4 s) {x f : Int} (hx : -1 ≤ x ∧ x ≤ a) (hf : 1 ≤ f ∧ f ≤ b) : spec_trCan.f a b c l3 l4 x f = some (canB a b x f) := by
  have ha := F.fa
  have hb := F.fb
  unfold spec_trCan.f canB
  by_cases h1 : x = -1
  · rw [if_pos (by omega), if_pos h1]
  · rw [if_neg (by omega), if_neg h1]
    by_cases h2 : x = a
    · rw [if_neg (by omega), if_pos h2]
    · rw [if_pos (by omega), if_neg h2, wrap_of (by omega) (by omega)]
/-- The steps of a token behind a face. -/
def stepB (a x f : Int) : Int := if x = -1 then 0 else if x = a then 0 else x + f
theorem goes_val (F : Facts a b c l3 l4 s) {x f : Int} (hx : -1 ≤ x ∧ x ≤ a) (hf : 1 ≤ f ∧ f ≤ b) : impl_Track_goes.f a b c l3 l4 x f = some (stepB a x f, canB a b x f) := by
  have ha := F.fa
  have hb := F.fb
  unfold impl_Track_goes.f canB stepB
  by_cases h1 : x = -1
  · rw [if_pos h1, if_pos h1, if_pos h1]
  · rw [if_neg h1, if_neg h1, if_neg h1]
    by_cases h2 : x = a
    · rw [if_pos h2, if_pos h2, if_pos h2]
    · rw [if_neg h2, if_neg h2, if_neg h2, wrap_of (by omega) (by omega)]

theorem row_at (F : Facts a b c l3 l4 s) {p : Int} (hp : inR p 0 ((l3.length : Int) - 1) = true) : 0 ≤ p ∧ p < (s.length : Int) ∧ (((rd_L1 s p).length : Int) = c ∧ ∀ x ∈ rd_L1 s p, -1 ≤ x ∧ x ≤ a) := by
  have h := inR_iff.1 hp
  have hl := F.flen
  refine ⟨h.1, by omega, ?_⟩
  obtain ⟨n, rfl⟩ : ∃ n : Nat, p = (n : Int) := ⟨p.toNat, by omega⟩
  have hn : n < s.length := by omega
  rw [rdL_at hn]
  exact F.frow _ (List.getElem_mem hn)
theorem tok_at {r : List Int} {t : Int} (h0 : 0 ≤ t) (h1 : t < (r.length : Int)) : rd r t ∈ r := by
  obtain ⟨n, rfl⟩ : ∃ n : Nat, t = (n : Int) := ⟨t.toNat, by omega⟩
  have hn : n < r.length := by omega
  rw [rd_at hn]; exact List.getElem_mem hn

end Go.Proofs.Ytcppahkdfajcaaa.Q
