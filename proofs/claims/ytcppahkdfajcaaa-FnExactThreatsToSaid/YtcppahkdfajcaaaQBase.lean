/- A number between two others, as a truth value. No Go in it. -/
import Derived.Test.YtcppahkdfajcaaaWWords
import Derived.Test.YtcppahkdfajcaaaWNEv
namespace Go.Proofs.Ytcppahkdfajcaaa.Q
/-- Does x lie between two numbers. -/
def inR (x lo hi : Int) : Bool := decide (lo ≤ x) && decide (x ≤ hi)
theorem inR_iff {x lo hi : Int} : inR x lo hi = true ↔ lo ≤ x ∧ x ≤ hi := by simp [inR]
theorem inR_eq (x lo hi : Int) : (if x ≥ lo then some (decide (x ≤ hi)) else some false) = some (inR x lo hi) := by
  unfold inR
  by_cases h : x ≥ lo
  · rw [if_pos h]; simp [show lo ≤ x from h]
  · rw [if_neg h]; simp [show ¬ lo ≤ x from h]
end Go.Proofs.Ytcppahkdfajcaaa.Q
namespace Go.Proofs.Ytcppahkdfajcaaa.Q
open Go.RowKit Go.Proofs.YtcppahkdfajcaaaW.PrintWords
set_option linter.unusedVariables false

theorem wrap_of {x : Int} (h1 : -9223372036854775808 ≤ x) (h2 : x ≤ 9223372036854775807) : wrap64 x = x := by unfold wrap64; omega
theorem wrap_succ {i n : Nat} (h : i < n) (hn : n ≤ 9223372036854775807) : wrap64 ((i : Int) + 1) = ((i + 1 : Nat) : Int) := by rw [wrap_of (by omega) (by omega)]; omega
theorem rd_at {l : List Int} {i : Nat} (h : i < l.length) : rd l (i : Int) = l[i] := by simp [rd, h]
theorem drop_at {α : Type} {l : List α} {i : Nat} (h : i < l.length) : l.drop i = l[i] :: l.drop (i + 1) := List.drop_eq_getElem_cons h

/-- From some number of rounds on, it answers r. -/
def Ans {α : Type} (g : Nat → Option α) (r : α) : Prop := ∃ K, ∀ k, K ≤ k → g k = some r
theorem Ans.now {α : Type} {r : α} {x : Option α} (h : x = some r) : Ans (fun _ => x) r := ⟨0, fun _ _ => h⟩
theorem Ans.at_ {α : Type} {g : Nat → Option α} {r : α} (h : Ans g r) : ∃ k, g k = some r := by obtain ⟨K, h⟩ := h; exact ⟨K, h K (Nat.le_refl _)⟩
theorem Ans.both {α β : Type} {g : Nat → Option α} {f : Nat → Option β} {a : α} {b : β} (h : Ans g a) (k : Ans f b) : ∃ K, ∀ k, K ≤ k → g k = some a ∧ f k = some b := by
  obtain ⟨K, h⟩ := h; obtain ⟨K', k⟩ := k
  exact ⟨max K K', fun n hn => ⟨h n (by omega), k n (by omega)⟩⟩
theorem Ans.bind {α β : Type} {g : Nat → Option α} {f : Nat → α → Option β} {a : α} {r : β} (h : Ans g a) (k : Ans (fun n => f n a) r) : Ans (fun n => (g n).bind (f n)) r := by
  obtain ⟨K, h⟩ := h; obtain ⟨K', k⟩ := k
  refine ⟨max K K', fun n hn => ?_⟩
  have h1 := h n (by omega); have h2 := k n (by omega)
  simp only [h1, Option.bind_some]; exact h2
theorem Ans.pbind {α β : Type} {x : Option α} {f : Nat → α → Option β} {a : α} {r : β} (h : x = some a) (k : Ans (fun n => f n a) r) : Ans (fun n => x.bind (f n)) r := by
  obtain ⟨K', k⟩ := k
  exact ⟨K', fun n hn => by rw [h]; exact k n hn⟩
theorem Ans.step {α : Type} {g f : Nat → Option α} {r : α} (h : ∀ k, g (k + 1) = f k) (k : Ans f r) : Ans g r := by
  obtain ⟨K, k⟩ := k
  refine ⟨K + 1, fun n hn => ?_⟩
  obtain ⟨m, rfl⟩ : ∃ m, n = m + 1 := ⟨n - 1, by omega⟩
  rw [h]; exact k m (by omega)
theorem Ans.congr {α : Type} {g f : Nat → Option α} {r : α} (h : ∀ k, g k = f k) (k : Ans f r) : Ans g r := by
  obtain ⟨K, k⟩ := k
  exact ⟨K, fun n hn => (h n).trans (k n hn)⟩
theorem Ans.val {α : Type} {g : Nat → Option α} {r s : α} (h : Ans g r) (e : r = s) : Ans g s := e ▸ h
theorem Ans.iteP {α : Type} {c : Prop} [Decidable c] {g f : Nat → Option α} {r : α} (h : c) (k : Ans g r) : Ans (fun n => if c then g n else f n) r := by
  obtain ⟨K, k⟩ := k
  exact ⟨K, fun n hn => (if_pos h).trans (k n hn)⟩
theorem Ans.iteN {α : Type} {c : Prop} [Decidable c] {g f : Nat → Option α} {r : α} (h : ¬ c) (k : Ans f r) : Ans (fun n => if c then g n else f n) r := by
  obtain ⟨K, k⟩ := k
  exact ⟨K, fun n hn => (if_neg h).trans (k n hn)⟩
theorem Ans.ite {α : Type} {c : Prop} [Decidable c] {g f : Nat → Option α} {r : α} (h1 : c → Ans g r) (h2 : ¬ c → Ans f r) : Ans (fun n => if c then g n else f n) r := by
  by_cases h : c
  · exact Ans.iteP h (h1 h)
  · exact Ans.iteN h (h2 h)
/-- A loop over places 0, 1, .. up to n, from place i on, in a state. -/
theorem loop_ans {σ β : Type} (n : Nat) (G : Nat → Nat → σ → Option β) (Inv : Nat → σ → Prop) (val : Nat → σ → β)
    (hend : ∀ s, Inv n s → ∀ k, G (k + 1) n s = some (val n s))
    (hstep : ∀ i s, i < n → Inv i s → ∀ k, (∀ s', Inv (i + 1) s' → G k (i + 1) s' = some (val (i + 1) s')) → G (k + 1) i s = some (val i s)) :
    ∀ d i s, i + d = n → Inv i s → ∀ k, d < k → G k i s = some (val i s) := by
  intro d
  induction d with
  | zero =>
    intro i s hi hs k hk
    obtain ⟨k, rfl⟩ : ∃ m, k = m + 1 := ⟨k - 1, by omega⟩
    obtain rfl : i = n := by omega
    exact hend s hs k
  | succ d ih =>
    intro i s hi hs k hk
    obtain ⟨k, rfl⟩ : ∃ m, k = m + 1 := ⟨k - 1, by omega⟩
    exact hstep i s (by omega) hs k (fun s' hs' => ih (i + 1) s' (by omega) hs' k (by omega))

/-- The same where a round asks for answers of others. -/
theorem loop_Ans {σ β : Type} (n : Nat) (G : Nat → Nat → σ → Option β) (Inv : Nat → σ → Prop) (val : Nat → σ → β)
    (hend : ∀ s, Inv n s → Ans (fun k => G k n s) (val n s))
    (hstep : ∀ i s, i < n → Inv i s → (∀ s', Inv (i + 1) s' → Ans (fun k => G k (i + 1) s') (val (i + 1) s')) → Ans (fun k => G k i s) (val i s)) :
    ∀ i s, i ≤ n → Inv i s → Ans (fun k => G k i s) (val i s) := by
  intro i
  obtain ⟨d, hd⟩ : ∃ d, n - i = d := ⟨_, rfl⟩
  induction d generalizing i with
  | zero =>
    intro s hi hs
    obtain rfl : i = n := by omega
    exact hend s hs
  | succ d ih => exact fun s hi hs => hstep i s (by omega) hs (fun s' hs' => ih (i + 1) (by omega) s' (by omega) hs')

/-- At all places from i on, below n. -/
def allFrom (p : Nat → Bool) (n i : Nat) : Bool := ((List.range n).drop i).all p
theorem allFrom_end {p : Nat → Bool} {n : Nat} : allFrom p n n = true := by unfold allFrom; rw [List.drop_of_length_le (by simp)]; rfl
theorem allFrom_step {p : Nat → Bool} {n i : Nat} (h : i < n) : allFrom p n i = (p i && allFrom p n (i + 1)) := by
  unfold allFrom
  rw [drop_at (l := List.range n) (by simpa using h)]
  simp
theorem allFrom_iff {p : Nat → Bool} {n i : Nat} : allFrom p n i = true ↔ ∀ j, i ≤ j → j < n → p j = true := by
  unfold allFrom
  rw [List.all_eq_true]
  constructor
  · intro h j h1 h2
    refine h j ?_
    rw [List.mem_iff_getElem]
    exact ⟨j - i, by simp; omega, by simp; omega⟩
  · intro h x hx
    obtain ⟨k, hk, rfl⟩ := List.mem_iff_getElem.1 hx
    simp at hk
    simp only [List.getElem_drop, List.getElem_range]
    exact h _ (by omega) (by omega)
theorem all_allFrom {α : Type} (l : List α) (q : α → Bool) (d : α) : l.all q = allFrom (fun i => q (l.getD i d)) l.length 0 := by
  rw [Bool.eq_iff_iff, allFrom_iff, List.all_eq_true]
  constructor
  · intro h j _ hj
    simp only [List.getD_eq_getElem?_getD, List.getElem?_eq_getElem hj, Option.getD_some]
    exact h _ (List.getElem_mem hj)
  · intro h x hx
    obtain ⟨j, hj, rfl⟩ := List.mem_iff_getElem.1 hx
    have := h j (by omega) hj
    simpa [List.getD_eq_getElem?_getD, List.getElem?_eq_getElem hj] using this
end Go.Proofs.Ytcppahkdfajcaaa.Q
