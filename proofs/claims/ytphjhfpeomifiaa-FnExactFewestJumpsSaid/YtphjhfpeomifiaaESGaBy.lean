/- spec.gaBy: how many games go by each number of jumps: what the Go text returns. Boards with at most a thousand squares. -/
import Derived.Test.YtphjhfpeomifiaaETab
import Derived.Test.YtphjhfpeomifiaaP56
import Derived.Test.YtphjhfpeomifiaaP57
namespace Go.Proofs.Ytphjhfpeomifiaa.P
open Go.RowKit Go.Proofs.YtphjhfpeomifiaaW.PrintWords Go.Proofs.YtphjhfpeomifiaaW.PrintLast Go.Proofs.YtphjhfpeomifiaaW.PrintMore
set_option linter.unusedVariables false
set_option linter.unusedSimpArgs false

theorem calls_at2 {P : Program} {f : Nat} {args : Array Value} {W : World} {Q : Ending → World → Prop} (p : World → Prop) (h : p W) (k : ∀ W, p W → Calls P f args W Q) : Calls P f args W Q := k W h
/-- One row is laid onto another, moved by so many. -/
def jRunB (more : Int) : List Int → Nat → List Int → Option (List Int)
  | [], _, y => some y
  | n :: r, j, y => if 0 < n then (if 0 ≤ (j : Int) + more ∧ (j : Int) + more < 18 then jRunB more r (j + 1) (y.set ((j : Int) + more).toNat (wrap64 (rd y ((j : Int) + more) + n))) else none) else jRunB more r (j + 1) y
def fRunB (k : Nat) (s f o : Int) (l : List S70) (rows : List (List Int)) (a : Int) : Nat → Nat → List Int → Option (List Int)
  | 0, _, y => some y
  | d + 1, t, y => (spec_gaJumps.f k s f o l a ((t : Int) + 1)).bind fun more => (spec_sqThrow.f k s f o l a ((t : Int) + 1)).bind fun q => if 0 ≤ q ∧ q ≤ s then (jRunB more (rows.getD q.toNat []) 0 y).bind (fRunB k s f o l rows a d (t + 1)) else none
def rowB (k : Nat) (s f o : Int) (l : List S70) (rows : List (List Int)) (a : Nat) : Option (List Int) := if (a : Int) = s then some (List.replicate 18 0) else fRunB k s f o l rows (a : Int) f.toNat 0 (List.replicate 18 0)
def aRunB (k : Nat) (s f o : Int) (l : List S70) (rows : List (List Int)) : Nat → Nat → List (List Int) → Option (List (List Int))
  | 0, _, nx => some nx
  | d + 1, a, nx => (rowB k s f o l rows a).bind fun y => aRunB k s f o l rows d (a + 1) (nx ++ [y])
def tRunB (k : Nat) (s f o : Int) (l : List S70) : Nat → List (List Int) → Option (List (List Int))
  | 0, rows => some rows
  | n + 1, rows => (aRunB k s f o l rows (s.toNat + 1) 0 []).bind (tRunB k s f o l n)
def zeroB (S : Nat) : List (List Int) := List.replicate (S + 1) (List.replicate 18 0)
def initB (S : Nat) : List (List Int) := (zeroB S).set S ((List.replicate 18 0).set 0 1)
def spec_gaBy.f (k : Nat) (a0_0 : Int) (a0_1 : Int) (a0_2 : Int) (l0_3 : List S70) (a1 : Int) : Option (List Int) := if 1 ≤ a0_0 ∧ a0_0 ≤ 1000 ∧ 0 ≤ a0_1 ∧ a0_1 ≤ 1000 ∧ a1 ≤ 1000 then (tRunB k a0_0 a0_1 a0_2 l0_3 a1.toNat (initB a0_0.toNat)).map (fun rows => (rows.getD 0 []).take 17) else none

theorem fRunB_mono (k : Nat) (s f o : Int) (l : List S70) (rows : List (List Int)) (a : Int) : ∀ d t y, LeO (fRunB k s f o l rows a d t y) (fRunB (k + 1) s f o l rows a d t y)
  | 0, t, y => fun r h => h
  | d + 1, t, y => by
    intro r h
    unfold fRunB at h ⊢
    obtain ⟨more, h1, h⟩ := Option.bind_eq_some_iff.1 h
    obtain ⟨q, h2, h⟩ := Option.bind_eq_some_iff.1 h
    rw [spec_gaJumps.mono _ _ _ _ _ _ _ more h1, Option.bind_some, spec_sqThrow.mono _ _ _ _ _ _ _ q h2, Option.bind_some]
    by_cases hq : 0 ≤ q ∧ q ≤ s
    · rw [if_pos hq] at h ⊢
      obtain ⟨z, h3, h⟩ := Option.bind_eq_some_iff.1 h
      rw [h3, Option.bind_some]
      exact fRunB_mono k s f o l rows a d (t + 1) z r h
    · rw [if_neg hq] at h; cases h
theorem aRunB_mono (k : Nat) (s f o : Int) (l : List S70) (rows : List (List Int)) : ∀ d a nx, LeO (aRunB k s f o l rows d a nx) (aRunB (k + 1) s f o l rows d a nx)
  | 0, a, nx => fun r h => h
  | d + 1, a, nx => by
    intro r h
    unfold aRunB at h ⊢
    obtain ⟨y, h1, h⟩ := Option.bind_eq_some_iff.1 h
    have h2 : rowB (k + 1) s f o l rows a = some y := by
      unfold rowB at h1 ⊢
      by_cases e : (a : Int) = s
      · rw [if_pos e] at h1 ⊢; exact h1
      · rw [if_neg e] at h1 ⊢; exact fRunB_mono k s f o l rows a _ _ _ y h1
    rw [h2, Option.bind_some]
    exact aRunB_mono k s f o l rows d (a + 1) _ r h
theorem tRunB_mono (k : Nat) (s f o : Int) (l : List S70) : ∀ n rows, LeO (tRunB k s f o l n rows) (tRunB (k + 1) s f o l n rows)
  | 0, rows => fun r h => h
  | n + 1, rows => by
    intro r h
    unfold tRunB at h ⊢
    obtain ⟨y, h1, h⟩ := Option.bind_eq_some_iff.1 h
    rw [aRunB_mono k s f o l rows _ _ _ y h1, Option.bind_some]
    exact tRunB_mono k s f o l n y r h
theorem spec_gaBy.mono : ∀ a0 a1 a2 a3 a4 k, LeO (spec_gaBy.f k a0 a1 a2 a3 a4) (spec_gaBy.f (k + 1) a0 a1 a2 a3 a4) := by
  intro a0 a1 a2 a3 a4 k r h
  unfold spec_gaBy.f at h ⊢
  by_cases h1 : 1 ≤ a0 ∧ a0 ≤ 1000 ∧ 0 ≤ a1 ∧ a1 ≤ 1000 ∧ a4 ≤ 1000
  · rw [if_pos h1] at h ⊢
    obtain ⟨x, hx, h⟩ := Option.map_eq_some_iff.1 h
    rw [tRunB_mono _ _ _ _ _ _ _ x hx]
    rw [Option.map_some, h]
  · rw [if_neg h1] at h; cases h

/-- All rows hold eighteen numbers. -/
def Row18 (rows : List (List Int)) : Prop := ∀ r ∈ rows, r.length = 18
theorem jRunB_len {more : Int} : ∀ {r : List Int} {j : Nat} {y z : List Int}, jRunB more r j y = some z → z.length = y.length
  | [], _, y, z, h => by rw [← Option.some.inj h]
  | n :: r, j, y, z, h => by
    unfold jRunB at h
    split at h
    · split at h
      · rw [jRunB_len h, List.length_set]
      · cases h
    · exact jRunB_len h
theorem fRunB_len {k : Nat} {s f o : Int} {l : List S70} {rows : List (List Int)} {a : Int} : ∀ {d t : Nat} {y z : List Int}, fRunB k s f o l rows a d t y = some z → z.length = y.length
  | 0, _, y, z, h => by rw [← Option.some.inj h]
  | d + 1, t, y, z, h => by
    unfold fRunB at h
    obtain ⟨more, h1, h⟩ := Option.bind_eq_some_iff.1 h
    obtain ⟨q, h2, h⟩ := Option.bind_eq_some_iff.1 h
    split at h
    · obtain ⟨u, h3, h⟩ := Option.bind_eq_some_iff.1 h
      rw [fRunB_len h, jRunB_len h3]
    · cases h
theorem rowB_len {k : Nat} {s f o : Int} {l : List S70} {rows : List (List Int)} {a : Nat} {y : List Int} (h : rowB k s f o l rows a = some y) : y.length = 18 := by
  unfold rowB at h
  split at h
  · rw [← Option.some.inj h]; simp
  · rw [fRunB_len h]; simp
theorem Row18.snoc {rows : List (List Int)} (h : Row18 rows) {y : List Int} (hy : y.length = 18) : Row18 (rows ++ [y]) := fun r hr => by
  rcases List.mem_append.1 hr with h1 | h1
  · exact h r h1
  · rw [List.mem_singleton.1 h1]; exact hy
theorem Row18.init (S : Nat) : Row18 (initB S) := fun r hr => by
  rcases List.mem_or_eq_of_mem_set hr with h1 | h1
  · rw [List.eq_of_mem_replicate h1]; simp
  · rw [h1]; simp
theorem info_rowB : (Try.prog.info? 36).map (fun i => (i.zero, i.size, i.bytes)) = some (some (.slice none 0 0), 1, 24) := by kernel_rfl
theorem outC_nilB {gs : List Nat} {n k : Nat} {rows : List (List Int)} (h : gs.length = rows.length) (hk : rows.length ≤ k ∧ k < n) : (outC gs n rows).toArray[k]? = some (.slice none 0 0) := by
  rw [List.getElem?_toArray]
  unfold outC
  rw [List.getElem?_append_right (by simp [h]; omega), List.getElem?_replicate, if_pos (by simp [h]; omega)]
/-- The last row is written. -/
theorem Tab.put_last {W : World} {G n g j : Nat} {gs : List Nat} {rows : List (List Int)} {y : List Int} (h : Tab W G (gs ++ [g]) n (rows ++ [y])) (x : Int) : Tab (W.setCell ⟨g, j, none⟩ (.int .i64 x)) G (gs ++ [g]) n (rows ++ [y.set j x]) := by
  have hl : gs.length = rows.length := by have := h.len; simp at this; exact this
  have h1 := h.put (i := rows.length) (g := g) (j := j) (r := y) (by rw [← hl]; simp) (by simp) x
  rw [List.set_append_right _ _ (Nat.le_refl _), Nat.sub_self, List.set_cons_zero] at h1
  exact h1

end Go.Proofs.Ytphjhfpeomifiaa.P
