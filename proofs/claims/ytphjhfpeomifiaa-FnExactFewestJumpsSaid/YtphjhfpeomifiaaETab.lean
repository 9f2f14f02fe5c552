/- A table of rows of whole numbers that a function makes for itself, in memory: the outer block and the rows' blocks, in the order in which they were made. -/
import Derived.Test.YtphjhfpeomifiaaP
import Derived.OwnWalk
import Derived.Lib.Hide
namespace Go.Proofs.Ytphjhfpeomifiaa.P
open Go.RowKit Go.Proofs.YtphjhfpeomifiaaW.PrintWords Go.Proofs.YtphjhfpeomifiaaW.PrintLast Go.Proofs.YtphjhfpeomifiaaW.PrintMore
set_option linter.unusedVariables false
set_option linter.unusedSimpArgs false

/-- A whole block as a slice. -/
def sl (g n : Nat) : Value := .slice (some ⟨g, 0, none⟩) n n
def rowC (r : List Int) : Array Value := (r.map (Value.int .i64)).toArray
def outC (gs : List Nat) (n : Nat) (rows : List (List Int)) : List Value := List.zipWith (fun g (r : List Int) => sl g r.length) gs rows ++ List.replicate (n - rows.length) (.slice none 0 0)
/-- Block G holds n rows' slices, of which so many are made; block gs[i] holds row i. -/
structure Tab (W : World) (G : Nat) (gs : List Nat) (n : Nat) (rows : List (List Int)) : Prop where
  up : (G :: gs).Pairwise (· < ·)
  len : gs.length = rows.length
  le : rows.length ≤ n
  outer : W.heap[G]? = some (.cells (outC gs n rows).toArray 36 (0, 0))
  row : ∀ (i : Nat) (g : Nat) (r : List Int), gs[i]? = some g → rows[i]? = some r → W.heap[g]? = some (.cells (rowC r) 3 (0, 0))

theorem outC_length {gs : List Nat} {n : Nat} {rows : List (List Int)} (h : gs.length = rows.length) (hn : rows.length ≤ n) : (outC gs n rows).length = n := by simp [outC, h]; omega
theorem Tab.at_row {W : World} {G n : Nat} {gs : List Nat} {rows : List (List Int)} (h : Tab W G gs n rows) {i : Nat} (hi : i < rows.length) : ∃ g, gs[i]? = some g ∧ W.cell? ⟨G, i, none⟩ = some (sl g (rows[i]).length) ∧ W.frozen? ⟨G, i, none⟩ = false := by
  have hg : i < gs.length := by rw [h.len]; exact hi
  refine ⟨gs[i], List.getElem?_eq_getElem hg, ?_, blk_frozen h.outer i⟩
  rw [blk_cell h.outer, List.getElem?_toArray]
  unfold outC
  rw [List.getElem?_append_left (by simp; omega), List.getElem?_zipWith, List.getElem?_eq_getElem hg, List.getElem?_eq_getElem hi]
theorem Tab.at_cell {W : World} {G n : Nat} {gs : List Nat} {rows : List (List Int)} (h : Tab W G gs n rows) {i g j : Nat} {r : List Int} (hg : gs[i]? = some g) (hr : rows[i]? = some r) (hj : j < r.length) :
    W.cell? ⟨g, j, none⟩ = some (.int .i64 (rd r (j : Int))) ∧ W.frozen? ⟨g, j, none⟩ = false := by
  have hb := h.row i g r hg hr
  refine ⟨?_, blk_frozen hb j⟩
  rw [blk_cell hb]
  simp [rowC, rd, hj]
theorem Tab.keep {W W' : World} {G n : Nat} {gs : List Nat} {rows : List (List Int)} (h : Tab W G gs n rows) (hk : ∀ k, k ∈ G :: gs → W'.heap[k]? = W.heap[k]?) : Tab W' G gs n rows :=
  ⟨h.up, h.len, h.le, (hk G (by simp)).trans h.outer, fun i g r hg hr => (hk g (by simp [List.mem_of_getElem? hg])).trans (h.row i g r hg hr)⟩
theorem Tab.same {W W' : World} {G n : Nat} {gs : List Nat} {rows : List (List Int)} (h : Tab W G gs n rows) (e : W'.heap = W.heap) : Tab W' G gs n rows := h.keep (fun k _ => by rw [e])
theorem Tab.lt {W : World} {G n : Nat} {gs : List Nat} {rows : List (List Int)} (h : Tab W G gs n rows) {k : Nat} (hk : k ∈ G :: gs) : k < W.heap.size := by
  rcases List.mem_cons.1 hk with rfl | hk
  · exact blk_lt h.outer
  · obtain ⟨i, hi, rfl⟩ := List.mem_iff_getElem.1 hk
    exact blk_lt (h.row i _ (rows[i]'(by rw [← h.len]; exact hi)) (List.getElem?_eq_getElem hi) (List.getElem?_eq_getElem _))
theorem Tab.ge {W : World} {G n : Nat} {gs : List Nat} {rows : List (List Int)} (h : Tab W G gs n rows) {k : Nat} (hk : k ∈ G :: gs) : G ≤ k := by
  rcases List.mem_cons.1 hk with rfl | hk
  · exact Nat.le_refl _
  · exact Nat.le_of_lt ((List.pairwise_cons.1 h.up).1 k hk)
theorem Tab.below {W W' : World} {G n : Nat} {gs : List Nat} {rows : List (List Int)} (h : Tab W G gs n rows) (hb : Below W.heap.size W W') : Tab W' G gs n rows := h.keep (fun k hk => hb.block k (h.lt hk))
theorem Tab.grown {W W' : World} {G n : Nat} {gs : List Nat} {rows : List (List Int)} (h : Tab W G gs n rows) {row : Option Nat} (hg : W.grownBy W' row) (hn : ∀ k, k ∈ G :: gs → some k ≠ row) : Tab W' G gs n rows := h.keep (fun k hk => hg.block k (h.lt hk) (hn k hk))
theorem Tab.far {W : World} {G n : Nat} {gs : List Nat} {rows : List (List Int)} (h : Tab W G gs n rows) {p : Addr} (u : Value) (hn : ∀ k, k ∈ G :: gs → k ≠ p.block) : Tab (W.setCell p u) G gs n rows := h.keep (fun k hk => Below.heap_setCell W p u k (hn k hk))
theorem rowC_set (r : List Int) (j : Nat) (x : Int) : (rowC r).setIfInBounds j (.int .i64 x) = rowC (r.set j x) := by
  apply Array.ext'
  simp [rowC, List.map_set]
theorem up_ne {G : Nat} {gs : List Nat} (h : (G :: gs).Pairwise (· < ·)) {i j a b : Nat} (ha : gs[i]? = some a) (hb : gs[j]? = some b) (hij : i ≠ j) : a ≠ b := by
  have h2 := (List.pairwise_cons.1 h).2
  rw [List.pairwise_iff_getElem] at h2
  obtain ⟨hi, rfl⟩ := List.getElem?_eq_some_iff.1 ha
  obtain ⟨hj, rfl⟩ := List.getElem?_eq_some_iff.1 hb
  rcases Nat.lt_or_gt_of_ne hij with h | h
  · exact Nat.ne_of_lt (h2 i j hi hj h)
  · exact Ne.symm (Nat.ne_of_lt (h2 j i hj hi h))
theorem Tab.put {W : World} {G n : Nat} {gs : List Nat} {rows : List (List Int)} (h : Tab W G gs n rows) {i g j : Nat} {r : List Int} (hg : gs[i]? = some g) (hr : rows[i]? = some r) (x : Int) :
    Tab (W.setCell ⟨g, j, none⟩ (.int .i64 x)) G gs n (rows.set i (r.set j x)) := by
  have hb := h.row i g r hg hr
  have hi : i < rows.length := (List.getElem?_eq_some_iff.1 hr).1
  have hGg : G ≠ g := Nat.ne_of_lt ((List.pairwise_cons.1 h.up).1 g (List.mem_of_getElem? hg))
  refine ⟨h.up, by rw [List.length_set]; exact h.len, by rw [List.length_set]; exact h.le, ?_, ?_⟩
  · rw [Below.heap_setCell W ⟨g, j, none⟩ _ G hGg, h.outer]
    congr 3
    unfold outC
    rw [List.length_set]
    congr 1
    apply List.ext_getElem?
    intro q
    rw [List.getElem?_zipWith, List.getElem?_zipWith]
    by_cases hq : q = i
    · subst hq
      rw [List.getElem?_set_self hi, hr, hg]
      simp
    · rw [List.getElem?_set_ne (Ne.symm hq)]
  · intro q g' r' hg' hr'
    by_cases hq : q = i
    · subst hq
      obtain rfl : g = g' := Option.some.inj (hg.symm.trans hg')
      rw [List.getElem?_set_self hi] at hr'
      obtain rfl := Option.some.inj hr'
      rw [blk_set hb j, rowC_set]
    · rw [List.getElem?_set_ne (Ne.symm hq)] at hr'
      have hne := up_ne h.up hg' hg hq
      rw [Below.heap_setCell W ⟨g, j, none⟩ _ g' hne]
      exact h.row q g' r' hg' hr'
/-- The outer block as it is made. -/
theorem Tab.made {W : World} {B G n : Nat} (h : W.ownsRow B 36 1 (.slice (some ⟨G, 0, none⟩) n n) n (madeCells (Value.slice none 0 0).cells (n * 1)).toList) : Tab W G [] n [] := by
  refine ⟨by simp, rfl, Nat.zero_le _, ?_, fun i g r hg => by simp at hg⟩
  obtain ⟨_, h2⟩ := h
  rcases h2 with ⟨h3, _⟩ | ⟨g, cap, cur, h3, _, hh, h4, h5, h6, h7⟩
  · cases h3
  · injection h3 with h8 h9 h10
    injection h8 with h8
    injection h8 with h8
    subst h8 h10
    rw [hh]
    have e1 : cur.toList = List.replicate n (Value.slice none 0 0) := by
      rw [show (Value.slice none 0 0).cells = #[.slice none 0 0] from rfl, toList_madeCells_one, List.take_of_length_le (by simp; omega)] at h7
      rw [h7, Nat.mul_one]
    congr 2
    apply Array.ext'
    rw [e1]; simp [outC]
theorem row_made {W : World} {B G m : Nat} (h : W.ownsRow B 3 1 (.slice (some ⟨G, 0, none⟩) m m) m (madeCells (Value.int .i64 0).cells (m * 1)).toList) :
    W.heap[G]? = some (.cells (rowC (List.replicate m 0)) 3 (0, 0)) := by
  obtain ⟨_, h2⟩ := h
  rcases h2 with ⟨h3, _⟩ | ⟨g, cap, cur, h3, _, hh, h4, h5, h6, h7⟩
  · cases h3
  · injection h3 with h8 h9 h10
    injection h8 with h8
    injection h8 with h8
    subst h8 h10
    rw [hh]
    have e1 : cur.toList = List.replicate m (Value.int .i64 0) := by
      rw [show (Value.int .i64 0).cells = #[.int .i64 0] from rfl, toList_madeCells_one, List.take_of_length_le (by simp; omega)] at h7
      rw [h7, Nat.mul_one]
    congr 2
    apply Array.ext'
    rw [e1]; simp [rowC]
/-- One row more. -/
theorem Tab.snoc {W W1 : World} {G n m : Nat} {gs : List Nat} {rows : List (List Int)} (h : Tab W G gs n rows) (hn : rows.length < n) (hg : W.grownBy W1 none) (hr : W1.heap[W.heap.size]? = some (.cells (rowC (List.replicate m 0)) 3 (0, 0))) :
    Tab (W1.setCell ⟨G, rows.length, none⟩ (sl W.heap.size m)) G (gs ++ [W.heap.size]) n (rows ++ [List.replicate m 0]) := by
  have h1 : Tab W1 G gs n rows := h.grown hg (by simp)
  have hlt : ∀ k, k ∈ G :: gs → k < W.heap.size := fun k hk => h.lt hk
  refine ⟨?_, by simp [h.len], by simp; omega, ?_, ?_⟩
  · rw [← List.cons_append, List.pairwise_append]
    exact ⟨h.up, by simp, fun a ha b hb => by rw [List.mem_singleton.1 hb]; exact hlt a ha⟩
  · rw [blk_set h1.outer]
    congr 2
    apply Array.ext'
    rw [Array.toList_setIfInBounds]
    unfold outC
    rw [List.length_append, List.zipWith_append (by rw [h.len])]
    have hz : (List.zipWith (fun g (r : List Int) => sl g r.length) gs rows).length = rows.length := by simp [h.len]
    rw [List.set_append_right _ _ (by rw [hz]; exact Nat.le_refl _), hz, Nat.sub_self, show n - rows.length = (n - (rows.length + 1)) + 1 by omega, List.replicate_succ, List.set_cons_zero]
    simp [List.append_assoc]
  · intro q g r hq hr'
    by_cases hlt' : q < gs.length
    · rw [List.getElem?_append_left hlt'] at hq
      rw [List.getElem?_append_left (by rw [← h.len]; exact hlt')] at hr'
      have hb := h1.row q g r hq hr'
      have hne : g ≠ G := Ne.symm (Nat.ne_of_lt ((List.pairwise_cons.1 h.up).1 g (List.mem_of_getElem? hq)))
      rw [Below.heap_setCell W1 ⟨G, rows.length, none⟩ _ g hne]
      exact hb
    · have hq2 : q = gs.length := by
        have := (List.getElem?_eq_some_iff.1 hq).1
        simp at this; omega
      subst hq2
      rw [List.getElem?_append_right (Nat.le_refl _), Nat.sub_self] at hq
      rw [h.len, List.getElem?_append_right (Nat.le_refl _), Nat.sub_self] at hr'
      simp at hq hr'
      subst hq hr'
      have hne : W.heap.size ≠ G := Ne.symm (Nat.ne_of_lt (hlt G (by simp)))
      rw [Below.heap_setCell W1 ⟨G, rows.length, none⟩ _ _ hne]
      exact hr

end Go.Proofs.Ytphjhfpeomifiaa.P
