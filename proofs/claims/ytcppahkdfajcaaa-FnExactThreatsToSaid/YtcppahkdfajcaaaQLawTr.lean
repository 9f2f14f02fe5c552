/- What the laws' helpers on a []int result answer: equality with itself, marking, and what is held. Plain Lean; no Go in it. -/
import Derived.Test.YtcppahkdfajcaaaQBase
import Derived.Test.YtcppahkdfajcaaaP63
import Derived.Test.YtcppahkdfajcaaaP47
import Derived.Test.YtcppahkdfajcaaaP47
import Derived.Test.YtcppahkdfajcaaaELawKit
import Derived.Test.YtcppahkdfajcaaaQPlay
import Derived.Test.YtcppahkdfajcaaaP47
import Derived.Test.YtcppahkdfajcaaaP37
import Derived.Test.YtcppahkdfajcaaaP86
import Derived.Test.YtcppahkdfajcaaaP80
import Derived.Test.YtcppahkdfajcaaaP79
import Derived.Test.YtcppahkdfajcaaaEGoToken
import Derived.Test.YtcppahkdfajcaaaETrGo
namespace Go.Proofs.Ytcppahkdfajcaaa.Q
open Go.RowKit Go.Proofs.Ytcppahkdfajcaaa.P Go.Proofs.YtcppahkdfajcaaaW.PrintWords
set_option linter.unusedVariables false
set_option linter.unusedSimpArgs false

theorem Ans.mono {α : Type} {g : Nat → Option α} {r : α} (K : Nat) (h : ∀ k, LeO (g k) (g (k + 1))) (hK : g K = some r) : Ans g r := by
  refine ⟨K, fun k hk => ?_⟩
  obtain ⟨d, rfl⟩ : ∃ d, k = K + d := ⟨k - K, by omega⟩
  clear hk
  induction d with
  | zero => exact hK
  | succ d ih => exact h _ _ ih

theorem eqIntS_self {l : List Int} (hl : l.length ≤ 9223372036854775807) : Ans (fun k => laws_eqIntS.f k l l) true := by
  refine ⟨l.length + 1, fun k hk => ?_⟩
  show laws_eqIntS.f k l l = some true
  unfold laws_eqIntS.f
  rw [if_pos rfl]
  refine loop_ans l.length (fun k i (_ : Unit) => laws_eqIntS.l0 k l l (i : Int)) (fun _ _ => True) (fun _ _ => true) ?_ ?_ l.length 0 () (by omega) trivial k (by omega)
  · intro s _ k
    simp only [laws_eqIntS.l0]
    rw [if_neg (by omega)]
  · intro i s hi _ k ih
    simp only [laws_eqIntS.l0]
    rw [if_pos (by omega), if_pos (by omega), if_pos (by omega), if_pos trivial, wrap_succ hi hl]
    exact ih () trivial

/-- The marks a, a + 1, .. -/
def mkI (a : Int) (n : Nat) : List Int := (List.range n).map fun i : Nat => a + (i : Int)
theorem mkI_length (a : Int) (n : Nat) : (mkI a n).length = n := by simp [mkI]
theorem mkI_rd {a : Int} {n i : Nat} (h : i < n) : rd (mkI a n) (i : Int) = a + i := by simp [rd, mkI, h]
theorem markIntS_from {l : List Int} {a : Int} (h0 : 0 ≤ a) (h1 : a ≤ 1000000000000000000) (hl : l.length ≤ 1000000000000000000) : Ans (fun k => laws_markIntS.f k l a) (a + (l.length : Int), mkI a l.length) := by
  unfold laws_markIntS.f
  refine loop_Ans l.length (fun k i (s : List Int) => laws_markIntS.l0 k s (a + (i : Int)) (i : Int)) (fun i s => s = mkI a i ++ l.drop i) (fun _ _ => (a + (l.length : Int), mkI a l.length)) ?_ ?_ 0 l (by omega) (by simp [mkI]) |> fun h => by simpa using h
  · rintro s rfl
    refine Ans.step (f := fun k => some (a + (l.length : Int), mkI a l.length)) (fun k => ?_) (Ans.now rfl)
    have e : (mkI a l.length ++ l.drop l.length) = mkI a l.length := by simp
    rw [e]
    simp only [laws_markIntS.l0]
    rw [if_neg (by rw [mkI_length]; omega)]
  · rintro i s hi rfl ih
    have hlen : (mkI a i ++ l.drop i).length = l.length := by simp [mkI_length]; omega
    refine Ans.step (f := fun k => laws_markIntS.l0 k (mkI a (i + 1) ++ l.drop (i + 1)) (a + ((i + 1 : Nat) : Int)) ((i + 1 : Nat) : Int)) (fun k => ?_) (ih _ rfl)
    simp only [laws_markIntS.l0]
    rw [if_pos (by rw [hlen]; omega), if_pos (by omega), wrap_succ hi (by omega), wrap_of (x := a + (i : Int) + 1) (by omega) (by omega), show a + (i : Int) + 1 = a + ((i + 1 : Nat) : Int) by omega]
    congr 1
    rw [Int.toNat_natCast, List.set_append_right _ _ (by rw [mkI_length]; exact Nat.le_refl _), mkI_length, Nat.sub_self, drop_at hi, List.set_cons_zero]
    simp [mkI, List.range_succ]
theorem heldIntS_from {a : Int} {n : Nat} (h0 : 0 ≤ a) (h1 : a ≤ 1000000000000000000) (hn : n ≤ 1000000000000000000) : Ans (fun k => laws_heldIntS.f k (mkI a n) a) (a + (n : Int)) := by
  unfold laws_heldIntS.f
  refine loop_Ans n (fun k i (_ : Unit) => laws_heldIntS.l0 k (mkI a n) (a + (i : Int)) (i : Int)) (fun _ _ => True) (fun _ _ => a + (n : Int)) ?_ ?_ 0 () (by omega) trivial |> fun h => by simpa using h
  · rintro s _
    refine Ans.step (f := fun k => some (a + (n : Int))) (fun k => ?_) (Ans.now rfl)
    simp only [laws_heldIntS.l0]
    rw [if_neg (by rw [mkI_length]; omega)]
  · rintro i s hi _ ih
    refine Ans.step (f := fun k => laws_heldIntS.l0 k (mkI a n) (a + ((i + 1 : Nat) : Int)) ((i + 1 : Nat) : Int)) (fun k => ?_) (ih () trivial)
    simp only [laws_heldIntS.l0]
    rw [if_pos (by rw [mkI_length]; omega), if_pos (by omega), mkI_rd hi, if_pos rfl, wrap_succ hi (by omega), wrap_of (x := a + (i : Int) + 1) (by omega) (by omega), show a + (i : Int) + 1 = a + ((i + 1 : Nat) : Int) by omega]
theorem markIntS_ans {l : List Int} (hl : l.length ≤ 1000000000000000000) : Ans (fun k => laws_markIntS.f k l 1) (1 + (l.length : Int), mkI 1 l.length) := markIntS_from (by omega) (by omega) hl
theorem heldIntS_ans {n : Nat} (hn : n ≤ 1000000000000000000) : Ans (fun k => laws_heldIntS.f k (mkI 1 n) 1) (1 + (n : Int)) := heldIntS_from (by omega) (by omega) hn
end Go.Proofs.Ytcppahkdfajcaaa.Q
namespace Go.Proofs.Ytcppahkdfajcaaa.Q
open Go.RowKit Go.Proofs.Ytcppahkdfajcaaa.P Go.Proofs.YtcppahkdfajcaaaW.PrintWords
set_option linter.unusedVariables false
set_option linter.unusedSimpArgs false

theorem markTrack_ans {a b c : Int} {l3 l4 : List Int} (h3 : l3.length ≤ 1048576) (h4 : l4.length ≤ 1048576) : Ans (fun k => laws_markTrack.f k a b c l3 l4 1) (1 + (l3.length : Int) + (l4.length : Int), mkI 1 l3.length, mkI (1 + (l3.length : Int)) l4.length) := by
  unfold laws_markTrack.f
  exact Ans.bind (markIntS_ans (by omega)) (Ans.bind (markIntS_from (by omega) (by omega) (by omega)) (Ans.now rfl))

def mkSS : Int → List (List Int) → Int × List (List Int)
  | a, [] => (a, [])
  | a, r :: rs => ((mkSS (a + (r.length : Int)) rs).1, mkI a r.length :: (mkSS (a + (r.length : Int)) rs).2)
theorem mkSS_ge : ∀ (s : List (List Int)) (a : Int), a ≤ (mkSS a s).1
  | [], a => Int.le_refl _
  | r :: rs, a => by have := mkSS_ge rs (a + (r.length : Int)); show a ≤ (mkSS (a + (r.length : Int)) rs).1; omega
theorem mkSS_length : ∀ (s : List (List Int)) (a : Int), (mkSS a s).2.length = s.length
  | [], a => rfl
  | r :: rs, a => by show (mkSS (a + (r.length : Int)) rs).2.length + 1 = rs.length + 1; rw [mkSS_length rs]
theorem markIntSS_from : ∀ (s : List (List Int)) (a : Int), 0 ≤ a → a + (s.length : Int) * 1048576 ≤ 1000000000000000000 → (∀ r ∈ s, r.length ≤ 1048576) → Ans (fun k => laws_markIntSS.f k s a) (mkSS a s)
  | [], a, _, _, _ => Ans.now rfl
  | r :: rs, a, h0, h1, hr => by
    have hl := hr r (by simp)
    rw [List.length_cons] at h1
    refine Ans.congr (f := fun k => (laws_markIntS.f k r a).bind fun p => (laws_markIntSS.f k rs p.1).bind fun q => some (q.1, p.2 :: q.2)) (fun k => rfl) ?_
    exact Ans.bind (markIntS_from h0 (by omega) (by omega)) (Ans.bind (markIntSS_from rs (a + (r.length : Int)) (by omega) (by omega) (fun x hx => hr x (by simp [hx]))) (Ans.now rfl))
theorem heldSS_l0 : ∀ (rest done : List (List Int)) (x : Int), 0 ≤ x → x + (rest.length : Int) * 1048576 ≤ 1000000000000000000 → (∀ r ∈ rest, r.length ≤ 1048576) → done.length + rest.length ≤ 1000000000000000000 →
    Ans (fun k => laws_heldIntSS.l0 k (done ++ (mkSS x rest).2) x (done.length : Int)) (mkSS x rest).1
  | [], done, x, h0, h1, hr, hd => by
    refine Ans.step (f := fun k => some x) (fun k => ?_) (Ans.now rfl)
    simp only [laws_heldIntSS.l0, mkSS, List.append_nil]
    rw [if_neg (by omega)]
  | r :: rs, done, x, h0, h1, hr, hd => by
    have hl := hr r (by simp)
    rw [List.length_cons] at h1 hd
    have ih := heldSS_l0 rs (done ++ [mkI x r.length]) (x + (r.length : Int)) (by omega) (by omega) (fun y hy => hr y (by simp [hy])) (by rw [List.length_append]; simp; omega)
    have e1 : done ++ [mkI x r.length] ++ (mkSS (x + (r.length : Int)) rs).2 = done ++ (mkSS x (r :: rs)).2 := by rw [List.append_assoc]; rfl
    rw [e1] at ih
    have e2 : rd_L1 (done ++ (mkSS x (r :: rs)).2) (done.length : Int) = mkI x r.length := by simp [rd_L1, rdOf, mkSS]
    have e3 : (((done ++ [mkI x r.length]).length : Nat) : Int) = wrap64 ((done.length : Int) + 1) := by rw [wrap_of (by omega) (by omega), List.length_append]; simp
    rw [e3] at ih
    refine Ans.step (f := fun k => (laws_heldIntS.f k (mkI x r.length) x).bind fun t428 => if t428 < 0 then some (-1) else laws_heldIntSS.l0 k (done ++ (mkSS x (r :: rs)).2) t428 (wrap64 ((done.length : Int) + 1))) (fun k => ?_) (Ans.bind (heldIntS_from h0 (by omega) (by omega)) (Ans.iteN (by omega) ih))
    simp only [laws_heldIntSS.l0]
    rw [if_pos (by rw [List.length_append, mkSS_length]; simp; omega), if_pos (by omega), e2]
theorem markIntSS_ans {s : List (List Int)} {a : Int} (h0 : 0 ≤ a) (h1 : a ≤ 1000000000000000) (hs : s.length ≤ 1048576) (hr : ∀ r ∈ s, r.length ≤ 1048576) : Ans (fun k => laws_markIntSS.f k s a) (mkSS a s) := markIntSS_from s a h0 (by omega) hr
theorem heldIntSS_ans {s : List (List Int)} {a : Int} (h0 : 0 ≤ a) (h1 : a ≤ 1000000000000000) (hs : s.length ≤ 1048576) (hr : ∀ r ∈ s, r.length ≤ 1048576) : Ans (fun k => laws_heldIntSS.f k (mkSS a s).2 a) (mkSS a s).1 := heldSS_l0 s [] a h0 (by omega) hr (by simp; omega)
end Go.Proofs.Ytcppahkdfajcaaa.Q
namespace Go.Proofs.Ytcppahkdfajcaaa.Q
open Go.RowKit Go.Proofs.Ytcppahkdfajcaaa.P Go.Proofs.YtcppahkdfajcaaaW.PrintWords
set_option linter.unusedVariables false
set_option linter.unusedSimpArgs false

theorem tokensAt_ans {a b c : Int} {l3 l4 : List Int} {s : List (List Int)} {q : Int} (ha : a ≠ 0) (h3 : s.length ≤ l3.length) (h4 : s.length ≤ 4) (hs : ∀ r ∈ s, r.length ≤ 4) :
    Ans (fun k => impl_Track_tokensAt.f k a b c l3 l4 s q) (atL a l3 q 0 s) := by
  unfold impl_Track_tokensAt.f
  refine (loop_Ans s.length (fun k i y => impl_Track_tokensAt.l0 k q y s s.length (i : Int) a b c l3 l4) (fun i y => y.length ≤ 4 * i) (fun i y => y ++ atL a l3 q i (s.drop i)) ?_ ?_ 0 [] (by omega) (by simp)).val (by simp)
  · intro y hy
    refine Ans.step (fun k => impl_Track_tokensAt.l0.eq_2 ..) ?_
    refine Ans.iteN (by omega) (Ans.now ?_)
    rw [List.drop_length, atL, List.append_nil]
  · intro i y hi hy ih
    refine Ans.step (fun k => impl_Track_tokensAt.l0.eq_2 ..) ?_
    refine Ans.iteP (by omega) (Ans.iteP (by omega) (Ans.iteP (by omega) ?_))
    rw [rdL_at hi, drop_at hi, atL]
    have hr4 := hs s[i] (List.getElem_mem hi)
    generalize s[i] = row at hr4
    refine (loop_Ans row.length (fun k j z => impl_Track_tokensAt.l1 k q z (i : Int) s s.length (i : Int) row row.length (j : Int) a b c l3 l4) (fun j z => z.length ≤ 4 * i + j) (fun j z => z ++ (atRowL a l3 q (i : Int) j (row.drop j) ++ atL a l3 q (i + 1) (s.drop (i + 1)))) ?_ ?_ 0 y (by omega) (by have hy' : y.length ≤ 4 * i := hy; omega)).val (by simp)
    · intro z hz
      have hz' : z.length ≤ 4 * i + row.length := hz
      refine Ans.step (fun k => impl_Track_tokensAt.l1.eq_2 ..) ?_
      refine Ans.iteN (by omega) ?_
      rw [List.drop_length, atRowL, List.nil_append, wrap_succ hi (by omega)]
      exact ih z (by show z.length ≤ 4 * (i + 1); omega)
    · intro j z hj hz ih2
      have hz' : z.length ≤ 4 * i + j := hz
      refine Ans.step (fun k => impl_Track_tokensAt.l1.eq_2 ..) ?_
      refine Ans.iteP (by omega) (Ans.iteP (by omega) (Ans.iteP (by omega) ?_))
      refine Ans.pbind (square_sqOf (by omega) (by omega) ha) ?_
      rw [rd_at hj, drop_at hj, atRowL, wrap_succ hj (by omega)]
      refine Ans.ite (fun h => ?_) (fun h => ?_)
      · rw [if_pos h]
        refine Ans.iteP (by omega) ?_
        refine (ih2 (z ++ [[(i : Int), (j : Int)]]) (by show (z ++ _).length ≤ _; simp; omega)).val ?_
        simp
      · rw [if_neg h]
        exact ih2 z (by show z.length ≤ _; omega)
theorem atRowL_length {a : Int} {l3 : List Int} {q p : Int} : ∀ (row : List Int) (i : Nat), (atRowL a l3 q p i row).length ≤ row.length
  | [], _ => by simp [atRowL]
  | x :: r, i => by
    unfold atRowL
    have := atRowL_length (a := a) (l3 := l3) (q := q) (p := p) r (i + 1)
    split <;> simp only [List.length_cons] <;> omega
theorem atL_length {a : Int} {l3 : List Int} {q : Int} : ∀ (s : List (List Int)) (p : Nat), (∀ r ∈ s, r.length ≤ 4) → (atL a l3 q p s).length ≤ 4 * s.length
  | [], _, _ => by simp [atL]
  | row :: rs, p, h => by
    unfold atL
    have h1 := atRowL_length (a := a) (l3 := l3) (q := q) (p := (p : Int)) row 0
    have h2 := atL_length (a := a) (l3 := l3) (q := q) rs (p + 1) (fun r hr => h r (by simp [hr]))
    have h3 := h row (by simp)
    rw [List.length_append, List.length_cons]; omega
theorem atL_row {a : Int} {l3 : List Int} {q : Int} {s : List (List Int)} {p : Nat} {one : List Int} (h : one ∈ atL a l3 q p s) : one.length = 2 := by
  obtain ⟨m, row, j, x, _, _, _, rfl⟩ := (mem_atL s p).1 h
  rfl

def homeS (n : Nat) (c : Int) : List (List Int) := List.replicate n (List.replicate c.toNat (-1))
theorem trStart_ans {a b c : Int} {l3 l4 : List Int} (hn : l3.length ≤ 4) (hc : 1 ≤ c ∧ c ≤ 4) : Ans (fun k => spec_trStart.f k a b c l3 l4) (homeS l3.length c) := by
  unfold spec_trStart.f
  obtain ⟨m, rfl⟩ : ∃ m : Nat, c = (m : Int) := ⟨c.toNat, by omega⟩
  refine loop_Ans l3.length (fun k i (y : List (List Int)) => spec_trStart.l0 k y (l3.length : Int) (i : Int) a b (m : Int) l3 l4) (fun i y => y = homeS i (m : Int)) (fun _ _ => homeS l3.length (m : Int)) ?_ ?_ 0 [] (by omega) rfl
  · rintro y rfl
    refine Ans.step (fun k => spec_trStart.l0.eq_2 ..) (Ans.iteN (by omega) (Ans.now rfl))
  · rintro i y hi rfl ih
    refine Ans.step (fun k => spec_trStart.l0.eq_2 ..) (Ans.iteP (by omega) ?_)
    refine loop_Ans m (fun k j (z : List Int) => spec_trStart.l1 k (homeS i (m : Int)) z (j : Int) (l3.length : Int) (i : Int) a b (m : Int) l3 l4) (fun j z => z = List.replicate j (-1)) (fun _ _ => homeS l3.length (m : Int)) ?_ ?_ 0 [] (by omega) rfl
    · rintro z rfl
      refine Ans.step (fun k => spec_trStart.l1.eq_2 ..) (Ans.iteN (by omega) (Ans.iteP (by simp [homeS]; omega) ?_))
      rw [wrap_succ hi (by omega)]
      refine ih _ ?_
      unfold homeS
      rw [List.replicate_succ', Int.toNat_natCast]
    · rintro j z hj rfl ih2
      refine Ans.step (fun k => spec_trStart.l1.eq_2 ..) (Ans.iteP (by omega) (Ans.iteP (by simp; omega) ?_))
      rw [wrap_succ hj (by omega)]
      exact ih2 _ (by rw [List.replicate_succ'])
theorem atHome_ans {a b c : Int} {l3 l4 : List Int} (hn : l3.length ≤ 4) (hc : 1 ≤ c ∧ c ≤ 4) : Ans (fun k => impl_Track_atHome.f k a b c l3 l4) (homeS l3.length c) := by
  unfold impl_Track_atHome.f
  refine loop_Ans l3.length (fun k i (y : List (List Int)) => impl_Track_atHome.l0 k y (l3.length : Int) (i : Int) a b c l3 l4) (fun i y => y = homeS i c) (fun _ _ => homeS l3.length c) ?_ ?_ 0 [] (by omega) rfl
  · rintro y rfl
    refine Ans.step (fun k => impl_Track_atHome.l0.eq_2 ..) (Ans.iteN (by omega) (Ans.now rfl))
  · rintro i y hi rfl ih
    have hrep : slices_Repeat_int_int.f ([-1] : List Int) c = some (List.replicate c.toNat (-1)) := by
      unfold slices_Repeat_int_int.f
      rw [if_pos ⟨rfl, by omega, by omega⟩]
      rfl
    refine Ans.step (fun k => impl_Track_atHome.l0.eq_2 ..) (Ans.iteP (by omega) (Ans.pbind hrep (Ans.iteP (by simp [homeS]; omega) ?_)))
    rw [wrap_succ hi (by omega)]
    refine ih _ ?_
    unfold homeS
    rw [List.replicate_succ']
end Go.Proofs.Ytcppahkdfajcaaa.Q
namespace Go.Proofs.Ytcppahkdfajcaaa.Q
open Go.RowKit Go.Proofs.Ytcppahkdfajcaaa.P Go.Proofs.YtcppahkdfajcaaaW.PrintWords
set_option linter.unusedVariables false
set_option linter.unusedSimpArgs false

variable {a b c : Int} {l3 l4 : List Int} {s : List (List Int)}
theorem ownState_ans (hs : s.length ≤ 1048576) (hr : ∀ r ∈ s, r.length ≤ 1048576) : Ans (fun k => impl_ownState.f k s) s := by
  unfold impl_ownState.f
  refine loop_Ans s.length (fun k i (y : List (List Int)) => impl_ownState.l0 k y s (s.length : Int) (i : Int)) (fun i y => y = s.take i) (fun _ _ => s) ?_ ?_ 0 [] (by omega) (by simp)
  · rintro y rfl
    refine Ans.step (fun k => impl_ownState.l0.eq_2 ..) (Ans.iteN (by omega) (Ans.now (by rw [List.take_length])))
  · rintro i y hi rfl ih
    have hl := hr s[i] (List.getElem_mem hi)
    refine Ans.step (fun k => impl_ownState.l0.eq_2 ..) (Ans.iteP (by omega) (Ans.iteP (by omega) (Ans.iteP (by omega) ?_)))
    rw [rdL_at hi, wrap_succ hi (by omega)]
    refine Ans.pbind (show slices_Clone_int_int.f s[i] = some s[i] from if_pos (by omega)) (Ans.iteP (by simp; omega) ?_)
    exact ih _ (by rw [List.take_add_one, List.getElem?_eq_getElem hi]; rfl)
theorem trCopy_ans (hs : s.length ≤ 1048576) (hr : ∀ r ∈ s, r.length ≤ 1048576) : Ans (fun k => spec_trGo.l0 k ([] : List (List Int)) s (s.length : Int) 0) s := by
  refine loop_Ans s.length (fun k i (y : List (List Int)) => spec_trGo.l0 k y s (s.length : Int) (i : Int)) (fun i y => y = s.take i) (fun _ _ => s) ?_ ?_ 0 [] (by omega) (by simp)
  · rintro y rfl
    refine Ans.step (fun k => spec_trGo.l0.eq_2 ..) (Ans.iteN (by omega) (Ans.now (by rw [List.take_length])))
  · rintro i y hi rfl ih
    have hl := hr s[i] (List.getElem_mem hi)
    refine Ans.step (fun k => spec_trGo.l0.eq_2 ..) (Ans.iteP (by omega) (Ans.iteP (by omega) (Ans.iteP (by omega) ?_)))
    rw [rdL_at hi, wrap_succ hi (by omega)]
    refine Ans.pbind (show spec_l1Own.f s[i] = some s[i] from ?_) (Ans.iteP (by simp; omega) ?_)
    · show (if ([] : List Int).length + s[i].length < 17592186044416 then some ([] ++ s[i]) else none) = some s[i]
      rw [if_pos (by simp; omega)]; rfl
    exact ih _ (by rw [List.take_add_one, List.getElem?_eq_getElem hi]; rfl)
theorem getD_rdL {p : Int} (h0 : 0 ≤ p) (h1 : p < (s.length : Int)) : s.getD p.toNat [] = rd_L1 s p := by
  obtain ⟨n, rfl⟩ : ∃ n : Nat, p = (n : Int) := ⟨p.toNat, by omega⟩
  have hn : n < s.length := by omega
  rw [rdL_at hn, Int.toNat_natCast, List.getD_eq_getElem?_getD, List.getElem?_eq_getElem hn]; rfl
theorem getD_all {P : List Int → Prop} (h0 : P []) (h : ∀ r ∈ s, P r) (p : Nat) : P (s.getD p []) := by
  rw [List.getD_eq_getElem?_getD]
  by_cases hp : p < s.length
  · rw [List.getElem?_eq_getElem hp]; exact h _ (List.getElem_mem hp)
  · rw [List.getElem?_eq_none (by omega)]; exact h0
theorem set2_rows {m : Nat} (h : ∀ r ∈ s, r.length ≤ m) (p t : Nat) (x : Int) : ∀ r ∈ set2 s p t x, r.length ≤ m := by
  intro r hr
  rcases List.mem_or_eq_of_mem_set hr with hr | rfl
  · exact h r hr
  · rw [List.length_set]; exact getD_all (P := fun r => r.length ≤ m) (by simp) h p
theorem sendL_val (p : Int) {m : Nat} : ∀ (toks : List (List Int)) (n : Int) (s : List (List Int)), (∀ r ∈ s, r.length ≤ m) → (∀ one ∈ toks, one.length = 2 ∧ 0 ≤ rd one 0 ∧ rd one 0 < (s.length : Int) ∧ 0 ≤ rd one 1 ∧ rd one 1 < ((s.getD (rd one 0).toNat []).length : Int)) →
    ∃ n' s', sendL p toks n s = some (n', s') ∧ s'.length = s.length ∧ ∀ r ∈ s', r.length ≤ m
  | [], n, s, h, _ => ⟨n, s, rfl, rfl, h⟩
  | one :: rest, n, s, h, ht => by
    obtain ⟨h2, b1, b2, b3, b4⟩ := ht one (by simp)
    unfold sendL
    rw [if_pos h2]
    by_cases e : rd one 0 = p
    · rw [if_pos e]
      exact sendL_val p rest n s h (fun o ho => ht o (by simp [ho]))
    · rw [if_neg e, if_pos ⟨b1, b2, b3, b4⟩]
      obtain ⟨n', s', e1, e2, e3⟩ := sendL_val p rest (wrap64 (n + 1)) (set2 s (rd one 0).toNat (rd one 1).toNat (-1)) (set2_rows h _ _ _) (fun o ho => by rw [set2_length, set2_row]; exact ht o (by simp [ho]))
      exact ⟨n', s', e1, by rw [e2, set2_length], e3⟩
theorem isSafe_ans (h : l4.length ≤ 9223372036854775807) (q : Int) : Ans (fun k => impl_Track_isSafe.f k a b c l3 l4 q) (l4.contains q) := by
  unfold impl_Track_isSafe.f
  exact Ans.bind (contains_ans h) (Ans.now rfl)
theorem step_eq (F : Facts a b c l3 l4 s) {x f : Int} (hx : -1 ≤ x ∧ x ≤ a) (hf : 1 ≤ f ∧ f ≤ b) (hc : canB a b x f = true) : (if x < 0 then 0 else wrap64 (x + f)) = stepB a x f := by
  have ha := F.fa
  have hb := F.fb
  unfold canB at hc
  unfold stepB
  by_cases h1 : x = -1
  · rw [if_pos h1, if_pos (by omega)]
  · rw [if_neg h1] at hc ⊢
    by_cases h2 : x = a
    · rw [if_pos h2] at hc; cases hc
    · rw [if_neg h2, if_neg (by omega), wrap_of (by omega) (by omega)]
theorem go_ans (F : Facts a b c l3 l4 s) (k4 : l4.length ≤ 1048576) {p t f : Int} (hm : moveB b c l3 p t f = true) (hc : canB a b (rd (rd_L1 s p) t) f = true) :
    ∃ (n : Int) (s2 : List (List Int)), (s2.length ≤ 4 ∧ ∀ r ∈ s2, r.length ≤ 4) ∧ Ans (fun k => spec_trGo.f k a b c l3 l4 s p t f) (s2, n) ∧ Ans (fun k => impl_Track_goToken.f k a b c l3 l4 s p t f) (n, true, s2) := by
  simp only [moveB, Bool.and_eq_true] at hm
  obtain ⟨h0, h1, h2, h3⟩ := row_at F hm.1
  have ht := inR_iff.1 hm.2.1
  have hf := inR_iff.1 hm.2.2
  have ha := F.fa
  have hn := F.fn
  have hl := F.flen
  have hcc := F.fc
  have hx := h3 _ (tok_at (r := rd_L1 s p) (t := t) ht.1 (by omega))
  have hg := getD_rdL h0 h1
  have hstep := step_eq F hx hf hc
  have hrow : ∀ r ∈ s, r.length ≤ 4 := fun r hr => by have := (F.frow r hr).1; omega
  have hb : 0 ≤ p ∧ p < (s.length : Int) ∧ 0 ≤ t ∧ t < ((s.getD p.toNat []).length : Int) := ⟨h0, h1, ht.1, by rw [hg]; omega⟩
  have hcopy := trCopy_ans (s := s) (by omega) (fun r hr => by have := hrow r hr; omega)
  have hgo := goes_val F hx hf
  generalize hX : stepB a (rd (rd_L1 s p) t) f = x at hstep hgo
  obtain ⟨s1, hs1⟩ : ∃ s1, s1 = set2 s p.toNat t.toNat x := ⟨_, rfl⟩
  have hl1 : s1.length = s.length := by rw [hs1, set2_length]
  have hr1 : ∀ r ∈ s1, r.length ≤ 4 := by rw [hs1]; exact set2_rows hrow _ _ _
  have hsq := spec_square (a := a) (b := b) (c := c) (l3 := l3) (l4 := l4) (x := x) h0 (by omega) (by omega)
  have hsi := square_sqOf (a := a) (b := b) (c := c) (l3 := l3) (l4 := l4) (p := p) (x := x) h0 (by omega) (by omega)
  generalize sqOf a l3 p x = q at hsq hsi
  obtain ⟨n', s', e, el, er⟩ := sendL_val p (m := 4) (atL a l3 q 0 s1) 0 s1 hr1 (fun one ho => by
    obtain ⟨m, row, j, y, e1, e2, _, rfl⟩ := (mem_atL s1 0).1 ho
    obtain ⟨k1, k2⟩ := List.getElem?_eq_some_iff.1 e1
    obtain ⟨k3, k5⟩ := List.getElem?_eq_some_iff.1 e2
    have r0 : rd [((0 + m : Nat) : Int), (j : Int)] 0 = (m : Int) := by simp [rd]
    have r1 : rd [((0 + m : Nat) : Int), (j : Int)] 1 = (j : Int) := by simp [rd]
    rw [r0, r1, Int.toNat_natCast, List.getD_eq_getElem?_getD, e1]
    exact ⟨rfl, by omega, by omega, by omega, by show (j : Int) < (row.length : Int); omega⟩)
  by_cases hq : q < 0
  · refine ⟨0, s1, ⟨by omega, hr1⟩, ?_, ?_⟩
    · unfold spec_trGo.f
      refine Ans.bind hcopy (Ans.iteP hb ?_)
      rw [hg, hstep, ← hs1]
      exact Ans.pbind hsq (Ans.iteP hq (Ans.now rfl))
    · unfold impl_Track_goToken.f
      refine Ans.iteP hb ?_
      rw [hg]
      refine Ans.pbind hgo (Ans.iteP hc ?_)
      dsimp only
      rw [← hs1]
      exact Ans.pbind hsi (Ans.iteP hq (Ans.now rfl))
  cases hz : l4.contains q with
  | true =>
    refine ⟨0, s1, ⟨by omega, hr1⟩, ?_, ?_⟩
    · unfold spec_trGo.f
      refine Ans.bind hcopy (Ans.iteP hb ?_)
      rw [hg, hstep, ← hs1]
      exact Ans.pbind hsq (Ans.iteN hq (Ans.bind ((l1Has_ans (by omega)).val hz) (Ans.iteP rfl (Ans.now rfl))))
    · unfold impl_Track_goToken.f
      refine Ans.iteP hb ?_
      rw [hg]
      refine Ans.pbind hgo (Ans.iteP hc ?_)
      dsimp only
      rw [← hs1]
      exact Ans.pbind hsi (Ans.iteN hq (Ans.bind ((isSafe_ans (by omega) q).val hz) (Ans.iteP rfl (Ans.now rfl))))
  | false =>
    refine ⟨n', s', ⟨by omega, er⟩, ?_, ?_⟩
    · unfold spec_trGo.f
      refine Ans.bind hcopy (Ans.iteP hb ?_)
      rw [hg, hstep, ← hs1]
      exact Ans.pbind hsq (Ans.iteN hq (Ans.bind ((l1Has_ans (by omega)).val hz) (Ans.iteN (by simp) (Ans.bind (trAt_ans (by omega) (by omega) (by omega) hr1) (Ans.pbind e (Ans.now rfl))))))
    · unfold impl_Track_goToken.f
      refine Ans.iteP hb ?_
      rw [hg]
      refine Ans.pbind hgo (Ans.iteP hc ?_)
      dsimp only
      rw [← hs1]
      exact Ans.pbind hsi (Ans.iteN hq (Ans.bind ((isSafe_ans (by omega) q).val hz) (Ans.iteN (by simp) (Ans.bind (tokensAt_ans (by omega) (by omega) (by omega) hr1) (Ans.pbind e (Ans.now rfl))))))
theorem goNo_ans (F : Facts a b c l3 l4 s) {p t f : Int} (hm : moveB b c l3 p t f = true) (hc : canB a b (rd (rd_L1 s p) t) f = false) : Ans (fun k => impl_Track_goToken.f k a b c l3 l4 s p t f) (0, false, s) := by
  simp only [moveB, Bool.and_eq_true] at hm
  obtain ⟨h0, h1, h2, h3⟩ := row_at F hm.1
  have ht := inR_iff.1 hm.2.1
  have hf := inR_iff.1 hm.2.2
  have hx := h3 _ (tok_at (r := rd_L1 s p) (t := t) ht.1 (by omega))
  have hg := getD_rdL h0 h1
  unfold impl_Track_goToken.f
  refine Ans.iteP ⟨h0, h1, ht.1, by rw [hg]; omega⟩ ?_
  rw [hg]
  exact Ans.pbind (goes_val F hx hf) (Ans.iteN (by simp [hc]) (Ans.now rfl))

end Go.Proofs.Ytcppahkdfajcaaa.Q
