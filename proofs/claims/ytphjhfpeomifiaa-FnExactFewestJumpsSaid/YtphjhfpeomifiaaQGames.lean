/- Counts of games: the reference's table and the program's counts. Plain Lean; no Go in it. -/
import Derived.Test.YtphjhfpeomifiaaECount
import Derived.Test.YtphjhfpeomifiaaQThrows
import Derived.Test.YtphjhfpeomifiaaP46
import Derived.Test.YtphjhfpeomifiaaP45
import Derived.Test.YtphjhfpeomifiaaP48
namespace Go.Proofs.Ytphjhfpeomifiaa.Q
open Go.RowKit Go.Proofs.Ytphjhfpeomifiaa.P Go.Proofs.YtphjhfpeomifiaaW.PrintWords
set_option linter.unusedVariables false
set_option linter.unusedSimpArgs false

/-- The lists of n throws from a square on that come to the end just by the last one. -/
def cntV (s f o : Int) (l : List J) : Nat → Int → Int
  | 0, q => if q = s then 1 else 0
  | n + 1, q => if q = s then 0 else sumN f.toNat fun i => cntV s f o l n (thr s o l q ((i : Int) + 1))
theorem sumN_bound {n : Nat} {g : Nat → Int} {b : Int} (e : ∀ i, i < n → g i ≤ b) : sumN n g ≤ n * b := by
  induction n with
  | zero => simp [sumN]
  | succ n ih =>
    show sumN n g + g n ≤ _
    have h1 := ih fun i hi => e i (by omega)
    have h2 := e n (by omega)
    rw [show ((n + 1 : Nat) : Int) * b = n * b + b by rw [Int.natCast_add, Int.add_mul]; simp]
    omega
theorem cntV_nonneg (s f o : Int) (l : List J) : ∀ n q, 0 ≤ cntV s f o l n q
  | 0, q => by unfold cntV; split <;> omega
  | n + 1, q => by
    unfold cntV
    split
    · omega
    · exact sumN_nonneg fun i _ => cntV_nonneg s f o l n _
theorem cntV_le {s f o : Int} {l : List J} (f8 : f ≤ 8) : ∀ n q, cntV s f o l n q ≤ 8 ^ n
  | 0, q => by unfold cntV; split <;> simp
  | n + 1, q => by
    unfold cntV
    split
    · exact Int.pow_nonneg (by omega)
    · have h1 := sumN_bound (n := f.toNat) (g := fun i => cntV s f o l n (thr s o l q ((i : Int) + 1))) (b := 8 ^ n) fun i _ => cntV_le f8 n _
      have h2 : ((f.toNat : Nat) : Int) * 8 ^ n ≤ 8 * 8 ^ n := Int.mul_le_mul_of_nonneg_right (by omega) (Int.pow_nonneg (by omega))
      rw [Int.pow_succ, Int.mul_comm _ 8]
      exact Int.le_trans h1 h2
theorem pow16 {n : Nat} (hn : n ≤ 17) : (8 : Int) ^ n ≤ 2251799813685248 := by
  have : (8 : Nat) ^ n ≤ 8 ^ 17 := Nat.pow_le_pow_right (by decide) hn
  have h2 : ((8 ^ n : Nat) : Int) ≤ ((8 ^ 17 : Nat) : Int) := by exact_mod_cast this
  simpa using h2
theorem cntV_small {s f o : Int} {l : List J} (f8 : f ≤ 8) {n : Nat} (hn : n ≤ 17) (q : Int) : cntV s f o l n q ≤ 2251799813685248 := Int.le_trans (cntV_le f8 n q) (pow16 hn)
theorem cntV_wrap {s f o : Int} {l : List J} (f8 : f ≤ 8) {n : Nat} (hn : n ≤ 17) (q : Int) : wrap64 (cntV s f o l n q) = cntV s f o l n q :=
  wrap_of (by have := cntV_nonneg s f o l n q; omega) (by have := cntV_small (s := s) (o := o) (l := l) f8 hn q; omega)

theorem sumO_ans {n : Nat} {g : Nat → Nat → Option Int} {v : Nat → Int} (h : ∀ i, i < n → Ans (fun k => g k i) (v i)) : Ans (fun k => sumO n (g k)) (sumN n v) := by
  induction n with
  | zero => exact Ans.now rfl
  | succ n ih => exact Ans.bind (ih fun i hi => h i (by omega)) (Ans.bind (h n (by omega)) (Ans.now rfl))
theorem cgF_ans {s f o : Int} {l : List J} (hb : Board s f o l) : ∀ (n : Nat) (q : Int), 0 ≤ q ∧ q ≤ s → Ans (fun k => cgF k s f o l n q) (cntV s f o l n q)
  | 0, q, hq => by
    have h1 := hb.s2
    unfold cgF cntV
    refine Ans.iteP ⟨by omega, by omega⟩ (Ans.ite (fun h => ?_) (fun h => ?_))
    · rw [if_pos h]; exact Ans.now rfl
    · rw [if_neg h]; exact Ans.now rfl
  | n + 1, q, hq => by
    have h1 := hb.s1; have h2 := hb.s2; have h3 := hb.f1; have h4 := hb.f2
    have hl : l.length ≤ 9223372036854775807 := by have := hb.len; omega
    unfold cgF cntV
    refine Ans.iteP ⟨by omega, by omega⟩ (Ans.ite (fun h => ?_) (fun h => ?_))
    · rw [if_pos h]; exact Ans.now rfl
    · rw [if_neg h]
      refine sumO_ans fun i hi => ?_
      exact Ans.bind (throw_ans hl ⟨h1, h2⟩ (by omega) (by omega)) (cgF_ans hb n _ (thr_range hb (by omega) (by omega)))
theorem countGames_ans {s f o : Int} {l : List J} (hb : Board s f o l) {n : Nat} (hn : n ≤ 16) {q : Int} (hq : 0 ≤ q ∧ q ≤ s) : Ans (fun k => impl_Board_countGames.f k s f o l q (n : Int)) (cntV s f o l n q) := by
  have h3 := hb.f1; have h4 := hb.f2
  unfold impl_Board_countGames.f
  refine Ans.iteP ⟨by omega, by omega, by omega⟩ ?_
  obtain ⟨K, h⟩ := cgF_ans hb n q hq
  refine ⟨K, fun k hk => ?_⟩
  have h' : cgF k s f o l n q = some (cntV s f o l n q) := h k hk
  simp only [Int.toNat_natCast, h', Option.map_some, cntV_wrap (s := s) (o := o) (l := l) h4 (show n ≤ 17 by omega)]

/-! a table over the squares -/
def tabL (m : Nat) (g : Nat → Int) : List Int := (List.range m).map g
theorem tabL_length (m : Nat) (g : Nat → Int) : (tabL m g).length = m := by simp [tabL]
theorem tabL_rd {m : Nat} {g : Nat → Int} {q : Nat} (h : q < m) : rd (tabL m g) (q : Int) = g q := by simp [rd, tabL, h]
theorem tabL_congr {m : Nat} {g h : Nat → Int} (e : ∀ q, q < m → g q = h q) : tabL m g = tabL m h := List.map_congr_left fun q hq => e q (List.mem_range.1 hq)
theorem tabL_set {m : Nat} {g : Nat → Int} {i : Nat} {x : Int} : (tabL m g).set i x = tabL m fun q => if q = i then x else g q := by
  refine List.ext_getElem (by simp [tabL]) fun q h1 h2 => ?_
  simp only [tabL, List.length_set, List.length_map, List.length_range] at h1
  rw [List.getElem_set]
  simp only [tabL, List.getElem_map, List.getElem_range]
  by_cases e : i = q
  · rw [if_pos e, if_pos e.symm]
  · rw [if_neg e, if_neg (fun h => e h.symm)]
theorem tabL_zero (m : Nat) : List.replicate m (0 : Int) = tabL m fun _ => 0 := by
  refine List.ext_getElem (by simp [tabL]) fun q h1 h2 => ?_
  simp [tabL]

theorem tabL_snoc (m : Nat) (g : Nat → Int) : tabL m g ++ [g m] = tabL (m + 1) g := by simp [tabL, List.range_succ]

def cntL (s f o : Int) (l : List J) (n : Nat) : List Int := tabL (s.toNat + 1) fun q => cntV s f o l n (q : Int)
theorem gaCounts_ans {s f o : Int} {l : List J} (hb : Board s f o l) {n : Nat} (hn : n ≤ 16) : Ans (fun k => spec_gaCounts.f k s f o l (n : Int)) (cntL s f o l n) := by
  have h1 := hb.s1; have h2 := hb.s2; have h3 := hb.f1; have h4 := hb.f2
  obtain ⟨S, rfl⟩ : ∃ S : Nat, s = (S : Int) := ⟨s.toNat, by omega⟩
  obtain ⟨F, rfl⟩ : ∃ F : Nat, f = (F : Int) := ⟨f.toNat, by omega⟩
  have hw : wrap64 ((S : Int) + 1) = ((S + 1 : Nat) : Int) := by rw [wrap_of (by omega) (by omega)]; omega
  unfold spec_gaCounts.f
  rw [hw, Int.toNat_natCast, tabL_zero]
  refine Ans.iteP (by omega) (Ans.iteP (by omega) ?_)
  refine Ans.pbind rfl (Ans.iteP (by omega) (Ans.iteP (by rw [tabL_length]; omega) ?_))
  rw [Int.toNat_natCast, tabL_set]
  have e0 : (tabL (S + 1) fun q => if q = S then (1 : Int) else (fun _ => 0) q) = cntL (S : Int) (F : Int) o l 0 := by
    refine tabL_congr fun q hq => ?_
    show (if q = S then (1 : Int) else 0) = if (q : Int) = (S : Int) then 1 else 0
    by_cases e : q = S
    · rw [if_pos e, if_pos (by omega)]
    · rw [if_neg e, if_neg (by omega)]
  rw [e0]
  have key := loop_Ans n (fun k i (y : List Int) => spec_gaCounts.l0 k ((n - i : Nat) : Int) y (S : Int) (F : Int) o l) (fun i y => y = cntL (S : Int) (F : Int) o l i) (fun _ _ => cntL (S : Int) (F : Int) o l n) ?_ ?_ 0 (cntL (S : Int) (F : Int) o l 0) (by omega) rfl
  · exact key
  · rintro y rfl
    refine Ans.step (fun k => spec_gaCounts.l0.eq_2 ..) ?_
    exact Ans.iteN (by omega) (Ans.now rfl)
  · rintro i y hi rfl ih
    refine Ans.step (fun k => spec_gaCounts.l0.eq_2 ..) ?_
    rw [hw, Int.toNat_natCast, tabL_zero]
    refine Ans.iteP (by omega) (Ans.iteP (by omega) (Ans.iteP (by omega) ?_))
    have hwn : wrap64 (((n - i : Nat) : Int) - 1) = ((n - (i + 1) : Nat) : Int) := by rw [wrap_of (by omega) (by omega)]; omega
    -- over the squares
    have sq := loop_Ans S (fun k j (y : List Int) => spec_gaCounts.l1 k ((n - i : Nat) : Int) (cntL (S : Int) (F : Int) o l i) y (j : Int) (S : Int) (F : Int) o l) (fun j y => y = tabL (S + 1) fun q => if q < j then cntV (S : Int) (F : Int) o l (i + 1) (q : Int) else 0) (fun _ _ => cntL (S : Int) (F : Int) o l n) ?_ ?_ 0 (tabL (S + 1) fun _ => 0) (by omega) (tabL_congr fun q _ => by rw [if_neg (by omega)])
    · exact sq
    · rintro y rfl
      refine Ans.step (fun k => spec_gaCounts.l1.eq_2 ..) ?_
      refine Ans.iteN (by omega) ?_
      rw [hwn]
      refine ih _ (tabL_congr fun q hq => ?_)
      by_cases e : q < S
      · rw [if_pos e]
      · rw [if_neg e]
        unfold cntV
        rw [if_pos (by omega)]
    · rintro j y hj rfl ih2
      refine Ans.step (fun k => spec_gaCounts.l1.eq_2 ..) ?_
      refine Ans.iteP (by omega) ?_
      -- over the faces
      have fc := loop_Ans F (fun k t (y : List Int) => spec_gaCounts.l2 k ((n - i : Nat) : Int) (cntL (S : Int) (F : Int) o l i) y (j : Int) ((t : Int) + 1) (S : Int) (F : Int) o l) (fun t y => y = tabL (S + 1) fun q => if q < j then cntV (S : Int) (F : Int) o l (i + 1) (q : Int) else if q = j then sumN t (fun u => cntV (S : Int) (F : Int) o l i (thr (S : Int) o l (j : Int) ((u : Int) + 1))) else 0) (fun _ _ => cntL (S : Int) (F : Int) o l n) ?_ ?_ 0 (tabL (S + 1) fun q => if q < j then cntV (S : Int) (F : Int) o l (i + 1) (q : Int) else 0) (by omega) (tabL_congr fun q _ => by
          by_cases e : q < j
          · rw [if_pos e, if_pos e]
          · rw [if_neg e, if_neg e]
            split <;> rfl)
      · exact fc
      · rintro y rfl
        refine Ans.step (fun k => spec_gaCounts.l2.eq_2 ..) ?_
        refine Ans.iteN (by omega) ?_
        rw [wrap_succ hj (by omega)]
        refine ih2 _ (tabL_congr fun q hq => ?_)
        by_cases e : q < j
        · rw [if_pos e, if_pos (by omega)]
        · rw [if_neg e]
          by_cases e2 : q = j
          · subst e2
            rw [if_pos rfl, if_pos (by omega)]
            show _ = if (q : Int) = (S : Int) then (0 : Int) else _
            rw [if_neg (by omega), Int.toNat_natCast]
          · rw [if_neg e2, if_neg (by omega)]
      · rintro t y ht rfl ih3
        have hr := thr_range hb (a := (j : Int)) (n := (t : Int) + 1) ⟨by omega, by omega⟩ (by omega)
        refine Ans.step (fun k => spec_gaCounts.l2.eq_2 ..) ?_
        refine Ans.iteP (by omega) (Ans.iteP (by omega) (Ans.iteP (by rw [tabL_length]; omega) ?_))
        refine Ans.bind (sqThrow_ans hb (by omega) (by omega)) ?_
        refine Ans.iteP hr.1 (Ans.iteP (by unfold cntL; rw [tabL_length]; omega) ?_)
        obtain ⟨T, hT⟩ : ∃ T : Nat, thr (S : Int) o l (j : Int) ((t : Int) + 1) = (T : Int) := ⟨_, (Int.toNat_of_nonneg hr.1).symm⟩
        have hTS : T < S + 1 := by rw [hT] at hr; omega
        have e1 : rd (cntL (S : Int) (F : Int) o l i) (thr (S : Int) o l (j : Int) ((t : Int) + 1)) = cntV (S : Int) (F : Int) o l i (thr (S : Int) o l (j : Int) ((t : Int) + 1)) := by
          rw [hT]
          exact tabL_rd (by simpa using hTS)
        rw [e1, tabL_rd (by omega), if_neg (by omega), if_pos rfl, Int.toNat_natCast, tabL_set]
        have b1 := sumN_nonneg (n := t) (g := fun u => cntV (S : Int) (F : Int) o l i (thr (S : Int) o l (j : Int) ((u : Int) + 1))) fun u _ => cntV_nonneg ..
        have b2 := sumN_bound (n := t) (g := fun u => cntV (S : Int) (F : Int) o l i (thr (S : Int) o l (j : Int) ((u : Int) + 1))) (b := 2251799813685248) fun u _ => cntV_small h4 (by omega) _
        have b3 := cntV_nonneg (S : Int) (F : Int) o l i (thr (S : Int) o l (j : Int) ((t : Int) + 1))
        have b4 := cntV_small (s := (S : Int)) (o := o) (l := l) h4 (n := i) (by omega) (thr (S : Int) o l (j : Int) ((t : Int) + 1))
        have ht8 : t < 8 := by omega
        have hws : wrap64 (sumN t (fun u => cntV (S : Int) (F : Int) o l i (thr (S : Int) o l (j : Int) ((u : Int) + 1))) + cntV (S : Int) (F : Int) o l i (thr (S : Int) o l (j : Int) ((t : Int) + 1))) = sumN (t + 1) (fun u => cntV (S : Int) (F : Int) o l i (thr (S : Int) o l (j : Int) ((u : Int) + 1))) := by
          rw [wrap_of (by omega) (by omega)]; rfl
        have hwt : wrap64 ((t : Int) + 1 + 1) = ((t + 1 : Nat) : Int) + 1 := by rw [wrap_of (by omega) (by omega)]; omega
        rw [hws, hwt]
        refine ih3 _ (tabL_congr fun q hq => ?_)
        by_cases e : q = j
        · subst e
          rw [if_pos rfl, if_neg (by omega), if_pos rfl]
        · rw [if_neg e, if_neg e]
          by_cases e2 : q < j
          · rw [if_pos e2, if_pos e2]
          · rw [if_neg e2, if_neg e2, if_neg e]

theorem cntL_rd {s f o : Int} {l : List J} {n : Nat} {q : Int} (hq : 0 ≤ q ∧ q ≤ s) : rd (cntL s f o l n) q = cntV s f o l n q := by
  obtain ⟨Q, rfl⟩ : ∃ Q : Nat, q = (Q : Int) := ⟨q.toNat, by omega⟩
  exact tabL_rd (by omega)
theorem cntL_length (s f o : Int) (l : List J) (n : Nat) : (cntL s f o l n).length = s.toNat + 1 := tabL_length ..

/-- A board and a number of throws. -/
def askedB (s f o : Int) (l : List J) (n : Int) : Bool := goodS s f o l && inR n 0 16
theorem gaAsked_ans {s f o : Int} {l : List J} {n : Int} (hl : l.length ≤ 9223372036854775807) : Ans (fun k => spec_gaAsked.f k s f o l n) (askedB s f o l n) := by
  unfold spec_gaAsked.f askedB
  have hs := sqGood_ans (s := s) (f := f) (o := o) hl
  cases hg : goodS s f o l with
  | false => rw [hg] at hs; exact Ans.bind hs (Ans.iteN (by simp) (Ans.now rfl))
  | true => rw [hg] at hs; exact Ans.bind hs (Ans.iteP rfl (Ans.pbind (l1In_val ..) (Ans.now (by simp))))
theorem isGamed_ans {s f o : Int} {l : List J} {n : Int} (hl : l.length ≤ 9223372036854775807) : Ans (fun k => impl_isGamed.f k s f o l n) (askedB s f o l n) := by
  unfold impl_isGamed.f askedB
  have hs := isBoard_ans (s := s) (f := f) (o := o) hl
  cases hg : goodS s f o l with
  | false => rw [hg] at hs; exact Ans.bind hs (Ans.iteN (by simp) (Ans.now rfl))
  | true => rw [hg] at hs; exact Ans.bind hs (Ans.iteP rfl (Ans.pbind (within_val ..) (Ans.now (by simp))))
theorem asked_of {s f o : Int} {l : List J} {n : Int} (h : askedB s f o l n = true) : Board s f o l ∧ ∃ m : Nat, n = (m : Int) ∧ m ≤ 16 := by
  unfold askedB at h
  obtain ⟨h1, h2⟩ := Bool.and_eq_true _ _ ▸ h
  have := inR_iff.1 h2
  exact ⟨board_of h1, n.toNat, by omega, by omega⟩

end Go.Proofs.Ytphjhfpeomifiaa.Q
