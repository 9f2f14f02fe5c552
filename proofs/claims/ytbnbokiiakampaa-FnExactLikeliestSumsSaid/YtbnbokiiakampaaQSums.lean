/- The reference's numbers of throws by their sums, and what the laws of dice answer on both sides. Plain Lean; no Go in it. -/
import Derived.Test.YtbnbokiiakampaaQDice
import Derived.Test.YtbnbokiiakampaaQMarkInt
import Derived.Test.YtbnbokiiakampaaP33
import Derived.Test.YtbnbokiiakampaaP37
import Derived.Test.YtbnbokiiakampaaP26
namespace Go.Proofs.Ytbnbokiiakampaa.Q
open Go.RowKit Go.Proofs.Ytbnbokiiakampaa.P Go.Proofs.YtbnbokiiakampaaW.PrintWords
set_option linter.unusedVariables false
set_option linter.unusedSimpArgs false

theorem l1In_val (x lo hi : Int) : spec_l1In.f x lo hi = some (inR x lo hi) := inR_eq x lo hi
theorem within_val (x lo hi : Int) : impl_within.f x lo hi = some (inR x lo hi) := inR_eq x lo hi
def diceB (d F : Int) : Bool := inR d 1 8 && inR F 1 12
theorem diAsked_val (d F : Int) : spec_diAsked.f d F = some (diceB d F) := by
  unfold spec_diAsked.f diceB
  rw [l1In_val, Option.bind_some, l1In_val, Option.bind_some]
  cases inR d 1 8 <;> simp
theorem areDice_val (d F : Int) : impl_areDice.f d F = some (diceB d F) := by
  unfold impl_areDice.f diceB
  rw [within_val, Option.bind_some, within_val, Option.bind_some]
  cases inR d 1 8 <;> simp
theorem diKeep_val (d F K : Int) : spec_diKeep.f d F K = some (diceB d F && inR K 1 d) := by
  unfold spec_diKeep.f
  rw [diAsked_val, Option.bind_some, l1In_val, Option.bind_some]
  cases diceB d F <;> simp
theorem diceB_iff {d F : Int} : diceB d F = true ↔ (1 ≤ d ∧ d ≤ 8) ∧ 1 ≤ F ∧ F ≤ 12 := by unfold diceB; rw [Bool.and_eq_true, inR_iff, inR_iff]

/-! The small functions. -/
theorem power_all : ∀ f ∈ List.range 13, ∀ n ∈ List.range 9, impl_power.f 20 (f : Int) (n : Int) = some ((f : Int) ^ n) := by decide +kernel
theorem diPower_all : ∀ f ∈ List.range 13, ∀ n ∈ List.range 9, spec_diPower.f 20 (f : Int) (n : Int) = some ((f : Int) ^ n) := by decide +kernel
theorem diChoose_all : ∀ n ∈ List.range 9, ∀ c ∈ List.range 9, c ≤ n → spec_diChoose.f 20 (n : Int) (c : Int) = some (ch n c) := by decide +kernel
theorem power_ans {f n : Nat} (hf : f ≤ 12) (hn : n ≤ 8) : Ans (fun k => impl_power.f k (f : Int) (n : Int)) ((f : Int) ^ n) := Ans.mono 20 (fun k => impl_power.mono _ _ k) (power_all f (by simp; omega) n (by simp; omega))
theorem diPower_ans {f n : Nat} (hf : f ≤ 12) (hn : n ≤ 8) : Ans (fun k => spec_diPower.f k (f : Int) (n : Int)) ((f : Int) ^ n) := Ans.mono 20 (fun k => spec_diPower.mono _ _ k) (diPower_all f (by simp; omega) n (by simp; omega))
theorem diChoose_ans {n c : Nat} (hn : n ≤ 8) (hc : c ≤ n) : Ans (fun k => spec_diChoose.f k (n : Int) (c : Int)) (ch n c) := Ans.mono 20 (fun k => spec_diChoose.mono _ _ k) (diChoose_all n (by simp; omega) c (by simp; omega) hc)

/-! Lists all of whose numbers are machine numbers. -/
def AllI (l : List Int) : Prop := ∀ j : Nat, InI (rd l (j : Int))
theorem AllI.zeros (m : Nat) : AllI (List.replicate m 0) := by
  intro j
  have : rd (List.replicate m 0) (j : Int) = 0 := by simp only [rd, Int.toNat_natCast, List.getD_eq_getElem?_getD, List.getElem?_replicate]; split <;> rfl
  rw [this]; unfold InI; omega
theorem AllI.set {l : List Int} (h : AllI l) (p : Nat) (x : Int) : AllI (l.set p (wrap64 x)) := by
  intro j
  rw [rd_set]
  split
  · exact InI.wrap _
  · exact h j
theorem rd_snoc0 (l : List Int) (j : Nat) : rd (l ++ [0]) (j : Int) = rd l (j : Int) := by
  simp only [rd, Int.toNat_natCast, List.getD_eq_getElem?_getD]
  by_cases h : j < l.length
  · rw [List.getElem?_append_left h]
  · rw [List.getElem?_append_right (by omega), List.getElem?_eq_none (by omega : l.length ≤ j)]
    cases j - l.length <;> simp
theorem AllI.snoc0 {l : List Int} (h : AllI l) : AllI (l ++ [0]) := fun j => by rw [rd_snoc0]; exact h j
theorem ext_rd {l l' : List Int} (hl : l.length = l'.length) (h : ∀ j : Nat, rd l (j : Int) = rd l' (j : Int)) : l = l' := by
  apply List.ext_getElem hl
  intro i h1 h2
  rw [← rd_at h1, ← rd_at h2, h i]

/-! The sums of plain dice. -/
theorem diSums_l2 (x0 x6 x9 : Int) {F m s : Nat} (x22 : List Int) (x23 : Int) (hs : s + F < m) (hm : m ≤ 1000) : ∀ (n j : Nat), j + n = F → ∀ x7 : List Int, x7.length = m → AllI x7 →
    ∃ y : List Int, y.length = m ∧ AllI y ∧ (∀ g, Cg (wt g y 0) (wt g x7 0 + x9 * sumN n fun i => g (s + (j + i + 1)))) ∧
      ∀ r, Ans (fun k => spec_diSums.l1 k x0 (F : Int) x6 y x22 x23 (wrap64 ((s : Int) + 1))) r → Ans (fun k => spec_diSums.l2 k x0 (F : Int) x6 x7 (s : Int) x9 ((j : Int) + 1) x22 x23 (s : Int)) r
  | 0, j, hj, x7, hl, hI => by
    refine ⟨x7, hl, hI, fun g => Cg.of (by simp [sumN]), fun r h => ?_⟩
    refine Ans.step (fun k => ?_) h
    simp only [spec_diSums.l2]
    rw [if_neg (by omega)]
  | n + 1, j, hj, x7, hl, hI => by
    have e : wrap64 ((s : Int) + ((j : Int) + 1)) = ((s + (j + 1) : Nat) : Int) := by rw [wrap_of (by omega) (by omega)]; omega
    obtain ⟨y, h1, h2, h3, h4⟩ := diSums_l2 x0 x6 x9 x22 x23 hs hm n (j + 1) (by omega) (x7.set (s + (j + 1)) (wrap64 (rd x7 ((s + (j + 1) : Nat) : Int) + x9))) (by rw [List.length_set]; exact hl) (hI.set _ _)
    refine ⟨y, h1, h2, fun g => ?_, fun r h => ?_⟩
    · refine (h3 g).trans ?_
      rw [wt_set g _ _ _ _ (by rw [hl]; omega), Nat.zero_add, sumN_first, Int.mul_add]
      have e2 : sumN n (fun i => g (s + (j + 1 + i + 1))) = sumN n (fun i => g (s + (j + (i + 1) + 1))) := sumN_congr fun i _ => by rw [show j + 1 + i = j + (i + 1) by omega]
      rw [e2]
      obtain ⟨q, hq⟩ := Cg.wrap (rd x7 ((s + (j + 1) : Nat) : Int) + x9)
      rw [hq]
      refine ⟨q * g (s + (j + 1)), ?_⟩
      simp only [Nat.add_zero]
      have e3 : (rd x7 ((s + (j + 1) : Nat) : Int) + x9 + q * 18446744073709551616 - rd x7 ((s + (j + 1) : Nat) : Int)) * g (s + (j + 1)) = x9 * g (s + (j + 1)) + q * g (s + (j + 1)) * 18446744073709551616 := by grind
      rw [e3]
      omega
    · have := h4 r h
      rw [show (((j + 1 : Nat) : Int)) + 1 = ((j : Int) + 1) + 1 by omega] at this
      refine Ans.step (fun k => ?_) this
      simp only [spec_diSums.l2]
      rw [if_pos (by omega), e, if_pos (by omega), if_pos (by rw [hl]; omega), Int.toNat_natCast, wrap_of (x := (j : Int) + 1 + 1) (by omega) (by omega)]
def faceG (F : Nat) (g : Nat → Int) (s : Nat) : Int := sumN F fun i => g (s + (i + 1))
theorem diSums_l1 (x0 x6 : Int) {F m : Nat} (now : List Int) (hm : m ≤ 1000) (hn : now.length + F = m) : ∀ (n s : Nat), s + n = now.length → ∀ x7 : List Int, x7.length = m → AllI x7 →
    ∃ y : List Int, y.length = m ∧ AllI y ∧ (∀ g, Cg (wt g y 0) (wt g x7 0 + wt (faceG F g) (now.drop s) s)) ∧
      ∀ r, Ans (fun k => spec_diSums.l0 k x0 (F : Int) y (wrap64 (x6 + 1))) r → Ans (fun k => spec_diSums.l1 k x0 (F : Int) x6 x7 now (now.length : Int) (s : Int)) r
  | 0, s, hs, x7, hl, hI => by
    refine ⟨x7, hl, hI, fun g => Cg.of (by rw [List.drop_of_length_le (by omega)]; simp [wt]), fun r h => ?_⟩
    refine Ans.step (fun k => ?_) h
    simp only [spec_diSums.l1]
    rw [if_neg (by omega)]
  | n + 1, s, hs, x7, hl, hI => by
    obtain ⟨z, a1, a2, a3, a4⟩ := diSums_l2 x0 x6 (rd now (s : Int)) (F := F) (m := m) (s := s) now (now.length : Int) (by omega) hm F 0 (by omega) x7 hl hI
    obtain ⟨y, h1, h2, h3, h4⟩ := diSums_l1 x0 x6 now hm hn n (s + 1) (by omega) z a1 a2
    refine ⟨y, h1, h2, fun g => ?_, fun r h => ?_⟩
    · refine (h3 g).trans ((Cg.add (a3 g) (Cg.refl _)).trans (Cg.of ?_))
      rw [drop_at (l := now) (i := s) (by omega)]
      show _ = _ + (now[s] * faceG F g s + wt (faceG F g) (now.drop (s + 1)) (s + 1))
      rw [rd_at (by omega)]
      unfold faceG
      simp only [Nat.zero_add]
      omega
    · have h5 := h4 r h
      rw [← wrap_succ (i := s) (n := now.length) (by omega) (by omega)] at h5
      have h6 := a4 r h5
      refine Ans.step (fun k => ?_) h6
      simp only [spec_diSums.l1]
      rw [if_pos (by omega), if_pos (by omega), if_pos (by omega)]
      rfl
theorem diSums_l0 {d F : Nat} (hd : d ≤ 8) (hF : F ≤ 12) : ∀ (n e : Nat), e + n = d → ∀ now : List Int, now.length = e * F + 1 → AllI now → (∀ t : Nat, Cg (wt (fun s => dsum n F ((t : Int) - (s : Int))) now 0) (dsum d F (t : Int))) →
    ∃ y : List Int, y.length = d * F + 1 ∧ AllI y ∧ (∀ t : Nat, Cg (rd y (t : Int)) (dsum d F (t : Int))) ∧ Ans (fun k => spec_diSums.l0 k (d : Int) (F : Int) now (e : Int)) y
  | 0, e, he, now, hl, hI, hc => by
    obtain rfl : e = d := by omega
    refine ⟨now, hl, hI, fun t => ?_, ?_⟩
    · have := hc t
      have e2 : wt (fun s => dsum 0 F ((t : Int) - (s : Int))) now 0 = wt (fun i => if (t : Int) - (i : Int) = 0 then 1 else 0) now 0 := rfl
      rw [e2, wt_pick, if_pos (Nat.zero_le _), Nat.sub_zero] at this
      exact this
    · refine Ans.step (f := fun k => some now) (fun k => ?_) (Ans.now rfl)
      simp only [spec_diSums.l0]
      rw [if_neg (by omega)]
  | n + 1, e, he, now, hl, hI, hc => by
    have hb : e * F ≤ 96 := by
      have : e * F ≤ 8 * 12 := Nat.mul_le_mul (by omega) hF
      omega
    have hw : wrap64 ((now.length : Int) + (F : Int)) = ((now.length + F : Nat) : Int) := by rw [wrap_of (by omega) (by omega)]; omega
    obtain ⟨z, a1, a2, a3, a4⟩ := diSums_l1 (d : Int) (e : Int) (F := F) (m := now.length + F) now (by omega) rfl now.length 0 (by omega) (List.replicate (now.length + F) 0) (by simp) (AllI.zeros _)
    obtain ⟨y, h1, h2, h3, h4⟩ := diSums_l0 hd hF n (e + 1) (by omega) z (by rw [a1, hl, Nat.add_mul]; omega) a2 (fun t => by
      refine (a3 _).trans (Cg.trans (Cg.of ?_) (hc t))
      rw [wt_zero, Int.zero_add, List.drop_zero]
      refine wt_congr now 0 fun s => ?_
      show sumN F (fun i => dsum n F ((t : Int) - ((s + (i + 1) : Nat) : Int))) = sumN F fun j => dsum n F ((t : Int) - (s : Int) - ((j + 1 : Nat) : Int))
      refine sumN_congr fun i _ => ?_
      congr 1; omega)
    refine ⟨y, h1, h2, h3, ?_⟩
    have h5 := h4
    rw [← wrap_succ (i := e) (n := d) (by omega) (by omega)] at h5
    refine Ans.step (fun k => ?_) (a4 y h5)
    simp only [spec_diSums.l0]
    rw [if_pos (by omega), hw, if_pos (by omega), Int.toNat_natCast, if_pos (by omega)]
    rfl
theorem dsum_le {d F : Nat} (hd : d ≤ 8) (hF : F ≤ 12) (t : Int) : 0 ≤ dsum d F t ∧ dsum d F t ≤ 815730721 := by
  rw [← kap_all F t (Nat.le_refl d)]
  exact ⟨kap_nonneg _ _ _ _, kap_InI hF hd⟩
theorem diSums_ans {d F : Nat} (hd : d ≤ 8) (hF : F ≤ 12) : Ans (fun k => spec_diSums.f k (d : Int) (F : Int)) (waysL d F d) := by
  obtain ⟨y, h1, h2, h3, h4⟩ := diSums_l0 hd hF d 0 (by omega) [1] (by simp) (fun j => by
    cases j with
    | zero => simp [rd, InI]
    | succ j => simp [rd, InI]) (fun t => Cg.of (by simp [wt]))
  have e : y = waysL d F d := by
    refine ext_rd (by rw [h1, waysL_length d F d hd]) fun t => ?_
    rw [waysL_rd t hd hF (Nat.le_refl _), kap_all F _ (Nat.le_refl _)]
    refine (h3 t).eq (h2 t) ?_
    have := dsum_le hd hF (t : Int)
    unfold InI; omega
  rw [e] at h4
  exact h4

/-! The sums of kept dice. -/
theorem diKept_l2 (a2 : Int) {n f c : Nat} (x9 x11 : Int) (s : Nat) (x41 : List Int) (x42 : Int) (hn : n ≤ 8) (hc : c ≤ n) {p : Nat} (hp : p ≤ 1000) : ∀ (m : Nat) (x7 : List Int), p + 1 - x7.length = m → AllI x7 →
    ∃ y : List Int, y.length = max x7.length (p + 1) ∧ AllI y ∧ (∀ t : Nat, Cg (rd y (t : Int)) (rd x7 (t : Int) + if t = p then ch n c * x11 else 0)) ∧
      ∀ r, Ans (fun k => spec_diKept.l1 k (n : Int) (f : Int) a2 y (c : Int) x9 x41 x42 (wrap64 ((s : Int) + 1))) r → Ans (fun k => spec_diKept.l2 k (n : Int) (f : Int) a2 x7 (c : Int) x9 x11 (p : Int) x41 x42 (s : Int)) r
  | 0, x7, hm, hI => by
    refine ⟨x7.set p (wrap64 (rd x7 (p : Int) + wrap64 (ch n c * x11))), by rw [List.length_set]; omega, hI.set _ _, fun t => ?_, fun r h => ?_⟩
    · rw [rd_set]
      by_cases e : t = p
      · subst e
        rw [if_pos ⟨rfl, by omega⟩, if_pos rfl]
        exact (Cg.wrap _).trans (Cg.add (Cg.refl _) (Cg.wrap _))
      · rw [if_neg (by omega), if_neg e]; exact Cg.of (by omega)
    · refine Ans.step (f := fun k => (spec_diChoose.f k (n : Int) (c : Int)).bind fun t215 => spec_diKept.l1 k (n : Int) (f : Int) a2 (x7.set ((p : Int)).toNat (wrap64 (rd x7 (p : Int) + wrap64 (t215 * x11)))) (c : Int) x9 x41 x42 (wrap64 ((s : Int) + 1))) (fun k => ?_) (Ans.bind (diChoose_ans hn hc) h)
      simp only [spec_diKept.l2]
      rw [if_neg (by omega), if_pos (by omega), if_pos (by omega)]
  | m + 1, x7, hm, hI => by
    obtain ⟨y, h1, h2, h3, h4⟩ := diKept_l2 a2 (n := n) (f := f) (c := c) x9 x11 s x41 x42 hn hc hp m (x7 ++ [0]) (by rw [List.length_append]; simp; omega) hI.snoc0
    refine ⟨y, by rw [h1, List.length_append]; simp; omega, h2, fun t => by have h5 := h3 t; rwa [rd_snoc0] at h5, fun r h => ?_⟩
    refine Ans.step (fun k => ?_) (h4 r h)
    simp only [spec_diKept.l2]
    rw [if_pos (by omega), if_pos (by omega)]
theorem spot_wrap {s q f : Nat} (h1 : s ≤ 300) (h2 : q * f ≤ 96) : wrap64 ((s : Int) + wrap64 ((q : Int) * (f : Int))) = ((s + q * f : Nat) : Int) := by
  rw [show ((q : Int) * (f : Int)) = ((q * f : Nat) : Int) by simp]
  generalize q * f = m at h2 ⊢
  rw [wrap_of (x := (m : Int)) (by omega) (by omega), wrap_of (by omega) (by omega)]; omega
set_option maxHeartbeats 1000000 in
theorem diKept_l1 (a2 : Int) {n f c q : Nat} (L : List Int) (hn : n ≤ 8) (hc : c ≤ n) (hq : q ≤ 8) (hf : f ≤ 12) (hL : L.length ≤ 200) : ∀ (m s : Nat), s + m = L.length → ∀ (x7 : List Int), AllI x7 →
    ∃ y : List Int, y.length ≤ max x7.length (L.length + q * f) ∧ AllI y ∧ (∀ t : Nat, Cg (rd y (t : Int)) (rd x7 (t : Int) + ch n c * if s + q * f ≤ t then rd L ((t - q * f : Nat) : Int) else 0)) ∧
      ∀ r, Ans (fun k => spec_diKept.l0 k (n : Int) (f : Int) a2 y (wrap64 ((c : Int) + 1))) r → Ans (fun k => spec_diKept.l1 k (n : Int) (f : Int) a2 x7 (c : Int) (q : Int) L (L.length : Int) (s : Int)) r
  | 0, s, hs, x7, hI => by
    refine ⟨x7, by omega, hI, fun t => Cg.of ?_, fun r h => ?_⟩
    · by_cases e : s + q * f ≤ t
      · rw [if_pos e, rd_out (l := L) (j := t - q * f) (by omega)]; simp
      · rw [if_neg e]; simp
    · refine Ans.step (fun k => ?_) h
      simp only [spec_diKept.l1]
      rw [if_neg (by omega)]
  | m + 1, s, hs, x7, hI => by
    have hqf : q * f ≤ 96 := by
      have : q * f ≤ 8 * 12 := Nat.mul_le_mul hq hf
      omega
    obtain ⟨z, a1, a2', a3, a4⟩ := diKept_l2 a2 (n := n) (f := f) (c := c) (q : Int) (rd L (s : Int)) s L (L.length : Int) hn hc (p := s + q * f) (by omega) _ x7 rfl hI
    obtain ⟨y, h1, h2, h3, h4⟩ := diKept_l1 a2 (n := n) (f := f) (c := c) (q := q) L hn hc hq hf hL m (s + 1) (by omega) z a2'
    refine ⟨y, by omega, h2, fun t => ?_, fun r h => ?_⟩
    · refine (h3 t).trans ((Cg.add (a3 t) (Cg.refl _)).trans (Cg.of ?_))
      by_cases e : t = s + q * f
      · rw [if_pos e, if_neg (by omega), if_pos (by omega), show t - q * f = s by omega]; omega
      · by_cases e2 : s + q * f ≤ t
        · rw [if_neg e, if_pos (by omega), if_pos e2]; omega
        · rw [if_neg e, if_neg (by omega), if_neg e2]; omega
    · have h5 := h4 r h
      rw [← wrap_succ (i := s) (n := L.length) (by omega) (by omega)] at h5
      refine Ans.step (fun k => ?_) (a4 r h5)
      simp only [spec_diKept.l1]
      rw [if_pos (by omega), if_pos (by omega), if_pos (by omega), spot_wrap (by omega) hqf]
def KeptIs (f n K : Nat) (L : List Int) : Prop := L.length ≤ n * f + 1 ∧ AllI L ∧ ∀ t : Nat, rd L (t : Int) = kap f n K (t : Int)
theorem diKept_l0 {f n K : Nat} (hf : f + 1 ≤ 12) (hn : n ≤ 8) (hK : K ≤ 8) (ih : ∀ n' K', n' ≤ 8 → K' ≤ 8 → ∃ L, KeptIs f n' K' L ∧ Ans (fun k => spec_diKept.f k (n' : Int) (f : Int) (K' : Int)) L) :
    ∀ (m c : Nat), c + m = n + 1 → ∀ x7 : List Int, x7.length ≤ n * (f + 1) + 1 → AllI x7 → (∀ t : Nat, Cg (rd x7 (t : Int)) (sumN c fun c => ch n c * kap f (n - c) (K - c) ((t : Int) - ((min c K * (f + 1) : Nat) : Int)))) →
    ∃ L, KeptIs (f + 1) n K L ∧ Ans (fun k => spec_diKept.l0 k (n : Int) ((f + 1 : Nat) : Int) (K : Int) x7 (c : Int)) L
  | 0, c, hc, x7, hl, hI, hx => by
    obtain rfl : c = n + 1 := by omega
    refine ⟨x7, ⟨hl, hI, fun t => (hx t).eq (hI t) ?_⟩, ?_⟩
    · have h1 := kap_nonneg (f + 1) n K (t : Int)
      have h2 := kap_InI (f := f + 1) (K := K) (t := (t : Int)) hf hn
      unfold kap at h1 h2
      unfold InI; omega
    · refine Ans.step (f := fun k => some x7) (fun k => ?_) (Ans.now rfl)
      simp only [spec_diKept.l0]
      rw [if_neg (by omega)]
  | m + 1, c, hc, x7, hl, hI, hx => by
    obtain ⟨L, ⟨b1, b2, b3⟩, b4⟩ := ih (n - c) (K - c) (by omega) (by omega)
    have hb : (n - c) * f ≤ 8 * 12 := Nat.mul_le_mul (by omega) (by omega)
    obtain ⟨y, h1, h2, h3, h4⟩ := diKept_l1 (K : Int) (n := n) (f := f + 1) (c := c) (q := min c K) L hn (by omega) (by omega) hf (by omega) L.length 0 (by omega) x7 hI
    obtain ⟨R, k1, k2⟩ := diKept_l0 hf hn hK ih m (c + 1) (by omega) y (by
      have e1 : min c K * (f + 1) ≤ c * (f + 1) := Nat.mul_le_mul_right _ (by omega)
      have e2 : n * (f + 1) = (n - c) * f + c * f + n := by rw [← Nat.add_mul, show n - c + c = n by omega, Nat.mul_add, Nat.mul_one]
      have e3 : c * (f + 1) = c * f + c := by rw [Nat.mul_add, Nat.mul_one]
      omega) h2 (fun t => by
      refine (h3 t).trans (Cg.add (hx t) (Cg.of ?_))
      congr 1
      by_cases e : 0 + min c K * (f + 1) ≤ t
      · rw [if_pos e, b3]; congr 1; omega
      · rw [if_neg e, kap_neg (by omega)])
    refine ⟨R, k1, ?_⟩
    have h5 := h4 R (by rw [wrap_of (by omega) (by omega)]; exact k2)
    have e1 : wrap64 ((n : Int) - (c : Int)) = ((n - c : Nat) : Int) := by rw [wrap_of (by omega) (by omega)]; omega
    have e2 : wrap64 (((f + 1 : Nat) : Int) - 1) = (f : Int) := by rw [wrap_of (by omega) (by omega)]; omega
    have e3 : wrap64 ((K : Int) - ((min c K : Nat) : Int)) = ((K - c : Nat) : Int) := by rw [wrap_of (by omega) (by omega)]; omega
    refine Ans.step (f := fun k => (spec_l1Least.f (c : Int) (K : Int)).bind fun t206 => ((spec_diKept.f k (wrap64 ((n : Int) - (c : Int))) (wrap64 (((f + 1 : Nat) : Int) - 1)) (wrap64 ((K : Int) - t206))).bind fun t207 => (spec_diKept.l1 k (n : Int) ((f + 1 : Nat) : Int) (K : Int) x7 (c : Int) t206 t207 (t207.length : Int) 0))) (fun k => ?_) ?_
    · simp only [spec_diKept.l0]
      rw [if_pos (by omega)]
    · refine Ans.pbind (a := ((min c K : Nat) : Int)) ?_ ?_
      · unfold spec_l1Least.f
        by_cases e : (c : Int) < (K : Int)
        · rw [if_pos e, Nat.min_eq_left (by omega)]
        · rw [if_neg e, Nat.min_eq_right (by omega)]
      · rw [e1, e2, e3]
        exact Ans.bind b4 h5
theorem diKept_ans (f : Nat) (hf : f ≤ 12) : ∀ n K, n ≤ 8 → K ≤ 8 → ∃ L, KeptIs f n K L ∧ Ans (fun k => spec_diKept.f k (n : Int) (f : Int) (K : Int)) L := by
  have short : ∀ f n K : Nat, f ≤ 12 → n ≤ 8 → (n = 0 ∨ K = 0) → ∃ L, KeptIs f n K L ∧ Ans (fun k => spec_diKept.f k (n : Int) (f : Int) (K : Int)) L := by
    intro f n K hf hn h
    refine ⟨[(f : Int) ^ n], ⟨by simp, fun j => ?_, fun t => ?_⟩, ?_⟩
    · have hle := kap_InI (f := f) (n := n) (K := 0) (t := 0) hf hn
      have hge := kap_nonneg f n 0 0
      rw [kap_keep0 hf hn, if_pos rfl] at hle hge
      cases j with
      | zero => rw [rd_cons0]; unfold InI; omega
      | succ j => rw [rd_cons, rd_nil]; unfold InI; omega
    · have e : kap f n K (t : Int) = if (t : Int) = 0 then (f : Int) ^ n else 0 := by
        rcases h with rfl | rfl
        · rw [kap_dice0]; simp
        · exact kap_keep0 hf hn
      rw [e]
      cases t with
      | zero => rw [rd_cons0]; simp
      | succ t => rw [rd_cons, rd_nil, if_neg (by omega)]
    · have hj : Ans (fun k => spec_diKept.j0 k (n : Int) (f : Int) (K : Int) true) [(f : Int) ^ n] := by
        refine Ans.step (f := fun k => (spec_diPower.f k (f : Int) (n : Int)).bind fun t202 => some ([t202] : List Int)) (fun k => ?_) (Ans.bind (diPower_ans hf hn) (Ans.now rfl))
        simp only [spec_diKept.j0]
        rfl
      refine Ans.step (fun k => ?_) hj
      simp only [spec_diKept.f]
      rcases h with rfl | rfl
      · rw [if_pos (by omega)]
      · by_cases e : (n : Int) = 0
        · rw [if_pos e]
        · rw [if_neg e]; rfl
  induction f with
  | zero =>
    intro n K hn hK
    by_cases h : n = 0 ∨ K = 0
    · exact short 0 n K hf hn h
    · refine ⟨[], ⟨by simp, fun j => by rw [rd_nil]; unfold InI; omega, fun t => ?_⟩, ?_⟩
      · unfold kap; rw [rd_nil, if_neg (by omega)]
      · have hj : Ans (fun k => spec_diKept.j0 k (n : Int) ((0 : Nat) : Int) (K : Int) false) [] := by
          refine Ans.step (f := fun k => some []) (fun k => ?_) (Ans.now rfl)
          simp only [spec_diKept.j0]
          rfl
        refine Ans.step (fun k => ?_) hj
        simp only [spec_diKept.f]
        rw [if_neg (by omega), show ((K : Int) == 0) = false by simp; omega]
  | succ f ih =>
    intro n K hn hK
    by_cases h : n = 0 ∨ K = 0
    · exact short (f + 1) n K hf hn h
    · obtain ⟨L, h1, h2⟩ := diKept_l0 hf hn hK (fun n' K' a b => ih (by omega) n' K' a b) (n + 1) 0 (by omega) [] (by simp) (fun j => by rw [rd_nil]; unfold InI; omega) (fun t => Cg.of (by rw [rd_nil]; rfl))
      refine ⟨L, h1, ?_⟩
      have hj : Ans (fun k => spec_diKept.j0 k (n : Int) ((f + 1 : Nat) : Int) (K : Int) false) L := by
        refine Ans.step (fun k => ?_) h2
        simp only [spec_diKept.j0]
        rw [if_neg (by simp), if_neg (by omega)]
        rfl
      refine Ans.step (fun k => ?_) hj
      simp only [spec_diKept.f]
      rw [if_neg (by omega), show ((K : Int) == 0) = false by simp; omega]

/-! Fractions in lowest terms. -/
theorem low_same (a b : Int) : ∀ (k : Nat) (x y : Int), 0 ≤ x → 0 ≤ y → impl_lowest.l0 k a b x y = spec_chLow.l0 k a b x y
  | 0, _, _, _, _ => rfl
  | k + 1, x, y, hx, hy => by
    simp only [impl_lowest.l0, spec_chLow.l0]
    by_cases h : y = 0
    · rw [if_pos h, if_neg (show ¬ y > 0 by omega)]
    · rw [if_neg h, if_pos (show y > 0 by omega), if_neg h]
      exact low_same a b k y (Int.tmod x y) hy (Int.tmod_nonneg _ hx)
theorem chLow_l0 (a b : Int) : ∀ (n : Nat) (x y : Int), y.toNat = n → 0 ≤ x → 0 ≤ y → 0 < x ∨ 0 < y → ∃ r, Ans (fun k => spec_chLow.l0 k a b x y) r := by
  intro n
  induction n using Nat.strongRecOn with
  | _ n ih =>
    intro x y hn hx hy h
    by_cases h0 : y = 0
    · refine ⟨_, Ans.step (f := fun k => some (wrap64 (Int.tdiv a x), wrap64 (Int.tdiv b x))) (fun k => ?_) (Ans.now rfl)⟩
      simp only [spec_chLow.l0]
      rw [if_neg (by omega), if_neg (by omega)]
    · have h1 : Int.tmod x y < y := Int.tmod_lt_of_pos _ (by omega)
      have h2 := Int.tmod_nonneg y hx
      obtain ⟨r, hr⟩ := ih (Int.tmod x y).toNat (by omega) y (Int.tmod x y) rfl hy h2 (.inl (by omega))
      refine ⟨r, Ans.step (fun k => ?_) hr⟩
      simp only [spec_chLow.l0]
      rw [if_pos (by omega), if_neg h0]
theorem low_ans {a b : Int} (ha : 0 ≤ a) (hb : 0 < b) : ∃ r : Int × Int, Ans (fun k => spec_chLow.f k a b) r ∧ Ans (fun k => impl_told.f k a b) (r.1, r.2, true) := by
  obtain ⟨r, hr⟩ := chLow_l0 a b _ a b rfl ha (by omega) (.inr hb)
  refine ⟨r, hr, ?_⟩
  unfold impl_told.f
  refine Ans.bind (a := r) ?_ (Ans.now rfl)
  exact Ans.congr (fun k => low_same a b k a b ha (by omega)) hr
end Go.Proofs.Ytbnbokiiakampaa.Q
