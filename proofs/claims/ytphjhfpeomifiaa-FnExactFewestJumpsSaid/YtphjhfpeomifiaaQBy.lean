/- Counts of games by their jumps: the reference's table and the program's counts. Plain Lean; no Go in it. -/
import Derived.Test.YtphjhfpeomifiaaQGames
import Derived.Test.YtphjhfpeomifiaaQGame
import Derived.Test.YtphjhfpeomifiaaEByW
import Derived.Test.YtphjhfpeomifiaaESGaByW
namespace Go.Proofs.Ytphjhfpeomifiaa.Q
open Go.RowKit Go.Proofs.Ytphjhfpeomifiaa.P Go.Proofs.YtphjhfpeomifiaaW.PrintWords
set_option linter.unusedVariables false
set_option linter.unusedSimpArgs false

theorem Ans.one {α : Type} {g : Nat → Option α} {a b : α} (h : Ans g a) (k : Ans g b) : a = b := by
  obtain ⟨K, h⟩ := h
  obtain ⟨M, k⟩ := k
  have h1 := h (K + M) (by omega)
  rw [k (K + M) (by omega)] at h1
  exact (Option.some.inj h1).symm
/-- Does a throw from any square go by a jump. -/
def gj (s o : Int) (l : List J) (a n : Int) : Int := if (landOn s o a n).1 ≠ a ∧ jumpFrom l (landOn s o a n).1 ≠ (landOn s o a n).1 then 1 else 0
theorem thr_plain (s o a n : Int) : thr s o [] a n = (landOn s o a n).1 := by
  unfold thr
  split
  · rfl
  · rename_i h
    unfold landOn at h ⊢
    split at h
    · rename_i c; rw [if_pos c]
    · rename_i c; rw [if_neg c]
      split at h
      · exact absurd rfl h
      · rename_i c; rw [if_neg c]
        split at h
        · exact absurd rfl h
        · rename_i c; rw [if_neg c]
          split at h
          · rename_i c; rw [if_pos c]
            split at h
            · exact absurd rfl h
            · rename_i c; rw [if_neg c]
          · rename_i c; rw [if_neg c]
theorem gaJumpsG_ans {s f o : Int} {l : List J} (hb : Board s f o l) {a n : Int} (ha : 0 ≤ a ∧ a ≤ s) (hn : 1 ≤ n ∧ n ≤ 8) : Ans (fun k => spec_gaJumps.f k s f o l a n) (gj s o l a n) := by
  have hl : l.length ≤ 9223372036854775807 := by have := hb.len; omega
  have h1 := hb.s1; have h2 := hb.s2
  unfold spec_gaJumps.f gj
  refine Ans.bind (sqThrow_ans (plain_board hb) (by omega) (by omega)) ?_
  rw [thr_plain]
  generalize (landOn s o a n).1 = x
  refine Ans.ite (fun h => ?_) (fun h => ?_)
  · rw [if_neg (fun h' => h'.1 h)]; exact Ans.now rfl
  · refine Ans.bind (sqJump_ans hl) (Ans.ite (fun h3 => ?_) (fun h3 => ?_))
    · rw [if_neg (fun h' => h'.2 h3)]; exact Ans.now rfl
    · rw [if_pos ⟨h, h3⟩]; exact Ans.now rfl
theorem jby_gj {s f o : Int} {l : List J} (hb : Board s f o l) {a n : Int} (ha : Sq s l a) (hn : 1 ≤ n ∧ n ≤ 8) : jby s o l a n = gj s o l a n := Ans.one (gaJumps_ans hb ha hn) (gaJumpsG_ans hb ha.1 hn)
theorem gj_01 (s o : Int) (l : List J) (a n : Int) : gj s o l a n = 0 ∨ gj s o l a n = 1 := by
  unfold gj
  split
  · exact Or.inr rfl
  · exact Or.inl rfl

/-- The lists of n throws from a square on that come to the end just by the last one, by so many jumps. -/
def cbV (s f o : Int) (l : List J) : Nat → Int → Int → Int
  | 0, q, d => if q = s then (if d = 0 then 1 else 0) else 0
  | n + 1, q, d => if q = s then 0 else sumN f.toNat fun i => cbV s f o l n (thr s o l q ((i : Int) + 1)) (d - gj s o l q ((i : Int) + 1))
theorem cbV_nonneg (s f o : Int) (l : List J) : ∀ n q d, 0 ≤ cbV s f o l n q d
  | 0, q, d => by unfold cbV; split <;> (try split) <;> omega
  | n + 1, q, d => by
    unfold cbV
    split
    · omega
    · exact sumN_nonneg fun i _ => cbV_nonneg s f o l n _ _
theorem cbV_out (s f o : Int) (l : List J) : ∀ (n : Nat) (q d : Int), d < 0 ∨ (n : Int) < d → cbV s f o l n q d = 0
  | 0, q, d, h => by
    unfold cbV
    split
    · rw [if_neg (by omega)]
    · rfl
  | n + 1, q, d, h => by
    unfold cbV
    split
    · rfl
    · refine sumN_zero fun i _ => cbV_out s f o l n _ _ ?_
      have := gj_01 s o l q ((i : Int) + 1)
      omega
theorem cbV_le (s f o : Int) (l : List J) : ∀ n q d, cbV s f o l n q d ≤ cntV s f o l n q
  | 0, q, d => by
    unfold cbV cntV
    split
    · split <;> omega
    · omega
  | n + 1, q, d => by
    unfold cbV cntV
    split
    · omega
    · exact sumN_le fun i _ => cbV_le s f o l n _ _
theorem cbV_small {s f o : Int} {l : List J} (f8 : f ≤ 8) {n : Nat} (hn : n ≤ 17) (q d : Int) : cbV s f o l n q d ≤ 2251799813685248 := Int.le_trans (cbV_le ..) (cntV_small f8 hn q)
/-- All jumps together. -/
theorem cbV_sum (s f o : Int) (l : List J) : ∀ (n : Nat) (m : Nat) (e q : Int), 0 ≤ e → e + n < m → sumN m (fun d => cbV s f o l n q ((d : Int) - e)) = cntV s f o l n q
  | 0, m, e, q, h0, h => by
    unfold cntV
    by_cases hq : q = s
    · rw [if_pos hq]
      obtain ⟨E, rfl⟩ : ∃ E : Nat, e = (E : Int) := ⟨e.toNat, by omega⟩
      have hv : ∀ d : Nat, cbV s f o l 0 q ((d : Int) - (E : Int)) = if d = E then 1 else 0 := fun d => by
        unfold cbV
        rw [if_pos hq]
        by_cases e2 : d = E
        · rw [if_pos (by omega), if_pos e2]
        · rw [if_neg (by omega), if_neg e2]
      have hm : E < m := by omega
      clear h h0
      have gen : ∀ M, sumN M (fun d => cbV s f o l 0 q ((d : Int) - (E : Int))) = if E < M then 1 else 0 := fun M => by
        induction M with
        | zero => rfl
        | succ M ih =>
          show sumN M _ + cbV s f o l 0 q ((M : Int) - (E : Int)) = _
          rw [ih, hv]
          by_cases e1 : E < M
          · rw [if_pos e1, if_neg (show ¬ M = E by omega), if_pos (show E < M + 1 by omega)]; rfl
          · rw [if_neg e1]
            by_cases e2 : M = E
            · rw [if_pos e2, if_pos (show E < M + 1 by omega)]; rfl
            · rw [if_neg e2, if_neg (show ¬ E < M + 1 by omega)]; rfl
      rw [gen, if_pos hm]
    · rw [if_neg hq]
      exact sumN_zero fun d _ => by unfold cbV; rw [if_neg hq]
  | n + 1, m, e, q, h0, h => by
    unfold cntV
    by_cases hq : q = s
    · rw [if_pos hq]
      exact sumN_zero fun d _ => by unfold cbV; rw [if_pos hq]
    · rw [if_neg hq]
      have e1 : sumN m (fun d => cbV s f o l (n + 1) q ((d : Int) - e)) = sumN m (fun d => sumN f.toNat fun i => cbV s f o l n (thr s o l q ((i : Int) + 1)) ((d : Int) - e - gj s o l q ((i : Int) + 1))) := sumN_congr fun d _ => by
        show (if q = s then (0 : Int) else _) = _
        rw [if_neg hq]
      rw [e1, sumN_swap]
      refine sumN_congr fun i _ => ?_
      have hg := gj_01 s o l q ((i : Int) + 1)
      have e2 := cbV_sum s f o l n m (e + gj s o l q ((i : Int) + 1)) (thr s o l q ((i : Int) + 1)) (by omega) (by omega)
      rw [← e2]
      exact sumN_congr fun d _ => by rw [Int.sub_sub]

theorem sumOF_ans {n : Nat} {g : Nat → Nat → Option (Int → Int)} {v : Nat → Int → Int} (h : ∀ i, i < n → Ans (fun k => g k i) (v i)) : Ans (fun k => sumOF n (g k)) (fun j => sumN n fun i => v i j) := by
  induction n with
  | zero => exact Ans.now rfl
  | succ n ih => exact Ans.bind (ih fun i hi => h i (by omega)) (Ans.bind (h n (by omega)) (Ans.now rfl))
theorem cbF_ans {s f o : Int} {l : List J} (hb : Board s f o l) : ∀ (n : Nat) (q m : Int), Sq s l q → 0 ≤ m → m + n ≤ 16 → Ans (fun k => cbF k s f o l n q m) (fun j => cbV s f o l n q (j - m))
  | 0, q, m, hq, h0, h16 => by
    have h1 := hb.s2; have h3 := hq.1
    unfold cbF
    refine Ans.iteP ⟨⟨by omega, by omega⟩, by omega, by omega⟩ (Ans.now ?_)
    congr 1
    funext j
    unfold cbV
    by_cases h : q = s
    · rw [if_pos h, if_pos h]
      by_cases e : m = j
      · rw [if_pos e, if_pos (by omega)]
      · rw [if_neg e, if_neg (by omega)]
    · rw [if_neg h, if_neg h]
  | n + 1, q, m, hq, h0, h16 => by
    have h1 := hb.s1; have h2 := hb.s2; have h3 := hb.f1; have h4 := hb.f2; have h5 := hq.1
    have hl : l.length ≤ 9223372036854775807 := by have := hb.len; omega
    unfold cbF
    refine Ans.iteP ⟨⟨by omega, by omega⟩, by omega, by omega⟩ (Ans.ite (fun h => Ans.now ?_) (fun h => ?_))
    · congr 1
      funext j
      unfold cbV
      rw [if_pos h]
    · have e1 : (fun j => cbV s f o l (n + 1) q (j - m)) = fun j => sumN f.toNat fun i => cbV s f o l n (thr s o l q ((i : Int) + 1)) (j - (m + gj s o l q ((i : Int) + 1))) := by
        funext j
        show (if q = s then (0 : Int) else _) = _
        rw [if_neg h]
        exact sumN_congr fun i _ => by rw [Int.sub_sub]
      rw [e1]
      refine sumOF_ans fun i hi => ?_
      have hj := gj_01 s o l q ((i : Int) + 1)
      refine Ans.bind (throw_ans hl ⟨h1, h2⟩ (by omega) (by omega)) (Ans.bind (jumpsBy_ans hb hq ⟨by omega, by omega⟩) ?_)
      rw [jby_gj hb hq ⟨by omega, by omega⟩, wrap_of (by omega) (by omega)]
      exact cbF_ans hb n _ _ (hq.thr hb (by omega)) (by omega) (by omega)
/-- The games by their jumps. -/
def byL (s f o : Int) (l : List J) (n : Nat) : List Int := tabL 17 fun d => cbV s f o l n 0 (d : Int)
theorem byJumps_ans {s f o : Int} {l : List J} (hb : Board s f o l) {n : Nat} (hn : n ≤ 16) : Ans (fun k => impl_Board_byJumps.f k s f o l (n : Int)) (byL s f o l n) := by
  have h3 := hb.f1; have h4 := hb.f2
  unfold impl_Board_byJumps.f
  refine Ans.iteP ⟨by omega, by omega, by omega⟩ ?_
  obtain ⟨K, h⟩ := cbF_ans hb n 0 0 (Sq.zero hb) (by omega) (by omega)
  refine ⟨K, fun k hk => ?_⟩
  have h' : cbF k s f o l n 0 0 = some (fun j => cbV s f o l n 0 (j - 0)) := h k hk
  simp only [Int.toNat_natCast, h', Option.map_some]
  congr 1
  show _ = (List.range 17).map fun d : Nat => cbV s f o l n 0 (d : Int)
  refine List.map_congr_left fun d _ => ?_
  rw [Int.sub_zero]
  exact wrap_of (by have := cbV_nonneg s f o l n 0 (d : Int); omega) (by have := cbV_small (s := s) (o := o) (l := l) h4 (n := n) (by omega) 0 (d : Int); omega)

/-! the reference's table -/
def rowR (s f o : Int) (l : List J) (n : Nat) (q : Int) : List Int := tabL 18 fun d => cbV s f o l n q (d : Int)
def tabR (s f o : Int) (l : List J) (n : Nat) : List (List Int) := (List.range (s.toNat + 1)).map fun q : Nat => rowR s f o l n (q : Int)
theorem tabR_at {s f o : Int} {l : List J} {n : Nat} {q : Nat} (h : q < s.toNat + 1) : (tabR s f o l n).getD q [] = rowR s f o l n (q : Int) := by simp [tabR, h]
theorem jRun_val {more : Int} (hm : more = 0 ∨ more = 1) {r y : Nat → Int} (hr : ∀ d, 0 ≤ r d) (hr2 : ∀ d, 17 ≤ d → r d = 0) (hs : ∀ d, 0 ≤ y d ∧ y d + r d ≤ 9223372036854775807) (hs2 : ∀ d, y (d + 1) + r d ≤ 9223372036854775807) : ∀ (d j : Nat), j + d = 18 →
    jRunB more ((tabL 18 r).drop j) j (tabL 18 fun u => y u + if more ≤ (u : Int) ∧ ((u : Int) - more).toNat < j then r ((u : Int) - more).toNat else 0) = some (tabL 18 fun u => y u + if more ≤ (u : Int) then r ((u : Int) - more).toNat else 0)
  | 0, j, h => by
    rw [List.drop_of_length_le (by rw [tabL_length]; omega)]
    show some _ = some _
    congr 1
    refine tabL_congr fun u hu => ?_
    by_cases e : more ≤ (u : Int)
    · rw [if_pos ⟨e, by omega⟩, if_pos e]
    · rw [if_neg (fun h => e h.1), if_neg e]
  | d + 1, j, h => by
    have hj : j < (tabL 18 r).length := by rw [tabL_length]; omega
    rw [List.drop_eq_getElem_cons hj]
    have e0 : (tabL 18 r)[j] = r j := by simp [tabL]
    rw [e0]
    unfold jRunB
    have ih := jRun_val hm hr hr2 hs hs2 d (j + 1) (by omega)
    by_cases hp : 0 < r j
    · have hj17 : j < 17 := by
        rcases Nat.lt_or_ge j 17 with h1 | h1
        · exact h1
        · rw [hr2 j h1] at hp; omega
      rw [if_pos hp, if_pos ⟨by omega, by omega⟩]
      obtain ⟨P, hP⟩ : ∃ P : Nat, (j : Int) + more = (P : Int) := ⟨((j : Int) + more).toNat, by omega⟩
      rw [hP, Int.toNat_natCast, tabL_rd (by omega), tabL_set]
      rw [← ih]
      congr 1
      refine tabL_congr fun u hu => ?_
      by_cases e : u = P
      · subst e
        have e1 : ((u : Int) - more).toNat = j := by omega
        rw [if_pos rfl, e1, if_neg (fun h => by omega), if_pos ⟨by omega, by omega⟩, Int.add_zero]
        have b : y u + r j ≤ 9223372036854775807 := by
          rcases hm with h0 | h0
          · have : u = j := by omega
            rw [this]; exact (hs j).2
          · have : u = j + 1 := by omega
            rw [this]; exact hs2 j
        exact wrap_of (by have := (hs u).1; omega) b
      · rw [if_neg e]
        by_cases e2 : more ≤ (u : Int) ∧ ((u : Int) - more).toNat < j
        · rw [if_pos e2, if_pos ⟨e2.1, by omega⟩]
        · rw [if_neg e2, if_neg (fun h => e2 ⟨h.1, by omega⟩)]
    · rw [if_neg hp]
      rw [← ih]
      congr 1
      refine tabL_congr fun u hu => ?_
      have hz : r j = 0 := by have := hr j; omega
      by_cases e2 : more ≤ (u : Int) ∧ ((u : Int) - more).toNat < j
      · rw [if_pos e2, if_pos ⟨e2.1, by omega⟩]
      · rw [if_neg e2]
        by_cases e3 : more ≤ (u : Int) ∧ ((u : Int) - more).toNat < j + 1
        · rw [if_pos e3, show ((u : Int) - more).toNat = j by omega, hz]
        · rw [if_neg e3]
theorem fRun_ans {s f o : Int} {l : List J} (hb : Board s f o l) {n : Nat} (hn : n ≤ 15) {a : Nat} (ha : (a : Int) ≤ s) : ∀ (d t : Nat), t + d = f.toNat →
    Ans (fun k => fRunB k s f o l (tabR s f o l n) (a : Int) d t (tabL 18 fun u => sumN t fun i => cbV s f o l n (thr s o l (a : Int) ((i : Int) + 1)) ((u : Int) - gj s o l (a : Int) ((i : Int) + 1)))) (tabL 18 fun u => sumN f.toNat fun i => cbV s f o l n (thr s o l (a : Int) ((i : Int) + 1)) ((u : Int) - gj s o l (a : Int) ((i : Int) + 1)))
  | 0, t, h => by
    obtain rfl : t = f.toNat := by omega
    exact Ans.now rfl
  | d + 1, t, h => by
    have h1 := hb.s1; have h2 := hb.s2; have h3 := hb.f1; have h4 := hb.f2
    have hr := thr_range hb (a := (a : Int)) (n := (t : Int) + 1) ⟨by omega, ha⟩ (by omega)
    have hg := gj_01 s o l (a : Int) ((t : Int) + 1)
    unfold fRunB
    refine Ans.bind (gaJumpsG_ans hb ⟨by omega, ha⟩ ⟨by omega, by omega⟩) (Ans.bind (sqThrow_ans hb (by omega) (by omega)) (Ans.iteP hr ?_))
    obtain ⟨Q, hQ⟩ : ∃ Q : Nat, thr s o l (a : Int) ((t : Int) + 1) = (Q : Int) := ⟨_, (Int.toNat_of_nonneg hr.1).symm⟩
    have hj := jRun_val (more := gj s o l (a : Int) ((t : Int) + 1)) hg (r := fun u => cbV s f o l n (Q : Int) (u : Int)) (y := fun u => sumN t fun i => cbV s f o l n (thr s o l (a : Int) ((i : Int) + 1)) ((u : Int) - gj s o l (a : Int) ((i : Int) + 1)))
      (fun u => cbV_nonneg ..) (fun u hu => cbV_out s f o l n _ _ (by omega)) (fun u => ?_) (fun u => ?_) 18 0 rfl
    · refine Ans.pbind (x := jRunB _ _ _ _) (a := tabL 18 fun u => sumN (t + 1) fun i => cbV s f o l n (thr s o l (a : Int) ((i : Int) + 1)) ((u : Int) - gj s o l (a : Int) ((i : Int) + 1))) ?_ (fRun_ans hb hn ha d (t + 1) (by omega))
      rw [hQ, Int.toNat_natCast, tabR_at (by omega)]
      rw [List.drop_zero] at hj
      have e1 : (tabL 18 fun u => (fun u : Nat => sumN t fun i => cbV s f o l n (thr s o l (a : Int) ((i : Int) + 1)) ((u : Int) - gj s o l (a : Int) ((i : Int) + 1))) u + if gj s o l (a : Int) ((t : Int) + 1) ≤ (u : Int) ∧ ((u : Int) - gj s o l (a : Int) ((t : Int) + 1)).toNat < 0 then (fun u : Nat => cbV s f o l n (Q : Int) (u : Int)) ((u : Int) - gj s o l (a : Int) ((t : Int) + 1)).toNat else 0) = tabL 18 fun u => sumN t fun i => cbV s f o l n (thr s o l (a : Int) ((i : Int) + 1)) ((u : Int) - gj s o l (a : Int) ((i : Int) + 1)) := tabL_congr fun u _ => by
        rw [if_neg (fun h => absurd h.2 (Nat.not_lt_zero _)), Int.add_zero]
      rw [e1] at hj
      refine hj.trans ?_
      congr 1
      refine tabL_congr fun u _ => ?_
      show _ + _ = sumN t _ + cbV s f o l n (thr s o l (a : Int) ((t : Int) + 1)) ((u : Int) - gj s o l (a : Int) ((t : Int) + 1))
      rw [hQ]
      congr 1
      by_cases e : gj s o l (a : Int) ((t : Int) + 1) ≤ (u : Int)
      · rw [if_pos e]
        show cbV s f o l n (Q : Int) ((((u : Int) - gj s o l (a : Int) ((t : Int) + 1)).toNat : Nat) : Int) = _
        rw [Int.toNat_of_nonneg (by omega)]
      · rw [if_neg e, cbV_out s f o l n _ _ (by omega)]
    · have b1 := sumN_nonneg (n := t) (g := fun i => cbV s f o l n (thr s o l (a : Int) ((i : Int) + 1)) ((u : Int) - gj s o l (a : Int) ((i : Int) + 1))) fun i _ => cbV_nonneg ..
      have b2 := sumN_bound (n := t) (g := fun i => cbV s f o l n (thr s o l (a : Int) ((i : Int) + 1)) ((u : Int) - gj s o l (a : Int) ((i : Int) + 1))) (b := 2251799813685248) fun i _ => cbV_small h4 (by omega) _ _
      have b3 := cbV_small (s := s) (o := o) (l := l) h4 (n := n) (by omega) (Q : Int) (u : Int)
      exact ⟨b1, by omega⟩
    · have b2 := sumN_bound (n := t) (g := fun i => cbV s f o l n (thr s o l (a : Int) ((i : Int) + 1)) (((u + 1 : Nat) : Int) - gj s o l (a : Int) ((i : Int) + 1))) (b := 2251799813685248) fun i _ => cbV_small h4 (by omega) _ _
      have b3 := cbV_small (s := s) (o := o) (l := l) h4 (n := n) (by omega) (Q : Int) (u : Int)
      omega
theorem row_ans {s f o : Int} {l : List J} (hb : Board s f o l) {n : Nat} (hn : n ≤ 15) {a : Nat} (ha : (a : Int) ≤ s) : Ans (fun k => rowB k s f o l (tabR s f o l n) a) (rowR s f o l (n + 1) (a : Int)) := by
  have hz : List.replicate 18 (0 : Int) = tabL 18 fun _ => 0 := tabL_zero 18
  unfold rowB rowR
  refine Ans.ite (fun h => Ans.now ?_) (fun h => ?_)
  · rw [hz]
    congr 1
    exact tabL_congr fun d _ => by unfold cbV; rw [if_pos h]
  · rw [hz]
    have h1 := fRun_ans hb hn ha f.toNat 0 (by omega)
    have e1 : (tabL 18 fun d => cbV s f o l (n + 1) (a : Int) (d : Int)) = tabL 18 fun u => sumN f.toNat fun i => cbV s f o l n (thr s o l (a : Int) ((i : Int) + 1)) ((u : Int) - gj s o l (a : Int) ((i : Int) + 1)) := tabL_congr fun d _ => by
      show (if (a : Int) = s then (0 : Int) else _) = _
      rw [if_neg h]
    rw [e1]
    exact h1
theorem aRun_ans {s f o : Int} {l : List J} (hb : Board s f o l) {n : Nat} (hn : n ≤ 15) : ∀ (d a : Nat), a + d = s.toNat + 1 →
    Ans (fun k => aRunB k s f o l (tabR s f o l n) d a ((List.range a).map fun q : Nat => rowR s f o l (n + 1) (q : Int))) (tabR s f o l (n + 1))
  | 0, a, h => by
    obtain rfl : a = s.toNat + 1 := by omega
    exact Ans.now rfl
  | d + 1, a, h => by
    have h1 := hb.s1
    unfold aRunB
    refine Ans.bind (row_ans hb hn (a := a) (by omega)) ?_
    have e : ((List.range a).map fun q : Nat => rowR s f o l (n + 1) (q : Int)) ++ [rowR s f o l (n + 1) (a : Int)] = (List.range (a + 1)).map fun q : Nat => rowR s f o l (n + 1) (q : Int) := by simp [List.range_succ]
    rw [e]
    exact aRun_ans hb hn d (a + 1) (by omega)
theorem tRun_ans {s f o : Int} {l : List J} (hb : Board s f o l) : ∀ (d n : Nat), n + d ≤ 16 → Ans (fun k => tRunB k s f o l d (tabR s f o l n)) (tabR s f o l (n + d))
  | 0, n, h => Ans.now rfl
  | d + 1, n, h => by
    unfold tRunB
    refine Ans.bind (aRun_ans hb (n := n) (by omega) (s.toNat + 1) 0 (by omega)) ?_
    have := tRun_ans hb d (n + 1) (by omega)
    rwa [show n + 1 + d = n + (d + 1) by omega] at this
theorem init_tab {s f o : Int} {l : List J} (hb : Board s f o l) : initB s.toNat = tabR s f o l 0 := by
  have hs1 := hb.s1
  have hz : List.replicate 18 (0 : Int) = tabL 18 fun _ => 0 := tabL_zero 18
  unfold initB zeroB tabR
  refine List.ext_getElem (by simp) fun q h1 h2 => ?_
  rw [List.getElem_set]
  simp only [List.getElem_map, List.getElem_range, List.getElem_replicate]
  rw [hz]
  by_cases e : s.toNat = q
  · rw [if_pos e, tabL_set]
    refine tabL_congr fun d _ => ?_
    unfold cbV
    rw [if_pos (show (q : Int) = s by omega)]
    by_cases e2 : d = 0
    · rw [if_pos e2, if_pos (show (d : Int) = 0 by omega)]
    · rw [if_neg e2, if_neg (show ¬ (d : Int) = 0 by omega)]
  · rw [if_neg e]
    refine tabL_congr fun d _ => ?_
    unfold cbV
    rw [if_neg (show ¬ (q : Int) = s by omega)]
theorem gaBy_ans {s f o : Int} {l : List J} (hb : Board s f o l) {n : Nat} (hn : n ≤ 16) : Ans (fun k => spec_gaBy.f k s f o l (n : Int)) (byL s f o l n) := by
  have h1 := hb.s1; have h2 := hb.s2; have h3 := hb.f1; have h4 := hb.f2
  unfold spec_gaBy.f
  refine Ans.iteP ⟨h1, by omega, by omega, by omega, by omega⟩ ?_
  rw [init_tab hb, Int.toNat_natCast]
  obtain ⟨K, h⟩ := tRun_ans hb n 0 (by omega)
  refine ⟨K, fun k hk => ?_⟩
  have h' : tRunB k s f o l n (tabR s f o l 0) = some (tabR s f o l (0 + n)) := h k hk
  simp only [h', Option.map_some, Nat.zero_add]
  rw [tabR_at (by omega)]
  congr 1
theorem byL_length (s f o : Int) (l : List J) (n : Nat) : (byL s f o l n).length = 17 := tabL_length ..
theorem byL_rd {s f o : Int} {l : List J} {n : Nat} {d : Nat} (h : d < 17) : rd (byL s f o l n) (d : Int) = cbV s f o l n 0 (d : Int) := tabL_rd h
theorem by_total {s f o : Int} {l : List J} {n : Nat} (hn : n ≤ 16) : sumN 17 (fun d => cbV s f o l n 0 (d : Int)) = cntV s f o l n 0 := by
  have := cbV_sum s f o l n 17 0 0 (by omega) (by omega)
  rw [← this]
  exact sumN_congr fun d _ => by rw [Int.sub_zero]

end Go.Proofs.Ytphjhfpeomifiaa.Q
