/- ThreatsTo of the program returns what the reference's returns, for all arguments; no condition. -/
import Derived.Test.YtcppahkdfajcaaaQLawTr
import Derived.Test.YtcppahkdfajcaaaELawThreatsTo
namespace Go.Proofs.Ytcppahkdfajcaaa.Pure
open Go.RowKit Go.Proofs.Ytcppahkdfajcaaa.P Go.Proofs.Ytcppahkdfajcaaa.Q Go.Proofs.YtcppahkdfajcaaaW.PrintWords Go.Proofs.YtcppahkdfajcaaaW.PrintLast
set_option linter.unusedVariables false
set_option linter.unusedSimpArgs false

/-- At some place from i on, below n. -/
def anyFrom (p : Nat → Bool) (n i : Nat) : Bool := ((List.range n).drop i).any p
theorem anyFrom_end {p : Nat → Bool} {n : Nat} : anyFrom p n n = false := by unfold anyFrom; rw [List.drop_of_length_le (by simp)]; rfl
theorem anyFrom_step {p : Nat → Bool} {n i : Nat} (h : i < n) : anyFrom p n i = (p i || anyFrom p n (i + 1)) := by
  unfold anyFrom
  rw [List.drop_eq_getElem_cons (by simpa using h)]
  simp
theorem anyFrom_no {p : Nat → Bool} {n i : Nat} (h : ∀ j, p j = false) : anyFrom p n i = false := by
  unfold anyFrom
  rw [List.any_eq_false]
  intro j _
  rw [h]; simp

variable {a b c : Int} {l3 l4 : List Int} {s : List (List Int)}
theorem rdL_getD {s : List (List Int)} (P : Nat) : rd_L1 s (P : Int) = s.getD P [] := by
  simp [rd_L1, rdOf, List.getD_eq_getElem?_getD]
theorem set2_at {s : List (List Int)} {i j : Nat} {x : Int} (hi : i < s.length) (hj : j < (s.getD i []).length) (P T : Nat) : rd (rd_L1 (set2 s i j x) (P : Int)) (T : Int) = if i = P ∧ j = T then x else rd (rd_L1 s (P : Int)) (T : Int) := by
  rw [rdL_getD, rdL_getD]
  unfold set2
  by_cases e : i = P
  · subst e
    have e1 : (s.set i ((s.getD i []).set j x)).getD i [] = (s.getD i []).set j x := by rw [List.getD_eq_getElem?_getD, List.getElem?_set_self hi, Option.getD_some]
    rw [e1]
    by_cases e2 : j = T
    · subst e2
      rw [if_pos ⟨rfl, rfl⟩]
      simp only [rd, Int.toNat_natCast]
      rw [List.getD_eq_getElem?_getD, List.getElem?_set_self hj, Option.getD_some]
    · rw [if_neg (fun h => e2 h.2)]
      simp only [rd, Int.toNat_natCast]
      rw [List.getD_eq_getElem?_getD, List.getElem?_set_ne e2, ← List.getD_eq_getElem?_getD]
  · rw [if_neg (fun h => e h.1)]
    have e1 : (s.set i ((s.getD i []).set j x)).getD P [] = s.getD P [] := by rw [List.getD_eq_getElem?_getD, List.getElem?_set_ne e, ← List.getD_eq_getElem?_getD]
    rw [e1]
/-- Who is sent home. -/
theorem sendL_at (p : Int) : ∀ (toks : List (List Int)) (n : Int) (s : List (List Int)) (n' : Int) (s' : List (List Int)), sendL p toks n s = some (n', s') → ∀ P T : Nat, (P : Int) ≠ p →
    rd (rd_L1 s' (P : Int)) (T : Int) = if (∃ one ∈ toks, rd one 0 = (P : Int) ∧ rd one 1 = (T : Int)) then -1 else rd (rd_L1 s (P : Int)) (T : Int)
  | [], n, s, n', s', h, P, T, hP => by
    obtain ⟨rfl, rfl⟩ := Prod.mk.inj (Option.some.inj h)
    rw [if_neg (by rintro ⟨one, h, _⟩; simp at h)]
  | one :: rest, n, s, n', s', h, P, T, hP => by
    unfold sendL at h
    by_cases h2 : one.length = 2
    case neg => rw [if_neg h2] at h; cases h
    rw [if_pos h2] at h
    by_cases e : rd one 0 = p
    · rw [if_pos e] at h
      rw [sendL_at p rest n s n' s' h P T hP]
      have e1 : (∃ o ∈ one :: rest, rd o 0 = (P : Int) ∧ rd o 1 = (T : Int)) ↔ (∃ o ∈ rest, rd o 0 = (P : Int) ∧ rd o 1 = (T : Int)) := by
        constructor
        · rintro ⟨o, ho, h3, h4⟩
          rcases List.mem_cons.1 ho with rfl | ho
          · exact absurd (h3.symm.trans e) hP
          · exact ⟨o, ho, h3, h4⟩
        · rintro ⟨o, ho, h3⟩
          exact ⟨o, List.mem_cons_of_mem _ ho, h3⟩
      by_cases c : ∃ o ∈ rest, rd o 0 = (P : Int) ∧ rd o 1 = (T : Int)
      · rw [if_pos c, if_pos (e1.2 c)]
      · rw [if_neg c, if_neg (fun h => c (e1.1 h))]
    · rw [if_neg e] at h
      by_cases hb : 0 ≤ rd one 0 ∧ rd one 0 < (s.length : Int) ∧ 0 ≤ rd one 1 ∧ rd one 1 < ((s.getD (rd one 0).toNat []).length : Int)
      case neg => rw [if_neg hb] at h; cases h
      rw [if_pos hb] at h
      rw [sendL_at p rest _ _ n' s' h P T hP, set2_at (by omega) (by omega)]
      by_cases c : ∃ o ∈ rest, rd o 0 = (P : Int) ∧ rd o 1 = (T : Int)
      · rw [if_pos c, if_pos (by obtain ⟨o, ho, h3⟩ := c; exact ⟨o, List.mem_cons_of_mem _ ho, h3⟩)]
      · rw [if_neg c]
        by_cases c2 : (rd one 0).toNat = P ∧ (rd one 1).toNat = T
        · rw [if_pos c2, if_pos ⟨one, by simp, by omega, by omega⟩]
        · rw [if_neg c2, if_neg]
          rintro ⟨o, ho, h3, h4⟩
          rcases List.mem_cons.1 ho with rfl | ho
          · exact c2 ⟨by omega, by omega⟩
          · exact c ⟨o, ho, h3, h4⟩

/-- The square that a token comes to is the one asked for, and it is not safe. -/
def hitB (a b : Int) (l3 : List Int) (z : Bool) (q0 o y f : Int) : Bool := canB a b y f && (sqOf a l3 o (stepB a y f) == q0 && !z)
theorem sqOf_pos {p y : Int} (h : 0 ≤ sqOf a l3 p y) : 0 ≤ y := by
  unfold sqOf at h
  split at h
  · rename_i h1; have := (inR_iff.1 h1).1; omega
  · omega
theorem go_at (F : Facts a b c l3 l4 s) (k4 : l4.length ≤ 1048576) {o t f : Int} (hm : moveB b c l3 o t f = true) (hc : canB a b (rd (rd_L1 s o) t) f = true) {P T : Nat} (hP : P < s.length) (hT : (T : Int) < c) (hPo : (P : Int) ≠ o) (hq0 : 0 ≤ sqOf a l3 (P : Int) (rd (rd_L1 s (P : Int)) (T : Int))) :
    ∃ (n : Int) (s2 : List (List Int)), Ans (fun k => spec_trGo.f k a b c l3 l4 s o t f) (s2, n) ∧ s2.length = s.length ∧ (T : Int) < ((rd_L1 s2 (P : Int)).length : Int) ∧ decide (rd (rd_L1 s2 (P : Int)) (T : Int) < 0) = (sqOf a l3 o (stepB a (rd (rd_L1 s o) t) f) == sqOf a l3 (P : Int) (rd (rd_L1 s (P : Int)) (T : Int)) && !l4.contains (sqOf a l3 (P : Int) (rd (rd_L1 s (P : Int)) (T : Int)))) := by
  simp only [moveB, Bool.and_eq_true] at hm
  obtain ⟨h0, h1, h2, h3⟩ := row_at F hm.1
  have ht := inR_iff.1 hm.2.1
  have hf := inR_iff.1 hm.2.2
  have ha := F.fa
  have hn := F.fn
  have hl := F.flen
  have hcc := F.fc
  have hx := h3 _ (tok_at (r := rd_L1 s o) (t := t) ht.1 (by omega))
  have hg := getD_rdL h0 h1
  have hstep := step_eq F hx hf hc
  have hrow : ∀ r ∈ s, r.length ≤ 4 := fun r hr => by have := (F.frow r hr).1; omega
  have hPl : ((rd_L1 s (P : Int)).length : Int) = c := by rw [rdL_at hP]; exact (F.frow _ (List.getElem_mem hP)).1
  have hb : 0 ≤ o ∧ o < (s.length : Int) ∧ 0 ≤ t ∧ t < ((s.getD o.toNat []).length : Int) := ⟨h0, h1, ht.1, by rw [hg]; omega⟩
  have hcopy := trCopy_ans (s := s) (by omega) (fun r hr => by have := hrow r hr; omega)
  generalize hX : stepB a (rd (rd_L1 s o) t) f = x at hstep ⊢
  obtain ⟨s1, hs1⟩ : ∃ s1, s1 = set2 s o.toNat t.toNat x := ⟨_, rfl⟩
  have hl1 : s1.length = s.length := by rw [hs1, set2_length]
  have hr1 : ∀ r ∈ s1, r.length ≤ 4 := by rw [hs1]; exact set2_rows hrow _ _ _
  have hkeep : rd (rd_L1 s1 (P : Int)) (T : Int) = rd (rd_L1 s (P : Int)) (T : Int) := by
    rw [hs1, set2_at (by omega) (by omega), if_neg (fun h => hPo (by omega))]
  have hlen1 : (rd_L1 s1 (P : Int)).length = (rd_L1 s (P : Int)).length := by rw [rdL_getD, rdL_getD, hs1, set2_row]
  have hy0 := sqOf_pos hq0
  have hsq := spec_square (a := a) (b := b) (c := c) (l3 := l3) (l4 := l4) (x := x) h0 (by omega) (by omega)
  generalize hQ : sqOf a l3 o x = q at hsq ⊢
  obtain ⟨n', s', e, el, er⟩ := sendL_val o (m := 4) (atL a l3 q 0 s1) 0 s1 hr1 (fun one ho => by
    obtain ⟨m, row, j, y, e1, e2, _, rfl⟩ := (mem_atL s1 0).1 ho
    obtain ⟨k1, k2⟩ := List.getElem?_eq_some_iff.1 e1
    obtain ⟨k3, k5⟩ := List.getElem?_eq_some_iff.1 e2
    have r0 : rd [((0 + m : Nat) : Int), (j : Int)] 0 = (m : Int) := by simp [rd]
    have r1 : rd [((0 + m : Nat) : Int), (j : Int)] 1 = (j : Int) := by simp [rd]
    rw [r0, r1, Int.toNat_natCast, List.getD_eq_getElem?_getD, e1]
    exact ⟨rfl, by omega, by omega, by omega, by show (j : Int) < (row.length : Int); omega⟩)
  by_cases hq : q < 0
  · refine ⟨0, s1, ?_, hl1, by rw [hlen1, hPl]; exact hT, ?_⟩
    · unfold spec_trGo.f
      refine Ans.bind hcopy (Ans.iteP hb ?_)
      rw [hg, hstep, ← hs1]
      exact Ans.pbind hsq (Ans.iteP hq (Ans.now rfl))
    · rw [hkeep, decide_eq_false (by omega), show (q == sqOf a l3 (P : Int) (rd (rd_L1 s (P : Int)) (T : Int))) = false by simp; omega]
      rfl
  cases hz : l4.contains q with
  | true =>
    refine ⟨0, s1, ?_, hl1, by rw [hlen1, hPl]; exact hT, ?_⟩
    · unfold spec_trGo.f
      refine Ans.bind hcopy (Ans.iteP hb ?_)
      rw [hg, hstep, ← hs1]
      exact Ans.pbind hsq (Ans.iteN hq (Ans.bind ((l1Has_ans (by omega)).val hz) (Ans.iteP rfl (Ans.now rfl))))
    · rw [hkeep, decide_eq_false (by omega)]
      by_cases e1 : q = sqOf a l3 (P : Int) (rd (rd_L1 s (P : Int)) (T : Int))
      · rw [← e1, hz]; simp
      · rw [show (q == sqOf a l3 (P : Int) (rd (rd_L1 s (P : Int)) (T : Int))) = false by simpa using e1]; rfl
  | false =>
    have hat := sendL_at o _ _ _ _ _ e P T hPo
    have hTl : T < (rd_L1 s1 (P : Int)).length := by rw [hlen1]; omega
    have hP1 : P < s1.length := by omega
    have hex : (∃ one ∈ atL a l3 q 0 s1, rd one 0 = (P : Int) ∧ rd one 1 = (T : Int)) ↔ sqOf a l3 (P : Int) (rd (rd_L1 s (P : Int)) (T : Int)) = q := by
      constructor
      · rintro ⟨one, ho, h3, h4⟩
        obtain ⟨m, row, j, y, e1, e2, e3, rfl⟩ := (mem_atL s1 0).1 ho
        have r0 : rd [((0 + m : Nat) : Int), (j : Int)] 0 = (m : Int) := by simp [rd]
        have r1 : rd [((0 + m : Nat) : Int), (j : Int)] 1 = (j : Int) := by simp [rd]
        rw [r0] at h3
        rw [r1] at h4
        obtain rfl : m = P := by omega
        obtain rfl : j = T := by omega
        have e4 : rd (rd_L1 s1 (m : Int)) (j : Int) = y := by
          rw [rdL_getD, List.getD_eq_getElem?_getD, e1, Option.getD_some]
          simp only [rd, Int.toNat_natCast]
          rw [List.getD_eq_getElem?_getD, e2, Option.getD_some]
        rw [← hkeep, e4]
        simpa using e3
      · intro h
        have e1 : s1[P]? = some (rd_L1 s1 (P : Int)) := by rw [rdL_getD, List.getD_eq_getElem?_getD, List.getElem?_eq_getElem hP1]; rfl
        have e2 : (rd_L1 s1 (P : Int))[T]? = some (rd (rd_L1 s1 (P : Int)) (T : Int)) := by
          simp only [rd, Int.toNat_natCast]
          rw [List.getD_eq_getElem?_getD, List.getElem?_eq_getElem hTl]; rfl
        refine ⟨[((0 + P : Nat) : Int), (T : Int)], (mem_atL s1 0).2 ⟨P, _, T, _, e1, e2, by rw [hkeep]; simpa using h, rfl⟩, by simp [rd], by simp [rd]⟩
    have hl' : (rd_L1 s' (P : Int)).length = (rd_L1 s (P : Int)).length := by
      have gen : ∀ (toks : List (List Int)) (n : Int) (u : List (List Int)) (n' : Int) (u' : List (List Int)), sendL o toks n u = some (n', u') → (u'.getD P []).length = (u.getD P []).length := by
        intro toks
        induction toks with
        | nil => intro n u n' u' h; obtain ⟨_, rfl⟩ := Prod.mk.inj (Option.some.inj h); rfl
        | cons one rest ih =>
          intro n u n' u' h
          unfold sendL at h
          split at h
          · split at h
            · exact ih _ _ _ _ h
            · split at h
              · rw [ih _ _ _ _ h, set2_row]
              · cases h
          · cases h
      rw [rdL_getD, rdL_getD, gen _ _ _ _ _ e, ← rdL_getD, ← rdL_getD, hlen1]
    refine ⟨n', s', ?_, by omega, by rw [hl', hPl]; exact hT, ?_⟩
    · unfold spec_trGo.f
      refine Ans.bind hcopy (Ans.iteP hb ?_)
      rw [hg, hstep, ← hs1]
      exact Ans.pbind hsq (Ans.iteN hq (Ans.bind ((l1Has_ans (by omega)).val hz) (Ans.iteN (by simp) (Ans.bind (trAt_ans (by omega) (by omega) (by omega) hr1) (Ans.pbind e (Ans.now rfl))))))
    · rw [hat]
      by_cases e1 : sqOf a l3 (P : Int) (rd (rd_L1 s (P : Int)) (T : Int)) = q
      · rw [if_pos (hex.2 e1), e1, hz]; simp
      · rw [if_neg (fun h => e1 (hex.1 h)), hkeep, decide_eq_false (by omega), show (q == sqOf a l3 (P : Int) (rd (rd_L1 s (P : Int)) (T : Int))) = false by simp; exact fun h => e1 h.symm]
        rfl

def rowHit (a b : Int) (l3 : List Int) (z : Bool) (q0 : Int) (row : List Int) (o : Int) (j : Nat) : Bool := anyFrom (fun t => hitB a b l3 z q0 o (rd row (j : Int)) ((t : Int) + 1)) b.toNat 0
def othHit (a b : Int) (l3 : List Int) (z : Bool) (q0 p : Int) (s : List (List Int)) (m : Nat) : Bool := if (m : Int) = p then false else anyFrom (rowHit a b l3 z q0 (rd_L1 s (m : Int)) (m : Int)) (rd_L1 s (m : Int)).length 0
theorem row_facts (F : Facts a b c l3 l4 s) {m : Nat} (hm : m < s.length) : (rd_L1 s (m : Int)).length ≤ 4 ∧ ((rd_L1 s (m : Int)).length : Int) = c ∧ ∀ j : Nat, j < (rd_L1 s (m : Int)).length → -1 ≤ rd (rd_L1 s (m : Int)) (j : Int) ∧ rd (rd_L1 s (m : Int)) (j : Int) ≤ a := by
  have h1 := F.frow _ (List.getElem_mem hm)
  have h2 := F.fc
  rw [rdL_at hm]
  exact ⟨by omega, h1.1, fun j hj => h1.2 _ (tok_at (by omega) (by omega))⟩
set_option maxHeartbeats 2000000 in
theorem threat_impl (F : Facts a b c l3 l4 s) (p q0 : Int) : Ans (fun k => impl_Track_isThreatened.f k a b c l3 l4 s p q0) (anyFrom (othHit a b l3 false q0 p s) s.length 0) := by
  have hb := F.fb; have hl := F.flen; have hn := F.fn; have ha := F.fa
  unfold impl_Track_isThreatened.f
  refine loop_Ans s.length (fun k m (_ : Unit) => impl_Track_isThreatened.l0 k p q0 s (s.length : Int) (m : Int) a b c l3 l4) (fun _ _ => True) (fun m _ => anyFrom (othHit a b l3 false q0 p s) s.length m) ?_ ?_ 0 () (by omega) trivial
  · intro _ _
    exact Ans.step (fun k => impl_Track_isThreatened.l0.eq_2 ..) (Ans.iteN (by omega) (Ans.now (by rw [anyFrom_end])))
  · intro m _ hm _ ih
    obtain ⟨r4, rc, rx⟩ := row_facts F hm
    refine Ans.step (fun k => impl_Track_isThreatened.l0.eq_2 ..) (Ans.iteP (by omega) (Ans.iteP (by omega) (Ans.iteP (by omega) ?_)))
    rw [wrap_succ hm (by omega), anyFrom_step hm]
    by_cases hp : (m : Int) = p
    · rw [show othHit a b l3 false q0 p s m = false from if_pos hp, Bool.false_or]
      exact Ans.iteP hp (ih () trivial)
    rw [show othHit a b l3 false q0 p s m = anyFrom (rowHit a b l3 false q0 (rd_L1 s (m : Int)) (m : Int)) (rd_L1 s (m : Int)).length 0 from if_neg hp]
    refine Ans.iteN hp ?_
    generalize rd_L1 s (m : Int) = row at r4 rc rx ⊢
    refine loop_Ans row.length (fun k j (_ : Unit) => impl_Track_isThreatened.l1 k p q0 (m : Int) s (s.length : Int) (m : Int) row (row.length : Int) (j : Int) a b c l3 l4) (fun _ _ => True) (fun j _ => anyFrom (rowHit a b l3 false q0 row (m : Int)) row.length j || anyFrom (othHit a b l3 false q0 p s) s.length (m + 1)) ?_ ?_ 0 () (by omega) trivial
    · intro _ _
      refine Ans.step (fun k => impl_Track_isThreatened.l1.eq_2 ..) (Ans.iteN (by omega) ?_)
      rw [anyFrom_end, Bool.false_or, wrap_succ hm (by omega)]
      exact ih () trivial
    · intro j _ hj _ ih2
      have hx := rx j hj
      refine Ans.step (fun k => impl_Track_isThreatened.l1.eq_2 ..) (Ans.iteP (by omega) (Ans.iteP (by omega) (Ans.iteP (by omega) ?_)))
      rw [anyFrom_step hj]
      unfold rowHit
      generalize hy : rd row (j : Int) = y at hx ⊢
      refine loop_Ans b.toNat (fun k t (_ : Unit) => impl_Track_isThreatened.l2 k p q0 (m : Int) y ((t : Int) + 1) s (s.length : Int) (m : Int) row (row.length : Int) (j : Int) a b c l3 l4) (fun _ _ => True) (fun t _ => (anyFrom (fun t => hitB a b l3 false q0 (m : Int) y ((t : Int) + 1)) b.toNat t || anyFrom (rowHit a b l3 false q0 row (m : Int)) row.length (j + 1)) || anyFrom (othHit a b l3 false q0 p s) s.length (m + 1)) ?_ ?_ 0 () (by omega) trivial
      · intro _ _
        refine Ans.step (fun k => impl_Track_isThreatened.l2.eq_2 ..) (Ans.iteN (by omega) ?_)
        rw [anyFrom_end, Bool.false_or, wrap_succ hj (by omega)]
        exact ih2 () trivial
      · intro t _ ht _ ih3
        refine Ans.step (fun k => impl_Track_isThreatened.l2.eq_2 ..) (Ans.iteP (by omega) (Ans.pbind (goes_val F hx ⟨by omega, by omega⟩) ?_))
        have hwt : wrap64 ((t : Int) + 1 + 1) = ((t + 1 : Nat) : Int) + 1 := by rw [wrap_of (by omega) (by omega)]; omega
        rw [anyFrom_step ht, hwt]
        dsimp only
        unfold hitB
        cases hcan : canB a b y ((t : Int) + 1) with
        | false =>
          rw [Bool.false_and, Bool.false_or]
          exact Ans.iteN (by simp) (ih3 () trivial)
        | true =>
          rw [Bool.true_and, Bool.not_false, Bool.and_true]
          refine Ans.iteP rfl (Ans.pbind (square_sqOf (by omega) (by omega) (by omega)) (Ans.ite (fun h => ?_) (fun h => ?_)))
          · rw [show (sqOf a l3 (m : Int) (stepB a y ((t : Int) + 1)) == q0) = true by simpa using h]
            exact Ans.now (by simp)
          · rw [show (sqOf a l3 (m : Int) (stepB a y ((t : Int) + 1)) == q0) = false by simpa using h, Bool.false_or]
            exact ih3 () trivial
set_option maxHeartbeats 4000000 in
theorem threat_spec (F : Facts a b c l3 l4 s) (k4 : l4.length ≤ 1048576) {P T : Nat} (hP : P < s.length) (hT : T < (rd_L1 s (P : Int)).length) : Ans (fun k => spec_trThreat.f k a b c l3 l4 s (P : Int) (T : Int)) (if sqOf a l3 (P : Int) (rd (rd_L1 s (P : Int)) (T : Int)) < 0 then false else anyFrom (othHit a b l3 (l4.contains (sqOf a l3 (P : Int) (rd (rd_L1 s (P : Int)) (T : Int)))) (sqOf a l3 (P : Int) (rd (rd_L1 s (P : Int)) (T : Int))) (P : Int) s) s.length 0) := by
  have hb := F.fb; have hl := F.flen; have hn := F.fn; have ha := F.fa
  obtain ⟨p4, pc, _⟩ := row_facts F hP
  unfold spec_trThreat.f
  refine Ans.iteP (by omega) (Ans.iteP (by omega) (Ans.iteP (by omega) (Ans.iteP (by omega) (Ans.pbind (spec_square (by omega) (by omega) (by omega)) ?_))))
  by_cases hneg : sqOf a l3 (P : Int) (rd (rd_L1 s (P : Int)) (T : Int)) < 0
  · rw [if_pos hneg]
    exact Ans.iteP hneg (Ans.now rfl)
  rw [if_neg hneg]
  refine Ans.iteN hneg ?_
  have hgo := fun (o t f : Int) hm hc hPo => go_at F k4 (o := o) (t := t) (f := f) hm hc hP (T := T) (by omega) hPo (by omega)
  generalize hq0 : sqOf a l3 (P : Int) (rd (rd_L1 s (P : Int)) (T : Int)) = q0 at hgo hneg ⊢
  generalize hz : l4.contains q0 = z at hgo ⊢
  refine loop_Ans s.length (fun k m (_ : Unit) => spec_trThreat.l0 k s (P : Int) (T : Int) s (s.length : Int) (m : Int) a b c l3 l4) (fun _ _ => True) (fun m _ => anyFrom (othHit a b l3 z q0 (P : Int) s) s.length m) ?_ ?_ 0 () (by omega) trivial
  · intro _ _
    exact Ans.step (fun k => spec_trThreat.l0.eq_2 ..) (Ans.iteN (by omega) (Ans.now (by rw [anyFrom_end])))
  · intro m _ hm _ ih
    obtain ⟨r4, rc, rx⟩ := row_facts F hm
    refine Ans.step (fun k => spec_trThreat.l0.eq_2 ..) (Ans.iteP (by omega) (Ans.iteP (by omega) (Ans.iteP (by omega) ?_)))
    rw [anyFrom_step hm]
    have e0 : othHit a b l3 z q0 (P : Int) s m = anyFrom (fun j => anyFrom (fun t => if (m : Int) = (P : Int) then false else hitB a b l3 z q0 (m : Int) (rd (rd_L1 s (m : Int)) (j : Int)) ((t : Int) + 1)) b.toNat 0) (rd_L1 s (m : Int)).length 0 := by
      unfold othHit
      by_cases hp : (m : Int) = (P : Int)
      · rw [if_pos hp]
        exact (anyFrom_no fun j => anyFrom_no fun t => if_pos hp).symm
      · rw [if_neg hp]
        congr 1
        funext j
        unfold rowHit
        congr 1
        funext t
        rw [if_neg hp]
    rw [e0]
    have hrow : ∀ t f : Int, 0 ≤ t → t < c → 1 ≤ f → f ≤ b → moveB b c l3 (m : Int) t f = true := fun t f h1 h2 h3 h4 => by
      unfold moveB
      rw [inR_iff.2 ⟨by omega, by omega⟩, inR_iff.2 ⟨by omega, by omega⟩, inR_iff.2 ⟨by omega, by omega⟩]; rfl
    have hg2 := fun (t f : Int) h1 h2 h3 h4 => hgo (m : Int) t f (hrow t f h1 h2 h3 h4)
    generalize rd_L1 s (m : Int) = row at r4 rc rx hg2 ⊢
    refine loop_Ans row.length (fun k j (_ : Unit) => spec_trThreat.l1 k s (P : Int) (T : Int) (m : Int) s (s.length : Int) (m : Int) row (row.length : Int) (j : Int) a b c l3 l4) (fun _ _ => True) (fun j _ => anyFrom (fun j => anyFrom (fun t => if (m : Int) = (P : Int) then false else hitB a b l3 z q0 (m : Int) (rd row (j : Int)) ((t : Int) + 1)) b.toNat 0) row.length j || anyFrom (othHit a b l3 z q0 (P : Int) s) s.length (m + 1)) ?_ ?_ 0 () (by omega) trivial
    · intro _ _
      refine Ans.step (fun k => spec_trThreat.l1.eq_2 ..) (Ans.iteN (by omega) ?_)
      rw [anyFrom_end, Bool.false_or, wrap_succ hm (by omega)]
      exact ih () trivial
    · intro j _ hj _ ih2
      have hx := rx j hj
      have hg3 := fun (f : Int) h3 h4 => hg2 (j : Int) f (by omega) (by omega) h3 h4
      refine Ans.step (fun k => spec_trThreat.l1.eq_2 ..) (Ans.iteP (by omega) (Ans.iteP (by omega) (Ans.iteP (by omega) ?_)))
      rw [anyFrom_step hj]
      generalize hy : rd row (j : Int) = y at hx hg3 ⊢
      refine loop_Ans b.toNat (fun k t (_ : Unit) => spec_trThreat.l2 k s (P : Int) (T : Int) (m : Int) (j : Int) y ((t : Int) + 1) s (s.length : Int) (m : Int) row (row.length : Int) (j : Int) a b c l3 l4) (fun _ _ => True) (fun t _ => (anyFrom (fun t => if (m : Int) = (P : Int) then false else hitB a b l3 z q0 (m : Int) y ((t : Int) + 1)) b.toNat t || anyFrom (fun j => anyFrom (fun t => if (m : Int) = (P : Int) then false else hitB a b l3 z q0 (m : Int) (rd row (j : Int)) ((t : Int) + 1)) b.toNat 0) row.length (j + 1)) || anyFrom (othHit a b l3 z q0 (P : Int) s) s.length (m + 1)) ?_ ?_ 0 () (by omega) trivial
      · intro _ _
        refine Ans.step (fun k => spec_trThreat.l2.eq_2 ..) (Ans.iteN (by omega) ?_)
        rw [anyFrom_end, Bool.false_or, wrap_succ hj (by omega)]
        exact ih2 () trivial
      · intro t _ ht _ ih3
        have hjt : Ans (fun k => spec_trThreat.j3 k s (P : Int) (T : Int) (m : Int) (j : Int) y ((t : Int) + 1) s (s.length : Int) (m : Int) row (row.length : Int) (j : Int) true a b c l3 l4) ((anyFrom (fun t => if (m : Int) = (P : Int) then false else hitB a b l3 z q0 (m : Int) y ((t : Int) + 1)) b.toNat (t + 1) || anyFrom (fun j => anyFrom (fun t => if (m : Int) = (P : Int) then false else hitB a b l3 z q0 (m : Int) (rd row (j : Int)) ((t : Int) + 1)) b.toNat 0) row.length (j + 1)) || anyFrom (othHit a b l3 z q0 (P : Int) s) s.length (m + 1)) := by
          refine Ans.step (fun k => spec_trThreat.j3.eq_2 ..) (Ans.iteP rfl ?_)
          rw [show wrap64 ((t : Int) + 1 + 1) = ((t + 1 : Nat) : Int) + 1 by rw [wrap_of (by omega) (by omega)]; omega]
          exact ih3 () trivial
        refine Ans.step (fun k => spec_trThreat.l2.eq_2 ..) (Ans.iteP (by omega) ?_)
        rw [anyFrom_step ht]
        by_cases hp : (m : Int) = (P : Int)
        · rw [if_pos hp, Bool.false_or]
          exact Ans.iteP hp hjt
        rw [if_neg hp]
        refine Ans.iteN hp (Ans.pbind (can_val F hx ⟨by omega, by omega⟩) ?_)
        unfold hitB
        cases hcan : canB a b y ((t : Int) + 1) with
        | false =>
          rw [Bool.false_and, Bool.false_or]
          exact hjt
        | true =>
          obtain ⟨n, s2, g1, g2, g3, g4⟩ := hg3 ((t : Int) + 1) (by omega) (by omega) hcan (fun h => hp h.symm)
          rw [Bool.true_and, ← g4]
          refine Ans.step (fun k => spec_trThreat.j3.eq_2 ..) (Ans.iteN (by simp) (Ans.bind g1 (Ans.iteP (by omega) (Ans.iteP (by dsimp only; omega) (Ans.iteP (by omega) (Ans.iteP (by dsimp only; omega) (Ans.ite (fun h => ?_) (fun h => ?_))))))))
          · rw [decide_eq_true h]
            exact Ans.now (by simp)
          · rw [decide_eq_false h, Bool.false_or, show wrap64 ((t : Int) + 1 + 1) = ((t + 1 : Nat) : Int) + 1 by rw [wrap_of (by omega) (by omega)]; omega]
            exact ih3 () trivial

/-- The tokens of a player that one move could send home, from place i on. -/
def thrL (g : Nat → Bool) : Nat → Nat → List Int
  | 0, _ => []
  | d + 1, i => if g i = true then (i : Int) :: thrL g d (i + 1) else thrL g d (i + 1)
theorem thrL_length (g : Nat → Bool) : ∀ d i, (thrL g d i).length ≤ d
  | 0, _ => by simp [thrL]
  | d + 1, i => by
    unfold thrL
    have := thrL_length g d (i + 1)
    split
    · simp only [List.length_cons]; omega
    · omega
def tokHit (a b : Int) (l3 l4 : List Int) (s : List (List Int)) (p : Int) (T : Nat) : Bool := if sqOf a l3 p (rd (rd_L1 s p) (T : Int)) < 0 then false else anyFrom (othHit a b l3 (l4.contains (sqOf a l3 p (rd (rd_L1 s p) (T : Int)))) (sqOf a l3 p (rd (rd_L1 s p) (T : Int))) p s) s.length 0
theorem tok_spec (F : Facts a b c l3 l4 s) (k4 : l4.length ≤ 1048576) {P : Nat} (hP : P < s.length) : Ans (fun k => spec_ThreatsTo.l0 k s (P : Int) ([] : List Int) ((rd_L1 s (P : Int)).length : Int) 0 a b c l3 l4) (thrL (tokHit a b l3 l4 s (P : Int)) (rd_L1 s (P : Int)).length 0, true) := by
  obtain ⟨p4, pc, _⟩ := row_facts F hP
  refine (loop_Ans (rd_L1 s (P : Int)).length (fun k i (y : List Int) => spec_ThreatsTo.l0 k s (P : Int) y ((rd_L1 s (P : Int)).length : Int) (i : Int) a b c l3 l4) (fun i y => y.length ≤ i) (fun i y => (y ++ thrL (tokHit a b l3 l4 s (P : Int)) ((rd_L1 s (P : Int)).length - i) i, true)) ?_ ?_ 0 [] (by omega) (by simp)).val (by simp)
  · intro y hy
    refine Ans.step (fun k => spec_ThreatsTo.l0.eq_2 ..) (Ans.iteN (by omega) (Ans.now ?_))
    rw [Nat.sub_self]; simp [thrL]
  · intro i y hi hy ih
    refine Ans.step (fun k => spec_ThreatsTo.l0.eq_2 ..) (Ans.iteP (by omega) (Ans.bind (threat_spec F k4 hP hi) ?_))
    rw [wrap_succ hi (by omega), show (rd_L1 s (P : Int)).length - i = ((rd_L1 s (P : Int)).length - (i + 1)) + 1 by omega]
    unfold thrL
    refine Ans.ite (fun h => Ans.iteP (by omega) ?_) (fun h => ?_)
    · rw [show tokHit a b l3 l4 s (P : Int) i = true from h, if_pos rfl]
      exact (ih (y ++ [(i : Int)]) (by simp; omega)).val (by simp)
    · rw [if_neg (show ¬ tokHit a b l3 l4 s (P : Int) i = true from h)]
      exact ih y (by omega)
theorem tok_impl (F : Facts a b c l3 l4 s) (k4 : l4.length ≤ 1048576) {P : Nat} (hP : P < s.length) : Ans (fun k => impl_ThreatsTo.l0 k s (P : Int) ([] : List Int) (rd_L1 s (P : Int)) ((rd_L1 s (P : Int)).length : Int) 0 a b c l3 l4) (thrL (tokHit a b l3 l4 s (P : Int)) (rd_L1 s (P : Int)).length 0, true) := by
  obtain ⟨p4, pc, _⟩ := row_facts F hP
  have hl := F.flen; have hn := F.fn; have ha := F.fa
  refine (loop_Ans (rd_L1 s (P : Int)).length (fun k i (y : List Int) => impl_ThreatsTo.l0 k s (P : Int) y (rd_L1 s (P : Int)) ((rd_L1 s (P : Int)).length : Int) (i : Int) a b c l3 l4) (fun i y => y.length ≤ i) (fun i y => (y ++ thrL (tokHit a b l3 l4 s (P : Int)) ((rd_L1 s (P : Int)).length - i) i, true)) ?_ ?_ 0 [] (by omega) (by simp)).val (by simp)
  · intro y hy
    refine Ans.step (fun k => impl_ThreatsTo.l0.eq_2 ..) (Ans.iteN (by omega) (Ans.now ?_))
    rw [Nat.sub_self]; simp [thrL]
  · intro i y hi hy ih
    refine Ans.step (fun k => impl_ThreatsTo.l0.eq_2 ..) (Ans.iteP (by omega) (Ans.iteP (by omega) (Ans.iteP (by omega) (Ans.pbind (square_sqOf (by omega) (by omega) (by omega)) ?_))))
    rw [wrap_succ hi (by omega), show (rd_L1 s (P : Int)).length - i = ((rd_L1 s (P : Int)).length - (i + 1)) + 1 by omega]
    unfold thrL
    have hno : tokHit a b l3 l4 s (P : Int) i = false → Ans (fun k => impl_ThreatsTo.l0 k s (P : Int) y (rd_L1 s (P : Int)) ((rd_L1 s (P : Int)).length : Int) ((i + 1 : Nat) : Int) a b c l3 l4) (y ++ (if tokHit a b l3 l4 s (P : Int) i = true then (i : Int) :: thrL (tokHit a b l3 l4 s (P : Int)) ((rd_L1 s (P : Int)).length - (i + 1)) (i + 1) else thrL (tokHit a b l3 l4 s (P : Int)) ((rd_L1 s (P : Int)).length - (i + 1)) (i + 1)), true) := fun h => by
      rw [if_neg (by rw [h]; simp)]
      exact ih y (by omega)
    refine Ans.ite (fun h => ?_) (fun h => hno (if_pos (by omega)))
    cases hz : l4.contains (sqOf a l3 (P : Int) (rd (rd_L1 s (P : Int)) (i : Int))) with
    | true =>
      refine Ans.bind ((isSafe_ans (by omega) _).val hz) (Ans.iteP rfl (hno ?_))
      unfold tokHit
      rw [if_neg (by omega), hz]
      refine anyFrom_no fun m => ?_
      unfold othHit
      split
      · rfl
      · exact anyFrom_no fun j => anyFrom_no fun t => by unfold hitB; simp
    | false =>
      refine Ans.bind ((isSafe_ans (by omega) _).val hz) (Ans.iteN (by simp) (Ans.bind (threat_impl F (P : Int) _) ?_))
      have e : tokHit a b l3 l4 s (P : Int) i = anyFrom (othHit a b l3 false (sqOf a l3 (P : Int) (rd (rd_L1 s (P : Int)) (i : Int))) (P : Int) s) s.length 0 := by
        unfold tokHit
        rw [if_neg (by omega), hz]
      rw [← e]
      refine Ans.ite (fun h2 => Ans.iteP (by omega) ?_) (fun h2 => hno (by simpa using h2))
      rw [if_pos h2]
      exact (ih (y ++ [(i : Int)]) (by simp; omega)).val (by simp)
theorem ThreatsTo_ans (a b c : Int) (l3 l4 : List Int) (s : List (List Int)) (p : Int) (z : Small l3 l4 s) :
    ∃ r : List Int × Bool, r.1.length ≤ 1048576 ∧ Ans (fun k => spec_ThreatsTo.f k a b c l3 l4 s p) r ∧ Ans (fun k => impl_ThreatsTo.f k a b c l3 l4 s p) r := by
  unfold spec_ThreatsTo.f impl_ThreatsTo.f
  have J0t : Ans (fun k => impl_ThreatsTo.j0 k s p true a b c l3 l4) ([], false) := by
    refine Ans.step (fun k => impl_ThreatsTo.j0.eq_2 ..) ?_
    exact Ans.iteP rfl (Ans.now rfl)
  by_cases hgs : (good a b c l3 l4 && stateB a c l3 l4 s) = true
  case neg =>
    have e1 : (good a b c l3 l4 && (stateB a c l3 l4 s && inR p 0 ((l3.length : Int) - 1))) = false := by rw [← Bool.and_assoc]; simp only [Bool.not_eq_true] at hgs; rw [hgs]; rfl
    have e2 : (good a b c l3 l4 && stateB a c l3 l4 s) = false := by simpa using hgs
    exact ⟨([], false), by simp, Ans.bind ((trPlayer_ans z p).val e1) (Ans.iteN (by simp) (Ans.now rfl)), Ans.bind ((isTracked_ans z).val e2) (Ans.iteN (by simp) J0t)⟩
  have hg := (Bool.and_eq_true _ _ ▸ hgs).1
  have hst := (Bool.and_eq_true _ _ ▸ hgs).2
  have F := facts_of hg hst
  cases hp : inR p 0 ((l3.length : Int) - 1) with
  | false =>
    refine ⟨([], false), by simp, Ans.bind ((trPlayer_ans z p).val (s := false) (by simp [hg, hst, hp])) (Ans.iteN (by simp) (Ans.now rfl)), Ans.bind ((isTracked_ans z).val (s := true) (by simp [hg, hst])) (Ans.iteP rfl (Ans.pbind (isPlayer_val z.k3 p) ?_))⟩
    rw [hp]; exact J0t
  | true =>
    have h2 := inR_iff.1 hp
    have hl := F.flen
    obtain ⟨P, rfl⟩ : ∃ P : Nat, p = (P : Int) := ⟨p.toNat, by omega⟩
    have hP : P < s.length := by omega
    obtain ⟨p4, pc, _⟩ := row_facts F hP
    have hlen := thrL_length (tokHit a b l3 l4 s (P : Int)) (rd_L1 s (P : Int)).length 0
    refine ⟨(thrL (tokHit a b l3 l4 s (P : Int)) (rd_L1 s (P : Int)).length 0, true), by dsimp only; omega, Ans.bind ((trPlayer_ans z _).val (s := true) (by simp [hg, hst, hp])) (Ans.iteP rfl (Ans.iteP (by omega) (Ans.iteP (by omega) (tok_spec F z.k4 hP)))), Ans.bind ((isTracked_ans z).val (s := true) (by simp [hg, hst])) (Ans.iteP rfl (Ans.pbind (isPlayer_val z.k3 _) ?_))⟩
    rw [hp]
    refine Ans.step (fun k => impl_ThreatsTo.j0.eq_2 ..) ?_
    exact Ans.iteN (by simp) (Ans.iteP (by omega) (Ans.iteP (by omega) (tok_impl F z.k4 hP)))

theorem FnExactThreatsTo (a0_0 : Int) (a0_1 : Int) (a0_2 : Int) (l0_3 : List Int) (l0_4 : List Int) (l1 : List (List Int)) (a2 : Int) (h0_3 : l0_3.length ≤ 9223372036854775807) (h0_4 : l0_4.length ≤ 9223372036854775807) (h1 : l1.length ≤ 9223372036854775807) (hh1 : ∀ x ∈ l1, x.length ≤ 9223372036854775807) (h2 : (Lit.int .i64 a2).wf = true) :
    ∃ k, laws_FnExactThreatsTo.f k a0_0 a0_1 a0_2 l0_3 l0_4 l1 a2 = some true := by
  refine Ans.at_ ?_
  unfold laws_FnExactThreatsTo.f
  obtain ⟨t, ht, h⟩ := szTrack_val (a := a0_0) (b := a0_1) (c := a0_2) (x := 1048576) (by omega) (by omega) h0_3 h0_4
  refine Ans.pbind ht ?_
  rcases h with h | ⟨h, rfl⟩
  · exact Ans.iteP h (Ans.now rfl)
  refine Ans.iteN (by omega) ?_
  refine Ans.bind (szIntSS_ans h1) ?_
  refine Ans.ite (fun _ => Ans.now rfl) (fun hz => ?_)
  obtain ⟨e5, e6⟩ := szLL_fits (by omega) (by omega) h1 hh1 (Int.not_lt.1 hz)
  have e3 : l0_3.length ≤ 1048576 := by omega
  have e4 : l0_4.length ≤ 1048576 := by omega
  obtain ⟨⟨r0, r1⟩, hr, hs, hi⟩ := ThreatsTo_ans a0_0 a0_1 a0_2 l0_3 l0_4 l1 a2 ⟨e3, e4, e5, e6⟩
  dsimp only at hr
  refine Ans.bind (toTrack_ans e3 e4) (Ans.bind (toIntSS_ans e5 e6) (Ans.bind (eqTrack_ans e3 e4) (Ans.iteP rfl (Ans.bind (eqIntSS_ans e5 e6) (Ans.iteP rfl ?_)))))
  refine Ans.bind hs (Ans.bind hi (Ans.iteP rfl (Ans.bind (eqIntS_self (l := r0) (by omega)) (Ans.iteP rfl ?_))))
  have hk := mkSS_ge l1 (1 + (l0_3.length : Int) + (l0_4.length : Int))
  refine Ans.bind (markTrack_ans e3 e4) (Ans.bind (markIntSS_ans (by dsimp only; omega) (by dsimp only; omega) e5 e6) (Ans.iteN (by dsimp only at hk ⊢; omega) ?_))
  exact Ans.bind (markIntS_ans (l := r0) (by omega)) (Ans.bind (heldIntS_ans (by omega)) (Ans.iteP rfl (Ans.iteN (by dsimp only; omega) (Ans.now rfl))))

end Go.Proofs.Ytcppahkdfajcaaa.Pure
