/- What is a track: the reference's test and the program's answer alike. Plain Lean; no Go in it. -/
import Derived.Test.YtcppahkdfajcaaaQInts
import Derived.Test.YtcppahkdfajcaaaEAreIn
import Derived.Test.YtcppahkdfajcaaaQHas
import Derived.Test.YtcppahkdfajcaaaP63
import Derived.Test.YtcppahkdfajcaaaP22
import Derived.Test.YtcppahkdfajcaaaP63
import Derived.Test.YtcppahkdfajcaaaP23
namespace Go.Proofs.Ytcppahkdfajcaaa.Q
open Go.RowKit Go.Proofs.Ytcppahkdfajcaaa.P Go.Proofs.YtcppahkdfajcaaaW.PrintWords
set_option linter.unusedVariables false
set_option linter.unusedSimpArgs false

theorem szTrack_val {a b c : Int} {l3 l4 : List Int} {x : Int} (h0 : 0 ≤ x) (h1 : x ≤ 1048576) (hl3 : l3.length ≤ 9223372036854775807) (hl4 : l4.length ≤ 9223372036854775807) :
    ∃ t, laws_szTrack.f a b c l3 l4 x = some t ∧ (t < 0 ∨ (0 ≤ t ∧ t = x - l3.length - l4.length)) := by
  unfold laws_szTrack.f
  obtain ⟨t, ht, h⟩ := szIntS_val h0 h1 hl3
  rw [ht]; simp only [Option.bind_some]
  rcases h with h | ⟨h, rfl⟩
  · rw [if_pos h]; exact ⟨-1, rfl, .inl (by omega)⟩
  · rw [if_neg (by omega)]
    obtain ⟨u, hu, h'⟩ := szIntS_val (l := l4) h (by omega) hl4
    rw [hu]; simp only [Option.bind_some]
    rcases h' with h' | ⟨h', rfl⟩
    · rw [if_pos h']; exact ⟨-1, rfl, .inl (by omega)⟩
    · rw [if_neg (by omega)]; exact ⟨_, rfl, .inr ⟨h', rfl⟩⟩

theorem toTrack_ans {a b c : Int} {l3 l4 : List Int} (hl3 : l3.length ≤ 1048576) (hl4 : l4.length ≤ 1048576) : Ans (fun k => laws_toTrack.f k a b c l3 l4) (a, b, c, l3, l4) := by
  unfold laws_toTrack.f
  exact (toIntS_ans (by omega)).bind ((toIntS_ans (by omega)).bind (Ans.now rfl))

theorem eqTrack_ans {a b c : Int} {l3 l4 : List Int} (hl3 : l3.length ≤ 1048576) (hl4 : l4.length ≤ 1048576) : Ans (fun k => laws_eqTrack.f k a b c l3 l4 a b c l3 l4) true := by
  unfold laws_eqTrack.f
  simp only [if_true]
  refine (eqIntS_ans (by omega)).bind ?_
  simp only [if_true]
  exact (eqIntS_ans (by omega)).bind (Ans.now rfl)

/-- Each one is none of those ahead of it. -/
def fresh (l : List Int) (i : Nat) : Bool := allFrom (fun j => !((l.take j).contains (rd l (j : Int)))) l.length i
/-- From place i on, each one is greater than the one ahead of it. -/
def rising (l : List Int) (i : Nat) : Bool := allFrom (fun j => decide (rd l ((j : Int) - 1) < rd l (j : Int))) l.length i
/-- Is it a track. -/
def good (a b c : Int) (l3 l4 : List Int) : Bool := inR a 4 60 && (inR b 1 8 && (inR c 1 4 && (inR l3.length 2 4 && (l3.all (fun n => inR n 0 (a - 1)) && (l4.all (fun n => inR n 0 (a - 1)) && (rising l4 1 && fresh l3 0))))))

theorem l1In_inR (x lo hi : Int) : spec_l1In.f x lo hi = some (inR x lo hi) := inR_eq x lo hi

theorem l1All_ans {l : List Int} {lo hi : Int} (hl : l.length ≤ 9223372036854775807) : Ans (fun k => spec_l1All.f k l lo hi) (l.all fun n => inR n lo hi) := by
  refine ⟨l.length + 1, fun k hk => ?_⟩
  show spec_l1All.f k l lo hi = _
  unfold spec_l1All.f
  refine loop_ans l.length (fun k i (_ : Unit) => spec_l1All.l0 k lo hi l l.length (i : Int)) (fun _ _ => True) (fun i _ => (l.drop i).all fun n => inR n lo hi) ?_ ?_ l.length 0 () (by omega) trivial k (by omega)
  · intro s _ k
    simp only [spec_l1All.l0]
    rw [if_neg (by omega)]; simp
  · intro i s hi' _ k ih
    simp only [spec_l1All.l0]
    rw [if_pos (by omega), if_pos (by omega), if_pos (by omega), l1In_inR, rd_at hi', wrap_succ hi' hl]
    rw [drop_at hi']
    simp only [Option.bind_some, List.all_cons]
    cases inR l[i] lo hi with
    | true => simp only [if_true, Bool.true_and]; exact ih () trivial
    | false => simp

theorem l1Has_ans {l : List Int} {x : Int} (hl : l.length ≤ 9223372036854775807) : Ans (fun k => spec_l1Has.f k l x) (l.contains x) := by
  refine ⟨l.length + 1, fun k hk => ?_⟩
  show spec_l1Has.f k l x = _
  unfold spec_l1Has.f
  refine loop_ans l.length (fun k i (_ : Unit) => spec_l1Has.l0 k x l l.length (i : Int)) (fun _ _ => True) (fun i _ => (l.drop i).contains x) ?_ ?_ l.length 0 () (by omega) trivial k (by omega)
  · intro s _ k
    simp only [spec_l1Has.l0]
    rw [if_neg (by omega)]; simp
  · intro i s hi' _ k ih
    simp only [spec_l1Has.l0]
    rw [if_pos (by omega), if_pos (by omega), if_pos (by omega), rd_at hi', wrap_succ hi' hl]
    rw [drop_at hi', List.contains_cons]
    by_cases h : l[i] = x
    · rw [if_pos h]; simp [h]
    · rw [if_neg h]
      have : (x == l[i]) = false := by simpa using fun e => h e.symm
      rw [this, Bool.false_or]; exact ih () trivial

theorem l1Rising_ans {l : List Int} {lo hi : Int} (hl : l.length ≤ 9223372036854775807) : Ans (fun k => spec_l1Rising.f k l lo hi) (l.all (fun n => inR n lo hi) && rising l 1) := by
  have hval : (l.all (fun n => inR n lo hi) && rising l 1) = allFrom (fun j => inR (rd l (j : Int)) lo hi && (decide (j = 0) || decide (rd l ((j : Int) - 1) < rd l (j : Int)))) l.length 0 := by
    rw [Bool.eq_iff_iff, Bool.and_eq_true, all_allFrom l _ 0, rising, allFrom_iff, allFrom_iff, allFrom_iff]
    constructor
    · rintro ⟨h1, h2⟩ j _ hj
      have := h1 j (by omega) hj
      simp only [Bool.and_eq_true, Bool.or_eq_true]
      refine ⟨by simpa [rd] using this, ?_⟩
      by_cases h0 : j = 0
      · left; simpa using h0
      · right; exact h2 j (by omega) hj
    · intro h
      refine ⟨fun j _ hj => ?_, fun j h1 hj => ?_⟩
      · have := h j (by omega) hj
        simp only [Bool.and_eq_true] at this
        simpa [rd] using this.1
      · have := h j (by omega) hj
        simp only [Bool.and_eq_true, Bool.or_eq_true] at this
        rcases this.2 with h3 | h3
        · simp at h3; omega
        · exact h3
  rw [hval]
  refine ⟨l.length + 1, fun k hk => ?_⟩
  show spec_l1Rising.f k l lo hi = _
  unfold spec_l1Rising.f
  refine loop_ans l.length (fun k i (_ : Unit) => spec_l1Rising.l0 k l lo hi l l.length (i : Int)) (fun _ _ => True) (fun i _ => allFrom (fun j => inR (rd l (j : Int)) lo hi && (decide (j = 0) || decide (rd l ((j : Int) - 1) < rd l (j : Int)))) l.length i) ?_ ?_ l.length 0 () (by omega) trivial k (by omega)
  · intro s _ k
    simp only [spec_l1Rising.l0]
    rw [if_neg (by omega), allFrom_end]
  · intro i s hi' _ k ih
    simp only [spec_l1Rising.l0]
    rw [if_pos (by omega), if_pos (by omega), if_pos (by omega), l1In_inR, wrap_succ hi' hl, allFrom_step hi']
    simp only [Option.bind_some]
    cases inR (rd l (i : Int)) lo hi with
    | false => simp
    | true =>
      simp only [if_true, Bool.true_and]
      by_cases h0 : i = 0
      · subst h0
        rw [if_neg (by simp)]
        simp only [decide_true, Bool.true_or, Bool.true_and]
        exact ih () trivial
      · rw [if_pos (by omega), wrap_of (by omega) (by omega), if_pos (by omega), if_pos (by omega)]
        by_cases h1 : rd l ((i : Int) - 1) ≥ rd l (i : Int)
        · rw [if_pos h1]
          have e1 : decide (i = 0) = false := by simpa using h0
          have e2 : decide (rd l ((i : Int) - 1) < rd l (i : Int)) = false := by simp; omega
          simp [e1, e2]
        · rw [if_neg h1]
          have e2 : decide (rd l ((i : Int) - 1) < rd l (i : Int)) = true := by simp; omega
          simp only [e2, Bool.or_true, Bool.true_and]
          exact ih () trivial

theorem trGood_ans {a b c : Int} {l3 l4 : List Int} (hl3 : l3.length ≤ 1048576) (hl4 : l4.length ≤ 1048576) : Ans (fun k => spec_trGood.f k a b c l3 l4) (good a b c l3 l4) := by
  have J1t : Ans (fun k => spec_trGood.j1 k true a b c l3 l4) false := by
    refine Ans.step (f := fun _ => some false) (fun k => ?_) (Ans.now rfl)
    simp [spec_trGood.j1]
  have J0t : Ans (fun k => spec_trGood.j0 k true a b c l3 l4) false := by
    refine Ans.step (f := fun _ => some false) (fun k => ?_) (Ans.now rfl)
    simp [spec_trGood.j0]
  unfold spec_trGood.f good
  refine Ans.pbind (l1In_inR _ _ _) ?_
  by_cases ha : inR a 4 60 = true
  · have ha' := inR_iff.1 ha
    rw [ha]; simp only [if_true, Bool.true_and]
    refine Ans.pbind (l1In_inR _ _ _) ?_
    cases inR b 1 8 with
    | false => simp only [Bool.false_and, Bool.false_eq_true, if_false]; exact J0t
    | true =>
      simp only [if_true, Bool.true_and]
      refine Ans.pbind (l1In_inR _ _ _) ?_
      cases inR c 1 4 with
      | false => simp only [Bool.false_and, Bool.not_false]; exact J0t
      | true =>
        simp only [Bool.true_and, Bool.not_true]
        refine Ans.step (fun k => spec_trGood.j0.eq_2 ..) ?_
        refine Ans.iteN (by simp) ?_
        refine Ans.pbind (l1In_inR _ _ _) ?_
        by_cases hn : inR (l3.length : Int) 2 4 = true
        · have hn' := inR_iff.1 hn
          rw [hn]; simp only [if_true, Bool.true_and]
          rw [wrap_of (x := a - 1) (by omega) (by omega)]
          refine Ans.bind (l1All_ans (by omega)) ?_
          cases hall : (l3.all fun n => inR n 0 (a - 1)) with
          | false => simp only [Bool.false_and, Bool.false_eq_true, if_false]; exact J1t
          | true =>
            simp only [if_true, Bool.true_and]
            refine Ans.bind (l1Rising_ans (by omega)) ?_
            rw [← Bool.and_assoc]
            cases (l4.all (fun n => inR n 0 (a - 1)) && rising l4 1) with
            | false => simp only [Bool.not_false, Bool.false_and]; exact J1t
            | true =>
              simp only [Bool.not_true, Bool.true_and]
              refine Ans.step (fun k => spec_trGood.j1.eq_2 ..) ?_
              refine Ans.iteN (by simp) ?_
              refine loop_Ans l3.length (fun k i (_ : Unit) => spec_trGood.l0 k l3 l3.length (i : Int) a b c l3 l4) (fun _ _ => True) (fun i _ => fresh l3 i) ?_ ?_ 0 () (by omega) trivial
              · intro s _
                refine Ans.step (fun k => spec_trGood.l0.eq_2 ..) ?_
                refine Ans.iteN (by omega) (Ans.now ?_)
                rw [fresh, allFrom_end]
              · intro i s hi _ ih
                refine Ans.step (fun k => spec_trGood.l0.eq_2 ..) ?_
                refine Ans.iteP (by omega) (Ans.iteP (by omega) (Ans.iteP (by omega) (Ans.iteP (by omega) ?_)))
                refine Ans.bind (l1Has_ans (by simp; omega)) ?_
                rw [wrap_succ hi (by omega), show ((i : Int)).toNat = i by omega, show fresh l3 i = (!((l3.take i).contains (rd l3 (i : Int))) && fresh l3 (i + 1)) from allFrom_step hi]
                cases (l3.take i).contains (rd l3 (i : Int)) with
                | true => exact Ans.iteP rfl (Ans.now rfl)
                | false => exact Ans.iteN (by simp) (ih () trivial)
        · simp only [Bool.not_eq_true] at hn
          rw [hn]; simp only [Bool.false_and, Bool.false_eq_true, if_false]; exact J1t
  · simp only [Bool.not_eq_true] at ha
    rw [ha]; simp only [Bool.false_and, Bool.false_eq_true, if_false]; exact J0t
theorem IsTrack_ans {a b c : Int} {l3 l4 : List Int} (hl3 : l3.length ≤ 1048576) (hl4 : l4.length ≤ 1048576) : Ans (fun k => impl_IsTrack.f k a b c l3 l4) (good a b c l3 l4) := by
  have J0t : Ans (fun k => impl_IsTrack.j0 k true a b c l3 l4) false := by
    refine Ans.step (fun k => impl_IsTrack.j0.eq_2 ..) ?_
    exact Ans.iteP rfl (Ans.now rfl)
  unfold impl_IsTrack.f good
  refine Ans.pbind (within_inR _ _ _) ?_
  by_cases ha : inR a 4 60 = true
  · have ha' := inR_iff.1 ha
    rw [ha]; simp only [if_true, Bool.true_and]
    refine Ans.pbind (within_inR _ _ _) ?_
    cases inR b 1 8 with
    | false => simp only [Bool.false_and, Bool.false_eq_true, if_false]; exact J0t
    | true =>
      simp only [if_true, Bool.true_and]
      refine Ans.pbind (within_inR _ _ _) ?_
      cases inR c 1 4 with
      | false => simp only [Bool.false_and, Bool.false_eq_true, if_false]; exact J0t
      | true =>
        simp only [Bool.true_and, if_true]
        refine Ans.pbind (within_inR _ _ _) ?_
        by_cases hn : inR (l3.length : Int) 2 4 = true
        · have hn' := inR_iff.1 hn
          rw [hn]; simp only [if_true, Bool.true_and]
          have hA : ∀ l : List Int, impl_Track_areIn.f a b c l3 l4 l = some (l.all fun n => inR n 0 (a - 1)) := by
            intro l
            unfold impl_Track_areIn.f
            rw [wrap_of (x := a - 1) (by omega) (by omega)]
            congr 1
            rw [List.not_any_eq_all_not]
            simp
          refine Ans.pbind (hA l3) ?_
          cases hall : (l3.all fun n => inR n 0 (a - 1)) with
          | false => simp only [Bool.false_and, Bool.false_eq_true, if_false]; exact J0t
          | true =>
            simp only [if_true, Bool.true_and]
            refine Ans.pbind (hA l4) ?_
            cases hall4 : (l4.all fun n => inR n 0 (a - 1)) with
            | false => simp only [Bool.not_false, Bool.false_and]; exact J0t
            | true =>
              simp only [Bool.not_true, Bool.true_and]
              refine Ans.step (fun k => impl_IsTrack.j0.eq_2 ..) ?_
              refine Ans.iteN (by simp) ?_
              have L1 : Ans (fun k => impl_IsTrack.l1 k 1 a b c l3 l4) (rising l4 1) := by
                by_cases h0 : l4.length = 0
                · refine Ans.step (fun k => impl_IsTrack.l1.eq_2 ..) ?_
                  refine Ans.iteN (by omega) (Ans.now ?_)
                  congr 1
                  symm
                  rw [rising, allFrom_iff]
                  intro j h1 h2; omega
                · refine loop_Ans l4.length (fun k i (_ : Unit) => impl_IsTrack.l1 k (i : Int) a b c l3 l4) (fun i _ => 1 ≤ i) (fun i _ => rising l4 i) ?_ ?_ 1 () (by omega) (Nat.le_refl _)
                  · intro s _
                    refine Ans.step (fun k => impl_IsTrack.l1.eq_2 ..) ?_
                    refine Ans.iteN (by omega) (Ans.now ?_)
                    rw [rising, allFrom_end]
                  · intro i s hi h1 ih
                    have h1' : 1 ≤ i := h1
                    refine Ans.step (fun k => impl_IsTrack.l1.eq_2 ..) ?_
                    rw [wrap_of (x := (i : Int) - 1) (by omega) (by omega)]
                    refine Ans.iteP (by omega) (Ans.iteP (by omega) (Ans.iteP (by omega) (Ans.iteP (by omega) ?_)))
                    rw [wrap_succ hi (by omega), show rising l4 i = (decide (rd l4 ((i : Int) - 1) < rd l4 (i : Int)) && rising l4 (i + 1)) from allFrom_step hi]
                    refine Ans.ite (fun h => ?_) (fun h => ?_)
                    · have : decide (rd l4 ((i : Int) - 1) < rd l4 (i : Int)) = false := by simpa using h
                      rw [this]; exact Ans.now rfl
                    · have : decide (rd l4 ((i : Int) - 1) < rd l4 (i : Int)) = true := by simpa using h
                      rw [this, Bool.true_and]; exact ih () (by show 1 ≤ i + 1; omega)
              rw [Bool.and_comm]
              refine loop_Ans l3.length (fun k i (_ : Unit) => impl_IsTrack.l0 k l3 l3.length (i : Int) a b c l3 l4) (fun _ _ => True) (fun i _ => fresh l3 i && rising l4 1) ?_ ?_ 0 () (by omega) trivial
              · intro s _
                refine Ans.step (fun k => impl_IsTrack.l0.eq_2 ..) ?_
                refine Ans.iteN (by omega) ?_
                rw [fresh, allFrom_end]
                exact L1
              · intro i s hi _ ih
                refine Ans.step (fun k => impl_IsTrack.l0.eq_2 ..) ?_
                refine Ans.iteP (by omega) (Ans.iteP (by omega) (Ans.iteP (by omega) (Ans.iteP (by omega) ?_)))
                refine Ans.bind (contains_ans (by simp; omega)) ?_
                rw [wrap_succ hi (by omega), show ((i : Int)).toNat = i by omega, show fresh l3 i = (!((l3.take i).contains (rd l3 (i : Int))) && fresh l3 (i + 1)) from allFrom_step hi]
                cases (l3.take i).contains (rd l3 (i : Int)) with
                | true => exact Ans.iteP rfl (Ans.now rfl)
                | false => exact Ans.iteN (by simp) (ih () trivial)
        · simp only [Bool.not_eq_true] at hn
          rw [hn]; simp only [Bool.false_and, Bool.false_eq_true, if_false]; exact J0t
  · simp only [Bool.not_eq_true] at ha
    rw [ha]; simp only [Bool.false_and, Bool.false_eq_true, if_false]; exact J0t
end Go.Proofs.Ytcppahkdfajcaaa.Q
