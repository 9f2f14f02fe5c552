/- What is a track: the reference's test and the program's answer alike. Plain Lean; no Go in it. -/
import Derived.Test.YtcppahkdfajcaaaQInts
import Derived.Test.YtcppahkdfajcaaaEAreIn
import Derived.Test.YtcppahkdfajcaaaQHas
import Derived.Test.YtcppahkdfajcaaaP63
import Derived.Test.YtcppahkdfajcaaaP22
import Derived.Test.YtcppahkdfajcaaaP63
import Derived.Test.YtcppahkdfajcaaaP63
import Derived.Test.YtcppahkdfajcaaaEIsState
import Derived.Test.YtcppahkdfajcaaaP73
import Derived.Test.YtcppahkdfajcaaaP63
import Derived.Test.YtcppahkdfajcaaaP63
import Derived.Test.YtcppahkdfajcaaaP76
import Derived.Test.YtcppahkdfajcaaaP75
import Derived.Test.YtcppahkdfajcaaaP81
import Derived.Test.YtcppahkdfajcaaaP105
import Derived.Test.YtcppahkdfajcaaaP82
namespace Go.Proofs.Ytcppahkdfajcaaa.Q
open Go.RowKit Go.Proofs.Ytcppahkdfajcaaa.P Go.Proofs.YtcppahkdfajcaaaW.PrintWords
set_option linter.unusedVariables false
set_option linter.unusedSimpArgs false

theorem szTrack_val {a b c : Int} {l3 l4 : List Int} {x : Int} (h0 : 0 ≤ x) (h1 : x ≤ 1048576) (hl3 : l3.length ≤ 9223372036854775807) (hl4 : l4.length ≤ 9223372036854775807) :
    ∃ t, laws_szTrack.f a b c l3 l4 x = some t ∧ (t < 0 ∨ (0 ≤ t ∧ t = x - l3.length - l4.length)) := by
  unfold laws_szTrack.f
  obtain ⟨t, ht, h⟩ := szIntS_val h0 h1 hl3
  rw [ht]; simp only [Option.bind_some]
  rcases h with h | ⟨h, rfl⟩
  · rw [if_pos h]; exact ⟨-1, rfl, .inl (by omega)⟩
  · rw [if_neg (by omega)]
    obtain ⟨u, hu, h'⟩ := szIntS_val (l := l4) h (by omega) hl4
    rw [hu]; simp only [Option.bind_some]
    rcases h' with h' | ⟨h', rfl⟩
    · rw [if_pos h']; exact ⟨-1, rfl, .inl (by omega)⟩
    · rw [if_neg (by omega)]; exact ⟨_, rfl, .inr ⟨h', rfl⟩⟩

theorem toTrack_ans {a b c : Int} {l3 l4 : List Int} (hl3 : l3.length ≤ 1048576) (hl4 : l4.length ≤ 1048576) : Ans (fun k => laws_toTrack.f k a b c l3 l4) (a, b, c, l3, l4) := by
  unfold laws_toTrack.f
  exact (toIntS_ans (by omega)).bind ((toIntS_ans (by omega)).bind (Ans.now rfl))

theorem eqTrack_ans {a b c : Int} {l3 l4 : List Int} (hl3 : l3.length ≤ 1048576) (hl4 : l4.length ≤ 1048576) : Ans (fun k => laws_eqTrack.f k a b c l3 l4 a b c l3 l4) true := by
  unfold laws_eqTrack.f
  simp only [if_true]
  refine (eqIntS_ans (by omega)).bind ?_
  simp only [if_true]
  exact (eqIntS_ans (by omega)).bind (Ans.now rfl)

/-- Each one is none of those ahead of it. -/
def fresh (l : List Int) (i : Nat) : Bool := allFrom (fun j => !((l.take j).contains (rd l (j : Int)))) l.length i
/-- From place i on, each one is greater than the one ahead of it. -/
def rising (l : List Int) (i : Nat) : Bool := allFrom (fun j => decide (rd l ((j : Int) - 1) < rd l (j : Int))) l.length i
/-- Is it a track. -/
def good (a b c : Int) (l3 l4 : List Int) : Bool := inR a 4 60 && (inR b 1 8 && (inR c 1 4 && (inR l3.length 2 4 && (l3.all (fun n => inR n 0 (a - 1)) && (l4.all (fun n => inR n 0 (a - 1)) && (rising l4 1 && fresh l3 0))))))

theorem l1In_inR (x lo hi : Int) : spec_l1In.f x lo hi = some (inR x lo hi) := inR_eq x lo hi

theorem l1All_ans {l : List Int} {lo hi : Int} (hl : l.length ≤ 9223372036854775807) : Ans (fun k => spec_l1All.f k l lo hi) (l.all fun n => inR n lo hi) := by
  refine ⟨l.length + 1, fun k hk => ?_⟩
  show spec_l1All.f k l lo hi = _
  unfold spec_l1All.f
  refine loop_ans l.length (fun k i (_ : Unit) => spec_l1All.l0 k lo hi l l.length (i : Int)) (fun _ _ => True) (fun i _ => (l.drop i).all fun n => inR n lo hi) ?_ ?_ l.length 0 () (by omega) trivial k (by omega)
  · intro s _ k
    simp only [spec_l1All.l0]
    rw [if_neg (by omega)]; simp
  · intro i s hi' _ k ih
    simp only [spec_l1All.l0]
    rw [if_pos (by omega), if_pos (by omega), if_pos (by omega), l1In_inR, rd_at hi', wrap_succ hi' hl]
    rw [drop_at hi']
    simp only [Option.bind_some, List.all_cons]
    cases inR l[i] lo hi with
    | true => simp only [if_true, Bool.true_and]; exact ih () trivial
    | false => simp

theorem l1Has_ans {l : List Int} {x : Int} (hl : l.length ≤ 9223372036854775807) : Ans (fun k => spec_l1Has.f k l x) (l.contains x) := by
  refine ⟨l.length + 1, fun k hk => ?_⟩
  show spec_l1Has.f k l x = _
  unfold spec_l1Has.f
  refine loop_ans l.length (fun k i (_ : Unit) => spec_l1Has.l0 k x l l.length (i : Int)) (fun _ _ => True) (fun i _ => (l.drop i).contains x) ?_ ?_ l.length 0 () (by omega) trivial k (by omega)
  · intro s _ k
    simp only [spec_l1Has.l0]
    rw [if_neg (by omega)]; simp
  · intro i s hi' _ k ih
    simp only [spec_l1Has.l0]
    rw [if_pos (by omega), if_pos (by omega), if_pos (by omega), rd_at hi', wrap_succ hi' hl]
    rw [drop_at hi', List.contains_cons]
    by_cases h : l[i] = x
    · rw [if_pos h]; simp [h]
    · rw [if_neg h]
      have : (x == l[i]) = false := by simpa using fun e => h e.symm
      rw [this, Bool.false_or]; exact ih () trivial

theorem l1Rising_ans {l : List Int} {lo hi : Int} (hl : l.length ≤ 9223372036854775807) : Ans (fun k => spec_l1Rising.f k l lo hi) (l.all (fun n => inR n lo hi) && rising l 1) := by
  have hval : (l.all (fun n => inR n lo hi) && rising l 1) = allFrom (fun j => inR (rd l (j : Int)) lo hi && (decide (j = 0) || decide (rd l ((j : Int) - 1) < rd l (j : Int)))) l.length 0 := by
    rw [Bool.eq_iff_iff, Bool.and_eq_true, all_allFrom l _ 0, rising, allFrom_iff, allFrom_iff, allFrom_iff]
    constructor
    · rintro ⟨h1, h2⟩ j _ hj
      have := h1 j (by omega) hj
      simp only [Bool.and_eq_true, Bool.or_eq_true]
      refine ⟨by simpa [rd] using this, ?_⟩
      by_cases h0 : j = 0
      · left; simpa using h0
      · right; exact h2 j (by omega) hj
    · intro h
      refine ⟨fun j _ hj => ?_, fun j h1 hj => ?_⟩
      · have := h j (by omega) hj
        simp only [Bool.and_eq_true] at this
        simpa [rd] using this.1
      · have := h j (by omega) hj
        simp only [Bool.and_eq_true, Bool.or_eq_true] at this
        rcases this.2 with h3 | h3
        · simp at h3; omega
        · exact h3
  rw [hval]
  refine ⟨l.length + 1, fun k hk => ?_⟩
  show spec_l1Rising.f k l lo hi = _
  unfold spec_l1Rising.f
  refine loop_ans l.length (fun k i (_ : Unit) => spec_l1Rising.l0 k l lo hi l l.length (i : Int)) (fun _ _ => True) (fun i _ => allFrom (fun j => inR (rd l (j : Int)) lo hi && (decide (j = 0) || decide (rd l ((j : Int) - 1) < rd l (j : Int)))) l.length i) ?_ ?_ l.length 0 () (by omega) trivial k (by omega)
  · intro s _ k
    simp only [spec_l1Rising.l0]
    rw [if_neg (by omega), allFrom_end]
  · intro i s hi' _ k ih
    simp only [spec_l1Rising.l0]
    rw [if_pos (by omega), if_pos (by omega), if_pos (by omega), l1In_inR, wrap_succ hi' hl, allFrom_step hi']
    simp only [Option.bind_some]
    cases inR (rd l (i : Int)) lo hi with
    | false => simp
    | true =>
      simp only [if_true, Bool.true_and]
      by_cases h0 : i = 0
      · subst h0
        rw [if_neg (by simp)]
        simp only [decide_true, Bool.true_or, Bool.true_and]
        exact ih () trivial
      · rw [if_pos (by omega), wrap_of (by omega) (by omega), if_pos (by omega), if_pos (by omega)]
        by_cases h1 : rd l ((i : Int) - 1) ≥ rd l (i : Int)
        · rw [if_pos h1]
          have e1 : decide (i = 0) = false := by simpa using h0
          have e2 : decide (rd l ((i : Int) - 1) < rd l (i : Int)) = false := by simp; omega
          simp [e1, e2]
        · rw [if_neg h1]
          have e2 : decide (rd l ((i : Int) - 1) < rd l (i : Int)) = true := by simp; omega
          simp only [e2, Bool.or_true, Bool.true_and]
          exact ih () trivial

theorem trGood_ans {a b c : Int} {l3 l4 : List Int} (hl3 : l3.length ≤ 1048576) (hl4 : l4.length ≤ 1048576) : Ans (fun k => spec_trGood.f k a b c l3 l4) (good a b c l3 l4) := by
  have J1t : Ans (fun k => spec_trGood.j1 k true a b c l3 l4) false := by
    refine Ans.step (f := fun _ => some false) (fun k => ?_) (Ans.now rfl)
    simp [spec_trGood.j1]
  have J0t : Ans (fun k => spec_trGood.j0 k true a b c l3 l4) false := by
    refine Ans.step (f := fun _ => some false) (fun k => ?_) (Ans.now rfl)
    simp [spec_trGood.j0]
  unfold spec_trGood.f good
  refine Ans.pbind (l1In_inR _ _ _) ?_
  by_cases ha : inR a 4 60 = true
  · have ha' := inR_iff.1 ha
    rw [ha]; simp only [if_true, Bool.true_and]
    refine Ans.pbind (l1In_inR _ _ _) ?_
    cases inR b 1 8 with
    | false => simp only [Bool.false_and, Bool.false_eq_true, if_false]; exact J0t
    | true =>
      simp only [if_true, Bool.true_and]
      refine Ans.pbind (l1In_inR _ _ _) ?_
      cases inR c 1 4 with
      | false => simp only [Bool.false_and, Bool.not_false]; exact J0t
      | true =>
        simp only [Bool.true_and, Bool.not_true]
        refine Ans.step (fun k => spec_trGood.j0.eq_2 ..) ?_
        refine Ans.iteN (by simp) ?_
        refine Ans.pbind (l1In_inR _ _ _) ?_
        by_cases hn : inR (l3.length : Int) 2 4 = true
        · have hn' := inR_iff.1 hn
          rw [hn]; simp only [if_true, Bool.true_and]
          rw [wrap_of (x := a - 1) (by omega) (by omega)]
          refine Ans.bind (l1All_ans (by omega)) ?_
          cases hall : (l3.all fun n => inR n 0 (a - 1)) with
          | false => simp only [Bool.false_and, Bool.false_eq_true, if_false]; exact J1t
          | true =>
            simp only [if_true, Bool.true_and]
            refine Ans.bind (l1Rising_ans (by omega)) ?_
            rw [← Bool.and_assoc]
            cases (l4.all (fun n => inR n 0 (a - 1)) && rising l4 1) with
            | false => simp only [Bool.not_false, Bool.false_and]; exact J1t
            | true =>
              simp only [Bool.not_true, Bool.true_and]
              refine Ans.step (fun k => spec_trGood.j1.eq_2 ..) ?_
              refine Ans.iteN (by simp) ?_
              refine loop_Ans l3.length (fun k i (_ : Unit) => spec_trGood.l0 k l3 l3.length (i : Int) a b c l3 l4) (fun _ _ => True) (fun i _ => fresh l3 i) ?_ ?_ 0 () (by omega) trivial
              · intro s _
                refine Ans.step (fun k => spec_trGood.l0.eq_2 ..) ?_
                refine Ans.iteN (by omega) (Ans.now ?_)
                rw [fresh, allFrom_end]
              · intro i s hi _ ih
                refine Ans.step (fun k => spec_trGood.l0.eq_2 ..) ?_
                refine Ans.iteP (by omega) (Ans.iteP (by omega) (Ans.iteP (by omega) (Ans.iteP (by omega) ?_)))
                refine Ans.bind (l1Has_ans (by simp; omega)) ?_
                rw [wrap_succ hi (by omega), show ((i : Int)).toNat = i by omega, show fresh l3 i = (!((l3.take i).contains (rd l3 (i : Int))) && fresh l3 (i + 1)) from allFrom_step hi]
                cases (l3.take i).contains (rd l3 (i : Int)) with
                | true => exact Ans.iteP rfl (Ans.now rfl)
                | false => exact Ans.iteN (by simp) (ih () trivial)
        · simp only [Bool.not_eq_true] at hn
          rw [hn]; simp only [Bool.false_and, Bool.false_eq_true, if_false]; exact J1t
  · simp only [Bool.not_eq_true] at ha
    rw [ha]; simp only [Bool.false_and, Bool.false_eq_true, if_false]; exact J0t
theorem IsTrack_ans {a b c : Int} {l3 l4 : List Int} (hl3 : l3.length ≤ 1048576) (hl4 : l4.length ≤ 1048576) : Ans (fun k => impl_IsTrack.f k a b c l3 l4) (good a b c l3 l4) := by
  have J0t : Ans (fun k => impl_IsTrack.j0 k true a b c l3 l4) false := by
    refine Ans.step (fun k => impl_IsTrack.j0.eq_2 ..) ?_
    exact Ans.iteP rfl (Ans.now rfl)
  unfold impl_IsTrack.f good
  refine Ans.pbind (within_inR _ _ _) ?_
  by_cases ha : inR a 4 60 = true
  · have ha' := inR_iff.1 ha
    rw [ha]; simp only [if_true, Bool.true_and]
    refine Ans.pbind (within_inR _ _ _) ?_
    cases inR b 1 8 with
    | false => simp only [Bool.false_and, Bool.false_eq_true, if_false]; exact J0t
    | true =>
      simp only [if_true, Bool.true_and]
      refine Ans.pbind (within_inR _ _ _) ?_
      cases inR c 1 4 with
      | false => simp only [Bool.false_and, Bool.false_eq_true, if_false]; exact J0t
      | true =>
        simp only [Bool.true_and, if_true]
        refine Ans.pbind (within_inR _ _ _) ?_
        by_cases hn : inR (l3.length : Int) 2 4 = true
        · have hn' := inR_iff.1 hn
          rw [hn]; simp only [if_true, Bool.true_and]
          have hA : ∀ l : List Int, impl_Track_areIn.f a b c l3 l4 l = some (l.all fun n => inR n 0 (a - 1)) := by
            intro l
            unfold impl_Track_areIn.f
            rw [wrap_of (x := a - 1) (by omega) (by omega)]
            congr 1
            rw [List.not_any_eq_all_not]
            simp
          refine Ans.pbind (hA l3) ?_
          cases hall : (l3.all fun n => inR n 0 (a - 1)) with
          | false => simp only [Bool.false_and, Bool.false_eq_true, if_false]; exact J0t
          | true =>
            simp only [if_true, Bool.true_and]
            refine Ans.pbind (hA l4) ?_
            cases hall4 : (l4.all fun n => inR n 0 (a - 1)) with
            | false => simp only [Bool.not_false, Bool.false_and]; exact J0t
            | true =>
              simp only [Bool.not_true, Bool.true_and]
              refine Ans.step (fun k => impl_IsTrack.j0.eq_2 ..) ?_
              refine Ans.iteN (by simp) ?_
              have L1 : Ans (fun k => impl_IsTrack.l1 k 1 a b c l3 l4) (rising l4 1) := by
                by_cases h0 : l4.length = 0
                · refine Ans.step (fun k => impl_IsTrack.l1.eq_2 ..) ?_
                  refine Ans.iteN (by omega) (Ans.now ?_)
                  congr 1
                  symm
                  rw [rising, allFrom_iff]
                  intro j h1 h2; omega
                · refine loop_Ans l4.length (fun k i (_ : Unit) => impl_IsTrack.l1 k (i : Int) a b c l3 l4) (fun i _ => 1 ≤ i) (fun i _ => rising l4 i) ?_ ?_ 1 () (by omega) (Nat.le_refl _)
                  · intro s _
                    refine Ans.step (fun k => impl_IsTrack.l1.eq_2 ..) ?_
                    refine Ans.iteN (by omega) (Ans.now ?_)
                    rw [rising, allFrom_end]
                  · intro i s hi h1 ih
                    have h1' : 1 ≤ i := h1
                    refine Ans.step (fun k => impl_IsTrack.l1.eq_2 ..) ?_
                    rw [wrap_of (x := (i : Int) - 1) (by omega) (by omega)]
                    refine Ans.iteP (by omega) (Ans.iteP (by omega) (Ans.iteP (by omega) (Ans.iteP (by omega) ?_)))
                    rw [wrap_succ hi (by omega), show rising l4 i = (decide (rd l4 ((i : Int) - 1) < rd l4 (i : Int)) && rising l4 (i + 1)) from allFrom_step hi]
                    refine Ans.ite (fun h => ?_) (fun h => ?_)
                    · have : decide (rd l4 ((i : Int) - 1) < rd l4 (i : Int)) = false := by simpa using h
                      rw [this]; exact Ans.now rfl
                    · have : decide (rd l4 ((i : Int) - 1) < rd l4 (i : Int)) = true := by simpa using h
                      rw [this, Bool.true_and]; exact ih () (by show 1 ≤ i + 1; omega)
              rw [Bool.and_comm]
              refine loop_Ans l3.length (fun k i (_ : Unit) => impl_IsTrack.l0 k l3 l3.length (i : Int) a b c l3 l4) (fun _ _ => True) (fun i _ => fresh l3 i && rising l4 1) ?_ ?_ 0 () (by omega) trivial
              · intro s _
                refine Ans.step (fun k => impl_IsTrack.l0.eq_2 ..) ?_
                refine Ans.iteN (by omega) ?_
                rw [fresh, allFrom_end]
                exact L1
              · intro i s hi _ ih
                refine Ans.step (fun k => impl_IsTrack.l0.eq_2 ..) ?_
                refine Ans.iteP (by omega) (Ans.iteP (by omega) (Ans.iteP (by omega) (Ans.iteP (by omega) ?_)))
                refine Ans.bind (contains_ans (by simp; omega)) ?_
                rw [wrap_succ hi (by omega), show ((i : Int)).toNat = i by omega, show fresh l3 i = (!((l3.take i).contains (rd l3 (i : Int))) && fresh l3 (i + 1)) from allFrom_step hi]
                cases (l3.take i).contains (rd l3 (i : Int)) with
                | true => exact Ans.iteP rfl (Ans.now rfl)
                | false => exact Ans.iteN (by simp) (ih () trivial)
        · simp only [Bool.not_eq_true] at hn
          rw [hn]; simp only [Bool.false_and, Bool.false_eq_true, if_false]; exact J0t
  · simp only [Bool.not_eq_true] at ha
    rw [ha]; simp only [Bool.false_and, Bool.false_eq_true, if_false]; exact J0t
end Go.Proofs.Ytcppahkdfajcaaa.Q
namespace Go.Proofs.Ytcppahkdfajcaaa.Q
open Go.RowKit Go.Proofs.Ytcppahkdfajcaaa.P Go.Proofs.YtcppahkdfajcaaaW.PrintWords
set_option linter.unusedVariables false
set_option linter.unusedSimpArgs false

theorem rdL_at {l : List (List Int)} {i : Nat} (h : i < l.length) : rd_L1 l (i : Int) = l[i] := by simp [rd_L1, h]

/-! ### the laws' helpers on [][]int -/
def szI (l : List Int) (x : Int) : Int := if wrap64 (x - (l.length : Int)) < 0 then -1 else wrap64 (x - (l.length : Int))
theorem szIntS_szI (l : List Int) (x : Int) : laws_szIntS.f l x = some (szI l x) := by unfold laws_szIntS.f szI; split <;> rfl
def szL : List (List Int) → Int → Int
  | [], x => x
  | r :: rs, x => if szI r x < 0 then -1 else szL rs (szI r x)
theorem szI_fits {l : List Int} {x : Int} (h0 : 0 ≤ x) (h1 : x ≤ 1048576) (hl : l.length ≤ 9223372036854775807) (h : 0 ≤ szI l x) : l.length ≤ 1048576 ∧ szI l x ≤ 1048576 := by
  have e : wrap64 (x - (l.length : Int)) = x - l.length := wrap_of (by omega) (by omega)
  unfold szI at h ⊢
  rw [e] at h ⊢
  split at h
  · omega
  · rename_i h2; rw [if_neg h2]; omega
theorem szL_fits : ∀ (s : List (List Int)) (x : Int), 0 ≤ x → x ≤ 1048576 → (∀ r ∈ s, r.length ≤ 9223372036854775807) → 0 ≤ szL s x → ∀ r ∈ s, r.length ≤ 1048576 := by
  intro s
  induction s with
  | nil => intro x _ _ _ _ r hr; cases hr
  | cons r rs ih =>
    intro x h0 h1 hs h q hq
    unfold szL at h
    split at h
    · omega
    · rename_i h2
      have := szI_fits h0 h1 (hs r (by simp)) (by omega)
      rcases List.mem_cons.1 hq with rfl | hq
      · exact this.1
      · exact ih _ (by omega) this.2 (fun z hz => hs z (by simp [hz])) h q hq
def szLL (s : List (List Int)) (x : Int) : Int := if wrap64 (x - (s.length : Int)) < 0 then -1 else szL s (wrap64 (x - (s.length : Int)))
theorem szIntSS_ans {s : List (List Int)} {x : Int} (hl : s.length ≤ 9223372036854775807) : Ans (fun k => laws_szIntSS.f k s x) (szLL s x) := by
  unfold laws_szIntSS.f szLL
  refine Ans.ite (fun h => ?_) (fun h => ?_)
  · rw [if_pos h]; exact Ans.now rfl
  · rw [if_neg h]
    have := loop_Ans s.length (fun k i y => laws_szIntSS.l0 k s y (i : Int)) (fun _ _ => True) (fun i y => szL (s.drop i) y) ?_ ?_ 0 (wrap64 (x - (s.length : Int))) (by omega) trivial
    · simpa using this
    · intro y _
      refine Ans.step (fun k => laws_szIntSS.l0.eq_2 ..) ?_
      refine Ans.iteN (by omega) (Ans.now ?_)
      rw [List.drop_length, szL]
    · intro i y hi _ ih
      refine Ans.step (fun k => laws_szIntSS.l0.eq_2 ..) ?_
      refine Ans.iteP (by omega) (Ans.iteP (by omega) ?_)
      refine Ans.pbind (szIntS_szI _ _) ?_
      rw [rdL_at hi, wrap_succ hi hl, drop_at hi, szL]
      refine Ans.ite (fun h => ?_) (fun h => ?_)
      · rw [if_pos h]; exact Ans.now rfl
      · rw [if_neg h]; exact ih _ trivial
theorem szLL_fits {s : List (List Int)} {x : Int} (h0 : 0 ≤ x) (h1 : x ≤ 1048576) (hl : s.length ≤ 9223372036854775807) (hs : ∀ r ∈ s, r.length ≤ 9223372036854775807) (h : 0 ≤ szLL s x) : s.length ≤ 1048576 ∧ ∀ r ∈ s, r.length ≤ 1048576 := by
  have e : wrap64 (x - (s.length : Int)) = x - s.length := wrap_of (by omega) (by omega)
  unfold szLL at h
  rw [e] at h
  split at h
  · omega
  · exact ⟨by omega, szL_fits s _ (by omega) (by omega) hs h⟩

theorem toIntSS_ans {s : List (List Int)} (hl : s.length ≤ 1048576) (hs : ∀ r ∈ s, r.length ≤ 1048576) : Ans (fun k => laws_toIntSS.f k s) s := by
  unfold laws_toIntSS.f
  refine Ans.iteP (by omega) (Ans.iteP (by simp; omega) ?_)
  refine (loop_Ans s.length (fun k i y => laws_toIntSS.l0 k s y (i : Int)) (fun i y => y = s.take i ++ List.replicate (s.length - i) []) (fun _ _ => s) ?_ ?_ 0 _ (by omega) (by simp))
  · rintro y rfl
    refine Ans.step (fun k => laws_toIntSS.l0.eq_2 ..) ?_
    refine Ans.iteN (by omega) (Ans.now ?_)
    simp
  · rintro i y hi rfl ih
    have hlen : (s.take i ++ List.replicate (s.length - i) ([] : List Int)).length = s.length := by simp; omega
    refine Ans.step (fun k => laws_toIntSS.l0.eq_2 ..) ?_
    refine Ans.iteP (by omega) (Ans.iteP (by omega) ?_)
    rw [rdL_at hi]
    refine Ans.bind (toIntS_ans (by have := hs s[i] (List.getElem_mem hi); omega)) ?_
    refine Ans.iteP (by rw [hlen]; omega) ?_
    rw [wrap_succ hi (by omega)]
    refine ih _ ?_
    rw [show ((i : Int)).toNat = i by omega, List.set_append_right _ _ (by simp; omega)]
    have h1 : (s.take i).length = i := by simp; omega
    rw [h1, show i - i = 0 by omega, show s.length - i = (s.length - (i + 1)) + 1 by omega, List.replicate_succ, List.set_cons_zero, List.take_succ_eq_append_getElem hi, List.append_assoc]
    rfl

theorem eqIntSS_ans {s : List (List Int)} (hl : s.length ≤ 1048576) (hs : ∀ r ∈ s, r.length ≤ 1048576) : Ans (fun k => laws_eqIntSS.f k s s) true := by
  unfold laws_eqIntSS.f
  refine Ans.iteP rfl ?_
  refine loop_Ans s.length (fun k i (_ : Unit) => laws_eqIntSS.l0 k s s (i : Int)) (fun _ _ => True) (fun _ _ => true) ?_ ?_ 0 () (by omega) trivial
  · intro y _
    refine Ans.step (fun k => laws_eqIntSS.l0.eq_2 ..) ?_
    exact Ans.iteN (by omega) (Ans.now rfl)
  · intro i y hi _ ih
    refine Ans.step (fun k => laws_eqIntSS.l0.eq_2 ..) ?_
    refine Ans.iteP (by omega) (Ans.iteP (by omega) (Ans.iteP (by omega) ?_))
    rw [rdL_at hi]
    refine Ans.bind (eqIntS_ans (by have := hs s[i] (List.getElem_mem hi); omega)) ?_
    refine Ans.iteP rfl ?_
    rw [wrap_succ hi (by omega)]
    exact ih () trivial

/-! ### the tokens on a square -/
def atRowL (a : Int) (l3 : List Int) (q p : Int) : Nat → List Int → List (List Int)
  | _, [] => []
  | i, x :: r => if sqOf a l3 p x = q then [p, (i : Int)] :: atRowL a l3 q p (i + 1) r else atRowL a l3 q p (i + 1) r
def atL (a : Int) (l3 : List Int) (q : Int) : Nat → List (List Int) → List (List Int)
  | _, [] => []
  | p, row :: rs => atRowL a l3 q (p : Int) 0 row ++ atL a l3 q (p + 1) rs
theorem spec_square {a b c : Int} {l3 l4 : List Int} {p x : Int} (h0 : 0 ≤ p) (h1 : p < l3.length) (ha : a ≠ 0) : spec_trSquare.f a b c l3 l4 p x = some (sqOf a l3 p x) :=
  square_sqOf (a := a) (b := b) (c := c) (l3 := l3) (l4 := l4) h0 h1 ha

theorem trAt_ans {a b c : Int} {l3 l4 : List Int} {s : List (List Int)} {q : Int} (ha : a ≠ 0) (h3 : s.length ≤ l3.length) (h4 : s.length ≤ 4) (hs : ∀ r ∈ s, r.length ≤ 4) :
    Ans (fun k => spec_trAt.f k a b c l3 l4 s q) (atL a l3 q 0 s) := by
  unfold spec_trAt.f
  refine (loop_Ans s.length (fun k i y => spec_trAt.l0 k q y s s.length (i : Int) a b c l3 l4) (fun i y => y.length ≤ 4 * i) (fun i y => y ++ atL a l3 q i (s.drop i)) ?_ ?_ 0 [] (by omega) (by simp)).val (by simp)
  · intro y hy
    refine Ans.step (fun k => spec_trAt.l0.eq_2 ..) ?_
    refine Ans.iteN (by omega) (Ans.now ?_)
    rw [List.drop_length, atL, List.append_nil]
  · intro i y hi hy ih
    refine Ans.step (fun k => spec_trAt.l0.eq_2 ..) ?_
    refine Ans.iteP (by omega) (Ans.iteP (by omega) (Ans.iteP (by omega) ?_))
    rw [rdL_at hi, drop_at hi, atL]
    have hr4 := hs s[i] (List.getElem_mem hi)
    generalize s[i] = row at hr4
    refine (loop_Ans row.length (fun k j z => spec_trAt.l1 k q z (i : Int) s s.length (i : Int) row row.length (j : Int) a b c l3 l4) (fun j z => z.length ≤ 4 * i + j) (fun j z => z ++ (atRowL a l3 q (i : Int) j (row.drop j) ++ atL a l3 q (i + 1) (s.drop (i + 1)))) ?_ ?_ 0 y (by omega) (by have hy' : y.length ≤ 4 * i := hy; omega)).val (by simp)
    · intro z hz
      have hz' : z.length ≤ 4 * i + row.length := hz
      refine Ans.step (fun k => spec_trAt.l1.eq_2 ..) ?_
      refine Ans.iteN (by omega) ?_
      rw [List.drop_length, atRowL, List.nil_append, wrap_succ hi (by omega)]
      exact ih z (by show z.length ≤ 4 * (i + 1); omega)
    · intro j z hj hz ih2
      have hz' : z.length ≤ 4 * i + j := hz
      refine Ans.step (fun k => spec_trAt.l1.eq_2 ..) ?_
      refine Ans.iteP (by omega) (Ans.iteP (by omega) (Ans.iteP (by omega) ?_))
      refine Ans.pbind (spec_square (by omega) (by omega) ha) ?_
      rw [rd_at hj, drop_at hj, atRowL, wrap_succ hj (by omega)]
      refine Ans.ite (fun h => ?_) (fun h => ?_)
      · rw [if_pos h]
        refine Ans.iteP (by omega) ?_
        refine (ih2 (z ++ [[(i : Int), (j : Int)]]) (by show (z ++ _).length ≤ _; simp; omega)).val ?_
        simp
      · rw [if_neg h]
        exact ih2 z (by show z.length ≤ _; omega)

theorem mem_atRowL {a : Int} {l3 : List Int} {q p : Int} {one : List Int} : ∀ (row : List Int) (i : Nat), one ∈ atRowL a l3 q p i row ↔ ∃ (j : Nat) (x : Int), row[j]? = some x ∧ sqOf a l3 p x = q ∧ one = [p, ((i + j : Nat) : Int)] := by
  intro row
  induction row with
  | nil => intro i; simp [atRowL]
  | cons y r ih =>
    intro i
    have key : one ∈ atRowL a l3 q p (i + 1) r ↔ ∃ j x, (y :: r)[j + 1]? = some x ∧ sqOf a l3 p x = q ∧ one = [p, ((i + (j + 1) : Nat) : Int)] := by
      rw [ih]; simp only [List.getElem?_cons_succ, show ∀ j, i + 1 + j = i + (j + 1) from fun j => by omega]
    unfold atRowL
    constructor
    · intro h
      split at h
      · rename_i hq
        rcases List.mem_cons.1 h with h | h
        · exact ⟨0, y, rfl, hq, h⟩
        · obtain ⟨j, x, h1⟩ := key.1 h; exact ⟨j + 1, x, h1⟩
      · obtain ⟨j, x, h1⟩ := key.1 h; exact ⟨j + 1, x, h1⟩
    · rintro ⟨j, x, h1, h2, h3⟩
      cases j with
      | zero =>
        injection h1 with h1
        subst h1
        rw [if_pos h2]
        exact List.mem_cons.2 (.inl h3)
      | succ j =>
        have := key.2 ⟨j, x, h1, h2, h3⟩
        split
        · exact List.mem_cons.2 (.inr this)
        · exact this

theorem mem_atL {a : Int} {l3 : List Int} {q : Int} {one : List Int} : ∀ (s : List (List Int)) (p : Nat), one ∈ atL a l3 q p s ↔ ∃ (m : Nat) (row : List Int) (j : Nat) (x : Int), s[m]? = some row ∧ row[j]? = some x ∧ sqOf a l3 ((p + m : Nat) : Int) x = q ∧ one = [((p + m : Nat) : Int), (j : Int)] := by
  intro s
  induction s with
  | nil => intro p; simp [atL]
  | cons r rs ih =>
    intro p
    unfold atL
    rw [List.mem_append, mem_atRowL, ih]
    constructor
    · rintro (⟨j, x, h1, h2, h3⟩ | ⟨m, row, j, x, h1, h2, h3, h4⟩)
      · exact ⟨0, r, j, x, rfl, h1, h2, by simpa using h3⟩
      · exact ⟨m + 1, row, j, x, by simpa using h1, h2, by rw [show p + (m + 1) = p + 1 + m by omega]; exact h3, by rw [show p + (m + 1) = p + 1 + m by omega]; exact h4⟩
    · rintro ⟨m, row, j, x, h1, h2, h3, h4⟩
      cases m with
      | zero => injection h1 with h1; subst h1; exact .inl ⟨j, x, h2, h3, by simpa using h4⟩
      | succ m =>
        refine .inr ⟨m, row, j, x, by simpa using h1, h2, ?_, ?_⟩
        · rw [show p + 1 + m = p + (m + 1) by omega]; exact h3
        · rw [show p + 1 + m = p + (m + 1) by omega]; exact h4

/-! ### what a state is -/
/-- A square that is one, and isn't safe. -/
def bare (l4 : List Int) (q : Int) : Prop := 0 ≤ q ∧ l4.contains q = false
/-- The row's tokens have steps that there are. -/
def rowOK (a c : Int) (row : List Int) : Prop := (row.length : Int) = c ∧ ∀ x ∈ row, inR x (-1) a = true
/-- Tokens on one bare square are one player's. -/
def alone (a : Int) (l3 l4 : List Int) (p : Nat) (s : List (List Int)) : Prop :=
  ∀ (m m' : Nat) (row row' : List Int), s[m]? = some row → s[m']? = some row' → ∀ x ∈ row, ∀ x' ∈ row', sqOf a l3 ((p + m : Nat) : Int) x = sqOf a l3 ((p + m' : Nat) : Int) x' → bare l4 (sqOf a l3 ((p + m : Nat) : Int) x) → m = m'

/-- What the owners are behind a row. -/
def ownsAfter (a : Int) (l3 l4 : List Int) (p : Int) (row : List Int) (own own' : Int → Option Int) : Prop :=
  ∀ q, (∀ o, own' q = some o → own q = some o ∨ (o = p ∧ bare l4 q ∧ ∃ x ∈ row, sqOf a l3 p x = q)) ∧ (∀ x ∈ row, sqOf a l3 p x = q → bare l4 q → own' q = some p) ∧ (∀ o, own q = some o → own' q = some o ∨ own' q = some p ∧ ∃ x ∈ row, sqOf a l3 p x = q ∧ bare l4 q)

theorem stRow_some {a : Int} {l3 l4 : List Int} {p : Int} : ∀ (row : List Int) (own : Int → Option Int), (∀ x ∈ row, inR x (-1) a = true) → (∀ x ∈ row, bare l4 (sqOf a l3 p x) → ∀ o, own (sqOf a l3 p x) = some o → o = p) →
    ∃ own', stRow a l3 l4 p row own = some own' ∧ ownsAfter a l3 l4 p row own own' := by
  intro row
  induction row with
  | nil => intro own _ _; exact ⟨own, rfl, fun q => ⟨fun o h => Or.inl h, fun x hx => (by cases hx), fun o h => Or.inl h⟩⟩
  | cons x r ih =>
    intro own h1 h2
    unfold stRow
    rw [if_pos (h1 x (by simp))]
    by_cases hq0 : sqOf a l3 p x < 0
    · rw [if_pos hq0]
      obtain ⟨own', e, H⟩ := ih own (fun y hy => h1 y (by simp [hy])) (fun y hy => h2 y (by simp [hy]))
      refine ⟨own', e, fun q => ⟨fun o h => ?_, fun y hy he hb => ?_, fun o h => ?_⟩⟩
      · rcases (H q).1 o h with h | ⟨h3, h4, y, hy, he⟩
        · exact .inl h
        · exact .inr ⟨h3, h4, y, by simp [hy], he⟩
      · rcases List.mem_cons.1 hy with rfl | hy
        · have := hb.1; omega
        · exact (H q).2.1 y hy he hb
      · rcases (H q).2.2 o h with h | ⟨h3, y, hy, he⟩
        · exact .inl h
        · exact .inr ⟨h3, y, by simp [hy], he⟩
    · rw [if_neg hq0]
      by_cases hsf : l4.contains (sqOf a l3 p x) = true
      · rw [if_pos hsf]
        obtain ⟨own', e, H⟩ := ih own (fun y hy => h1 y (by simp [hy])) (fun y hy => h2 y (by simp [hy]))
        refine ⟨own', e, fun q => ⟨fun o h => ?_, fun y hy he hb => ?_, fun o h => ?_⟩⟩
        · rcases (H q).1 o h with h | ⟨h3, h4, y, hy, he⟩
          · exact .inl h
          · exact .inr ⟨h3, h4, y, by simp [hy], he⟩
        · rcases List.mem_cons.1 hy with rfl | hy
          · have := hb.2; rw [← he, hsf] at this; cases this
          · exact (H q).2.1 y hy he hb
        · rcases (H q).2.2 o h with h | ⟨h3, y, hy, he⟩
          · exact .inl h
          · exact .inr ⟨h3, y, by simp [hy], he⟩
      · rw [if_neg hsf]
        have hbare : bare l4 (sqOf a l3 p x) := ⟨by omega, by simpa using hsf⟩
        have hown := h2 x (by simp) hbare
        have main : ∃ own', stRow a l3 l4 p r (upd own (sqOf a l3 p x) p) = some own' ∧ ownsAfter a l3 l4 p (x :: r) own own' := by
          obtain ⟨own', e, H⟩ := ih (upd own (sqOf a l3 p x) p) (fun y hy => h1 y (by simp [hy])) (fun y hy hb o ho => by
            unfold upd at ho
            split at ho
            · exact (Option.some.inj ho).symm
            · exact h2 y (by simp [hy]) hb o ho)
          refine ⟨own', e, fun q => ⟨fun o h => ?_, fun y hy he hb => ?_, fun o h => ?_⟩⟩
          · rcases (H q).1 o h with h | ⟨h3, h4, y, hy, he⟩
            · unfold upd at h
              split at h
              · rename_i hq
                exact .inr ⟨(Option.some.inj h).symm, by rw [hq]; exact hbare, x, by simp, hq.symm⟩
              · exact .inl h
            · exact .inr ⟨h3, h4, y, by simp [hy], he⟩
          · rcases List.mem_cons.1 hy with rfl | hy
            · have h5 : upd own (sqOf a l3 p y) p q = some p := by unfold upd; rw [if_pos he.symm]
              rcases (H q).2.2 p h5 with h6 | h6
              · exact h6
              · exact h6.1
            · exact (H q).2.1 y hy he hb
          · by_cases hq : q = sqOf a l3 p x
            · have h5 : upd own (sqOf a l3 p x) p q = some p := by unfold upd; rw [if_pos hq]
              have h6 : own' q = some p := by
                rcases (H q).2.2 p h5 with h6 | h6
                · exact h6
                · exact h6.1
              exact .inr ⟨h6, x, by simp, hq.symm, by rw [hq]; exact hbare⟩
            · have h5 : upd own (sqOf a l3 p x) p q = some o := by unfold upd; rw [if_neg hq]; exact h
              rcases (H q).2.2 o h5 with h6 | ⟨h6, y, hy, he⟩
              · exact .inl h6
              · exact .inr ⟨h6, y, by simp [hy], he⟩
        cases ho : own (sqOf a l3 p x) with
        | none => exact main
        | some o =>
          show ∃ own', (if o = p then stRow a l3 l4 p r (upd own (sqOf a l3 p x) p) else none) = some own' ∧ _
          rw [if_pos (hown o ho)]; exact main

theorem stRow_none {a : Int} {l3 l4 : List Int} {p : Int} : ∀ (row : List Int) (own own' : Int → Option Int), stRow a l3 l4 p row own = some own' → (∀ x ∈ row, inR x (-1) a = true) ∧ (∀ x ∈ row, bare l4 (sqOf a l3 p x) → ∀ o, own (sqOf a l3 p x) = some o → o = p) := by
  intro row
  induction row with
  | nil => intro own own' _; exact ⟨fun x hx => (by cases hx), fun x hx => (by cases hx)⟩
  | cons x r ih =>
    intro own own' h
    unfold stRow at h
    by_cases hin : inR x (-1) a = true
    case neg => rw [if_neg hin] at h; cases h
    rw [if_pos hin] at h
    have shut : ∀ own2, stRow a l3 l4 p r own2 = some own' → (∀ q o, own q = some o → own2 q = some o ∨ own2 q = some p ∧ (q = sqOf a l3 p x → o = p)) → (bare l4 (sqOf a l3 p x) → ∀ o, own (sqOf a l3 p x) = some o → o = p) →
        (∀ y ∈ x :: r, inR y (-1) a = true) ∧ (∀ y ∈ x :: r, bare l4 (sqOf a l3 p y) → ∀ o, own (sqOf a l3 p y) = some o → own2 (sqOf a l3 p y) = some o → o = p) := by
      intro own2 h2 hk hx
      obtain ⟨i1, i2⟩ := ih own2 own' h2
      refine ⟨fun y hy => ?_, fun y hy hb o ho ho2 => ?_⟩
      · rcases List.mem_cons.1 hy with rfl | hy
        · exact hin
        · exact i1 y hy
      · rcases List.mem_cons.1 hy with rfl | hy
        · exact hx hb o ho
        · exact i2 y hy hb o ho2
    by_cases hq0 : sqOf a l3 p x < 0
    · rw [if_pos hq0] at h
      obtain ⟨i1, i2⟩ := shut own h (fun q o ho => .inl ho) (fun hb => by have := hb.1; omega)
      exact ⟨i1, fun y hy hb o ho => i2 y hy hb o ho ho⟩
    · rw [if_neg hq0] at h
      by_cases hsf : l4.contains (sqOf a l3 p x) = true
      · rw [if_pos hsf] at h
        obtain ⟨i1, i2⟩ := shut own h (fun q o ho => .inl ho) (fun hb => by have := hb.2; rw [hsf] at this; cases this)
        exact ⟨i1, fun y hy hb o ho => i2 y hy hb o ho ho⟩
      · rw [if_neg hsf] at h
        have main : ∀ (hx : ∀ o, own (sqOf a l3 p x) = some o → o = p), stRow a l3 l4 p r (upd own (sqOf a l3 p x) p) = some own' → (∀ y ∈ x :: r, inR y (-1) a = true) ∧ (∀ y ∈ x :: r, bare l4 (sqOf a l3 p y) → ∀ o, own (sqOf a l3 p y) = some o → o = p) := by
          intro hx h2
          obtain ⟨i1, i2⟩ := ih _ own' h2
          refine ⟨fun y hy => ?_, fun y hy hb o ho => ?_⟩
          · rcases List.mem_cons.1 hy with rfl | hy
            · exact hin
            · exact i1 y hy
          · by_cases he : sqOf a l3 p y = sqOf a l3 p x
            · rw [he] at ho; exact hx o ho
            · rcases List.mem_cons.1 hy with rfl | hy
              · exact absurd rfl he
              · exact i2 y hy hb o (by unfold upd; rw [if_neg he]; exact ho)
        cases ho : own (sqOf a l3 p x) with
        | none => rw [ho] at h; exact main (fun o ho' => by rw [ho] at ho'; cases ho') h
        | some o =>
          rw [ho] at h
          have h3 : (if o = p then stRow a l3 l4 p r (upd own (sqOf a l3 p x) p) else none) = some own' := h
          by_cases hop : o = p
          · rw [if_pos hop] at h3
            exact main (fun o' ho' => by rw [ho] at ho'; rw [← Option.some.inj ho']; exact hop) h3
          · rw [if_neg hop] at h3; cases h3

theorem stRows_iff {a c : Int} {l3 l4 : List Int} : ∀ (s : List (List Int)) (p : Nat) (own : Int → Option Int), (∀ q o, own q = some o → o < p) →
    (stRows a c l3 l4 p s own = true ↔ (∀ row ∈ s, rowOK a c row) ∧ alone a l3 l4 p s ∧ ∀ (m : Nat) (row : List Int), s[m]? = some row → ∀ x ∈ row, bare l4 (sqOf a l3 ((p + m : Nat) : Int) x) → own (sqOf a l3 ((p + m : Nat) : Int) x) = none) := by
  intro s
  induction s with
  | nil => intro p own _; simp [stRows, alone]
  | cons r rs ih =>
    intro p own hlt
    unfold stRows
    by_cases hrl : (r.length : Int) = c
    case neg =>
      rw [if_neg hrl]
      simp only [Bool.false_eq_true, false_iff]
      rintro ⟨h1, _⟩
      exact hrl (h1 r (by simp)).1
    rw [if_pos hrl]
    cases hst : stRow a l3 l4 (p : Int) r own with
    | none =>
      simp only [Bool.false_eq_true, false_iff]
      rintro ⟨h1, h2, h3⟩
      obtain ⟨own', e, _⟩ := stRow_some (a := a) (l3 := l3) (l4 := l4) (p := (p : Int)) r own (h1 r (by simp)).2 (fun x hx hb o ho => by
        have := h3 0 r rfl x hx (by simpa using hb)
        simp only [Nat.add_zero] at this
        rw [this] at ho; cases ho)
      rw [e] at hst; cases hst
    | some own' =>
      obtain ⟨i1, i2⟩ := stRow_none r own own' hst
      obtain ⟨own2, e2, HA⟩ := stRow_some (a := a) (l3 := l3) (l4 := l4) (p := (p : Int)) r own i1 i2
      rw [hst] at e2
      obtain rfl := Option.some.inj e2
      have hlt' : ∀ q o, own' q = some o → o < ((p + 1 : Nat) : Int) := by
        intro q o h
        rcases (HA q).1 o h with h | ⟨h, _⟩
        · have := hlt q o h; omega
        · omega
      show stRows a c l3 l4 (p + 1) rs own' = true ↔ _
      rw [ih (p + 1) own' hlt']
      constructor
      · rintro ⟨j1, j2, j3⟩
        have own_none : ∀ x ∈ r, bare l4 (sqOf a l3 (p : Int) x) → own (sqOf a l3 (p : Int) x) = none := by
          intro x hx hb
          cases ho : own (sqOf a l3 (p : Int) x) with
          | none => rfl
          | some o => have h5 := i2 x hx hb o ho; have h6 := hlt _ o ho; omega
        refine ⟨fun row hrow => ?_, ?_, ?_⟩
        · rcases List.mem_cons.1 hrow with rfl | hrow
          · exact ⟨hrl, i1⟩
          · exact j1 row hrow
        · intro m m' row row' h1 h2 x hx x' hx' he hb
          cases m with
          | zero =>
            injection h1 with h1; subst h1
            cases m' with
            | zero => rfl
            | succ m' =>
              exfalso
              simp only [Nat.add_zero] at he hb
              have h7 := j3 m' row' (by simpa using h2) x' hx' (by rw [show p + 1 + m' = p + (m' + 1) by omega, ← he]; exact hb)
              rw [show p + 1 + m' = p + (m' + 1) by omega, ← he] at h7
              rw [(HA _).2.1 x hx rfl hb] at h7
              cases h7
          | succ m =>
            cases m' with
            | zero =>
              exfalso
              injection h2 with h2; subst h2
              simp only [Nat.add_zero] at he
              have hb' := hb
              rw [he] at hb'
              have h7 := j3 m row (by simpa using h1) x hx (by rw [show p + 1 + m = p + (m + 1) by omega]; exact hb)
              rw [show p + 1 + m = p + (m + 1) by omega, he] at h7
              rw [(HA _).2.1 x' hx' rfl hb'] at h7
              cases h7
            | succ m' =>
              have := j2 m m' row row' (by simpa using h1) (by simpa using h2) x hx x' hx' (by rw [show p + 1 + m = p + (m + 1) by omega, show p + 1 + m' = p + (m' + 1) by omega]; exact he) (by rw [show p + 1 + m = p + (m + 1) by omega]; exact hb)
              omega
        · intro m row h1 x hx hb
          cases m with
          | zero => injection h1 with h1; subst h1; simp only [Nat.add_zero] at hb ⊢; exact own_none x hx hb
          | succ m =>
            have h7 := j3 m row (by simpa using h1) x hx (by rw [show p + 1 + m = p + (m + 1) by omega]; exact hb)
            rw [show p + 1 + m = p + (m + 1) by omega] at h7
            cases ho : own (sqOf a l3 ((p + (m + 1) : Nat) : Int) x) with
            | none => rfl
            | some o =>
              rcases (HA _).2.2 o ho with h8 | h8
              · rw [h8] at h7; cases h7
              · rw [h8.1] at h7; cases h7
      · rintro ⟨j1, j2, j3⟩
        refine ⟨fun row hrow => j1 row (by simp [hrow]), ?_, ?_⟩
        · intro m m' row row' h1 h2 x hx x' hx' he hb
          have := j2 (m + 1) (m' + 1) row row' (by simpa using h1) (by simpa using h2) x hx x' hx' (by rw [show p + (m + 1) = p + 1 + m by omega, show p + (m' + 1) = p + 1 + m' by omega]; exact he) (by rw [show p + (m + 1) = p + 1 + m by omega]; exact hb)
          omega
        · intro m row h1 x hx hb
          have h9 := j3 (m + 1) row (by simpa using h1) x hx (by rw [show p + (m + 1) = p + 1 + m by omega]; exact hb)
          rw [show p + (m + 1) = p + 1 + m by omega] at h9
          cases ho : own' (sqOf a l3 ((p + 1 + m : Nat) : Int) x) with
          | none => rfl
          | some o =>
            rcases (HA _).1 o ho with h8 | ⟨h8, h10, y, hy, he⟩
            · rw [h8] at h9; cases h9
            · exfalso
              have := j2 0 (m + 1) r row rfl (by simpa using h1) y hy x hx (by simp only [Nat.add_zero]; rw [he, show p + (m + 1) = p + 1 + m by omega]) (by simp only [Nat.add_zero]; rw [he]; exact h10)
              omega

/-- Is it a state. -/
def stateB (a c : Int) (l3 l4 : List Int) (s : List (List Int)) : Bool := if s.length = l3.length then stRows a c l3 l4 0 s (fun _ => none) else false
/-- On a square that isn't safe all tokens are the first one's player's. -/
def conf (a : Int) (l3 l4 : List Int) (s : List (List Int)) (q : Nat) : Bool := (atL a l3 (q : Int) 0 s).all fun one => decide (rd one 0 = rd (rd_L1 (atL a l3 (q : Int) 0 s) 0) 0) || l4.contains (q : Int)
def rowB (a c : Int) (row : List Int) : Bool := decide ((row.length : Int) = c) && row.all fun x => inR x (-1) a
theorem rowB_iff {a c : Int} {row : List Int} : rowB a c row = true ↔ rowOK a c row := by simp [rowB, rowOK, List.all_eq_true]

theorem sqOf_lt {a : Int} {l3 : List Int} {p x : Int} (ha : 0 < a) : sqOf a l3 p x < a := by
  unfold sqOf
  split
  · exact Int.tmod_lt_of_pos _ ha
  · omega

theorem alone_iff {a : Int} {l3 l4 : List Int} {s : List (List Int)} (ha : 0 < a) : alone a l3 l4 0 s ↔ ∀ q, q < a.toNat → conf a l3 l4 s q = true := by
  constructor
  · intro h q hq
    unfold conf
    rw [List.all_eq_true]
    intro one hone
    cases hc : l4.contains (q : Int) with
    | true => simp
    | false =>
      rw [Bool.or_false, decide_eq_true_eq]
      have hhead : rd_L1 (atL a l3 (q : Int) 0 s) 0 ∈ atL a l3 (q : Int) 0 s := by
        cases hL : atL a l3 (q : Int) 0 s with
        | nil => rw [hL] at hone; cases hone
        | cons y r => simp [rd_L1]
      obtain ⟨m, row, j, x, h1, h2, h3, h4⟩ := (mem_atL s 0).1 hone
      obtain ⟨m', row', j', x', h1', h2', h3', h4'⟩ := (mem_atL s 0).1 hhead
      have := h m m' row row' h1 h1' x (List.mem_of_getElem? h2) x' (List.mem_of_getElem? h2') (h3.trans h3'.symm) (by rw [h3]; exact ⟨by omega, hc⟩)
      rw [h4, h4', this]
      rfl
  · intro h m m' row row' h1 h1' x hx x' hx' he hb
    obtain ⟨j, hj, rfl⟩ := List.mem_iff_getElem.1 hx
    obtain ⟨j', hj', rfl⟩ := List.mem_iff_getElem.1 hx'
    have hlt := sqOf_lt (l3 := l3) (p := ((0 + m : Nat) : Int)) (x := row[j]) ha
    have h0 := hb.1
    obtain ⟨q, hq⟩ : ∃ q : Nat, sqOf a l3 ((0 + m : Nat) : Int) row[j] = (q : Int) := ⟨(sqOf a l3 ((0 + m : Nat) : Int) row[j]).toNat, by omega⟩
    have hc := h q (by omega)
    unfold conf at hc
    rw [List.all_eq_true] at hc
    have hcon : l4.contains (q : Int) = false := by rw [← hq]; exact hb.2
    have i1 := hc _ ((mem_atL s 0).2 ⟨m, row, j, row[j], h1, List.getElem?_eq_getElem hj, hq, rfl⟩)
    have i2 := hc _ ((mem_atL s 0).2 ⟨m', row', j', row'[j'], h1', List.getElem?_eq_getElem hj', he.symm.trans hq, rfl⟩)
    rw [hcon, Bool.or_false, decide_eq_true_eq] at i1 i2
    have := i1.trans i2.symm
    simp [rd] at this
    omega

theorem stateB_eq {a c : Int} {l3 l4 : List Int} {s : List (List Int)} (ha : 0 < a) : stRows a c l3 l4 0 s (fun _ => none) = (s.all (rowB a c) && allFrom (conf a l3 l4 s) a.toNat 0) := by
  rw [Bool.eq_iff_iff, stRows_iff s 0 _ (fun q o h => by cases h), Bool.and_eq_true, List.all_eq_true, allFrom_iff, alone_iff ha]
  constructor
  · rintro ⟨h1, h2, _⟩
    exact ⟨fun row hr => rowB_iff.2 (h1 row hr), fun q _ hq => h2 q hq⟩
  · rintro ⟨h1, h2⟩
    exact ⟨fun row hr => rowB_iff.1 (h1 row hr), fun q hq => h2 q (by omega) hq, fun _ _ _ _ _ _ => rfl⟩

theorem trState_ans {a b c : Int} {l3 l4 : List Int} {s : List (List Int)} (hg : good a b c l3 l4 = true) (hl4 : l4.length ≤ 1048576) (hs : s.length ≤ 1048576) (hrs : ∀ r ∈ s, r.length ≤ 1048576) :
    Ans (fun k => spec_trState.f k a b c l3 l4 s) (stateB a c l3 l4 s) := by
  simp only [good, Bool.and_eq_true] at hg
  have ha := inR_iff.1 hg.1
  have hc := inR_iff.1 hg.2.2.1
  have hn := inR_iff.1 hg.2.2.2.1
  unfold spec_trState.f stateB
  refine Ans.ite (fun h => ?_) (fun h => ?_)
  case refine_2 => rw [if_neg (by omega)]; exact Ans.now rfl
  have hlen : s.length = l3.length := by omega
  rw [if_pos hlen, stateB_eq (by omega)]
  have L1 : (∀ r ∈ s, rowOK a c r) → ∀ q : Nat, q ≤ a.toNat → Ans (fun k => spec_trState.l1 k s (q : Int) a b c l3 l4) (allFrom (conf a l3 l4 s) a.toNat q) := by
    intro hok q hq
    have hr4 : ∀ r ∈ s, r.length ≤ 4 := fun r hr => by have := (hok r hr).1; omega
    refine loop_Ans a.toNat (fun k i (_ : Unit) => spec_trState.l1 k s (i : Int) a b c l3 l4) (fun _ _ => True) (fun i _ => allFrom (conf a l3 l4 s) a.toNat i) ?_ ?_ q () hq trivial
    · intro y _
      refine Ans.step (fun k => spec_trState.l1.eq_2 ..) ?_
      refine Ans.iteN (by omega) (Ans.now ?_)
      rw [allFrom_end]
    · intro i y hi _ ih
      refine Ans.step (fun k => spec_trState.l1.eq_2 ..) ?_
      refine Ans.iteP (by omega) ?_
      refine Ans.bind (trAt_ans (by omega) (by omega) (by omega) hr4) ?_
      rw [allFrom_step hi]
      have hmem := fun one => mem_atL (a := a) (l3 := l3) (q := (i : Int)) (one := one) s 0
      have hcf : conf a l3 l4 s i = (atL a l3 (i : Int) 0 s).all fun one => decide (rd one 0 = rd (rd_L1 (atL a l3 (i : Int) 0 s) 0) 0) || l4.contains (i : Int) := rfl
      have htwo : ∀ one ∈ atL a l3 (i : Int) 0 s, one.length = 2 := by
        intro one ho
        obtain ⟨m, row, j, x, _, _, _, h4⟩ := (hmem one).1 ho
        rw [h4]; rfl
      have hLlen : (atL a l3 (i : Int) 0 s).length ≤ 9223372036854775806 := by
        have rowlen : ∀ (row : List Int) (j : Nat) (p : Int), (atRowL a l3 (i : Int) p j row).length ≤ row.length := by
          intro row
          induction row with
          | nil => intro j p; simp [atRowL]
          | cons x r ih3 => intro j p; unfold atRowL; split <;> simp only [List.length_cons] <;> have := ih3 (j + 1) p <;> omega
        have all : ∀ (s' : List (List Int)) (p : Nat), (∀ r ∈ s', r.length ≤ 4) → (atL a l3 (i : Int) p s').length ≤ 4 * s'.length := by
          intro s'
          induction s' with
          | nil => intro p _; simp [atL]
          | cons r rs ih3 =>
            intro p hr
            unfold atL
            have h5 := rowlen r 0 (p : Int)
            have h6 := hr r (by simp)
            have h7 := ih3 (p + 1) (fun z hz => hr z (by simp [hz]))
            simp only [List.length_append, List.length_cons]; omega
        have := all s 0 hr4
        omega
      rw [hcf]
      generalize atL a l3 (i : Int) 0 s = L at htwo hLlen
      refine (loop_Ans L.length (fun k j (_ : Unit) => spec_trState.l2 k s (i : Int) L L L.length (j : Int) a b c l3 l4) (fun _ _ => True) (fun j _ => ((L.drop j).all fun one => decide (rd one 0 = rd (rd_L1 L 0) 0) || l4.contains (i : Int)) && allFrom (conf a l3 l4 s) a.toNat (i + 1)) ?_ ?_ 0 () (by omega) trivial).val (by simp)
      · intro z _
        refine Ans.step (fun k => spec_trState.l2.eq_2 ..) ?_
        refine Ans.iteN (by omega) ?_
        rw [List.drop_length, List.all_nil, Bool.true_and, wrap_succ hi (by omega)]
        exact ih () trivial
      · intro j z hj _ ih2
        refine Ans.step (fun k => spec_trState.l2.eq_2 ..) ?_
        have e1 : (rd_L1 L (j : Int)).length = 2 := by rw [rdL_at hj]; exact htwo _ (List.getElem_mem hj)
        have e2 : (rd_L1 L 0).length = 2 := by
          have h0 : 0 < L.length := by omega
          have := rdL_at (l := L) (i := 0) h0
          rw [show ((0 : Nat) : Int) = 0 from rfl] at this
          rw [this]; exact htwo _ (List.getElem_mem h0)
        refine Ans.iteP (by omega) (Ans.iteP (by omega) (Ans.iteP (by omega) (Ans.iteP (by omega) (Ans.iteP (by omega) (Ans.iteP (by omega) ?_)))))
        rw [drop_at hj, List.all_cons, wrap_succ hj (by omega), rdL_at hj]
        refine Ans.ite (fun h => ?_) (fun h => ?_)
        · rw [decide_eq_true h, Bool.true_or, Bool.true_and]; exact ih2 () trivial
        · rw [decide_eq_false h, Bool.false_or]
          refine Ans.bind (l1Has_ans (by omega)) ?_
          refine Ans.ite (fun h2 => ?_) (fun h2 => ?_)
          · refine (ih2 () trivial).val ?_
            rw [h2, Bool.true_and]
          · have h3 : l4.contains (i : Int) = false := by simpa using h2
            rw [h3]; exact Ans.now (by simp)
  refine (loop_Ans s.length (fun k i (_ : Unit) => spec_trState.l0 k s s s.length (i : Int) a b c l3 l4) (fun i _ => ∀ j (hj : j < s.length), j < i → rowOK a c s[j]) (fun i _ => (s.drop i).all (rowB a c) && allFrom (conf a l3 l4 s) a.toNat 0) ?_ ?_ 0 () (by omega) (by intro j _ h; omega)).val (by simp)
  · intro y hy
    refine Ans.step (fun k => spec_trState.l0.eq_2 ..) ?_
    refine Ans.iteN (by omega) ?_
    rw [List.drop_length, List.all_nil, Bool.true_and]
    refine L1 (fun r hr => ?_) 0 (by omega)
    obtain ⟨j, hj, rfl⟩ := List.mem_iff_getElem.1 hr
    exact hy j hj hj
  · intro i y hi hy ih
    refine Ans.step (fun k => spec_trState.l0.eq_2 ..) ?_
    refine Ans.iteP (by omega) (Ans.iteP (by omega) (Ans.iteP (by omega) ?_))
    rw [rdL_at hi, drop_at hi, List.all_cons, wrap_succ hi (by omega)]
    refine Ans.ite (fun h => ?_) (fun h => ?_)
    · refine Ans.bind (l1All_ans (by have := hrs s[i] (List.getElem_mem hi); omega)) ?_
      have e : rowB a c s[i] = (s[i].all fun n => inR n (-1) a) := by unfold rowB; rw [decide_eq_true h, Bool.true_and]
      rw [e]
      cases hall : (s[i].all fun n => inR n (-1) a) with
      | true =>
        refine Ans.iteP rfl ?_
        rw [Bool.true_and]
        refine ih () ?_
        intro j hj hji
        by_cases e2 : j = i
        · subst e2; exact ⟨h, fun x hx => List.all_eq_true.1 hall x hx⟩
        · exact hy j hj (by omega)
      | false => exact Ans.iteN (by simp) (Ans.now (by simp))
    · have e : rowB a c s[i] = false := by unfold rowB; rw [decide_eq_false h, Bool.false_and]
      rw [e]; exact Ans.now (by simp)

theorem isState_val {a b c : Int} {l3 l4 : List Int} {s : List (List Int)} (hg : good a b c l3 l4 = true) : impl_Track_isState.f a b c l3 l4 s = some (stateB a c l3 l4 s) := by
  simp only [good, Bool.and_eq_true] at hg
  have ha := inR_iff.1 hg.1
  have hc := inR_iff.1 hg.2.2.1
  have hn := inR_iff.1 hg.2.2.2.1
  unfold impl_Track_isState.f stateB
  rw [if_pos ⟨inR_iff.2 ⟨by omega, by omega⟩, inR_iff.2 ⟨by omega, by omega⟩, by omega⟩]
  split <;> rfl

end Go.Proofs.Ytcppahkdfajcaaa.Q
namespace Go.Proofs.Ytcppahkdfajcaaa.Q
open Go.RowKit Go.Proofs.Ytcppahkdfajcaaa.P Go.Proofs.YtcppahkdfajcaaaW.PrintWords
set_option linter.unusedVariables false
set_option linter.unusedSimpArgs false

structure Small (l3 l4 : List Int) (s : List (List Int)) : Prop where
  k3 : l3.length ≤ 1048576
  k4 : l4.length ≤ 1048576
  ks : s.length ≤ 1048576
  kr : ∀ r ∈ s, r.length ≤ 1048576

structure Facts (a b c : Int) (l3 l4 : List Int) (s : List (List Int)) : Prop where
  fa : 4 ≤ a ∧ a ≤ 60
  fb : 1 ≤ b ∧ b ≤ 8
  fc : 1 ≤ c ∧ c ≤ 4
  fn : 2 ≤ l3.length ∧ l3.length ≤ 4
  fst : ∀ x ∈ l3, 0 ≤ x ∧ x ≤ a - 1
  flen : s.length = l3.length
  frow : ∀ r ∈ s, (r.length : Int) = c ∧ ∀ x ∈ r, -1 ≤ x ∧ x ≤ a
  fal : alone a l3 l4 0 s

theorem good_facts {a b c : Int} {l3 l4 : List Int} (hg : good a b c l3 l4 = true) : (4 ≤ a ∧ a ≤ 60) ∧ (1 ≤ b ∧ b ≤ 8) ∧ (1 ≤ c ∧ c ≤ 4) ∧ (2 ≤ l3.length ∧ l3.length ≤ 4) ∧ (∀ x ∈ l3, 0 ≤ x ∧ x ≤ a - 1) := by
  simp only [good, Bool.and_eq_true] at hg
  have hn := inR_iff.1 hg.2.2.2.1
  refine ⟨inR_iff.1 hg.1, inR_iff.1 hg.2.1, inR_iff.1 hg.2.2.1, by omega, fun x hx => inR_iff.1 (List.all_eq_true.1 hg.2.2.2.2.1 x hx)⟩

theorem facts_of {a b c : Int} {l3 l4 : List Int} {s : List (List Int)} (hg : good a b c l3 l4 = true) (hs : stateB a c l3 l4 s = true) : Facts a b c l3 l4 s := by
  obtain ⟨h1, h2, h3, h4, h5⟩ := good_facts hg
  unfold stateB at hs
  split at hs
  · rename_i hl
    obtain ⟨i1, i2, _⟩ := (stRows_iff s 0 _ (fun q o h => by cases h)).1 hs
    exact ⟨h1, h2, h3, h4, h5, hl, fun r hr => ⟨(i1 r hr).1, fun x hx => inR_iff.1 ((i1 r hr).2 x hx)⟩, i2⟩
  · cases hs

variable {a b c : Int} {l3 l4 : List Int} {s : List (List Int)}
theorem isTracked_ans (z : Small l3 l4 s) : Ans (fun k => impl_isTracked.f k a b c l3 l4 s) (good a b c l3 l4 && stateB a c l3 l4 s) := by
  unfold impl_isTracked.f
  refine Ans.bind (IsTrack_ans z.k3 z.k4) ?_
  cases hg : good a b c l3 l4 with
  | true => exact Ans.iteP rfl ((Ans.pbind (isState_val hg) (Ans.now rfl)).val (by simp))
  | false => exact Ans.iteN (by simp) (Ans.now (by simp))

theorem isPlayer_val (h : l3.length ≤ 1048576) (x : Int) : impl_Track_isPlayer.f a b c l3 l4 x = some (inR x 0 ((l3.length : Int) - 1)) := by
  unfold impl_Track_isPlayer.f
  rw [wrap_of (x := (l3.length : Int) - 1) (by omega) (by omega)]
  rw [show impl_within.f x 0 ((l3.length : Int) - 1) = some (inR x 0 ((l3.length : Int) - 1)) from inR_eq _ _ _]
  rfl

theorem trPlayer_ans (z : Small l3 l4 s) (p : Int) : Ans (fun k => spec_trPlayer.f k a b c l3 l4 s p) (good a b c l3 l4 && (stateB a c l3 l4 s && inR p 0 ((l3.length : Int) - 1))) := by
  have hz := z.k3
  unfold spec_trPlayer.f
  refine Ans.bind (trGood_ans z.k3 z.k4) ?_
  cases hg : good a b c l3 l4 with
  | false => exact Ans.iteN (by simp) (Ans.now (by simp))
  | true =>
    refine Ans.iteP rfl ?_
    refine Ans.bind (trState_ans hg z.k4 z.ks z.kr) ?_
    cases hs : stateB a c l3 l4 s with
    | false => exact Ans.iteN (by simp) (Ans.now (by simp))
    | true =>
      refine Ans.iteP rfl ?_
      rw [wrap_of (x := (l3.length : Int) - 1) (by omega) (by omega)]
      exact (Ans.pbind (l1In_inR _ _ _) (Ans.now rfl)).val (by simp)

def moveB (b c : Int) (l3 : List Int) (p t f : Int) : Bool := inR p 0 ((l3.length : Int) - 1) && (inR t 0 (c - 1) && inR f 1 b)
theorem trMove_val (h : l3.length ≤ 1048576) (hc : 1 ≤ c ∧ c ≤ 4) (p t f : Int) : spec_trMove.f a b c l3 l4 p t f = some (moveB b c l3 p t f) := by
  unfold spec_trMove.f moveB
  rw [wrap_of (x := (l3.length : Int) - 1) (by omega) (by omega), wrap_of (x := c - 1) (by omega) (by omega), l1In_inR, l1In_inR, l1In_inR]
  cases inR p 0 ((l3.length : Int) - 1) <;> cases inR t 0 (c - 1) <;> simp
theorem isMove_val (h : l3.length ≤ 1048576) (hc : 1 ≤ c ∧ c ≤ 4) (p t f : Int) : impl_Track_isMove.f a b c l3 l4 p t f = some (moveB b c l3 p t f) := by
  unfold impl_Track_isMove.f moveB
  rw [isPlayer_val h, wrap_of (x := c - 1) (by omega) (by omega), show impl_within.f t 0 (c - 1) = some (inR t 0 (c - 1)) from inR_eq _ _ _, show impl_within.f f 1 b = some (inR f 1 b) from inR_eq _ _ _]
  cases inR p 0 ((l3.length : Int) - 1) <;> cases inR t 0 (c - 1) <;> simp

theorem trAsked_ans (z : Small l3 l4 s) (p t f : Int) : Ans (fun k => spec_trAsked.f k a b c l3 l4 s p t f) (good a b c l3 l4 && (stateB a c l3 l4 s && moveB b c l3 p t f)) := by
  unfold spec_trAsked.f
  refine Ans.bind (trGood_ans z.k3 z.k4) ?_
  cases hg : good a b c l3 l4 with
  | false => exact Ans.iteN (by simp) (Ans.now (by simp))
  | true =>
    refine Ans.iteP rfl ?_
    refine Ans.bind (trState_ans hg z.k4 z.ks z.kr) ?_
    cases hs : stateB a c l3 l4 s with
    | false => exact Ans.iteN (by simp) (Ans.now (by simp))
    | true =>
      refine Ans.iteP rfl ?_
      exact (Ans.pbind (trMove_val z.k3 (good_facts hg).2.2.1 p t f) (Ans.now rfl)).val (by simp)

/-- A token can go. -/
def canB (a b x f : Int) : Bool := if x = -1 then f == b else if x = a then false else decide (x + f ≤ a)
theorem can_val (F : Facts a b c l3 l4 s) {x f : Int} (hx : -1 ≤ x ∧ x ≤ a) (hf : 1 ≤ f ∧ f ≤ b) : spec_trCan.f a b c l3 l4 x f = some (canB a b x f) := by
  have ha := F.fa
  have hb := F.fb
  unfold spec_trCan.f canB
  by_cases h1 : x = -1
  · rw [if_pos (by omega), if_pos h1]
  · rw [if_neg (by omega), if_neg h1]
    by_cases h2 : x = a
    · rw [if_neg (by omega), if_pos h2]
    · rw [if_pos (by omega), if_neg h2, wrap_of (by omega) (by omega)]
/-- The steps of a token behind a face. -/
def stepB (a x f : Int) : Int := if x = -1 then 0 else if x = a then 0 else x + f
theorem goes_val (F : Facts a b c l3 l4 s) {x f : Int} (hx : -1 ≤ x ∧ x ≤ a) (hf : 1 ≤ f ∧ f ≤ b) : impl_Track_goes.f a b c l3 l4 x f = some (stepB a x f, canB a b x f) := by
  have ha := F.fa
  have hb := F.fb
  unfold impl_Track_goes.f canB stepB
  by_cases h1 : x = -1
  · rw [if_pos h1, if_pos h1, if_pos h1]
  · rw [if_neg h1, if_neg h1, if_neg h1]
    by_cases h2 : x = a
    · rw [if_pos h2, if_pos h2, if_pos h2]
    · rw [if_neg h2, if_neg h2, if_neg h2, wrap_of (by omega) (by omega)]

theorem row_at (F : Facts a b c l3 l4 s) {p : Int} (hp : inR p 0 ((l3.length : Int) - 1) = true) : 0 ≤ p ∧ p < (s.length : Int) ∧ (((rd_L1 s p).length : Int) = c ∧ ∀ x ∈ rd_L1 s p, -1 ≤ x ∧ x ≤ a) := by
  have h := inR_iff.1 hp
  have hl := F.flen
  refine ⟨h.1, by omega, ?_⟩
  obtain ⟨n, rfl⟩ : ∃ n : Nat, p = (n : Int) := ⟨p.toNat, by omega⟩
  have hn : n < s.length := by omega
  rw [rdL_at hn]
  exact F.frow _ (List.getElem_mem hn)
theorem tok_at {r : List Int} {t : Int} (h0 : 0 ≤ t) (h1 : t < (r.length : Int)) : rd r t ∈ r := by
  obtain ⟨n, rfl⟩ : ∃ n : Nat, t = (n : Int) := ⟨t.toNat, by omega⟩
  have hn : n < r.length := by omega
  rw [rd_at hn]; exact List.getElem_mem hn

end Go.Proofs.Ytcppahkdfajcaaa.Q
