/- Boards in the laws, the reference and the program: copies, equality, jumps, throws, and when there is a board. Plain Lean; no Go in it. -/
import Derived.Test.YtphjhfpeomifiaaQBase
import Derived.Test.YtphjhfpeomifiaaP57
import Derived.Test.YtphjhfpeomifiaaP44
import Derived.Test.YtphjhfpeomifiaaP79
import Derived.Test.YtphjhfpeomifiaaP57
import Derived.Test.YtphjhfpeomifiaaP44
import Derived.Test.YtphjhfpeomifiaaP58
import Derived.Test.YtphjhfpeomifiaaP79
import Derived.Test.YtphjhfpeomifiaaP83
import Derived.Test.YtphjhfpeomifiaaEThrows
import Derived.Test.YtphjhfpeomifiaaP80
import Derived.Test.YtphjhfpeomifiaaP80
namespace Go.Proofs.Ytphjhfpeomifiaa.Q
open Go.RowKit Go.Proofs.Ytphjhfpeomifiaa.P Go.Proofs.YtphjhfpeomifiaaW.PrintWords
set_option linter.unusedVariables false
set_option linter.unusedSimpArgs false

abbrev J := S70
abbrev LJ := S72
theorem rdJ_at {l : List J} {i : Nat} (h : i < l.length) : rd_T70 l (i : Int) = l[i] := by simp [rd_T70, rdOf, h]
theorem rdLJ_at {l : List LJ} {i : Nat} (h : i < l.length) : rd_T72 l (i : Int) = l[i] := by simp [rd_T72, rdOf, h]

/-! the laws' helpers -/
def toJ (l : List LJ) : List J := l.map fun x => ⟨x.f0, x.f1⟩
theorem toJ_length (l : List LJ) : (toJ l).length = l.length := by simp [toJ]
theorem toJumpS_ans {l : List LJ} (hl : l.length ≤ 17592186044416) : Ans (fun k => laws_toJumpS.f k l) (toJ l) := by
  refine ⟨l.length + 1, fun k hk => ?_⟩
  show laws_toJumpS.f k l = some (toJ l)
  unfold laws_toJumpS.f
  rw [if_pos (by omega), if_pos (by simpa using hl)]
  refine loop_ans l.length (fun k i s => laws_toJumpS.l0 k l s (i : Int)) (fun i s => s = toJ (l.take i) ++ List.replicate (l.length - i) z70) (fun _ _ => toJ l) ?_ ?_ l.length 0 (List.replicate ((l.length : Int)).toNat z70) (by omega) (by simp [toJ]) k (by omega)
  · rintro s rfl k
    simp only [laws_toJumpS.l0]
    rw [if_neg (by omega)]
    simp
  · rintro i s hi rfl k ih
    simp only [laws_toJumpS.l0, laws_toJump.f, Option.bind_some]
    have hlen : (toJ (l.take i) ++ List.replicate (l.length - i) z70).length = l.length := by simp [toJ]; omega
    rw [if_pos (by omega), if_pos (by omega), if_pos (by rw [hlen]; omega), wrap_succ hi (by omega), rdLJ_at hi]
    refine ih _ ?_
    rw [show ((i : Int)).toNat = i by omega, List.set_append_right _ _ (by simp [toJ]; omega)]
    have h1 : (toJ (l.take i)).length = i := by simp [toJ]; omega
    rw [h1, show i - i = 0 by omega, show l.length - i = (l.length - (i + 1)) + 1 by omega, List.replicate_succ, List.set_cons_zero, List.take_succ_eq_append_getElem hi]
    simp only [toJ, List.map_append, List.map_cons, List.map_nil, List.append_assoc, List.cons_append, List.nil_append]
theorem toBoard_ans {s f o : Int} {l : List LJ} (hl : l.length ≤ 17592186044416) : Ans (fun k => laws_toBoard.f k s f o l) (s, f, o, toJ l) := by
  unfold laws_toBoard.f
  exact Ans.bind (toJumpS_ans hl) (Ans.now rfl)
theorem szBoard_val {s f o : Int} {l : List LJ} {a : Int} (h0 : 0 ≤ a) (h1 : a ≤ 1048576) (hl : l.length ≤ 9223372036854775807) :
    ∃ t, laws_szBoard.f s f o l a = some t ∧ (t < 0 ∨ (0 ≤ t ∧ t = a - l.length)) := by
  unfold laws_szBoard.f laws_szJumpS.f
  have : wrap64 (a - (l.length : Int)) = a - l.length := wrap_of (by omega) (by omega)
  rw [this]
  by_cases h : a - (l.length : Int) < 0
  · rw [if_pos h]
    exact ⟨-1, rfl, .inl (by omega)⟩
  · rw [if_neg h, Option.bind_some, if_neg h]
    exact ⟨_, rfl, .inr ⟨by omega, rfl⟩⟩
theorem eqJumpS_ans {l : List J} (hl : l.length ≤ 9223372036854775807) : Ans (fun k => laws_eqJumpS.f k l l) true := by
  refine ⟨l.length + 1, fun k hk => ?_⟩
  show laws_eqJumpS.f k l l = some true
  unfold laws_eqJumpS.f
  rw [if_pos rfl]
  refine loop_ans l.length (fun k i (_ : Unit) => laws_eqJumpS.l0 k l l (i : Int)) (fun _ _ => True) (fun _ _ => true) ?_ ?_ l.length 0 () (by omega) trivial k (by omega)
  · intro s _ k
    simp only [laws_eqJumpS.l0]
    rw [if_neg (by omega)]
  · intro i s hi _ k ih
    simp only [laws_eqJumpS.l0, laws_eqJump.f, if_true, Option.bind_some]
    rw [if_pos (by omega), if_pos (by omega), if_pos (by omega), wrap_succ hi hl]
    exact ih () trivial
theorem eqBoard_ans {s f o : Int} {l : List J} (hl : l.length ≤ 9223372036854775807) : Ans (fun k => laws_eqBoard.f k s f o l s f o l) true := by
  unfold laws_eqBoard.f
  simp only [if_true]
  exact Ans.bind (eqJumpS_ans hl) (Ans.iteP rfl (Ans.now rfl))

/-! jumps -/
/-- The place to which the first jump from a leads, from place i of the list on. -/
def jumpFrom : List J → Int → Int
  | [], a => a
  | j :: l, a => if j.f0 = a then j.f1 else jumpFrom l a
def jumps : List J → Int → Bool
  | [], a => false
  | j :: l, a => if j.f0 = a then true else jumps l a
theorem jumps_iff {l : List J} {a : Int} : jumps l a = true ↔ ∃ j ∈ l, j.f0 = a := by
  induction l with
  | nil => simp [jumps]
  | cons j l ih =>
    simp only [jumps]
    by_cases h : j.f0 = a
    · simp [h]
    · simp [h, ih]
theorem jumpFrom_none {l : List J} {a : Int} (h : jumps l a = false) : jumpFrom l a = a := by
  induction l with
  | nil => rfl
  | cons j l ih =>
    simp only [jumps] at h
    by_cases h' : j.f0 = a
    · simp [h'] at h
    · rw [if_neg h'] at h
      simp only [jumpFrom]
      rw [if_neg h', ih h]
theorem jumpFrom_some {l : List J} {a : Int} (h : jumps l a = true) : ∃ j ∈ l, j.f0 = a ∧ jumpFrom l a = j.f1 := by
  induction l with
  | nil => simp [jumps] at h
  | cons j l ih =>
    by_cases h' : j.f0 = a
    · exact ⟨j, by simp, h', by simp [jumpFrom, h']⟩
    · simp only [jumps] at h
      rw [if_neg h'] at h
      obtain ⟨x, hx, h1, h2⟩ := ih h
      exact ⟨x, by simp [hx], h1, by simp only [jumpFrom]; rw [if_neg h', h2]⟩
theorem sqJump_ans {s f o : Int} {l : List J} {a : Int} (hl : l.length ≤ 9223372036854775807) : Ans (fun k => spec_sqJump.f k s f o l a) (jumpFrom l a) := by
  refine ⟨l.length + 1, fun k hk => ?_⟩
  show spec_sqJump.l0 k a l (l.length : Int) ((0 : Nat) : Int) = some (jumpFrom l a)
  refine loop_ans l.length (fun k i (_ : Unit) => spec_sqJump.l0 k a l (l.length : Int) (i : Int)) (fun _ _ => True) (fun i _ => jumpFrom (l.drop i) a) ?_ ?_ l.length 0 () (by omega) trivial k (by omega)
  · intro s _ k
    simp only [spec_sqJump.l0]
    rw [if_neg (by omega), List.drop_of_length_le (Nat.le_refl _)]
    rfl
  · intro i s hi _ k ih
    simp only [spec_sqJump.l0]
    rw [if_pos (by omega), if_pos (by omega), if_pos (by omega), wrap_succ hi hl, rdJ_at hi, drop_at hi]
    simp only [jumpFrom]
    split
    · rfl
    · exact ih () trivial
theorem begins_ans {s f o : Int} {l : List J} {a : Int} (hl : l.length ≤ 9223372036854775807) : Ans (fun k => impl_Board_begins.f k s f o l a) (jumpFrom l a, jumps l a) := by
  refine ⟨l.length + 1, fun k hk => ?_⟩
  show impl_Board_begins.l0 k a l (l.length : Int) ((0 : Nat) : Int) = some (jumpFrom l a, jumps l a)
  refine loop_ans l.length (fun k i (_ : Unit) => impl_Board_begins.l0 k a l (l.length : Int) (i : Int)) (fun _ _ => True) (fun i _ => (jumpFrom (l.drop i) a, jumps (l.drop i) a)) ?_ ?_ l.length 0 () (by omega) trivial k (by omega)
  · intro s _ k
    simp only [impl_Board_begins.l0]
    rw [if_neg (by omega), List.drop_of_length_le (Nat.le_refl _)]
    rfl
  · intro i s hi _ k ih
    simp only [impl_Board_begins.l0]
    rw [if_pos (by omega), if_pos (by omega), if_pos (by omega), wrap_succ hi hl, rdJ_at hi, drop_at hi]
    simp only [jumpFrom, jumps]
    split
    · rfl
    · exact ih () trivial

/-! when there is a board -/
theorem l1In_val (x lo hi : Int) : spec_l1In.f x lo hi = some (inR x lo hi) := inR_eq x lo hi
theorem within_val (x lo hi : Int) : impl_within.f x lo hi = some (inR x lo hi) := inR_eq x lo hi
def rdJ (l : List J) (i : Nat) : J := rd_T70 l (i : Int)
/-- The jump with this place lies on the board, leads elsewhere, and the one ahead of it begins earlier. -/
def okS (s : Int) (l : List J) (i : Nat) : Bool :=
  inR (rdJ l i).f0 1 (wrap64 (s - 1)) && (inR (rdJ l i).f1 0 s && (!((rdJ l i).f0 == (rdJ l i).f1) && (decide (i = 0) || !decide ((rdJ l (i - 1)).f0 ≥ (rdJ l i).f0))))
def okT (l : List J) (i : Nat) : Bool := decide (jumpFrom l (rdJ l i).f1 = (rdJ l i).f1)
def okI (s : Int) (l : List J) (i : Nat) : Bool :=
  inR (rdJ l i).f0 1 (wrap64 (s - 1)) && (inR (rdJ l i).f1 0 s && ((decide (i = 0) || !decide ((rdJ l (i - 1)).f0 ≥ (rdJ l i).f0)) && !(jumps l (rdJ l i).f1)))
def headB (s f o : Int) (l : List J) : Bool := inR s 1 100 && (inR f 1 8 && (inR o 0 2 && !decide ((l.length : Int) > 20)))
def goodS (s f o : Int) (l : List J) : Bool := headB s f o l && (allFrom (okS s l) l.length 0 && allFrom (okT l) l.length 0)
def goodI (s f o : Int) (l : List J) : Bool := headB s f o l && allFrom (okI s l) l.length 0

theorem mem_rdJ {l : List J} {j : J} (h : j ∈ l) : ∃ i, i < l.length ∧ rdJ l i = j := by
  obtain ⟨i, hi, rfl⟩ := List.mem_iff_getElem.1 h
  exact ⟨i, hi, rdJ_at hi⟩
theorem rdJ_mem {l : List J} {i : Nat} (h : i < l.length) : rdJ l i ∈ l := by unfold rdJ; rw [rdJ_at h]; exact List.getElem_mem h
theorem good_eq (s f o : Int) (l : List J) : goodS s f o l = goodI s f o l := by
  unfold goodS goodI
  congr 1
  rw [Bool.eq_iff_iff, Bool.and_eq_true, allFrom_iff, allFrom_iff, allFrom_iff]
  constructor
  · rintro ⟨h1, h2⟩ i _ hi
    have a := h1 i (by omega) hi
    have b := h2 i (by omega) hi
    unfold okS at a
    unfold okT at b
    unfold okI
    simp only [Bool.and_eq_true, Bool.not_eq_true', decide_eq_true_eq] at a b ⊢
    refine ⟨a.1, a.2.1, a.2.2.2, ?_⟩
    cases hj : jumps l (rdJ l i).f1 with
    | false => rfl
    | true =>
      obtain ⟨j, hm, e1, e2⟩ := jumpFrom_some hj
      obtain ⟨q, hq, rfl⟩ := mem_rdJ hm
      have c := h1 q (by omega) hq
      unfold okS at c
      simp only [Bool.and_eq_true, Bool.not_eq_true', beq_eq_false_iff_ne, ne_eq] at c
      exact absurd (e1.trans (b.symm.trans e2)) c.2.2.1
  · intro h
    refine ⟨fun i _ hi => ?_, fun i _ hi => ?_⟩
    · have a := h i (by omega) hi
      unfold okI at a
      unfold okS
      simp only [Bool.and_eq_true, Bool.not_eq_true', beq_eq_false_iff_ne, ne_eq] at a ⊢
      refine ⟨a.1, a.2.1, fun e => ?_, a.2.2.1⟩
      have : jumps l (rdJ l i).f1 = true := jumps_iff.2 ⟨_, rdJ_mem hi, e⟩
      rw [a.2.2.2] at this
      cases this
    · have a := h i (by omega) hi
      unfold okI at a
      unfold okT
      simp only [Bool.and_eq_true, Bool.not_eq_true', decide_eq_true_eq] at a ⊢
      exact jumpFrom_none a.2.2.2


theorem prev_wrap {i : Nat} (h : 0 < i) (hb : i ≤ 9223372036854775807) : wrap64 ((i : Int) - 1) = ((i - 1 : Nat) : Int) := by rw [wrap_of (by omega) (by omega)]; omega

theorem sqGood_l0 {s f o : Int} {l : List J} (hl : l.length ≤ 9223372036854775807) :
    Ans (fun k => spec_sqGood.l0 k l (l.length : Int) ((0 : Nat) : Int) s f o l) (allFrom (okS s l) l.length 0 && allFrom (okT l) l.length 0) := by
  have hT : Ans (fun k => spec_sqGood.l1 k l (l.length : Int) ((0 : Nat) : Int) s f o l) (allFrom (okT l) l.length 0) := by
    refine loop_Ans l.length (fun k i (_ : Unit) => spec_sqGood.l1 k l (l.length : Int) (i : Int) s f o l) (fun _ _ => True) (fun i _ => allFrom (okT l) l.length i) ?_ ?_ 0 () (by omega) trivial
    · intro _ _
      rw [allFrom_end]
      refine Ans.step (fun k => by simp only [spec_sqGood.l1]; rw [if_neg (by omega)]) (Ans.now rfl)
    · intro i _ hi _ ih
      refine Ans.step (fun k => by simp only [spec_sqGood.l1]; rw [if_pos (by omega), if_pos (by omega), if_pos (by omega), wrap_succ hi hl]) ?_
      rw [allFrom_step hi]
      unfold okT rdJ
      refine Ans.bind (sqJump_ans hl) (Ans.ite ?_ ?_)
      · intro h; simp only [h, decide_true, Bool.true_and]; exact ih () trivial
      · intro h; simp only [h, decide_false, Bool.false_and]; exact Ans.now rfl
  refine loop_Ans l.length (fun k i (_ : Unit) => spec_sqGood.l0 k l (l.length : Int) (i : Int) s f o l) (fun _ _ => True) (fun i _ => allFrom (okS s l) l.length i && allFrom (okT l) l.length 0) ?_ ?_ 0 () (by omega) trivial
  · intro _ _
    rw [allFrom_end, Bool.true_and]
    exact Ans.step (fun k => by simp only [spec_sqGood.l0]; rw [if_neg (by omega)]; rfl) hT
  · intro i _ hi _ ih
    have hj : ∀ b : Bool, Ans (fun k => spec_sqGood.j2 k (i : Int) l (l.length : Int) (i : Int) b s f o l (rdJ l i).f0 (rdJ l i).f1)
        ((!b && (decide (i = 0) || !decide ((rdJ l (i - 1)).f0 ≥ (rdJ l i).f0))) && (allFrom (okS s l) l.length (i + 1) && allFrom (okT l) l.length 0)) := by
      intro b
      cases b with
      | true => exact Ans.step (f := fun _ => some false) (fun k => by simp [spec_sqGood.j2]) (Ans.now (by simp))
      | false =>
        by_cases h0 : i = 0
        · refine Ans.step (fun k => by simp only [spec_sqGood.j2]; rw [if_neg (by simp), if_neg (by omega), wrap_succ hi hl]) ?_
          simp only [h0, decide_true, Bool.not_false, Bool.true_or, Bool.true_and]
          simpa [h0] using ih () trivial
        · refine Ans.step (fun k => by simp only [spec_sqGood.j2]; rw [if_neg (by simp), if_pos (by omega), prev_wrap (by omega) (by omega), if_pos (by omega), if_pos (by omega), wrap_succ hi hl]) ?_
          have e : rd_T70 l ((i - 1 : Nat) : Int) = rdJ l (i - 1) := rfl
          simp only [e, h0, decide_false, Bool.not_false, Bool.false_or, Bool.true_and]
          refine Ans.ite ?_ ?_
          · intro h; simp only [h, decide_true, Bool.not_true, Bool.false_and]; exact Ans.now rfl
          · intro h; simp only [h, decide_false, Bool.not_false, Bool.true_and]; exact ih () trivial
    refine Ans.step (fun k => by simp only [spec_sqGood.l0]; rw [if_pos (by omega), if_pos (by omega), if_pos (by omega)]) ?_
    rw [allFrom_step hi]
    simp only [l1In_val, Option.bind_some]
    unfold okS
    have hA := hj true
    have hB := hj ((rdJ l i).f0 == (rdJ l i).f1)
    cases h1 : inR (rdJ l i).f0 1 (wrap64 (s - 1)) with
    | false => unfold rdJ at h1; simpa [h1, rdJ] using hA
    | true =>
      cases h2 : inR (rdJ l i).f1 0 s with
      | false => unfold rdJ at h1 h2; simpa [h1, h2, rdJ] using hA
      | true =>
        rw [Bool.true_and, Bool.true_and]
        unfold rdJ at h1 h2
        simp only [h1, h2, if_true]
        rw [Bool.and_assoc] at hB ⊢
        rw [Bool.and_assoc]
        exact hB
theorem sqGood_ans {s f o : Int} {l : List J} (hl : l.length ≤ 9223372036854775807) : Ans (fun k => spec_sqGood.f k s f o l) (goodS s f o l) := by
  unfold spec_sqGood.f goodS headB
  simp only [l1In_val, Option.bind_some]
  have ht : Ans (fun k => spec_sqGood.j0 k true s f o l) false := Ans.step (f := fun _ => some false) (fun k => by simp [spec_sqGood.j0]) (Ans.now (by simp))
  cases inR s 1 100 with
  | false => simpa using ht
  | true =>
    cases inR f 1 8 with
    | false => simpa using ht
    | true =>
      cases inR o 0 2 with
      | false => simpa using ht
      | true =>
        simp only [if_true, Bool.true_and]
        cases decide ((l.length : Int) > 20) with
        | true => exact ht
        | false => exact Ans.step (fun k => by simp only [spec_sqGood.j0]; rw [if_neg (by simp)]; rfl) (sqGood_l0 (f := f) (o := o) hl)

theorem isBoard_l0 {s f o : Int} {l : List J} (hl : l.length ≤ 9223372036854775807) :
    Ans (fun k => impl_IsBoard.l0 k l (l.length : Int) ((0 : Nat) : Int) s f o l) (allFrom (okI s l) l.length 0) := by
  refine loop_Ans l.length (fun k i (_ : Unit) => impl_IsBoard.l0 k l (l.length : Int) (i : Int) s f o l) (fun _ _ => True) (fun i _ => allFrom (okI s l) l.length i) ?_ ?_ 0 () (by omega) trivial
  · intro _ _
    rw [allFrom_end]
    exact Ans.step (fun k => by simp only [impl_IsBoard.l0]; rw [if_neg (by omega)]) (Ans.now rfl)
  · intro i _ hi _ ih
    have hj : ∀ b : Bool, Ans (fun k => impl_IsBoard.j2 k l (l.length : Int) (i : Int) b s f o l (rdJ l i).f0 (rdJ l i).f1)
        ((!b && !(jumps l (rdJ l i).f1)) && allFrom (okI s l) l.length (i + 1)) := by
      intro b
      cases b with
      | true => exact Ans.step (f := fun _ => some false) (fun k => by simp [impl_IsBoard.j2]) (Ans.now (by simp))
      | false =>
        refine Ans.step (fun k => by simp only [impl_IsBoard.j2]; rw [if_neg (by simp), wrap_succ hi hl]) ?_
        refine Ans.bind (begins_ans hl) ?_
        cases jumps l (rdJ l i).f1 with
        | true => exact Ans.iteP rfl (Ans.now rfl)
        | false => exact Ans.iteN (by simp) (by simpa using ih () trivial)
    refine Ans.step (fun k => by simp only [impl_IsBoard.l0]; rw [if_pos (by omega), if_pos (by omega), if_pos (by omega)]) ?_
    rw [allFrom_step hi]
    simp only [within_val, Option.bind_some]
    unfold okI
    have hA := hj true
    cases h1 : inR (rdJ l i).f0 1 (wrap64 (s - 1)) with
    | false => unfold rdJ at h1; simpa [h1, rdJ] using hA
    | true =>
      cases h2 : inR (rdJ l i).f1 0 s with
      | false => unfold rdJ at h1 h2; simpa [h1, h2, rdJ] using hA
      | true =>
        rw [Bool.true_and, Bool.true_and]
        by_cases h0 : i = 0
        · subst h0
          have hB := hj false
          simp only [decide_true, Bool.true_or, Bool.true_and]
          unfold rdJ at h1 h2
          simp only [h1, h2, if_true]
          refine Ans.iteN (by omega) ?_
          rw [Bool.not_false, Bool.true_and] at hB
          exact hB
        · have hB := hj (decide ((rdJ l (i - 1)).f0 ≥ (rdJ l i).f0))
          simp only [h0, decide_false, Bool.false_or]
          unfold rdJ at h1 h2
          simp only [h1, h2, if_true]
          refine Ans.iteP (by omega) ?_
          simp only [prev_wrap (show 0 < i by omega) (by omega)]
          exact Ans.iteP (by omega) (Ans.iteP (by omega) hB)
theorem isBoard_ans {s f o : Int} {l : List J} (hl : l.length ≤ 9223372036854775807) : Ans (fun k => impl_IsBoard.f k s f o l) (goodS s f o l) := by
  rw [good_eq]
  unfold impl_IsBoard.f goodI headB
  simp only [within_val, Option.bind_some]
  have ht : Ans (fun k => impl_IsBoard.j0 k true s f o l) false := Ans.step (f := fun _ => some false) (fun k => by simp [impl_IsBoard.j0]) (Ans.now (by simp))
  cases inR s 1 100 with
  | false => simpa using ht
  | true =>
    cases inR f 1 8 with
    | false => simpa using ht
    | true =>
      cases inR o 0 2 with
      | false => simpa using ht
      | true =>
        simp only [if_true, Bool.true_and]
        cases decide ((l.length : Int) > 20) with
        | true => exact ht
        | false => exact Ans.step (fun k => by simp only [impl_IsBoard.j0]; rw [if_neg (by simp)]; rfl) (isBoard_l0 (f := f) (o := o) hl)

/-! what a board is good for -/
structure Board (s f o : Int) (l : List J) : Prop where
  s1 : 1 ≤ s
  s2 : s ≤ 100
  f1 : 1 ≤ f
  f2 : f ≤ 8
  o0 : 0 ≤ o
  o2 : o ≤ 2
  len : l.length ≤ 20
  fr : ∀ j ∈ l, 1 ≤ j.f0 ∧ j.f0 ≤ s - 1
  dst : ∀ j ∈ l, 0 ≤ j.f1 ∧ j.f1 ≤ s
  ne : ∀ j ∈ l, jumps l j.f1 = false
theorem board_of {s f o : Int} {l : List J} (h : goodS s f o l = true) : Board s f o l := by
  rw [good_eq] at h
  unfold goodI headB at h
  simp only [Bool.and_eq_true, Bool.not_eq_true', inR_iff, decide_eq_false_iff_not] at h
  obtain ⟨⟨h1, h2, h3, h4⟩, h5⟩ := h
  rw [allFrom_iff] at h5
  have h6 : ∀ j ∈ l, (1 ≤ j.f0 ∧ j.f0 ≤ s - 1) ∧ (0 ≤ j.f1 ∧ j.f1 ≤ s) ∧ jumps l j.f1 = false := by
    intro j hj
    obtain ⟨i, hi, rfl⟩ := mem_rdJ hj
    have a := h5 i (by omega) hi
    unfold okI at a
    simp only [Bool.and_eq_true, Bool.not_eq_true', inR_iff] at a
    rw [wrap_of (by omega) (by omega)] at a
    exact ⟨a.1, a.2.1, a.2.2.2⟩
  exact ⟨h1.1, h1.2, h2.1, h2.2, h3.1, h3.2, by omega, fun j hj => (h6 j hj).1, fun j hj => (h6 j hj).2.1, fun j hj => (h6 j hj).2.2⟩
theorem Board.end_ {s f o : Int} {l : List J} (h : Board s f o l) : jumps l s = false := by
  cases e : jumps l s with
  | false => rfl
  | true =>
    obtain ⟨j, hj, e⟩ := jumps_iff.1 e
    have := h.fr j hj
    omega
theorem Board.zero {s f o : Int} {l : List J} (h : Board s f o l) : jumps l 0 = false := by
  cases e : jumps l 0 with
  | false => rfl
  | true =>
    obtain ⟨j, hj, e⟩ := jumps_iff.1 e
    have := h.fr j hj
    omega

/-! throws -/
/-- Where a throw leads ahead of a jump. -/
def landOn (s o a n : Int) : Int × Bool :=
  if a = s then (a, false) else if a + n ≤ s then (a + n, true) else if o = 1 then (s, true) else if o = 2 then (if 2 * s - (a + n) ≥ 0 then (2 * s - (a + n), true) else (a, false)) else (a, false)
def thr (s o : Int) (l : List J) (a n : Int) : Int := if (landOn s o a n).2 = true then jumpFrom l (landOn s o a n).1 else a
theorem landing_val {s f o : Int} {l : List J} {a n : Int} (hs : 1 ≤ s ∧ s ≤ 100) (ha : -1000 ≤ a ∧ a ≤ 1000) (hn : -1000 ≤ n ∧ n ≤ 1000) : impl_Board_landing.f s f o l a n = some (landOn s o a n) := by
  unfold impl_Board_landing.f landOn
  rw [wrap_of (x := a + n) (by omega) (by omega), wrap_of (x := 2 * s) (by omega) (by omega), wrap_of (x := 2 * s - (a + n)) (by omega) (by omega)]
  split
  · rfl
  · split
    · rfl
    · split
      · rfl
      · split
        · split <;> rfl
        · rfl
theorem throw_ans {s f o : Int} {l : List J} {a n : Int} (hl : l.length ≤ 9223372036854775807) (hs : 1 ≤ s ∧ s ≤ 100) (ha : -1000 ≤ a ∧ a ≤ 1000) (hn : -1000 ≤ n ∧ n ≤ 1000) :
    Ans (fun k => impl_Board_throw.f k s f o l a n) (thr s o l a n) := by
  unfold impl_Board_throw.f thr
  refine Ans.pbind (landing_val hs ha hn) ?_
  by_cases h : (landOn s o a n).2 = true
  · rw [if_pos h]
    exact Ans.iteP h (Ans.bind (begins_ans hl) (Ans.now rfl))
  · rw [if_neg h]
    exact Ans.iteN h (Ans.now rfl)
theorem sqThrow_ans {s f o : Int} {l : List J} {a n : Int} (hb : Board s f o l) (ha : -1000 ≤ a ∧ a ≤ 1000) (hn : -1000 ≤ n ∧ n ≤ 1000) :
    Ans (fun k => spec_sqThrow.f k s f o l a n) (thr s o l a n) := by
  have hl : l.length ≤ 9223372036854775807 := by have := hb.len; omega
  have h1 := hb.s1; have h2 := hb.s2; have h3 := hb.o0; have h4 := hb.o2
  unfold spec_sqThrow.f thr landOn
  rw [wrap_of (x := a + n) (by omega) (by omega), wrap_of (x := 2 * s) (by omega) (by omega), wrap_of (x := 2 * s - (a + n)) (by omega) (by omega)]
  by_cases c1 : a = s
  · simp only [if_pos c1]
    exact Ans.now (by simp)
  · simp only [if_neg c1]
    by_cases c2 : a + n ≤ s
    · simp only [if_pos c2, if_neg (show ¬ a + n > s by omega), if_true]
      exact Ans.bind (sqJump_ans hl) (Ans.now rfl)
    · simp only [if_neg c2, if_pos (show a + n > s by omega)]
      by_cases c3 : o = 1
      · simp only [if_pos c3, if_neg (show ¬ o = 0 by omega), if_true]
        rw [jumpFrom_none hb.end_]
        exact Ans.now rfl
      · simp only [if_neg c3]
        by_cases c4 : o = 2
        · simp only [if_pos c4, if_neg (show ¬ o = 0 by omega)]
          by_cases c5 : 2 * s - (a + n) ≥ 0
          · simp only [if_pos c5, if_neg (show ¬ 2 * s - (a + n) < 0 by omega), if_true]
            exact Ans.bind (sqJump_ans hl) (Ans.now rfl)
          · simp only [if_neg c5, if_pos (show 2 * s - (a + n) < 0 by omega)]
            exact Ans.now (by simp)
        · simp only [if_neg c4, if_pos (show o = 0 by omega)]
          exact Ans.now (by simp)
theorem jumpFrom_range {s f o : Int} {l : List J} (hb : Board s f o l) {a : Int} (ha : 0 ≤ a ∧ a ≤ s) : 0 ≤ jumpFrom l a ∧ jumpFrom l a ≤ s := by
  cases e : jumps l a with
  | false => rw [jumpFrom_none e]; exact ha
  | true =>
    obtain ⟨j, hj, _, e2⟩ := jumpFrom_some e
    rw [e2]; exact hb.dst j hj
theorem thr_range {s f o : Int} {l : List J} (hb : Board s f o l) {a n : Int} (ha : 0 ≤ a ∧ a ≤ s) (hn : 0 ≤ n) : 0 ≤ thr s o l a n ∧ thr s o l a n ≤ s := by
  have h1 := hb.s1
  unfold thr
  split
  · rename_i h
    refine jumpFrom_range hb ?_
    unfold landOn at h ⊢
    split at h
    · cases h
    · rename_i c1
      rw [if_neg c1]
      split at h
      · rename_i c2
        rw [if_pos c2]
        exact ⟨by show 0 ≤ a + n; omega, c2⟩
      · rename_i c2
        rw [if_neg c2]
        split at h
        · rename_i c3
          rw [if_pos c3]
          exact ⟨by show 0 ≤ s; omega, by show s ≤ s; omega⟩
        · rename_i c3
          rw [if_neg c3]
          split at h
          · rename_i c4
            rw [if_pos c4]
            split at h
            · rename_i c5
              rw [if_pos c5]
              exact ⟨c5, by show 2 * s - (a + n) ≤ s; omega⟩
            · cases h
          · cases h
  · exact ha

end Go.Proofs.Ytphjhfpeomifiaa.Q
namespace Go.Proofs.Ytphjhfpeomifiaa.Q
open Go.RowKit Go.Proofs.Ytphjhfpeomifiaa.P Go.Proofs.YtphjhfpeomifiaaW.PrintWords
set_option linter.unusedVariables false
set_option linter.unusedSimpArgs false

theorem l1All_ans {l : List Int} {lo hi : Int} (hl : l.length ≤ 9223372036854775807) : Ans (fun k => spec_l1All.f k l lo hi) (l.all fun n => inR n lo hi) := by
  refine ⟨l.length + 1, fun k hk => ?_⟩
  show spec_l1All.f k l lo hi = _
  unfold spec_l1All.f
  refine loop_ans l.length (fun k i (_ : Unit) => spec_l1All.l0 k lo hi l l.length (i : Int)) (fun _ _ => True) (fun i _ => (l.drop i).all fun n => inR n lo hi) ?_ ?_ l.length 0 () (by omega) trivial k (by omega)
  · intro s _ k
    simp only [spec_l1All.l0]
    rw [if_neg (by omega)]; simp
  · intro i s hi' _ k ih
    simp only [spec_l1All.l0]
    rw [if_pos (by omega), if_pos (by omega), if_pos (by omega), l1In_val, rd_at hi', wrap_succ hi' hl]
    rw [drop_at hi']
    simp only [Option.bind_some, List.all_cons]
    cases inR l[i] lo hi with
    | true => simp only [if_true, Bool.true_and]; exact ih () trivial
    | false => simp

/-- Are these numbers throws. -/
def thrownB (f : Int) (t : List Int) : Bool := decide ((t.length : Int) ≤ 200) && t.all fun n => inR n 1 f
theorem areThrows_val (s f o : Int) (l : List J) (t : List Int) : impl_Board_areThrows.f s f o l t = some (thrownB f t) := by
  unfold impl_Board_areThrows.f thrownB
  congr 2
  rw [Bool.eq_iff_iff]
  simp
theorem sqSquare_ans {s f o : Int} {l : List J} {a : Int} (hl : l.length ≤ 9223372036854775807) : Ans (fun k => spec_sqSquare.f k s f o l a) (inR a 0 s && decide (jumpFrom l a = a)) := by
  unfold spec_sqSquare.f
  refine Ans.pbind (l1In_val ..) ?_
  cases inR a 0 s with
  | false => exact Ans.iteN (by simp) (Ans.now rfl)
  | true => exact Ans.iteP rfl (Ans.bind (sqJump_ans hl) (Ans.now rfl))
theorem sqThrows_ans {s f o : Int} {l : List J} {t : List Int} (hl : l.length ≤ 9223372036854775807) (ht : t.length ≤ 9223372036854775807) :
    Ans (fun k => spec_sqThrows.f k s f o l 0 t) (goodS s f o l && thrownB f t) := by
  unfold spec_sqThrows.f spec_sqAsked.f
  have hs := sqGood_ans (s := s) (f := f) (o := o) hl
  cases hg : goodS s f o l with
  | false =>
    rw [hg] at hs
    exact Ans.bind (a := false) (Ans.bind hs (Ans.iteN (by simp) (Ans.now rfl))) (Ans.iteN (by simp) (Ans.now rfl))
  | true =>
    have hb := board_of hg
    rw [hg] at hs
    refine Ans.bind (a := true) (Ans.bind hs (Ans.iteP rfl (Ans.bind (sqSquare_ans hl) (Ans.now ?_)))) (Ans.iteP rfl ?_)
    · rw [jumpFrom_none hb.zero, inR_iff.2 ⟨by omega, by have := hb.s1; omega⟩]; rfl
    · unfold thrownB
      rw [Bool.true_and]
      by_cases h : (t.length : Int) ≤ 200
      · rw [decide_eq_true h, Bool.true_and]
        exact Ans.iteP h (Ans.bind (l1All_ans ht) (Ans.now rfl))
      · rw [decide_eq_false h, Bool.false_and]
        exact Ans.iteN h (Ans.now rfl)
theorem thrown_mem {f : Int} {t : List Int} (h : thrownB f t = true) (hf : f ≤ 8) : t.length ≤ 200 ∧ ∀ n ∈ t, 1 ≤ n ∧ n ≤ 8 := by
  unfold thrownB at h
  simp only [Bool.and_eq_true, decide_eq_true_eq, List.all_eq_true, inR_iff] at h
  exact ⟨by omega, fun n hn => by have := h.2 n hn; omega⟩

/-! a token's square -/
def Sq (s : Int) (l : List J) (a : Int) : Prop := (0 ≤ a ∧ a ≤ s) ∧ jumps l a = false
theorem Sq.zero {s f o : Int} {l : List J} (hb : Board s f o l) : Sq s l 0 := ⟨⟨by omega, by have := hb.s1; omega⟩, hb.zero⟩
theorem jumpFrom_free {s f o : Int} {l : List J} (hb : Board s f o l) (a : Int) : jumps l (jumpFrom l a) = false := by
  cases e : jumps l a with
  | false => rw [jumpFrom_none e]; exact e
  | true =>
    obtain ⟨j, hj, _, e2⟩ := jumpFrom_some e
    rw [e2]; exact hb.ne j hj
theorem Sq.thr {s f o : Int} {l : List J} (hb : Board s f o l) {a n : Int} (h : Sq s l a) (hn : 0 ≤ n) : Sq s l (thr s o l a n) := by
  refine ⟨thr_range hb h.1 hn, ?_⟩
  unfold Q.thr
  split
  · exact jumpFrom_free hb _
  · exact h.2

/-! the squares on the way -/
def pathFrom (s o : Int) (l : List J) : Int → List Int → List Int
  | _, [] => []
  | a, n :: t => thr s o l a n :: pathFrom s o l (thr s o l a n) t
theorem pathFrom_length {s o : Int} {l : List J} {a : Int} {t : List Int} : (pathFrom s o l a t).length = t.length := by
  induction t generalizing a with
  | nil => rfl
  | cons n t ih => simp [pathFrom, ih]
theorem path_ans {s f o : Int} {l : List J} (hb : Board s f o l) {a : Int} {t : List Int} (ha : Sq s l a) (ht : t.length ≤ 200) (hm : ∀ n ∈ t, 1 ≤ n ∧ n ≤ 8) :
    Ans (fun k => impl_Board_path.f k s f o l a t) (a :: pathFrom s o l a t) := by
  have hl : l.length ≤ 9223372036854775807 := by have := hb.len; omega
  unfold impl_Board_path.f
  refine loop_Ans t.length (fun k i (y : Int × List Int) => impl_Board_path.l0 k y.1 y.2 t t.length (i : Int) s f o l) (fun i y => Sq s l y.1 ∧ y.2.length = i + 1) (fun i y => y.2 ++ pathFrom s o l y.1 (t.drop i)) ?_ ?_ 0 (a, [a]) (by omega) ⟨ha, rfl⟩
  · rintro ⟨x, p⟩ ⟨hx, hp⟩
    refine Ans.step (fun k => impl_Board_path.l0.eq_2 ..) ?_
    exact Ans.iteN (by omega) (Ans.now (by simp [pathFrom]))
  · rintro i ⟨x, p⟩ hi ⟨hx, hp⟩ ih
    have hn := hm t[i] (List.getElem_mem hi)
    have h1 := hb.s1; have h2 := hb.s2; have h3 := hx.1
    dsimp only at hp h3
    refine Ans.step (fun k => impl_Board_path.l0.eq_2 ..) ?_
    refine Ans.iteP (by omega) (Ans.iteP (by omega) (Ans.iteP (by omega) ?_))
    rw [rd_at hi, drop_at hi, wrap_succ hi (by omega)]
    refine Ans.bind (throw_ans hl ⟨h1, h2⟩ (by omega) (by omega)) ?_
    refine Ans.iteP (by dsimp only; omega) ?_
    have := ih (thr s o l x t[i], p ++ [thr s o l x t[i]]) ⟨hx.thr hb (by omega), by simp [hp]⟩
    simpa [pathFrom] using this
theorem sqPlay_ans {s f o : Int} {l : List J} (hb : Board s f o l) {a : Int} {t : List Int} (ha : Sq s l a) (ht : t.length ≤ 200) (hm : ∀ n ∈ t, 1 ≤ n ∧ n ≤ 8) :
    Ans (fun k => spec_sqPlay.f k s f o l a t) (a :: pathFrom s o l a t) := by
  have hl : l.length ≤ 9223372036854775807 := by have := hb.len; omega
  unfold spec_sqPlay.f
  refine loop_Ans t.length (fun k i (y : Int × List Int) => spec_sqPlay.l0 k y.1 y.2 t t.length (i : Int) s f o l) (fun i y => Sq s l y.1 ∧ y.2.length = i + 1) (fun i y => y.2 ++ pathFrom s o l y.1 (t.drop i)) ?_ ?_ 0 (a, [a]) (by omega) ⟨ha, rfl⟩
  · rintro ⟨x, p⟩ ⟨hx, hp⟩
    refine Ans.step (fun k => spec_sqPlay.l0.eq_2 ..) ?_
    exact Ans.iteN (by omega) (Ans.now (by simp [pathFrom]))
  · rintro i ⟨x, p⟩ hi ⟨hx, hp⟩ ih
    have hn := hm t[i] (List.getElem_mem hi)
    have h1 := hb.s1; have h2 := hb.s2; have h3 := hx.1
    dsimp only at hp h3
    refine Ans.step (fun k => spec_sqPlay.l0.eq_2 ..) ?_
    refine Ans.iteP (by omega) (Ans.iteP (by omega) (Ans.iteP (by omega) ?_))
    rw [rd_at hi, drop_at hi, wrap_succ hi (by omega)]
    refine Ans.bind (sqThrow_ans hb (by omega) (by omega)) ?_
    refine Ans.iteP (by dsimp only; omega) ?_
    have := ih (thr s o l x t[i], p ++ [thr s o l x t[i]]) ⟨hx.thr hb (by omega), by simp [hp]⟩
    simpa [pathFrom] using this

end Go.Proofs.Ytphjhfpeomifiaa.Q
