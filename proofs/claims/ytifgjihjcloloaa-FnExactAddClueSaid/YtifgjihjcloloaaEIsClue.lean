/- IsClue of the program: what the Go text returns. No condition. -/
import Derived.Test.YtifgjihjcloloaaP91
import Derived.Test.YtifgjihjcloloaaP91
namespace Go.Proofs.Ytifgjihjcloloaa.P
open Go.RowKit Go.Proofs.YtifgjihjcloloaaW.PrintWords Go.Proofs.YtifgjihjcloloaaW.PrintLast Go.Proofs.YtifgjihjcloloaaW.PrintMore
set_option linter.unusedVariables false
set_option linter.unusedSimpArgs false

theorem square_calls (s x : Int) (b : Bool) (B : Nat) (W : World) (h : impl_within.f x 0 s = some b) (hc : W.cell? ⟨B, 0, none⟩ = some (.int .i64 s)) :
    Calls Try.prog 73 #[.int .i64 x, .pointer (some ⟨B, 0, none⟩)] W fun e w' => e = .returned (.bool b) ∧ ∃ q, w' = W.drewN q := by
  have HW := Aside0.mk h
  clear h
  go_enter Try.func73, Try.ntmps73
  go_wp2_with (go_at_call 74; refine (impl_within.calls x 0 s b _ HW.out).mono ?_; rintro e w' ⟨rfl, ⟨nd, rfl⟩⟩)
  go_ret
  exact ⟨rfl, nd, rfl⟩

theorem box_cell (w : World) (a : Int) (o : Obj) (q : Nat) : (((w.alloc (.cells #[.int .i64 a] 3 (0, 0))).alloc o).drewN q).cell? ⟨w.heap.size, 0, none⟩ = some (.int .i64 a) :=
  (blk_cell (show (((w.alloc (.cells #[.int .i64 a] 3 (0, 0))).alloc o).drewN q).heap[w.heap.size]? = some (.cells #[.int .i64 a] 3 (0, 0)) by show ((w.heap.push _).push _)[w.heap.size]? = _; simp [Array.getElem?_push]) 0).trans rfl

def impl_IsClue.f (a0 : Int) (a1 : Int) (a2_0 : Int) (a2_1 : Int) (a2_2 : Int) (a2_3 : Int) : Option (Bool) :=
  (impl_areHidden.f a0 a1).bind fun t => if t = true then
    (if a2_0 = 0 then (if a2_1 = 0 then (if a2_2 = 0 then impl_within.f a2_3 0 2 else some false) else some false)
     else if a2_0 = 1 then (impl_within.f a2_1 0 a0).bind fun u => if u = true then ((impl_within.f a2_2 1 a1).bind fun v => if v = true then impl_within.f a2_3 0 a0 else some false) else some false
     else if a2_0 = 2 ∨ a2_0 = 3 then (if a2_1 = 0 then (if a2_2 = 0 then impl_within.f a2_3 0 10 else some false) else some false)
     else if a2_0 = 4 then (impl_within.f a2_1 0 a0).bind fun u => if u = true then (if a2_2 = 0 then impl_within.f a2_3 0 1 else some false) else some false
     else if a2_0 = 5 then (impl_within.f a2_1 0 20).bind fun u => if u = true then ((impl_within.f a2_2 1 a1).bind fun v => if v = true then impl_within.f a2_3 0 a0 else some false) else some false
     else some false) else some false

def IsClueGoal (a0 : Int) (a1 : Int) (a2_0 : Int) (a2_1 : Int) (a2_2 : Int) (a2_3 : Int) (r : Bool) (w : World) : Prop :=
    Calls Try.prog 23 #[.int .i64 a0, .int .i64 a1, .agg #[.int .i64 a2_0, .int .i64 a2_1, .int .i64 a2_2, .int .i64 a2_3]] w fun e w' => e = .returned (.bool r) ∧ Below w.heap.size w w'
set_option maxHeartbeats 16000000 in
set_option maxRecDepth 100000 in
theorem isClue_hid (a0 a1 a2_0 a2_1 a2_2 a2_3 : Int) (w : World) (H0 : impl_areHidden.f a0 a1 = some false) :
    IsClueGoal a0 a1 a2_0 a2_1 a2_2 a2_3 false w := by
  have hu28 := Try.underlying28
  have H0 := Aside0.mk H0
  unfold IsClueGoal
  go_enter Try.func23, Try.ntmps23
  go_wp2_with (first | (go_at_call 70; refine (impl_areHidden.calls _ _ _ _ H0.out).mono ?_; rintro e w' ⟨rfl, ⟨nd, rfl⟩⟩) | (go_at_call 74; (first | fail); rintro e w' ⟨rfl, ⟨nd, rfl⟩⟩) | (go_at_call 73; (first | fail); rintro e w' ⟨rfl, ⟨nd, rfl⟩⟩))
  go_ret
  exact ⟨by first | rfl | simp, by repeat (first | (with_reducible exact Below.refl _ _) | apply below_alloc | apply pw_below_drewN)⟩

set_option maxHeartbeats 16000000 in
set_option maxRecDepth 100000 in
theorem isClue_k0z (a0 a1 a2_3 : Int) (r : Bool) (w : World) (H0 : impl_areHidden.f a0 a1 = some true) (h : (if 0 = 0 then (if 0 = 0 then impl_within.f a2_3 0 2 else some false) else some false) = some r) :
    IsClueGoal a0 a1 0 0 0 a2_3 r w := by
  have hu28 := Try.underlying28
  have H0 := Aside0.mk H0
  unfold IsClueGoal
  rw [if_pos rfl, if_pos rfl] at h
  have HA := Aside0.mk h
  clear h
  go_enter Try.func23, Try.ntmps23
  go_wp2_with (first | (go_at_call 70; refine (impl_areHidden.calls _ _ _ _ H0.out).mono ?_; rintro e w' ⟨rfl, ⟨nd, rfl⟩⟩) | (go_at_call 74; (first | (with_reducible refine (impl_within.calls _ _ _ _ _ HA.out).mono ?_)); rintro e w' ⟨rfl, ⟨nd, rfl⟩⟩) | (go_at_call 73; (first | ((with_reducible refine (square_calls a0 _ _ w.heap.size _ HA.out ?hx).mono ?_); (case hx => with_reducible exact box_cell w a0 _ _))); rintro e w' ⟨rfl, ⟨nd, rfl⟩⟩))
  go_ret
  exact ⟨by first | rfl | simp, by repeat (first | (with_reducible exact Below.refl _ _) | apply below_alloc | apply pw_below_drewN)⟩

set_option maxHeartbeats 16000000 in
set_option maxRecDepth 100000 in
theorem isClue_k0m (a0 a1 a2_2 a2_3 : Int) (r : Bool) (w : World) (H0 : impl_areHidden.f a0 a1 = some true) (h : (if 0 = 0 then (if a2_2 = 0 then impl_within.f a2_3 0 2 else some false) else some false) = some r) (hb : ¬ a2_2 = 0) :
    IsClueGoal a0 a1 0 0 a2_2 a2_3 r w := by
  have hu28 := Try.underlying28
  have H0 := Aside0.mk H0
  unfold IsClueGoal
  have hb' := hb
  have hbb0 := eq_false hb
  have hbb1 : decide (a2_2 = 0) = false := decide_eq_false hb
  have hbb2 : (a2_2 == 0) = false := by simpa using hb
  clear hb
  rw [if_pos rfl, if_neg hb'] at h
  clear hb'
  obtain rfl := Option.some.inj h
  go_enter Try.func23, Try.ntmps23
  go_wp2_with (first | (go_at_call 70; refine (impl_areHidden.calls _ _ _ _ H0.out).mono ?_; rintro e w' ⟨rfl, ⟨nd, rfl⟩⟩) | (go_at_call 74; (first | fail); rintro e w' ⟨rfl, ⟨nd, rfl⟩⟩) | (go_at_call 73; (first | fail); rintro e w' ⟨rfl, ⟨nd, rfl⟩⟩))
  go_ret
  exact ⟨by first | rfl | simp, by repeat (first | (with_reducible exact Below.refl _ _) | apply below_alloc | apply pw_below_drewN)⟩

set_option maxHeartbeats 16000000 in
set_option maxRecDepth 100000 in
theorem isClue_k0n (a0 a1 a2_1 a2_2 a2_3 : Int) (r : Bool) (w : World) (H0 : impl_areHidden.f a0 a1 = some true) (h : (if a2_1 = 0 then (if a2_2 = 0 then impl_within.f a2_3 0 2 else some false) else some false) = some r) (ha : ¬ a2_1 = 0) :
    IsClueGoal a0 a1 0 a2_1 a2_2 a2_3 r w := by
  have hu28 := Try.underlying28
  have H0 := Aside0.mk H0
  unfold IsClueGoal
  have ha' := ha
  have hab0 := eq_false ha
  have hab1 : decide (a2_1 = 0) = false := decide_eq_false ha
  have hab2 : (a2_1 == 0) = false := by simpa using ha
  clear ha
  rw [if_neg ha'] at h
  clear ha'
  obtain rfl := Option.some.inj h
  go_enter Try.func23, Try.ntmps23
  go_wp2_with (first | (go_at_call 70; refine (impl_areHidden.calls _ _ _ _ H0.out).mono ?_; rintro e w' ⟨rfl, ⟨nd, rfl⟩⟩) | (go_at_call 74; (first | fail); rintro e w' ⟨rfl, ⟨nd, rfl⟩⟩) | (go_at_call 73; (first | fail); rintro e w' ⟨rfl, ⟨nd, rfl⟩⟩))
  go_ret
  exact ⟨by first | rfl | simp, by repeat (first | (with_reducible exact Below.refl _ _) | apply below_alloc | apply pw_below_drewN)⟩

theorem isClue_k0 (a0 a1 a2_1 a2_2 a2_3 : Int) (r : Bool) (w : World) (H0 : impl_areHidden.f a0 a1 = some true) (h : (if a2_1 = 0 then (if a2_2 = 0 then impl_within.f a2_3 0 2 else some false) else some false) = some r) :
    IsClueGoal a0 a1 0 a2_1 a2_2 a2_3 r w := by
  by_cases ha : a2_1 = 0
  · subst ha
    by_cases hb : a2_2 = 0
    · subst hb; exact isClue_k0z a0 a1 a2_3 r w H0 h
    · exact isClue_k0m a0 a1 a2_2 a2_3 r w H0 h hb
  · exact isClue_k0n a0 a1 a2_1 a2_2 a2_3 r w H0 h ha

set_option maxHeartbeats 16000000 in
set_option maxRecDepth 100000 in
theorem isClue_k2z (a0 a1 a2_3 : Int) (r : Bool) (w : World) (H0 : impl_areHidden.f a0 a1 = some true) (h : (if 0 = 0 then (if 0 = 0 then impl_within.f a2_3 0 10 else some false) else some false) = some r) :
    IsClueGoal a0 a1 2 0 0 a2_3 r w := by
  have hu28 := Try.underlying28
  have H0 := Aside0.mk H0
  unfold IsClueGoal
  rw [if_pos rfl, if_pos rfl] at h
  have HA := Aside0.mk h
  clear h
  go_enter Try.func23, Try.ntmps23
  go_wp2_with (first | (go_at_call 70; refine (impl_areHidden.calls _ _ _ _ H0.out).mono ?_; rintro e w' ⟨rfl, ⟨nd, rfl⟩⟩) | (go_at_call 74; (first | (with_reducible refine (impl_within.calls _ _ _ _ _ HA.out).mono ?_)); rintro e w' ⟨rfl, ⟨nd, rfl⟩⟩) | (go_at_call 73; (first | ((with_reducible refine (square_calls a0 _ _ w.heap.size _ HA.out ?hx).mono ?_); (case hx => with_reducible exact box_cell w a0 _ _))); rintro e w' ⟨rfl, ⟨nd, rfl⟩⟩))
  go_ret
  exact ⟨by first | rfl | simp, by repeat (first | (with_reducible exact Below.refl _ _) | apply below_alloc | apply pw_below_drewN)⟩

set_option maxHeartbeats 16000000 in
set_option maxRecDepth 100000 in
theorem isClue_k2m (a0 a1 a2_2 a2_3 : Int) (r : Bool) (w : World) (H0 : impl_areHidden.f a0 a1 = some true) (h : (if 0 = 0 then (if a2_2 = 0 then impl_within.f a2_3 0 10 else some false) else some false) = some r) (hb : ¬ a2_2 = 0) :
    IsClueGoal a0 a1 2 0 a2_2 a2_3 r w := by
  have hu28 := Try.underlying28
  have H0 := Aside0.mk H0
  unfold IsClueGoal
  have hb' := hb
  have hbb0 := eq_false hb
  have hbb1 : decide (a2_2 = 0) = false := decide_eq_false hb
  have hbb2 : (a2_2 == 0) = false := by simpa using hb
  clear hb
  rw [if_pos rfl, if_neg hb'] at h
  clear hb'
  obtain rfl := Option.some.inj h
  go_enter Try.func23, Try.ntmps23
  go_wp2_with (first | (go_at_call 70; refine (impl_areHidden.calls _ _ _ _ H0.out).mono ?_; rintro e w' ⟨rfl, ⟨nd, rfl⟩⟩) | (go_at_call 74; (first | fail); rintro e w' ⟨rfl, ⟨nd, rfl⟩⟩) | (go_at_call 73; (first | fail); rintro e w' ⟨rfl, ⟨nd, rfl⟩⟩))
  go_ret
  exact ⟨by first | rfl | simp, by repeat (first | (with_reducible exact Below.refl _ _) | apply below_alloc | apply pw_below_drewN)⟩

set_option maxHeartbeats 16000000 in
set_option maxRecDepth 100000 in
theorem isClue_k2n (a0 a1 a2_1 a2_2 a2_3 : Int) (r : Bool) (w : World) (H0 : impl_areHidden.f a0 a1 = some true) (h : (if a2_1 = 0 then (if a2_2 = 0 then impl_within.f a2_3 0 10 else some false) else some false) = some r) (ha : ¬ a2_1 = 0) :
    IsClueGoal a0 a1 2 a2_1 a2_2 a2_3 r w := by
  have hu28 := Try.underlying28
  have H0 := Aside0.mk H0
  unfold IsClueGoal
  have ha' := ha
  have hab0 := eq_false ha
  have hab1 : decide (a2_1 = 0) = false := decide_eq_false ha
  have hab2 : (a2_1 == 0) = false := by simpa using ha
  clear ha
  rw [if_neg ha'] at h
  clear ha'
  obtain rfl := Option.some.inj h
  go_enter Try.func23, Try.ntmps23
  go_wp2_with (first | (go_at_call 70; refine (impl_areHidden.calls _ _ _ _ H0.out).mono ?_; rintro e w' ⟨rfl, ⟨nd, rfl⟩⟩) | (go_at_call 74; (first | fail); rintro e w' ⟨rfl, ⟨nd, rfl⟩⟩) | (go_at_call 73; (first | fail); rintro e w' ⟨rfl, ⟨nd, rfl⟩⟩))
  go_ret
  exact ⟨by first | rfl | simp, by repeat (first | (with_reducible exact Below.refl _ _) | apply below_alloc | apply pw_below_drewN)⟩

theorem isClue_k2 (a0 a1 a2_1 a2_2 a2_3 : Int) (r : Bool) (w : World) (H0 : impl_areHidden.f a0 a1 = some true) (h : (if a2_1 = 0 then (if a2_2 = 0 then impl_within.f a2_3 0 10 else some false) else some false) = some r) :
    IsClueGoal a0 a1 2 a2_1 a2_2 a2_3 r w := by
  by_cases ha : a2_1 = 0
  · subst ha
    by_cases hb : a2_2 = 0
    · subst hb; exact isClue_k2z a0 a1 a2_3 r w H0 h
    · exact isClue_k2m a0 a1 a2_2 a2_3 r w H0 h hb
  · exact isClue_k2n a0 a1 a2_1 a2_2 a2_3 r w H0 h ha

set_option maxHeartbeats 16000000 in
set_option maxRecDepth 100000 in
theorem isClue_k3z (a0 a1 a2_3 : Int) (r : Bool) (w : World) (H0 : impl_areHidden.f a0 a1 = some true) (h : (if 0 = 0 then (if 0 = 0 then impl_within.f a2_3 0 10 else some false) else some false) = some r) :
    IsClueGoal a0 a1 3 0 0 a2_3 r w := by
  have hu28 := Try.underlying28
  have H0 := Aside0.mk H0
  unfold IsClueGoal
  rw [if_pos rfl, if_pos rfl] at h
  have HA := Aside0.mk h
  clear h
  go_enter Try.func23, Try.ntmps23
  go_wp2_with (first | (go_at_call 70; refine (impl_areHidden.calls _ _ _ _ H0.out).mono ?_; rintro e w' ⟨rfl, ⟨nd, rfl⟩⟩) | (go_at_call 74; (first | (with_reducible refine (impl_within.calls _ _ _ _ _ HA.out).mono ?_)); rintro e w' ⟨rfl, ⟨nd, rfl⟩⟩) | (go_at_call 73; (first | ((with_reducible refine (square_calls a0 _ _ w.heap.size _ HA.out ?hx).mono ?_); (case hx => with_reducible exact box_cell w a0 _ _))); rintro e w' ⟨rfl, ⟨nd, rfl⟩⟩))
  go_ret
  exact ⟨by first | rfl | simp, by repeat (first | (with_reducible exact Below.refl _ _) | apply below_alloc | apply pw_below_drewN)⟩

set_option maxHeartbeats 16000000 in
set_option maxRecDepth 100000 in
theorem isClue_k3m (a0 a1 a2_2 a2_3 : Int) (r : Bool) (w : World) (H0 : impl_areHidden.f a0 a1 = some true) (h : (if 0 = 0 then (if a2_2 = 0 then impl_within.f a2_3 0 10 else some false) else some false) = some r) (hb : ¬ a2_2 = 0) :
    IsClueGoal a0 a1 3 0 a2_2 a2_3 r w := by
  have hu28 := Try.underlying28
  have H0 := Aside0.mk H0
  unfold IsClueGoal
  have hb' := hb
  have hbb0 := eq_false hb
  have hbb1 : decide (a2_2 = 0) = false := decide_eq_false hb
  have hbb2 : (a2_2 == 0) = false := by simpa using hb
  clear hb
  rw [if_pos rfl, if_neg hb'] at h
  clear hb'
  obtain rfl := Option.some.inj h
  go_enter Try.func23, Try.ntmps23
  go_wp2_with (first | (go_at_call 70; refine (impl_areHidden.calls _ _ _ _ H0.out).mono ?_; rintro e w' ⟨rfl, ⟨nd, rfl⟩⟩) | (go_at_call 74; (first | fail); rintro e w' ⟨rfl, ⟨nd, rfl⟩⟩) | (go_at_call 73; (first | fail); rintro e w' ⟨rfl, ⟨nd, rfl⟩⟩))
  go_ret
  exact ⟨by first | rfl | simp, by repeat (first | (with_reducible exact Below.refl _ _) | apply below_alloc | apply pw_below_drewN)⟩

set_option maxHeartbeats 16000000 in
set_option maxRecDepth 100000 in
theorem isClue_k3n (a0 a1 a2_1 a2_2 a2_3 : Int) (r : Bool) (w : World) (H0 : impl_areHidden.f a0 a1 = some true) (h : (if a2_1 = 0 then (if a2_2 = 0 then impl_within.f a2_3 0 10 else some false) else some false) = some r) (ha : ¬ a2_1 = 0) :
    IsClueGoal a0 a1 3 a2_1 a2_2 a2_3 r w := by
  have hu28 := Try.underlying28
  have H0 := Aside0.mk H0
  unfold IsClueGoal
  have ha' := ha
  have hab0 := eq_false ha
  have hab1 : decide (a2_1 = 0) = false := decide_eq_false ha
  have hab2 : (a2_1 == 0) = false := by simpa using ha
  clear ha
  rw [if_neg ha'] at h
  clear ha'
  obtain rfl := Option.some.inj h
  go_enter Try.func23, Try.ntmps23
  go_wp2_with (first | (go_at_call 70; refine (impl_areHidden.calls _ _ _ _ H0.out).mono ?_; rintro e w' ⟨rfl, ⟨nd, rfl⟩⟩) | (go_at_call 74; (first | fail); rintro e w' ⟨rfl, ⟨nd, rfl⟩⟩) | (go_at_call 73; (first | fail); rintro e w' ⟨rfl, ⟨nd, rfl⟩⟩))
  go_ret
  exact ⟨by first | rfl | simp, by repeat (first | (with_reducible exact Below.refl _ _) | apply below_alloc | apply pw_below_drewN)⟩

theorem isClue_k3 (a0 a1 a2_1 a2_2 a2_3 : Int) (r : Bool) (w : World) (H0 : impl_areHidden.f a0 a1 = some true) (h : (if a2_1 = 0 then (if a2_2 = 0 then impl_within.f a2_3 0 10 else some false) else some false) = some r) :
    IsClueGoal a0 a1 3 a2_1 a2_2 a2_3 r w := by
  by_cases ha : a2_1 = 0
  · subst ha
    by_cases hb : a2_2 = 0
    · subst hb; exact isClue_k3z a0 a1 a2_3 r w H0 h
    · exact isClue_k3m a0 a1 a2_2 a2_3 r w H0 h hb
  · exact isClue_k3n a0 a1 a2_1 a2_2 a2_3 r w H0 h ha

set_option maxHeartbeats 16000000 in
set_option maxRecDepth 100000 in
theorem isClue_k1z (a0 a1 a2_3 : Int) (r : Bool) (w : World) (H0 : impl_areHidden.f a0 a1 = some true) (h : ((impl_within.f 0 0 a0).bind fun u => if u = true then ((impl_within.f 0 1 a1).bind fun v => if v = true then impl_within.f a2_3 0 a0 else some false) else some false) = some r) :
    IsClueGoal a0 a1 1 0 0 a2_3 r w := by
  have hu28 := Try.underlying28
  have H0 := Aside0.mk H0
  unfold IsClueGoal
  obtain ⟨u, hu, h⟩ := Option.bind_eq_some_iff.1 h
  have HA := Aside0.mk hu
  clear hu
  cases u with
  | false =>
    rw [if_neg (by simp)] at h
    obtain rfl := Option.some.inj h
    go_enter Try.func23, Try.ntmps23
    go_wp2_with (first | (go_at_call 70; refine (impl_areHidden.calls _ _ _ _ H0.out).mono ?_; rintro e w' ⟨rfl, ⟨nd, rfl⟩⟩) | (go_at_call 74; (first | (with_reducible refine (impl_within.calls _ _ _ _ _ HA.out).mono ?_)); rintro e w' ⟨rfl, ⟨nd, rfl⟩⟩) | (go_at_call 73; (first | ((with_reducible refine (square_calls a0 _ _ w.heap.size _ HA.out ?hx).mono ?_); (case hx => with_reducible exact box_cell w a0 _ _))); rintro e w' ⟨rfl, ⟨nd, rfl⟩⟩))
    go_ret
    exact ⟨by first | rfl | simp, by repeat (first | (with_reducible exact Below.refl _ _) | apply below_alloc | apply pw_below_drewN)⟩
  | true =>
    rw [if_pos rfl] at h
    obtain ⟨v, hv, h⟩ := Option.bind_eq_some_iff.1 h
    have HV := Aside0.mk hv
    clear hv
    cases v with
    | false =>
      rw [if_neg (by simp)] at h
      obtain rfl := Option.some.inj h
      go_enter Try.func23, Try.ntmps23
      go_wp2_with (first | (go_at_call 70; refine (impl_areHidden.calls _ _ _ _ H0.out).mono ?_; rintro e w' ⟨rfl, ⟨nd, rfl⟩⟩) | (go_at_call 74; (first | (with_reducible refine (impl_within.calls _ _ _ _ _ HA.out).mono ?_) | (with_reducible refine (impl_within.calls _ _ _ _ _ HV.out).mono ?_)); rintro e w' ⟨rfl, ⟨nd, rfl⟩⟩) | (go_at_call 73; (first | ((with_reducible refine (square_calls a0 _ _ w.heap.size _ HA.out ?hx).mono ?_); (case hx => with_reducible exact box_cell w a0 _ _)) | ((with_reducible refine (square_calls a0 _ _ w.heap.size _ HV.out ?hx).mono ?_); (case hx => with_reducible exact box_cell w a0 _ _))); rintro e w' ⟨rfl, ⟨nd, rfl⟩⟩))
      go_ret
      exact ⟨by first | rfl | simp, by repeat (first | (with_reducible exact Below.refl _ _) | apply below_alloc | apply pw_below_drewN)⟩
    | true =>
      rw [if_pos rfl] at h
      have HC := Aside0.mk h
      clear h
      go_enter Try.func23, Try.ntmps23
      go_wp2_with (first | (go_at_call 70; refine (impl_areHidden.calls _ _ _ _ H0.out).mono ?_; rintro e w' ⟨rfl, ⟨nd, rfl⟩⟩) | (go_at_call 74; (first | (with_reducible refine (impl_within.calls _ _ _ _ _ HA.out).mono ?_) | (with_reducible refine (impl_within.calls _ _ _ _ _ HV.out).mono ?_) | (with_reducible refine (impl_within.calls _ _ _ _ _ HC.out).mono ?_)); rintro e w' ⟨rfl, ⟨nd, rfl⟩⟩) | (go_at_call 73; (first | ((with_reducible refine (square_calls a0 _ _ w.heap.size _ HA.out ?hx).mono ?_); (case hx => with_reducible exact box_cell w a0 _ _)) | ((with_reducible refine (square_calls a0 _ _ w.heap.size _ HV.out ?hx).mono ?_); (case hx => with_reducible exact box_cell w a0 _ _)) | ((with_reducible refine (square_calls a0 _ _ w.heap.size _ HC.out ?hx).mono ?_); (case hx => with_reducible exact box_cell w a0 _ _))); rintro e w' ⟨rfl, ⟨nd, rfl⟩⟩))
      go_ret
      exact ⟨by first | rfl | simp, by repeat (first | (with_reducible exact Below.refl _ _) | apply below_alloc | apply pw_below_drewN)⟩

set_option maxHeartbeats 16000000 in
set_option maxRecDepth 100000 in
theorem isClue_k1m (a0 a1 a2_2 a2_3 : Int) (r : Bool) (w : World) (H0 : impl_areHidden.f a0 a1 = some true) (h : ((impl_within.f 0 0 a0).bind fun u => if u = true then ((impl_within.f a2_2 1 a1).bind fun v => if v = true then impl_within.f a2_3 0 a0 else some false) else some false) = some r) (hb : ¬ a2_2 = 0) :
    IsClueGoal a0 a1 1 0 a2_2 a2_3 r w := by
  have hu28 := Try.underlying28
  have H0 := Aside0.mk H0
  unfold IsClueGoal
  have hb' := hb
  have hbb0 := eq_false hb
  have hbb1 : decide (a2_2 = 0) = false := decide_eq_false hb
  have hbb2 : (a2_2 == 0) = false := by simpa using hb
  clear hb
  clear hb'
  obtain ⟨u, hu, h⟩ := Option.bind_eq_some_iff.1 h
  have HA := Aside0.mk hu
  clear hu
  cases u with
  | false =>
    rw [if_neg (by simp)] at h
    obtain rfl := Option.some.inj h
    go_enter Try.func23, Try.ntmps23
    go_wp2_with (first | (go_at_call 70; refine (impl_areHidden.calls _ _ _ _ H0.out).mono ?_; rintro e w' ⟨rfl, ⟨nd, rfl⟩⟩) | (go_at_call 74; (first | (with_reducible refine (impl_within.calls _ _ _ _ _ HA.out).mono ?_)); rintro e w' ⟨rfl, ⟨nd, rfl⟩⟩) | (go_at_call 73; (first | ((with_reducible refine (square_calls a0 _ _ w.heap.size _ HA.out ?hx).mono ?_); (case hx => with_reducible exact box_cell w a0 _ _))); rintro e w' ⟨rfl, ⟨nd, rfl⟩⟩))
    go_ret
    exact ⟨by first | rfl | simp, by repeat (first | (with_reducible exact Below.refl _ _) | apply below_alloc | apply pw_below_drewN)⟩
  | true =>
    rw [if_pos rfl] at h
    obtain ⟨v, hv, h⟩ := Option.bind_eq_some_iff.1 h
    have HV := Aside0.mk hv
    clear hv
    cases v with
    | false =>
      rw [if_neg (by simp)] at h
      obtain rfl := Option.some.inj h
      go_enter Try.func23, Try.ntmps23
      go_wp2_with (first | (go_at_call 70; refine (impl_areHidden.calls _ _ _ _ H0.out).mono ?_; rintro e w' ⟨rfl, ⟨nd, rfl⟩⟩) | (go_at_call 74; (first | (with_reducible refine (impl_within.calls _ _ _ _ _ HA.out).mono ?_) | (with_reducible refine (impl_within.calls _ _ _ _ _ HV.out).mono ?_)); rintro e w' ⟨rfl, ⟨nd, rfl⟩⟩) | (go_at_call 73; (first | ((with_reducible refine (square_calls a0 _ _ w.heap.size _ HA.out ?hx).mono ?_); (case hx => with_reducible exact box_cell w a0 _ _)) | ((with_reducible refine (square_calls a0 _ _ w.heap.size _ HV.out ?hx).mono ?_); (case hx => with_reducible exact box_cell w a0 _ _))); rintro e w' ⟨rfl, ⟨nd, rfl⟩⟩))
      go_ret
      exact ⟨by first | rfl | simp, by repeat (first | (with_reducible exact Below.refl _ _) | apply below_alloc | apply pw_below_drewN)⟩
    | true =>
      rw [if_pos rfl] at h
      have HC := Aside0.mk h
      clear h
      go_enter Try.func23, Try.ntmps23
      go_wp2_with (first | (go_at_call 70; refine (impl_areHidden.calls _ _ _ _ H0.out).mono ?_; rintro e w' ⟨rfl, ⟨nd, rfl⟩⟩) | (go_at_call 74; (first | (with_reducible refine (impl_within.calls _ _ _ _ _ HA.out).mono ?_) | (with_reducible refine (impl_within.calls _ _ _ _ _ HV.out).mono ?_) | (with_reducible refine (impl_within.calls _ _ _ _ _ HC.out).mono ?_)); rintro e w' ⟨rfl, ⟨nd, rfl⟩⟩) | (go_at_call 73; (first | ((with_reducible refine (square_calls a0 _ _ w.heap.size _ HA.out ?hx).mono ?_); (case hx => with_reducible exact box_cell w a0 _ _)) | ((with_reducible refine (square_calls a0 _ _ w.heap.size _ HV.out ?hx).mono ?_); (case hx => with_reducible exact box_cell w a0 _ _)) | ((with_reducible refine (square_calls a0 _ _ w.heap.size _ HC.out ?hx).mono ?_); (case hx => with_reducible exact box_cell w a0 _ _))); rintro e w' ⟨rfl, ⟨nd, rfl⟩⟩))
      go_ret
      exact ⟨by first | rfl | simp, by repeat (first | (with_reducible exact Below.refl _ _) | apply below_alloc | apply pw_below_drewN)⟩

set_option maxHeartbeats 16000000 in
set_option maxRecDepth 100000 in
theorem isClue_k1n (a0 a1 a2_1 a2_2 a2_3 : Int) (r : Bool) (w : World) (H0 : impl_areHidden.f a0 a1 = some true) (h : ((impl_within.f a2_1 0 a0).bind fun u => if u = true then ((impl_within.f a2_2 1 a1).bind fun v => if v = true then impl_within.f a2_3 0 a0 else some false) else some false) = some r) (ha : ¬ a2_1 = 0) :
    IsClueGoal a0 a1 1 a2_1 a2_2 a2_3 r w := by
  have hu28 := Try.underlying28
  have H0 := Aside0.mk H0
  unfold IsClueGoal
  have ha' := ha
  have hab0 := eq_false ha
  have hab1 : decide (a2_1 = 0) = false := decide_eq_false ha
  have hab2 : (a2_1 == 0) = false := by simpa using ha
  clear ha
  clear ha'
  obtain ⟨u, hu, h⟩ := Option.bind_eq_some_iff.1 h
  have HA := Aside0.mk hu
  clear hu
  cases u with
  | false =>
    rw [if_neg (by simp)] at h
    obtain rfl := Option.some.inj h
    go_enter Try.func23, Try.ntmps23
    go_wp2_with (first | (go_at_call 70; refine (impl_areHidden.calls _ _ _ _ H0.out).mono ?_; rintro e w' ⟨rfl, ⟨nd, rfl⟩⟩) | (go_at_call 74; (first | (with_reducible refine (impl_within.calls _ _ _ _ _ HA.out).mono ?_)); rintro e w' ⟨rfl, ⟨nd, rfl⟩⟩) | (go_at_call 73; (first | ((with_reducible refine (square_calls a0 _ _ w.heap.size _ HA.out ?hx).mono ?_); (case hx => with_reducible exact box_cell w a0 _ _))); rintro e w' ⟨rfl, ⟨nd, rfl⟩⟩))
    go_ret
    exact ⟨by first | rfl | simp, by repeat (first | (with_reducible exact Below.refl _ _) | apply below_alloc | apply pw_below_drewN)⟩
  | true =>
    rw [if_pos rfl] at h
    obtain ⟨v, hv, h⟩ := Option.bind_eq_some_iff.1 h
    have HV := Aside0.mk hv
    clear hv
    cases v with
    | false =>
      rw [if_neg (by simp)] at h
      obtain rfl := Option.some.inj h
      go_enter Try.func23, Try.ntmps23
      go_wp2_with (first | (go_at_call 70; refine (impl_areHidden.calls _ _ _ _ H0.out).mono ?_; rintro e w' ⟨rfl, ⟨nd, rfl⟩⟩) | (go_at_call 74; (first | (with_reducible refine (impl_within.calls _ _ _ _ _ HA.out).mono ?_) | (with_reducible refine (impl_within.calls _ _ _ _ _ HV.out).mono ?_)); rintro e w' ⟨rfl, ⟨nd, rfl⟩⟩) | (go_at_call 73; (first | ((with_reducible refine (square_calls a0 _ _ w.heap.size _ HA.out ?hx).mono ?_); (case hx => with_reducible exact box_cell w a0 _ _)) | ((with_reducible refine (square_calls a0 _ _ w.heap.size _ HV.out ?hx).mono ?_); (case hx => with_reducible exact box_cell w a0 _ _))); rintro e w' ⟨rfl, ⟨nd, rfl⟩⟩))
      go_ret
      exact ⟨by first | rfl | simp, by repeat (first | (with_reducible exact Below.refl _ _) | apply below_alloc | apply pw_below_drewN)⟩
    | true =>
      rw [if_pos rfl] at h
      have HC := Aside0.mk h
      clear h
      go_enter Try.func23, Try.ntmps23
      go_wp2_with (first | (go_at_call 70; refine (impl_areHidden.calls _ _ _ _ H0.out).mono ?_; rintro e w' ⟨rfl, ⟨nd, rfl⟩⟩) | (go_at_call 74; (first | (with_reducible refine (impl_within.calls _ _ _ _ _ HA.out).mono ?_) | (with_reducible refine (impl_within.calls _ _ _ _ _ HV.out).mono ?_) | (with_reducible refine (impl_within.calls _ _ _ _ _ HC.out).mono ?_)); rintro e w' ⟨rfl, ⟨nd, rfl⟩⟩) | (go_at_call 73; (first | ((with_reducible refine (square_calls a0 _ _ w.heap.size _ HA.out ?hx).mono ?_); (case hx => with_reducible exact box_cell w a0 _ _)) | ((with_reducible refine (square_calls a0 _ _ w.heap.size _ HV.out ?hx).mono ?_); (case hx => with_reducible exact box_cell w a0 _ _)) | ((with_reducible refine (square_calls a0 _ _ w.heap.size _ HC.out ?hx).mono ?_); (case hx => with_reducible exact box_cell w a0 _ _))); rintro e w' ⟨rfl, ⟨nd, rfl⟩⟩))
      go_ret
      exact ⟨by first | rfl | simp, by repeat (first | (with_reducible exact Below.refl _ _) | apply below_alloc | apply pw_below_drewN)⟩

theorem isClue_k1 (a0 a1 a2_1 a2_2 a2_3 : Int) (r : Bool) (w : World) (H0 : impl_areHidden.f a0 a1 = some true) (h : ((impl_within.f a2_1 0 a0).bind fun u => if u = true then ((impl_within.f a2_2 1 a1).bind fun v => if v = true then impl_within.f a2_3 0 a0 else some false) else some false) = some r) :
    IsClueGoal a0 a1 1 a2_1 a2_2 a2_3 r w := by
  by_cases ha : a2_1 = 0
  · subst ha
    by_cases hb : a2_2 = 0
    · subst hb; exact isClue_k1z a0 a1 a2_3 r w H0 h
    · exact isClue_k1m a0 a1 a2_2 a2_3 r w H0 h hb
  · exact isClue_k1n a0 a1 a2_1 a2_2 a2_3 r w H0 h ha

set_option maxHeartbeats 16000000 in
set_option maxRecDepth 100000 in
theorem isClue_k5z (a0 a1 a2_3 : Int) (r : Bool) (w : World) (H0 : impl_areHidden.f a0 a1 = some true) (h : ((impl_within.f 0 0 20).bind fun u => if u = true then ((impl_within.f 0 1 a1).bind fun v => if v = true then impl_within.f a2_3 0 a0 else some false) else some false) = some r) :
    IsClueGoal a0 a1 5 0 0 a2_3 r w := by
  have hu28 := Try.underlying28
  have H0 := Aside0.mk H0
  unfold IsClueGoal
  obtain ⟨u, hu, h⟩ := Option.bind_eq_some_iff.1 h
  have HA := Aside0.mk hu
  clear hu
  cases u with
  | false =>
    rw [if_neg (by simp)] at h
    obtain rfl := Option.some.inj h
    go_enter Try.func23, Try.ntmps23
    go_wp2_with (first | (go_at_call 70; refine (impl_areHidden.calls _ _ _ _ H0.out).mono ?_; rintro e w' ⟨rfl, ⟨nd, rfl⟩⟩) | (go_at_call 74; (first | (with_reducible refine (impl_within.calls _ _ _ _ _ HA.out).mono ?_)); rintro e w' ⟨rfl, ⟨nd, rfl⟩⟩) | (go_at_call 73; (first | ((with_reducible refine (square_calls a0 _ _ w.heap.size _ HA.out ?hx).mono ?_); (case hx => with_reducible exact box_cell w a0 _ _))); rintro e w' ⟨rfl, ⟨nd, rfl⟩⟩))
    go_ret
    exact ⟨by first | rfl | simp, by repeat (first | (with_reducible exact Below.refl _ _) | apply below_alloc | apply pw_below_drewN)⟩
  | true =>
    rw [if_pos rfl] at h
    obtain ⟨v, hv, h⟩ := Option.bind_eq_some_iff.1 h
    have HV := Aside0.mk hv
    clear hv
    cases v with
    | false =>
      rw [if_neg (by simp)] at h
      obtain rfl := Option.some.inj h
      go_enter Try.func23, Try.ntmps23
      go_wp2_with (first | (go_at_call 70; refine (impl_areHidden.calls _ _ _ _ H0.out).mono ?_; rintro e w' ⟨rfl, ⟨nd, rfl⟩⟩) | (go_at_call 74; (first | (with_reducible refine (impl_within.calls _ _ _ _ _ HA.out).mono ?_) | (with_reducible refine (impl_within.calls _ _ _ _ _ HV.out).mono ?_)); rintro e w' ⟨rfl, ⟨nd, rfl⟩⟩) | (go_at_call 73; (first | ((with_reducible refine (square_calls a0 _ _ w.heap.size _ HA.out ?hx).mono ?_); (case hx => with_reducible exact box_cell w a0 _ _)) | ((with_reducible refine (square_calls a0 _ _ w.heap.size _ HV.out ?hx).mono ?_); (case hx => with_reducible exact box_cell w a0 _ _))); rintro e w' ⟨rfl, ⟨nd, rfl⟩⟩))
      go_ret
      exact ⟨by first | rfl | simp, by repeat (first | (with_reducible exact Below.refl _ _) | apply below_alloc | apply pw_below_drewN)⟩
    | true =>
      rw [if_pos rfl] at h
      have HC := Aside0.mk h
      clear h
      go_enter Try.func23, Try.ntmps23
      go_wp2_with (first | (go_at_call 70; refine (impl_areHidden.calls _ _ _ _ H0.out).mono ?_; rintro e w' ⟨rfl, ⟨nd, rfl⟩⟩) | (go_at_call 74; (first | (with_reducible refine (impl_within.calls _ _ _ _ _ HA.out).mono ?_) | (with_reducible refine (impl_within.calls _ _ _ _ _ HV.out).mono ?_) | (with_reducible refine (impl_within.calls _ _ _ _ _ HC.out).mono ?_)); rintro e w' ⟨rfl, ⟨nd, rfl⟩⟩) | (go_at_call 73; (first | ((with_reducible refine (square_calls a0 _ _ w.heap.size _ HA.out ?hx).mono ?_); (case hx => with_reducible exact box_cell w a0 _ _)) | ((with_reducible refine (square_calls a0 _ _ w.heap.size _ HV.out ?hx).mono ?_); (case hx => with_reducible exact box_cell w a0 _ _)) | ((with_reducible refine (square_calls a0 _ _ w.heap.size _ HC.out ?hx).mono ?_); (case hx => with_reducible exact box_cell w a0 _ _))); rintro e w' ⟨rfl, ⟨nd, rfl⟩⟩))
      go_ret
      exact ⟨by first | rfl | simp, by repeat (first | (with_reducible exact Below.refl _ _) | apply below_alloc | apply pw_below_drewN)⟩

set_option maxHeartbeats 16000000 in
set_option maxRecDepth 100000 in
theorem isClue_k5m (a0 a1 a2_2 a2_3 : Int) (r : Bool) (w : World) (H0 : impl_areHidden.f a0 a1 = some true) (h : ((impl_within.f 0 0 20).bind fun u => if u = true then ((impl_within.f a2_2 1 a1).bind fun v => if v = true then impl_within.f a2_3 0 a0 else some false) else some false) = some r) (hb : ¬ a2_2 = 0) :
    IsClueGoal a0 a1 5 0 a2_2 a2_3 r w := by
  have hu28 := Try.underlying28
  have H0 := Aside0.mk H0
  unfold IsClueGoal
  have hb' := hb
  have hbb0 := eq_false hb
  have hbb1 : decide (a2_2 = 0) = false := decide_eq_false hb
  have hbb2 : (a2_2 == 0) = false := by simpa using hb
  clear hb
  clear hb'
  obtain ⟨u, hu, h⟩ := Option.bind_eq_some_iff.1 h
  have HA := Aside0.mk hu
  clear hu
  cases u with
  | false =>
    rw [if_neg (by simp)] at h
    obtain rfl := Option.some.inj h
    go_enter Try.func23, Try.ntmps23
    go_wp2_with (first | (go_at_call 70; refine (impl_areHidden.calls _ _ _ _ H0.out).mono ?_; rintro e w' ⟨rfl, ⟨nd, rfl⟩⟩) | (go_at_call 74; (first | (with_reducible refine (impl_within.calls _ _ _ _ _ HA.out).mono ?_)); rintro e w' ⟨rfl, ⟨nd, rfl⟩⟩) | (go_at_call 73; (first | ((with_reducible refine (square_calls a0 _ _ w.heap.size _ HA.out ?hx).mono ?_); (case hx => with_reducible exact box_cell w a0 _ _))); rintro e w' ⟨rfl, ⟨nd, rfl⟩⟩))
    go_ret
    exact ⟨by first | rfl | simp, by repeat (first | (with_reducible exact Below.refl _ _) | apply below_alloc | apply pw_below_drewN)⟩
  | true =>
    rw [if_pos rfl] at h
    obtain ⟨v, hv, h⟩ := Option.bind_eq_some_iff.1 h
    have HV := Aside0.mk hv
    clear hv
    cases v with
    | false =>
      rw [if_neg (by simp)] at h
      obtain rfl := Option.some.inj h
      go_enter Try.func23, Try.ntmps23
      go_wp2_with (first | (go_at_call 70; refine (impl_areHidden.calls _ _ _ _ H0.out).mono ?_; rintro e w' ⟨rfl, ⟨nd, rfl⟩⟩) | (go_at_call 74; (first | (with_reducible refine (impl_within.calls _ _ _ _ _ HA.out).mono ?_) | (with_reducible refine (impl_within.calls _ _ _ _ _ HV.out).mono ?_)); rintro e w' ⟨rfl, ⟨nd, rfl⟩⟩) | (go_at_call 73; (first | ((with_reducible refine (square_calls a0 _ _ w.heap.size _ HA.out ?hx).mono ?_); (case hx => with_reducible exact box_cell w a0 _ _)) | ((with_reducible refine (square_calls a0 _ _ w.heap.size _ HV.out ?hx).mono ?_); (case hx => with_reducible exact box_cell w a0 _ _))); rintro e w' ⟨rfl, ⟨nd, rfl⟩⟩))
      go_ret
      exact ⟨by first | rfl | simp, by repeat (first | (with_reducible exact Below.refl _ _) | apply below_alloc | apply pw_below_drewN)⟩
    | true =>
      rw [if_pos rfl] at h
      have HC := Aside0.mk h
      clear h
      go_enter Try.func23, Try.ntmps23
      go_wp2_with (first | (go_at_call 70; refine (impl_areHidden.calls _ _ _ _ H0.out).mono ?_; rintro e w' ⟨rfl, ⟨nd, rfl⟩⟩) | (go_at_call 74; (first | (with_reducible refine (impl_within.calls _ _ _ _ _ HA.out).mono ?_) | (with_reducible refine (impl_within.calls _ _ _ _ _ HV.out).mono ?_) | (with_reducible refine (impl_within.calls _ _ _ _ _ HC.out).mono ?_)); rintro e w' ⟨rfl, ⟨nd, rfl⟩⟩) | (go_at_call 73; (first | ((with_reducible refine (square_calls a0 _ _ w.heap.size _ HA.out ?hx).mono ?_); (case hx => with_reducible exact box_cell w a0 _ _)) | ((with_reducible refine (square_calls a0 _ _ w.heap.size _ HV.out ?hx).mono ?_); (case hx => with_reducible exact box_cell w a0 _ _)) | ((with_reducible refine (square_calls a0 _ _ w.heap.size _ HC.out ?hx).mono ?_); (case hx => with_reducible exact box_cell w a0 _ _))); rintro e w' ⟨rfl, ⟨nd, rfl⟩⟩))
      go_ret
      exact ⟨by first | rfl | simp, by repeat (first | (with_reducible exact Below.refl _ _) | apply below_alloc | apply pw_below_drewN)⟩

set_option maxHeartbeats 16000000 in
set_option maxRecDepth 100000 in
theorem isClue_k5n (a0 a1 a2_1 a2_2 a2_3 : Int) (r : Bool) (w : World) (H0 : impl_areHidden.f a0 a1 = some true) (h : ((impl_within.f a2_1 0 20).bind fun u => if u = true then ((impl_within.f a2_2 1 a1).bind fun v => if v = true then impl_within.f a2_3 0 a0 else some false) else some false) = some r) (ha : ¬ a2_1 = 0) :
    IsClueGoal a0 a1 5 a2_1 a2_2 a2_3 r w := by
  have hu28 := Try.underlying28
  have H0 := Aside0.mk H0
  unfold IsClueGoal
  have ha' := ha
  have hab0 := eq_false ha
  have hab1 : decide (a2_1 = 0) = false := decide_eq_false ha
  have hab2 : (a2_1 == 0) = false := by simpa using ha
  clear ha
  clear ha'
  obtain ⟨u, hu, h⟩ := Option.bind_eq_some_iff.1 h
  have HA := Aside0.mk hu
  clear hu
  cases u with
  | false =>
    rw [if_neg (by simp)] at h
    obtain rfl := Option.some.inj h
    go_enter Try.func23, Try.ntmps23
    go_wp2_with (first | (go_at_call 70; refine (impl_areHidden.calls _ _ _ _ H0.out).mono ?_; rintro e w' ⟨rfl, ⟨nd, rfl⟩⟩) | (go_at_call 74; (first | (with_reducible refine (impl_within.calls _ _ _ _ _ HA.out).mono ?_)); rintro e w' ⟨rfl, ⟨nd, rfl⟩⟩) | (go_at_call 73; (first | ((with_reducible refine (square_calls a0 _ _ w.heap.size _ HA.out ?hx).mono ?_); (case hx => with_reducible exact box_cell w a0 _ _))); rintro e w' ⟨rfl, ⟨nd, rfl⟩⟩))
    go_ret
    exact ⟨by first | rfl | simp, by repeat (first | (with_reducible exact Below.refl _ _) | apply below_alloc | apply pw_below_drewN)⟩
  | true =>
    rw [if_pos rfl] at h
    obtain ⟨v, hv, h⟩ := Option.bind_eq_some_iff.1 h
    have HV := Aside0.mk hv
    clear hv
    cases v with
    | false =>
      rw [if_neg (by simp)] at h
      obtain rfl := Option.some.inj h
      go_enter Try.func23, Try.ntmps23
      go_wp2_with (first | (go_at_call 70; refine (impl_areHidden.calls _ _ _ _ H0.out).mono ?_; rintro e w' ⟨rfl, ⟨nd, rfl⟩⟩) | (go_at_call 74; (first | (with_reducible refine (impl_within.calls _ _ _ _ _ HA.out).mono ?_) | (with_reducible refine (impl_within.calls _ _ _ _ _ HV.out).mono ?_)); rintro e w' ⟨rfl, ⟨nd, rfl⟩⟩) | (go_at_call 73; (first | ((with_reducible refine (square_calls a0 _ _ w.heap.size _ HA.out ?hx).mono ?_); (case hx => with_reducible exact box_cell w a0 _ _)) | ((with_reducible refine (square_calls a0 _ _ w.heap.size _ HV.out ?hx).mono ?_); (case hx => with_reducible exact box_cell w a0 _ _))); rintro e w' ⟨rfl, ⟨nd, rfl⟩⟩))
      go_ret
      exact ⟨by first | rfl | simp, by repeat (first | (with_reducible exact Below.refl _ _) | apply below_alloc | apply pw_below_drewN)⟩
    | true =>
      rw [if_pos rfl] at h
      have HC := Aside0.mk h
      clear h
      go_enter Try.func23, Try.ntmps23
      go_wp2_with (first | (go_at_call 70; refine (impl_areHidden.calls _ _ _ _ H0.out).mono ?_; rintro e w' ⟨rfl, ⟨nd, rfl⟩⟩) | (go_at_call 74; (first | (with_reducible refine (impl_within.calls _ _ _ _ _ HA.out).mono ?_) | (with_reducible refine (impl_within.calls _ _ _ _ _ HV.out).mono ?_) | (with_reducible refine (impl_within.calls _ _ _ _ _ HC.out).mono ?_)); rintro e w' ⟨rfl, ⟨nd, rfl⟩⟩) | (go_at_call 73; (first | ((with_reducible refine (square_calls a0 _ _ w.heap.size _ HA.out ?hx).mono ?_); (case hx => with_reducible exact box_cell w a0 _ _)) | ((with_reducible refine (square_calls a0 _ _ w.heap.size _ HV.out ?hx).mono ?_); (case hx => with_reducible exact box_cell w a0 _ _)) | ((with_reducible refine (square_calls a0 _ _ w.heap.size _ HC.out ?hx).mono ?_); (case hx => with_reducible exact box_cell w a0 _ _))); rintro e w' ⟨rfl, ⟨nd, rfl⟩⟩))
      go_ret
      exact ⟨by first | rfl | simp, by repeat (first | (with_reducible exact Below.refl _ _) | apply below_alloc | apply pw_below_drewN)⟩

theorem isClue_k5 (a0 a1 a2_1 a2_2 a2_3 : Int) (r : Bool) (w : World) (H0 : impl_areHidden.f a0 a1 = some true) (h : ((impl_within.f a2_1 0 20).bind fun u => if u = true then ((impl_within.f a2_2 1 a1).bind fun v => if v = true then impl_within.f a2_3 0 a0 else some false) else some false) = some r) :
    IsClueGoal a0 a1 5 a2_1 a2_2 a2_3 r w := by
  by_cases ha : a2_1 = 0
  · subst ha
    by_cases hb : a2_2 = 0
    · subst hb; exact isClue_k5z a0 a1 a2_3 r w H0 h
    · exact isClue_k5m a0 a1 a2_2 a2_3 r w H0 h hb
  · exact isClue_k5n a0 a1 a2_1 a2_2 a2_3 r w H0 h ha

set_option maxHeartbeats 16000000 in
set_option maxRecDepth 100000 in
theorem isClue_k4z (a0 a1 a2_3 : Int) (r : Bool) (w : World) (H0 : impl_areHidden.f a0 a1 = some true) (h : ((impl_within.f 0 0 a0).bind fun u => if u = true then (if 0 = 0 then impl_within.f a2_3 0 1 else some false) else some false) = some r) :
    IsClueGoal a0 a1 4 0 0 a2_3 r w := by
  have hu28 := Try.underlying28
  have H0 := Aside0.mk H0
  unfold IsClueGoal
  obtain ⟨u, hu, h⟩ := Option.bind_eq_some_iff.1 h
  have HA := Aside0.mk hu
  clear hu
  cases u with
  | false =>
    rw [if_neg (by simp)] at h
    obtain rfl := Option.some.inj h
    go_enter Try.func23, Try.ntmps23
    go_wp2_with (first | (go_at_call 70; refine (impl_areHidden.calls _ _ _ _ H0.out).mono ?_; rintro e w' ⟨rfl, ⟨nd, rfl⟩⟩) | (go_at_call 74; (first | (with_reducible refine (impl_within.calls _ _ _ _ _ HA.out).mono ?_)); rintro e w' ⟨rfl, ⟨nd, rfl⟩⟩) | (go_at_call 73; (first | ((with_reducible refine (square_calls a0 _ _ w.heap.size _ HA.out ?hx).mono ?_); (case hx => with_reducible exact box_cell w a0 _ _))); rintro e w' ⟨rfl, ⟨nd, rfl⟩⟩))
    go_ret
    exact ⟨by first | rfl | simp, by repeat (first | (with_reducible exact Below.refl _ _) | apply below_alloc | apply pw_below_drewN)⟩
  | true =>
    rw [if_pos rfl] at h
    rw [if_pos rfl] at h
    have HC := Aside0.mk h
    clear h
    go_enter Try.func23, Try.ntmps23
    go_wp2_with (first | (go_at_call 70; refine (impl_areHidden.calls _ _ _ _ H0.out).mono ?_; rintro e w' ⟨rfl, ⟨nd, rfl⟩⟩) | (go_at_call 74; (first | (with_reducible refine (impl_within.calls _ _ _ _ _ HA.out).mono ?_) | (with_reducible refine (impl_within.calls _ _ _ _ _ HC.out).mono ?_)); rintro e w' ⟨rfl, ⟨nd, rfl⟩⟩) | (go_at_call 73; (first | ((with_reducible refine (square_calls a0 _ _ w.heap.size _ HA.out ?hx).mono ?_); (case hx => with_reducible exact box_cell w a0 _ _)) | ((with_reducible refine (square_calls a0 _ _ w.heap.size _ HC.out ?hx).mono ?_); (case hx => with_reducible exact box_cell w a0 _ _))); rintro e w' ⟨rfl, ⟨nd, rfl⟩⟩))
    go_ret
    exact ⟨by first | rfl | simp, by repeat (first | (with_reducible exact Below.refl _ _) | apply below_alloc | apply pw_below_drewN)⟩

set_option maxHeartbeats 16000000 in
set_option maxRecDepth 100000 in
theorem isClue_k4m (a0 a1 a2_2 a2_3 : Int) (r : Bool) (w : World) (H0 : impl_areHidden.f a0 a1 = some true) (h : ((impl_within.f 0 0 a0).bind fun u => if u = true then (if a2_2 = 0 then impl_within.f a2_3 0 1 else some false) else some false) = some r) (hb : ¬ a2_2 = 0) :
    IsClueGoal a0 a1 4 0 a2_2 a2_3 r w := by
  have hu28 := Try.underlying28
  have H0 := Aside0.mk H0
  unfold IsClueGoal
  have hb' := hb
  have hbb0 := eq_false hb
  have hbb1 : decide (a2_2 = 0) = false := decide_eq_false hb
  have hbb2 : (a2_2 == 0) = false := by simpa using hb
  clear hb
  obtain ⟨u, hu, h⟩ := Option.bind_eq_some_iff.1 h
  have HA := Aside0.mk hu
  clear hu
  cases u with
  | false =>
    rw [if_neg (by simp)] at h
    clear hb'
    obtain rfl := Option.some.inj h
    go_enter Try.func23, Try.ntmps23
    go_wp2_with (first | (go_at_call 70; refine (impl_areHidden.calls _ _ _ _ H0.out).mono ?_; rintro e w' ⟨rfl, ⟨nd, rfl⟩⟩) | (go_at_call 74; (first | (with_reducible refine (impl_within.calls _ _ _ _ _ HA.out).mono ?_)); rintro e w' ⟨rfl, ⟨nd, rfl⟩⟩) | (go_at_call 73; (first | ((with_reducible refine (square_calls a0 _ _ w.heap.size _ HA.out ?hx).mono ?_); (case hx => with_reducible exact box_cell w a0 _ _))); rintro e w' ⟨rfl, ⟨nd, rfl⟩⟩))
    go_ret
    exact ⟨by first | rfl | simp, by repeat (first | (with_reducible exact Below.refl _ _) | apply below_alloc | apply pw_below_drewN)⟩
  | true =>
    rw [if_pos rfl] at h
    rw [if_neg hb'] at h
    clear hb'
    obtain rfl := Option.some.inj h
    go_enter Try.func23, Try.ntmps23
    go_wp2_with (first | (go_at_call 70; refine (impl_areHidden.calls _ _ _ _ H0.out).mono ?_; rintro e w' ⟨rfl, ⟨nd, rfl⟩⟩) | (go_at_call 74; (first | (with_reducible refine (impl_within.calls _ _ _ _ _ HA.out).mono ?_)); rintro e w' ⟨rfl, ⟨nd, rfl⟩⟩) | (go_at_call 73; (first | ((with_reducible refine (square_calls a0 _ _ w.heap.size _ HA.out ?hx).mono ?_); (case hx => with_reducible exact box_cell w a0 _ _))); rintro e w' ⟨rfl, ⟨nd, rfl⟩⟩))
    go_ret
    exact ⟨by first | rfl | simp, by repeat (first | (with_reducible exact Below.refl _ _) | apply below_alloc | apply pw_below_drewN)⟩

set_option maxHeartbeats 16000000 in
set_option maxRecDepth 100000 in
theorem isClue_k4n (a0 a1 a2_1 a2_2 a2_3 : Int) (r : Bool) (w : World) (H0 : impl_areHidden.f a0 a1 = some true) (h : ((impl_within.f a2_1 0 a0).bind fun u => if u = true then (if a2_2 = 0 then impl_within.f a2_3 0 1 else some false) else some false) = some r) (ha : ¬ a2_1 = 0) :
    IsClueGoal a0 a1 4 a2_1 a2_2 a2_3 r w := by
  have hu28 := Try.underlying28
  have H0 := Aside0.mk H0
  unfold IsClueGoal
  have ha' := ha
  have hab0 := eq_false ha
  have hab1 : decide (a2_1 = 0) = false := decide_eq_false ha
  have hab2 : (a2_1 == 0) = false := by simpa using ha
  clear ha
  clear ha'
  obtain ⟨u, hu, h⟩ := Option.bind_eq_some_iff.1 h
  have HA := Aside0.mk hu
  clear hu
  cases u with
  | false =>
    rw [if_neg (by simp)] at h
    obtain rfl := Option.some.inj h
    go_enter Try.func23, Try.ntmps23
    go_wp2_with (first | (go_at_call 70; refine (impl_areHidden.calls _ _ _ _ H0.out).mono ?_; rintro e w' ⟨rfl, ⟨nd, rfl⟩⟩) | (go_at_call 74; (first | (with_reducible refine (impl_within.calls _ _ _ _ _ HA.out).mono ?_)); rintro e w' ⟨rfl, ⟨nd, rfl⟩⟩) | (go_at_call 73; (first | ((with_reducible refine (square_calls a0 _ _ w.heap.size _ HA.out ?hx).mono ?_); (case hx => with_reducible exact box_cell w a0 _ _))); rintro e w' ⟨rfl, ⟨nd, rfl⟩⟩))
    go_ret
    exact ⟨by first | rfl | simp, by repeat (first | (with_reducible exact Below.refl _ _) | apply below_alloc | apply pw_below_drewN)⟩
  | true =>
    rw [if_pos rfl] at h
    by_cases hb : a2_2 = 0
    · subst hb
      rw [if_pos rfl] at h
      have HC := Aside0.mk h
      clear h
      go_enter Try.func23, Try.ntmps23
      go_wp2_with (first | (go_at_call 70; refine (impl_areHidden.calls _ _ _ _ H0.out).mono ?_; rintro e w' ⟨rfl, ⟨nd, rfl⟩⟩) | (go_at_call 74; (first | (with_reducible refine (impl_within.calls _ _ _ _ _ HA.out).mono ?_) | (with_reducible refine (impl_within.calls _ _ _ _ _ HC.out).mono ?_)); rintro e w' ⟨rfl, ⟨nd, rfl⟩⟩) | (go_at_call 73; (first | ((with_reducible refine (square_calls a0 _ _ w.heap.size _ HA.out ?hx).mono ?_); (case hx => with_reducible exact box_cell w a0 _ _)) | ((with_reducible refine (square_calls a0 _ _ w.heap.size _ HC.out ?hx).mono ?_); (case hx => with_reducible exact box_cell w a0 _ _))); rintro e w' ⟨rfl, ⟨nd, rfl⟩⟩))
      go_ret
      exact ⟨by first | rfl | simp, by repeat (first | (with_reducible exact Below.refl _ _) | apply below_alloc | apply pw_below_drewN)⟩
    · rw [if_neg hb] at h
      have hbb0 := eq_false hb
      have hbb1 : decide (a2_2 = 0) = false := decide_eq_false hb
      have hbb2 : (a2_2 == 0) = false := by simpa using hb
      clear hb
      obtain rfl := Option.some.inj h
      go_enter Try.func23, Try.ntmps23
      go_wp2_with (first | (go_at_call 70; refine (impl_areHidden.calls _ _ _ _ H0.out).mono ?_; rintro e w' ⟨rfl, ⟨nd, rfl⟩⟩) | (go_at_call 74; (first | (with_reducible refine (impl_within.calls _ _ _ _ _ HA.out).mono ?_)); rintro e w' ⟨rfl, ⟨nd, rfl⟩⟩) | (go_at_call 73; (first | ((with_reducible refine (square_calls a0 _ _ w.heap.size _ HA.out ?hx).mono ?_); (case hx => with_reducible exact box_cell w a0 _ _))); rintro e w' ⟨rfl, ⟨nd, rfl⟩⟩))
      go_ret
      exact ⟨by first | rfl | simp, by repeat (first | (with_reducible exact Below.refl _ _) | apply below_alloc | apply pw_below_drewN)⟩

theorem isClue_k4 (a0 a1 a2_1 a2_2 a2_3 : Int) (r : Bool) (w : World) (H0 : impl_areHidden.f a0 a1 = some true) (h : ((impl_within.f a2_1 0 a0).bind fun u => if u = true then (if a2_2 = 0 then impl_within.f a2_3 0 1 else some false) else some false) = some r) :
    IsClueGoal a0 a1 4 a2_1 a2_2 a2_3 r w := by
  by_cases ha : a2_1 = 0
  · subst ha
    by_cases hb : a2_2 = 0
    · subst hb; exact isClue_k4z a0 a1 a2_3 r w H0 h
    · exact isClue_k4m a0 a1 a2_2 a2_3 r w H0 h hb
  · exact isClue_k4n a0 a1 a2_1 a2_2 a2_3 r w H0 h ha

set_option maxHeartbeats 16000000 in
set_option maxRecDepth 100000 in
theorem isClue_elsez (a0 a1 a2_0 a2_3 : Int) (w : World) (H0 : impl_areHidden.f a0 a1 = some true) (k0 : ¬ a2_0 = 0) (k1 : ¬ a2_0 = 1) (k2 : ¬ a2_0 = 2) (k3 : ¬ a2_0 = 3) (k4 : ¬ a2_0 = 4) (k5 : ¬ a2_0 = 5) :
    IsClueGoal a0 a1 a2_0 0 0 a2_3 false w := by
  have hu28 := Try.underlying28
  have H0 := Aside0.mk H0
  unfold IsClueGoal
  have k0b0 := eq_false k0
  have k0b1 : decide (a2_0 = 0) = false := decide_eq_false k0
  have k0b2 : (a2_0 == 0) = false := by simpa using k0
  clear k0
  have k1b0 := eq_false k1
  have k1b1 : decide (a2_0 = 1) = false := decide_eq_false k1
  have k1b2 : (a2_0 == 1) = false := by simpa using k1
  clear k1
  have k2b0 := eq_false k2
  have k2b1 : decide (a2_0 = 2) = false := decide_eq_false k2
  have k2b2 : (a2_0 == 2) = false := by simpa using k2
  clear k2
  have k3b0 := eq_false k3
  have k3b1 : decide (a2_0 = 3) = false := decide_eq_false k3
  have k3b2 : (a2_0 == 3) = false := by simpa using k3
  clear k3
  have k4b0 := eq_false k4
  have k4b1 : decide (a2_0 = 4) = false := decide_eq_false k4
  have k4b2 : (a2_0 == 4) = false := by simpa using k4
  clear k4
  have k5b0 := eq_false k5
  have k5b1 : decide (a2_0 = 5) = false := decide_eq_false k5
  have k5b2 : (a2_0 == 5) = false := by simpa using k5
  clear k5
  go_enter Try.func23, Try.ntmps23
  go_wp2_with (first | (go_at_call 70; refine (impl_areHidden.calls _ _ _ _ H0.out).mono ?_; rintro e w' ⟨rfl, ⟨nd, rfl⟩⟩) | (go_at_call 74; (first | fail); rintro e w' ⟨rfl, ⟨nd, rfl⟩⟩) | (go_at_call 73; (first | fail); rintro e w' ⟨rfl, ⟨nd, rfl⟩⟩))
  go_ret
  exact ⟨by first | rfl | simp, by repeat (first | (with_reducible exact Below.refl _ _) | apply below_alloc | apply pw_below_drewN)⟩

set_option maxHeartbeats 16000000 in
set_option maxRecDepth 100000 in
theorem isClue_elsem (a0 a1 a2_0 a2_2 a2_3 : Int) (w : World) (H0 : impl_areHidden.f a0 a1 = some true) (k0 : ¬ a2_0 = 0) (k1 : ¬ a2_0 = 1) (k2 : ¬ a2_0 = 2) (k3 : ¬ a2_0 = 3) (k4 : ¬ a2_0 = 4) (k5 : ¬ a2_0 = 5) (hb : ¬ a2_2 = 0) :
    IsClueGoal a0 a1 a2_0 0 a2_2 a2_3 false w := by
  have hu28 := Try.underlying28
  have H0 := Aside0.mk H0
  unfold IsClueGoal
  have k0b0 := eq_false k0
  have k0b1 : decide (a2_0 = 0) = false := decide_eq_false k0
  have k0b2 : (a2_0 == 0) = false := by simpa using k0
  clear k0
  have k1b0 := eq_false k1
  have k1b1 : decide (a2_0 = 1) = false := decide_eq_false k1
  have k1b2 : (a2_0 == 1) = false := by simpa using k1
  clear k1
  have k2b0 := eq_false k2
  have k2b1 : decide (a2_0 = 2) = false := decide_eq_false k2
  have k2b2 : (a2_0 == 2) = false := by simpa using k2
  clear k2
  have k3b0 := eq_false k3
  have k3b1 : decide (a2_0 = 3) = false := decide_eq_false k3
  have k3b2 : (a2_0 == 3) = false := by simpa using k3
  clear k3
  have k4b0 := eq_false k4
  have k4b1 : decide (a2_0 = 4) = false := decide_eq_false k4
  have k4b2 : (a2_0 == 4) = false := by simpa using k4
  clear k4
  have k5b0 := eq_false k5
  have k5b1 : decide (a2_0 = 5) = false := decide_eq_false k5
  have k5b2 : (a2_0 == 5) = false := by simpa using k5
  clear k5
  have hb' := hb
  have hbb0 := eq_false hb
  have hbb1 : decide (a2_2 = 0) = false := decide_eq_false hb
  have hbb2 : (a2_2 == 0) = false := by simpa using hb
  clear hb
  clear hb'
  go_enter Try.func23, Try.ntmps23
  go_wp2_with (first | (go_at_call 70; refine (impl_areHidden.calls _ _ _ _ H0.out).mono ?_; rintro e w' ⟨rfl, ⟨nd, rfl⟩⟩) | (go_at_call 74; (first | fail); rintro e w' ⟨rfl, ⟨nd, rfl⟩⟩) | (go_at_call 73; (first | fail); rintro e w' ⟨rfl, ⟨nd, rfl⟩⟩))
  go_ret
  exact ⟨by first | rfl | simp, by repeat (first | (with_reducible exact Below.refl _ _) | apply below_alloc | apply pw_below_drewN)⟩

set_option maxHeartbeats 16000000 in
set_option maxRecDepth 100000 in
theorem isClue_elsen (a0 a1 a2_0 a2_1 a2_2 a2_3 : Int) (w : World) (H0 : impl_areHidden.f a0 a1 = some true) (k0 : ¬ a2_0 = 0) (k1 : ¬ a2_0 = 1) (k2 : ¬ a2_0 = 2) (k3 : ¬ a2_0 = 3) (k4 : ¬ a2_0 = 4) (k5 : ¬ a2_0 = 5) (ha : ¬ a2_1 = 0) :
    IsClueGoal a0 a1 a2_0 a2_1 a2_2 a2_3 false w := by
  have hu28 := Try.underlying28
  have H0 := Aside0.mk H0
  unfold IsClueGoal
  have k0b0 := eq_false k0
  have k0b1 : decide (a2_0 = 0) = false := decide_eq_false k0
  have k0b2 : (a2_0 == 0) = false := by simpa using k0
  clear k0
  have k1b0 := eq_false k1
  have k1b1 : decide (a2_0 = 1) = false := decide_eq_false k1
  have k1b2 : (a2_0 == 1) = false := by simpa using k1
  clear k1
  have k2b0 := eq_false k2
  have k2b1 : decide (a2_0 = 2) = false := decide_eq_false k2
  have k2b2 : (a2_0 == 2) = false := by simpa using k2
  clear k2
  have k3b0 := eq_false k3
  have k3b1 : decide (a2_0 = 3) = false := decide_eq_false k3
  have k3b2 : (a2_0 == 3) = false := by simpa using k3
  clear k3
  have k4b0 := eq_false k4
  have k4b1 : decide (a2_0 = 4) = false := decide_eq_false k4
  have k4b2 : (a2_0 == 4) = false := by simpa using k4
  clear k4
  have k5b0 := eq_false k5
  have k5b1 : decide (a2_0 = 5) = false := decide_eq_false k5
  have k5b2 : (a2_0 == 5) = false := by simpa using k5
  clear k5
  have ha' := ha
  have hab0 := eq_false ha
  have hab1 : decide (a2_1 = 0) = false := decide_eq_false ha
  have hab2 : (a2_1 == 0) = false := by simpa using ha
  clear ha
  clear ha'
  go_enter Try.func23, Try.ntmps23
  go_wp2_with (first | (go_at_call 70; refine (impl_areHidden.calls _ _ _ _ H0.out).mono ?_; rintro e w' ⟨rfl, ⟨nd, rfl⟩⟩) | (go_at_call 74; (first | fail); rintro e w' ⟨rfl, ⟨nd, rfl⟩⟩) | (go_at_call 73; (first | fail); rintro e w' ⟨rfl, ⟨nd, rfl⟩⟩))
  go_ret
  exact ⟨by first | rfl | simp, by repeat (first | (with_reducible exact Below.refl _ _) | apply below_alloc | apply pw_below_drewN)⟩

theorem isClue_else (a0 a1 a2_0 a2_1 a2_2 a2_3 : Int) (w : World) (H0 : impl_areHidden.f a0 a1 = some true) (k0 : ¬ a2_0 = 0) (k1 : ¬ a2_0 = 1) (k2 : ¬ a2_0 = 2) (k3 : ¬ a2_0 = 3) (k4 : ¬ a2_0 = 4) (k5 : ¬ a2_0 = 5) :
    IsClueGoal a0 a1 a2_0 a2_1 a2_2 a2_3 false w := by
  by_cases ha : a2_1 = 0
  · subst ha
    by_cases hb : a2_2 = 0
    · subst hb; exact isClue_elsez a0 a1 a2_0 a2_3 w H0 k0 k1 k2 k3 k4 k5
    · exact isClue_elsem a0 a1 a2_0 a2_2 a2_3 w H0 k0 k1 k2 k3 k4 k5 hb
  · exact isClue_elsen a0 a1 a2_0 a2_1 a2_2 a2_3 w H0 k0 k1 k2 k3 k4 k5 ha

theorem impl_IsClue.calls (a0 : Int) (a1 : Int) (a2_0 : Int) (a2_1 : Int) (a2_2 : Int) (a2_3 : Int) (r : Bool) (w : World) (h : impl_IsClue.f a0 a1 a2_0 a2_1 a2_2 a2_3 = some r) :
    Calls Try.prog 23 #[.int .i64 a0, .int .i64 a1, .agg #[.int .i64 a2_0, .int .i64 a2_1, .int .i64 a2_2, .int .i64 a2_3]] w fun e w' => e = .returned (.bool r) ∧ Below w.heap.size w w' := by
  unfold impl_IsClue.f at h
  obtain ⟨b0, H0, h⟩ := Option.bind_eq_some_iff.1 h
  cases b0 with
  | false =>
    rw [if_neg (by simp)] at h
    obtain rfl := Option.some.inj h
    exact isClue_hid a0 a1 a2_0 a2_1 a2_2 a2_3 w H0
  | true =>
    rw [if_pos rfl] at h
    by_cases k0 : a2_0 = 0
    · rw [if_pos k0] at h; rw [k0]; exact isClue_k0 a0 a1 a2_1 a2_2 a2_3 r w H0 h
    rw [if_neg k0] at h
    by_cases k1 : a2_0 = 1
    · rw [if_pos k1] at h; rw [k1]; exact isClue_k1 a0 a1 a2_1 a2_2 a2_3 r w H0 h
    rw [if_neg k1] at h
    by_cases k2 : a2_0 = 2
    · rw [if_pos (.inl k2)] at h; rw [k2]; exact isClue_k2 a0 a1 a2_1 a2_2 a2_3 r w H0 h
    by_cases k3 : a2_0 = 3
    · rw [if_pos (.inr k3)] at h; rw [k3]; exact isClue_k3 a0 a1 a2_1 a2_2 a2_3 r w H0 h
    rw [if_neg (by omega)] at h
    by_cases k4 : a2_0 = 4
    · rw [if_pos k4] at h; rw [k4]; exact isClue_k4 a0 a1 a2_1 a2_2 a2_3 r w H0 h
    rw [if_neg k4] at h
    by_cases k5 : a2_0 = 5
    · rw [if_pos k5] at h; rw [k5]; exact isClue_k5 a0 a1 a2_1 a2_2 a2_3 r w H0 h
    rw [if_neg k5] at h
    obtain rfl := Option.some.inj h
    exact isClue_else a0 a1 a2_0 a2_1 a2_2 a2_3 w H0 k0 k1 k2 k3 k4 k5

end Go.Proofs.Ytifgjihjcloloaa.P
