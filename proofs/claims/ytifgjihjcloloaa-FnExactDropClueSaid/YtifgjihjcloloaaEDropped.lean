/- impl.dropped: a list of clues without one: what the Go text returns, where the place is one of the list's. -/
import Derived.Test.YtifgjihjcloloaaECloneClue
import Derived.Deep.RegionLaw
import Derived.Lib.SliceRun
import Derived.Lib.Hide
namespace Go.Proofs.Ytifgjihjcloloaa.P
open Go.RowKit Go.Proofs.YtifgjihjcloloaaW.PrintWords Go.Proofs.YtifgjihjcloloaaW.PrintLast Go.Proofs.YtifgjihjcloloaaW.PrintMore
set_option linter.unusedVariables false
set_option linter.unusedSimpArgs false

/-- 'clear' of the elements behind a row of our own. -/
theorem R_clear (d : Kd S28) {W : World} (base : Nat) (t ty e : TypeId) (z : Value) (ht : Try.prog.underlying t = some (.slice e)) (hv : ∀ w, (zeroValue e).run Try.prog w = .ok z w) (hz : z.cells.size = d.sz) (h1 : ∀ u ∈ z.cells.toList, u.oneCell' = true) (hs0 : 0 < d.sz)
    {g m c : Nat} {xs : List S28} {ok : Nat → Prop} (HO : d.R e W base ok (.slice (some ⟨g, 0, none⟩) m c) xs) (hc : m < c) (c2 : Nat) :
    ∃ w1, (Builtin.clear_ #[t] ty #[.slice (some ⟨g, m * d.sz, none⟩) 1 c2]).run Try.prog W = .ok (.tuple #[]) w1 ∧ d.R e w1 base ok (.slice (some ⟨g, 0, none⟩) m c) xs ∧ W.grownBy w1 (some g) := by
  obtain ⟨hn, hnc, _⟩ := Kd.R_reads' HO
  obtain ⟨hok, inner, hown, hr⟩ := HO
  have hin : inner.length = m * d.sz := by rw [hr.1, hn]
  rcases hown.2 with ⟨hv', _⟩ | ⟨g', cap', cur, hv', hb, hh, _, hcm, hcs, htake⟩
  · cases hv'
  injection hv' with ha _ hc'
  injection ha with ha
  injection ha with hg
  subst hg; subst hc'
  have hzl : (Builtin.zeroCells z.cells 1).toList = z.cells.toList := by
    apply List.ext_getElem
    · simp [Builtin.zeroCells]
    · intro i h1 h2
      have hi : i < z.cells.size := by simpa using h2
      simp [Builtin.zeroCells, Nat.mod_eq_of_lt hi, getElem!_pos z.cells i hi]
  have hmc : m * d.sz + d.sz ≤ c * d.sz := by rw [← Nat.succ_mul]; exact Nat.mul_le_mul_right _ hc
  have hst := run_storeCells_cells (P := Try.prog) g (m * d.sz) z.cells.toList 0 W
    (by intro j hj; rw [cell_of_row W g _ cur e (0, 0) hh]; simp at hj ⊢; omega) (by intro j _; exact blk_frozen hh _) h1
  simp only [Nat.add_zero] at hst
  have hfit : m * d.sz + z.cells.toList.length ≤ cur.size := by simp; omega
  obtain ⟨cur', h3, h4, h5⟩ := setCells_row z.cells.toList (m * d.sz) W cur hh hfit
  obtain ⟨s1, s2, s3, s4⟩ := setCells_same g z.cells.toList (m * d.sz) W
  have hfar : ∀ k', k' ≠ g → (W.setCells g (m * d.sz) z.cells.toList).heap[k']? = W.heap[k']? := fun k' hk' => setCells_far z.cells.toList _ k' hk'
  have hgo : ∀ m, some g = (Value.slice (some ⟨g, 0, none⟩) m c).ownBlock := fun m => by simp [Value.ownBlock]
  refine ⟨W.setCells g (m * d.sz) z.cells.toList, ?_, ⟨hok, inner, ⟨hown.1, .inr ⟨g, c, cur', by rw [hn], hb, h3, by rw [← hn]; omega, hcm, by rw [h4, hcs], ?_⟩⟩, ?_⟩, ?_⟩
  · simp [Builtin.clear_, Sem.run_bind, run_underlying ht, hv, hzl, hst]
  · rw [h5, ← hn, List.append_assoc, List.take_append_of_le_length (by simp; omega), List.take_take, Nat.min_self, ← htake, hn]
  · exact hr.imp_ (fun p q hp => d.M_move (fun k' hk' => hfar k' (fun he => hk'.2 (by rw [← hgo, he]))) hp)
  · exact ⟨s1, s2, s3, by omega, fun k' _ hk' => hfar k' (fun he => hk' (by rw [he]))⟩

theorem clue_zero (w : World) : (zeroValue 28).run Try.prog w = .ok (.agg #[.int .i64 0, .int .i64 0, .int .i64 0, .int .i64 0]) w := by kernel_rfl

set_option maxHeartbeats 4000000 in
set_option maxRecDepth 1000000 in
theorem delete_clue (g c base i j m : Nat) (xs : List S28) (ok : Nat → Prop) (w0 W : World) (HO : Kd.R k28 28 W base ok (.slice (some ⟨g, 0, none⟩) (m + 1) c) xs) (hi : i ≤ m) (hj : j = i + 1) (HB : Below base w0 W) (hbase : base ≤ W.heap.size) :
    Calls Try.prog 113 #[.slice (some ⟨g, 0, none⟩) (m + 1) c, .int .i64 (i : Int), .int .i64 (j : Int)] W fun e w' => e = .returned (.slice (some ⟨g, 0, none⟩) m c) ∧ Kd.R k28 28 w' base ok (.slice (some ⟨g, 0, none⟩) m c) (xs.eraseIdx i) ∧ Below base w0 w' := by
  have hcm : c ≤ 9223372036854775807 := by
    obtain ⟨_, inner, hown, _⟩ := HO
    rcases hown.2 with ⟨hv', _⟩ | ⟨g', cap', cur, hv', _, _, _, hcm, _, _⟩
    · cases hv'
    · injection hv' with _ _ hc'; subst hc'; unfold maxLen at hcm; omega
  have hnc : m + 1 ≤ c := (Kd.R_reads' HO).2.1
  have H := Aside0.mk HO
  have HBW := Aside0.mk HB
  have HBS := Aside0.mk hbase
  clear HO HB hbase
  have hij : i < j := by omega
  have hne : ¬ i = j := by omega
  have hjm : j ≤ m + 1 := by omega
  have hjmz : (j : Int) ≤ (m : Int) + 1 := by omega
  have hic : i ≤ c := by omega
  have hjc : j ≤ c := by omega
  have HJ := Aside0.mk hj
  clear hj
  by_cases hcj : c = j
  · subst hcj
    go_enter Try.func113, Try.ntmps113
    go_wp2_with fail
    go_region_law (refine Kd.R_delete_step k28 (w0 := w0) base rfl (.tmp 22) (.tmp 25) 40 28 rfl Try.underlying40 (by kernel_rfl) (g := g) (n := m + 1) (c := c) (k := i) (m := 0) (c2 := 0) (A := some ⟨g, 0, none⟩) (by simp [Act.eval, Act.put]) (by simp [Act.eval, Act.put]) (by rw [if_pos HJ.out]) (by have := HJ.out; omega) (Kd.R_drew H.out) (by omega) (below_drew HBW.out) HBS.out ?_; intro w1 h1_ hb1_ hg1_)
    have h1_ : Kd.R k28 28 w1 base ok (.slice (some ⟨g, 0, none⟩) m c) (xs.eraseIdx i) := h1_
    obtain ⟨w2, hr2, h2_, hg2⟩ := R_clear k28 (W := w1) base 40 0 28 (.agg #[.int .i64 0, .int .i64 0, .int .i64 0, .int .i64 0]) Try.underlying40 clue_zero rfl (by decide) (by decide) h1_ (by omega) (c - m)
    have hbs : base ≤ w1.heap.size := Nat.le_trans HBS.out (show W.drew.heap.size ≤ w1.heap.size from hg1_.size)
    have HR2 := Aside0.mk h2_
    have HB2 := Aside0.mk (Below.grown hb1_ hg2 hbs (fun k hk => by cases hk; exact Kd.R_base h1_ g (by simp [Value.ownBlock])))
    have hmc : m ≤ c := by omega
    have hr3 : (Builtin.clear_ #[40] 0 #[.slice (some ⟨g, m * 4, none⟩) 1 (c - m)]).run Try.prog w1 = .ok (.tuple #[]) w2 := hr2
    clear hr2
    clear h1_ hb1_ hg1_ h2_ hg2 hbs
    go_wp2
    go_ret
    exact ⟨rfl, HR2.out, HB2.out⟩
  · have hcji : ¬ c = i + 1 := fun h_ => hcj (h_.trans HJ.out.symm)
    have HCJ := Aside0.mk hcji
    clear hcji
    go_enter Try.func113, Try.ntmps113
    go_wp2_with fail
    go_region_law (refine Kd.R_delete_step k28 (w0 := w0) base rfl (.tmp 22) (.tmp 25) 40 28 rfl Try.underlying40 (by kernel_rfl) (g := g) (n := m + 1) (c := c) (k := i) (m := m + 1 - j) (c2 := c - j) (A := some ⟨g, j * 4, none⟩) (by simp [Act.eval, Act.put]) (by simp [Act.eval, Act.put]) (by rw [if_neg HCJ.out, HJ.out]; simp [Addr.add]; rfl) (by rw [HJ.out]) (Kd.R_drew H.out) (by omega) (below_drew HBW.out) HBS.out ?_; intro w1 h1_ hb1_ hg1_)
    have h1_ : Kd.R k28 28 w1 base ok (.slice (some ⟨g, 0, none⟩) m c) (xs.eraseIdx i) := h1_
    obtain ⟨w2, hr2, h2_, hg2⟩ := R_clear k28 (W := w1) base 40 0 28 (.agg #[.int .i64 0, .int .i64 0, .int .i64 0, .int .i64 0]) Try.underlying40 clue_zero rfl (by decide) (by decide) h1_ (by omega) (c - m)
    have hbs : base ≤ w1.heap.size := Nat.le_trans HBS.out (show W.drew.heap.size ≤ w1.heap.size from hg1_.size)
    have HR2 := Aside0.mk h2_
    have HB2 := Aside0.mk (Below.grown hb1_ hg2 hbs (fun k hk => by cases hk; exact Kd.R_base h1_ g (by simp [Value.ownBlock])))
    have hmc : m ≤ c := by omega
    have hr3 : (Builtin.clear_ #[40] 0 #[.slice (some ⟨g, m * 4, none⟩) 1 (c - m)]).run Try.prog w1 = .ok (.tuple #[]) w2 := hr2
    clear hr2
    clear h1_ hb1_ hg1_ h2_ hg2 hbs
    go_wp2
    go_ret
    exact ⟨rfl, HR2.out, HB2.out⟩

def impl_dropped.f (l0 : List S28) (a1 : Int) : Option (List S28) := if l0.length < 4398046511104 ∧ 0 ≤ a1 ∧ a1 < (l0.length : Int) then some (l0.eraseIdx a1.toNat) else none
set_option maxHeartbeats 4000000 in
set_option maxRecDepth 1000000 in
theorem impl_dropped.calls (A0 : Option Addr) (c0 : Nat) (l0 : List S28) (a1 : Int) (r : List S28) (w : World) (hr0 : Kd.C k28 w A0 l0.length l0) (hc0 : l0.length ≤ c0) (h : impl_dropped.f l0 a1 = some r) :
    Calls Try.prog 93 #[.slice A0 l0.length c0, .int .i64 a1] w fun e w' => ∃ v0_ : Value, e = .returned (v0_) ∧ Kd.R k28 28 w' w.heap.size (fun _ => True) v0_ r ∧ Below w.heap.size w w' := by
  unfold impl_dropped.f at h
  by_cases hp : l0.length < 4398046511104 ∧ 0 ≤ a1 ∧ a1 < (l0.length : Int)
  case neg => rw [if_neg hp] at h; cases h
  rw [if_pos hp] at h
  obtain rfl := Option.some.inj h
  clear h
  obtain ⟨h1, h2, h3⟩ := hp
  obtain ⟨i, rfl⟩ : ∃ i : Nat, a1 = (i : Int) := ⟨a1.toNat, by omega⟩
  rw [Int.toNat_natCast]
  obtain ⟨m, hm⟩ : ∃ m, l0.length = m + 1 := ⟨l0.length - 1, by omega⟩
  have HI := Aside0.mk (show i ≤ m by omega)
  have HM := Aside0.mk hm
  have HW := Aside0.mk (show IntKind.i64.wrap ((i : Int) + 1) = ((i + 1 : Nat) : Int) by rw [IntKind.wrap_i64]; omega)
  have hw : IntKind.i64.wrap ((i : Int) + 1) = ((i + 1 : Nat) : Int) := HW.out
  have HR0 := Aside0.mk hr0
  have HC0 := Aside0.mk hc0
  have HF := Aside0.mk (show impl_Clue.f l0 = some l0 by unfold impl_Clue.f; rw [if_pos h1])
  clear h1 h2 h3 hm hr0 hc0
  go_enter Try.func93, Try.ntmps93
  go_wp2_with (first | (go_at_call 88; refine (impl_Clue.calls _ _ l0 l0 _ HR0.out HC0.out HF.out).mono ?_; rintro e w1 ⟨v0_, rfl, ho, hb⟩; obtain ⟨g, cap, hv, _⟩ := Kd.R_form ho (by rw [HM.out]; omega); rw [HM.out] at hv; subst hv; have HO := Aside0.mk ho; have HB := Aside0.mk hb; clear ho hb) | (go_at_call 113; refine (delete_clue g cap w.heap.size i (i + 1) m l0 (fun _ => True) w _ HO.out HI.out rfl HB.out HB.out.size).mono ?_; rintro e w2 ⟨rfl, ho, hb⟩; have HO2 := Aside0.mk ho; have HB2 := Aside0.mk hb; clear ho hb))
  go_ret
  exact ⟨_, rfl, HO2.out, HB2.out⟩

end Go.Proofs.Ytifgjihjcloloaa.P
