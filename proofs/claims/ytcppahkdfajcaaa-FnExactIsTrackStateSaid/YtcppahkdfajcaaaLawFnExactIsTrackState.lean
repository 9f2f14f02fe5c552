/- The row of the law FnExactIsTrackState, out of its pure statement and the walk of its Go text. No condition. -/
import Derived.Test.YtcppahkdfajcaaaRows
import Derived.Test.YtcppahkdfajcaaaP29
import Derived.Test.YtcppahkdfajcaaaPureFnExactIsTrackState
import Derived.Test.YtcppahkdfajcaaaRd
import Derived.Test.YtcppahkdfajcaaaClosed
import Derived.WalkKit
import Derived.ProofKit
import Derived.OpenShut
import Derived.ShutString
import Derived.ChangeOld
import Derived.Below
import Derived.SizedLaws
namespace Go.Proofs.Ytcppahkdfajcaaa.fnExactIsTrackState
open Go.ChangeShapes Go.WideShapes Go.ChangeAt Go.RowKit Go.Proofs.Ytcppahkdfajcaaa.Open Go.Proofs.Ytcppahkdfajcaaa.Rd Go.Proofs.Ytcppahkdfajcaaa.P Go.Proofs.YtcppahkdfajcaaaW.PrintWords
open Go.ChangeMaps (open_string shut_string)
set_option linter.unusedVariables false
theorem own : ownKnob Try.prog.godebug = none := by kernel_rfl
theorem laidOut : laidOutB Try.prog = true := Closed.g1
set_option maxRecDepth 100000 in
theorem lifted (os : Os) (started : os.Started) (H : Type) (enc : TypeId × Value → H) :
    ReturnsInHanded {} Try.checked os 5 .any (Rows.fnExactIsTrackStateSpec.pre6 enc Try.prog Try.f5 Rows.fnExactIsTrackStateRow.domain false) (Rows.fnExactIsTrackStateSpec.post enc Try.prog Try.f5 false true false false) := by
  refine returnsInHanded_of_change_sized (C := Try.checked) own started (by kernel_rfl) Try.func5
    (ChangeSpec.witness6 (enc := enc) (C := Try.checked) false ⟨#[], #[.agg #[.int .i64 0, .int .i64 0, .int .i64 0, .slice none 0 0, .slice none 0 0], .slice none 0 0], []⟩ 8 (by kernel_rfl) (by kernel_rfl) (by kernel_rfl) (by kernel_rfl)) ?_
  intro W base args ds gs before hval0 hW hcnd hsz0 _
  have hval : ∀ (j : Nat) t v, Try.f5.params[j]? = some t → args[j]? = some v → Value.okWide Try.prog W .any base t v := hval0
  have hW' := hW
  obtain ⟨p, q, hA0, hV, rfl, hfz, hnd⟩ := hW
  have hA : DataW.TrodAll enc Try.prog W 0 (fun _ => true) true Try.f5.params.toList args.toList ds p := hA0
  rw [Try.params5] at hA hval
  obtain ⟨v0, vs0, d0, ds0, p0, q0, hargs, rfl, rfl, h0, r0⟩ := trodAll_cons hA
  obtain ⟨v1, vs1, d1, ds1, p1, q1, rfl, rfl, rfl, h1, r1⟩ := trodAll_cons r0
  obtain ⟨rfl, rfl, rfl⟩ := trodAll_nil r1
  obtain rfl : args = #[v0, v1] := by cases args; simp_all
  obtain ⟨rfl, rfl⟩ := trodVars_none hV
  have k0 := h0
  have lt0 : ∀ x ∈ p0, x.block < W.heap.size := by obtain ⟨m, hm⟩ := k0; exact DataW.trod_lt m _ _ _ hm
  obtain ⟨x0, cs0, rfl, hx0⟩ := rd_24.agg Try.underlying24 (hval 0 24 v0 rfl rfl) h0
  obtain ⟨A0_3, c0_3, A0_4, c0_4, rfl, hc0_3, hr0_3, hc0_4, hr0_4⟩ := k24_open hx0
  have k1 := h1
  have lt1 : ∀ x ∈ p1, x.block < W.heap.size := by obtain ⟨m, hm⟩ := k1; exact DataW.trod_lt m _ _ _ hm
  obtain ⟨b1, len1, cap1, rfl⟩ := okWide_slice Try.underlying34 (hval 1 34 v1 rfl rfl)
  obtain ⟨l1, A1, c1, e1, hc1, hr1⟩ := rd_34.param h1
  simp [Value.cells] at e1
  obtain ⟨rfl, rfl, rfl⟩ := e1
  clear hA0 hval0 hsz0
  obtain ⟨k, hk⟩ := Pure.FnExactIsTrackState x0.f0 x0.f1 x0.f2 x0.f3 x0.f4 l1 hr0_3.2.1 hr0_4.2.1 hr1.2.1 (rows_short hr1)
  refine (laws_FnExactIsTrackState.calls k x0.f0 x0.f1 x0.f2 _ _ x0.f3 _ _ x0.f4 _ _ l1 true W hr0_3 hc0_3 hr0_4 hc0_4 hr1 hc1 hk).mono fun e W' ⟨he, hd⟩ => ?_
  have bel : Below W.heap.size W W' := hd
  subst he
  exact ⟨_, rfl, _, _, _, [], _, [], hW', trodAll_mk1 (shut_bool Try.underlying4 _), (trodAll_cons_mk (Below.trod laidOut (by kernel_rfl) (of_decide_eq_true (by kernel_rfl)) k0 bel lt0) (trodAll_cons_mk (Below.trod laidOut (by kernel_rfl) (of_decide_eq_true (by kernel_rfl)) k1 bel lt1) trodAll_mk0)), rfl, bel.frame _, fun h => by cases h⟩
theorem g0 : Rows.fnExactIsTrackStateRow.wf (OpenSpec.ofChange Rows.fnExactIsTrackStateSpec) = true := by kernel_rfl
theorem g3 : Try.f5.params.all (Try.prog.readableRec ·) = true := by kernel_rfl
theorem g4 : namedTie Try.prog Rows.fnExactIsTrackStateRow.named Rows.fnExactIsTrackStateSpec.vars = true := by kernel_rfl
theorem g5 : (Rows.fnExactIsTrackStateRow.stops == []) = true := by kernel_rfl
theorem g7 : (Rows.fnExactIsTrackStateRow.knobs == []) = true := by kernel_rfl
theorem g9 : (Rows.fnExactIsTrackStateRow.inPlace == Try.prog.inPlace 5) = true := by kernel_rfl
theorem g10 : (Rows.fnExactIsTrackStateRow.unfollowed == Try.prog.unfollowed 5) = true := by kernel_rfl
theorem g11 : (Rows.fnExactIsTrackStateRow.recurses == Try.prog.recurses 5) = true := by kernel_rfl
theorem g12 : (Rows.fnExactIsTrackStateRow.named == Try.prog.varsNamed 5) = true := by kernel_rfl
theorem g13 : (Rows.fnExactIsTrackStateRow.maps == (Try.f5.params.toList ++ Rows.fnExactIsTrackStateSpec.plain.varTypes Try.prog).any (Try.prog.mapsRec ·)) = true := by kernel_rfl
theorem g14 : (Rows.fnExactIsTrackStateRow.ifaces == (Try.f5.params.toList ++ Rows.fnExactIsTrackStateSpec.plain.varTypes Try.prog).any (Try.prog.ifacesRec ·)) = true := by kernel_rfl
theorem g15 : (Rows.fnExactIsTrackStateRow.mapsOut == Try.prog.mapsAmong Try.f5.resultTypes.toList) = true := by kernel_rfl
theorem g16 : (Rows.fnExactIsTrackStateRow.loops == (Try.f5.params.toList ++ Rows.fnExactIsTrackStateSpec.plain.varTypes Try.prog).any (Try.prog.loopsFrom ·)) = true := by kernel_rfl
theorem g17 : (Rows.fnExactIsTrackStateRow.wideKeys == (Try.f5.params.toList ++ Rows.fnExactIsTrackStateSpec.plain.varTypes Try.prog ++ Try.f5.resultTypes.toList).any (Try.prog.wideKeysFrom ·)) = true := by kernel_rfl
theorem g18 : Rows.fnExactIsTrackStateSpec.vars.all (Try.prog.varReadable ·) = true := by kernel_rfl
theorem g19 : Try.f5.resultTypes.all (fun t => Try.prog.readableRec t && decide (t < Try.prog.types.size)) = true := by kernel_rfl
theorem g20 : (Rows.fnExactIsTrackStateRow.ifacesOut == Try.f5.resultTypes.toList.any (Try.prog.ifacesRec ·)) = true := by kernel_rfl
theorem g21 : (Rows.fnExactIsTrackStateRow.loopsOut == Try.f5.resultTypes.toList.any (Try.prog.loopsFrom ·)) = true := by kernel_rfl
theorem g23 : Rows.fnExactIsTrackStateRow.shortTexts.isNone = true := by kernel_rfl
theorem g28 : (Rows.fnExactIsTrackStateRow.kinds == (if Rows.fnExactIsTrackStateRow.domain.isEmpty then [] else Try.f5.params.toList.map fun t => match Try.prog.underlying t with | some (.int k) => some k | _ => none)) = true := by kernel_rfl
theorem g29 : (Rows.fnExactIsTrackStateRow.pinned == Rows.fnExactIsTrackStateRow.pinnedBy) = true := by kernel_rfl
theorem g30 : (Rows.fnExactIsTrackStateRow.veiled == (Try.f5.params.toList ++ Rows.fnExactIsTrackStateSpec.plain.varTypes Try.prog ++ Try.f5.resultTypes.toList).any (Try.prog.veiledRec ·)) = true := by kernel_rfl
theorem g31 : Rows.fnExactIsTrackStateRow.veiledFits Try.prog Try.f5.params.toList (Try.f5.params.toList ++ Rows.fnExactIsTrackStateSpec.plain.varTypes Try.prog ++ Try.f5.resultTypes.toList) = true := by kernel_rfl
set_option maxRecDepth 100000 in
theorem joined : joinedFacts Try.prog 5 Try.f5 Rows.fnExactIsTrackStateSpec Rows.fnExactIsTrackStateRow = true := (Closed.both (Closed.both (Closed.both (Closed.both (Closed.both (Closed.both (Closed.both (Closed.both (Closed.both (Closed.both (Closed.both (Closed.both (Closed.both (Closed.both (Closed.both (Closed.both (Closed.both (Closed.both (Closed.both (Closed.both (Closed.both (Closed.both (Closed.both (Closed.both (Closed.both (Closed.both (Closed.both (Closed.both (Closed.both (Closed.both (Closed.both g0 Closed.g1) Closed.g2) g3) g4) g5) Closed.g6) g7) Closed.g8) g9) g10) g11) g12) g13) g14) g15) g16) g17) g18) g19) g20) g21) Closed.g22) g23) Closed.g24) Closed.g25) Closed.g26) Closed.g27) g28) g29) g30) g31)
theorem named : Try.pinned.checked.prog.funcNamed Rows.fnExactIsTrackStateRow.func = some 5 := by kernel_rfl
theorem over : Rows.fnExactIsTrackStateRow.holds Try.pinned (OpenSpec.ofChange Rows.fnExactIsTrackStateSpec) :=
  OpenClaim.holds_of_wide 5 Try.f5 rfl rfl rfl rfl rfl rfl rfl ⟨rfl, rfl, rfl, rfl, rfl⟩ rfl rfl rfl rfl rfl named Try.func5 joined
    (of_decide_eq_true (by kernel_rfl)) (by unfold Func.isWrapper; first | (rw [if_pos (by decide +kernel)]; kernel_rfl) | (rw [if_neg (by decide +kernel)]; exact ⟨rfl, rfl⟩))
    (fun os started H enc _ => lifted os started H enc)
theorem proved : Rows.FnExactIsTrackStateSaid := over
#print axioms proved
end Go.Proofs.Ytcppahkdfajcaaa.fnExactIsTrackState
namespace Go.Proofs.Ytcppahkdfajcaaa
/-- The row, under a short name, for the claim. -/
theorem fnExactIsTrackState_holds : Rows.FnExactIsTrackStateSaid := fnExactIsTrackState.proved
end Go.Proofs.Ytcppahkdfajcaaa
