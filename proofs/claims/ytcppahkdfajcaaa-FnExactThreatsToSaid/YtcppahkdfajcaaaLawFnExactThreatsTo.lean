/- The row of the law FnExactThreatsTo, out of its pure statement and the walk of its Go text. No condition. -/
import Derived.Test.YtcppahkdfajcaaaRows
import Derived.Test.YtcppahkdfajcaaaELawThreatsTo
import Derived.Test.YtcppahkdfajcaaaPureFnExactThreatsTo
import Derived.Test.YtcppahkdfajcaaaRd
import Derived.Test.YtcppahkdfajcaaaClosed
import Derived.WalkKit
import Derived.ProofKit
import Derived.OpenShut
import Derived.ShutString
import Derived.ChangeOld
import Derived.Below
import Derived.SizedLaws
namespace Go.Proofs.Ytcppahkdfajcaaa.fnExactThreatsTo
open Go.ChangeShapes Go.WideShapes Go.ChangeAt Go.RowKit Go.Proofs.Ytcppahkdfajcaaa.Open Go.Proofs.Ytcppahkdfajcaaa.Rd Go.Proofs.Ytcppahkdfajcaaa.P Go.Proofs.YtcppahkdfajcaaaW.PrintWords
open Go.ChangeMaps (open_string shut_string)
set_option linter.unusedVariables false
theorem own : ownKnob Try.prog.godebug = none := by kernel_rfl
theorem laidOut : laidOutB Try.prog = true := Closed.g1
set_option maxRecDepth 100000 in
theorem lifted (os : Os) (started : os.Started) (H : Type) (enc : TypeId × Value → H) :
    ReturnsInHanded {} Try.checked os 13 .any (Rows.fnExactThreatsToSpec.pre6 enc Try.prog Try.f13 Rows.fnExactThreatsToRow.domain false) (Rows.fnExactThreatsToSpec.post enc Try.prog Try.f13 false true false false) := by
  refine returnsInHanded_of_change_sized (C := Try.checked) own started (by kernel_rfl) Try.func13
    (ChangeSpec.witness6 (enc := enc) (C := Try.checked) false ⟨#[], #[.agg #[.int .i64 0, .int .i64 0, .int .i64 0, .slice none 0 0, .slice none 0 0], .slice none 0 0, .int .i64 0], []⟩ 8 (by kernel_rfl) (by kernel_rfl) (by kernel_rfl) (by kernel_rfl)) ?_
  intro W base args ds gs before hval0 hW hcnd hsz0 _
  have hval : ∀ (j : Nat) t v, Try.f13.params[j]? = some t → args[j]? = some v → Value.okWide Try.prog W .any base t v := hval0
  have hW' := hW
  obtain ⟨p, q, hA0, hV, rfl, hfz, hnd⟩ := hW
  have hA : DataW.TrodAll enc Try.prog W 0 (fun _ => true) true Try.f13.params.toList args.toList ds p := hA0
  rw [Try.params13] at hA hval
  obtain ⟨v0, vs0, d0, ds0, p0, q0, hargs, rfl, rfl, h0, r0⟩ := trodAll_cons hA
  obtain ⟨v1, vs1, d1, ds1, p1, q1, rfl, rfl, rfl, h1, r1⟩ := trodAll_cons r0
  obtain ⟨v2, vs2, d2, ds2, p2, q2, rfl, rfl, rfl, h2, r2⟩ := trodAll_cons r1
  obtain ⟨rfl, rfl, rfl⟩ := trodAll_nil r2
  obtain rfl : args = #[v0, v1, v2] := by cases args; simp_all
  obtain ⟨rfl, rfl⟩ := trodVars_none hV
  have k0 := h0
  have lt0 : ∀ x ∈ p0, x.block < W.heap.size := by obtain ⟨m, hm⟩ := k0; exact DataW.trod_lt m _ _ _ hm
  obtain ⟨x0, cs0, rfl, hx0⟩ := rd_24.agg Try.underlying24 (hval 0 24 v0 rfl rfl) h0
  obtain ⟨A0_3, c0_3, A0_4, c0_4, rfl, hc0_3, hr0_3, hc0_4, hr0_4⟩ := k24_open hx0
  have k1 := h1
  have lt1 : ∀ x ∈ p1, x.block < W.heap.size := by obtain ⟨m, hm⟩ := k1; exact DataW.trod_lt m _ _ _ hm
  obtain ⟨b1, len1, cap1, rfl⟩ := okWide_slice Try.underlying34 (hval 1 34 v1 rfl rfl)
  obtain ⟨l1, A1, c1, e1, hc1, hr1⟩ := rd_34.param h1
  simp [Value.cells] at e1
  obtain ⟨rfl, rfl, rfl⟩ := e1
  obtain ⟨a2, rfl, rfl, rfl, w2⟩ := open_int Try.underlying3 (hval 2 3 v2 rfl rfl) h2
  clear hA0 hval0 hsz0
  obtain ⟨k, hk⟩ := Pure.FnExactThreatsTo x0.f0 x0.f1 x0.f2 x0.f3 x0.f4 l1 a2 hr0_3.2.1 hr0_4.2.1 hr1.2.1 (rows_short hr1) w2
  refine (laws_FnExactThreatsTo.calls k x0.f0 x0.f1 x0.f2 _ _ x0.f3 _ _ x0.f4 _ _ l1 a2 true W hr0_3 hc0_3 hr0_4 hc0_4 hr1 hc1 hk).mono fun e W' ⟨he, hd⟩ => ?_
  have bel : Below W.heap.size W W' := hd
  subst he
  exact ⟨_, rfl, _, _, _, [], _, [], hW', trodAll_mk1 (shut_bool Try.underlying4 _), (trodAll_cons_mk (Below.trod laidOut (by kernel_rfl) (of_decide_eq_true (by kernel_rfl)) k0 bel lt0) (trodAll_cons_mk (Below.trod laidOut (by kernel_rfl) (of_decide_eq_true (by kernel_rfl)) k1 bel lt1) (trodAll_cons_mk (shut_int Try.underlying3 w2) trodAll_mk0))), rfl, bel.frame _, fun h => by cases h⟩
theorem g0 : Rows.fnExactThreatsToRow.wf (OpenSpec.ofChange Rows.fnExactThreatsToSpec) = true := by kernel_rfl
theorem g3 : Try.f13.params.all (Try.prog.readableRec ·) = true := by kernel_rfl
theorem g4 : namedTie Try.prog Rows.fnExactThreatsToRow.named Rows.fnExactThreatsToSpec.vars = true := by kernel_rfl
theorem g5 : (Rows.fnExactThreatsToRow.stops == []) = true := by kernel_rfl
theorem g7 : (Rows.fnExactThreatsToRow.knobs == []) = true := by kernel_rfl
theorem g9 : (Rows.fnExactThreatsToRow.inPlace == Try.prog.inPlace 13) = true := by kernel_rfl
theorem g10 : (Rows.fnExactThreatsToRow.unfollowed == Try.prog.unfollowed 13) = true := by kernel_rfl
theorem g11 : (Rows.fnExactThreatsToRow.recurses == Try.prog.recurses 13) = true := by kernel_rfl
theorem g12 : (Rows.fnExactThreatsToRow.named == Try.prog.varsNamed 13) = true := by kernel_rfl
theorem g13 : (Rows.fnExactThreatsToRow.maps == (Try.f13.params.toList ++ Rows.fnExactThreatsToSpec.plain.varTypes Try.prog).any (Try.prog.mapsRec ·)) = true := by kernel_rfl
theorem g14 : (Rows.fnExactThreatsToRow.ifaces == (Try.f13.params.toList ++ Rows.fnExactThreatsToSpec.plain.varTypes Try.prog).any (Try.prog.ifacesRec ·)) = true := by kernel_rfl
theorem g15 : (Rows.fnExactThreatsToRow.mapsOut == Try.prog.mapsAmong Try.f13.resultTypes.toList) = true := by kernel_rfl
theorem g16 : (Rows.fnExactThreatsToRow.loops == (Try.f13.params.toList ++ Rows.fnExactThreatsToSpec.plain.varTypes Try.prog).any (Try.prog.loopsFrom ·)) = true := by kernel_rfl
theorem g17 : (Rows.fnExactThreatsToRow.wideKeys == (Try.f13.params.toList ++ Rows.fnExactThreatsToSpec.plain.varTypes Try.prog ++ Try.f13.resultTypes.toList).any (Try.prog.wideKeysFrom ·)) = true := by kernel_rfl
theorem g18 : Rows.fnExactThreatsToSpec.vars.all (Try.prog.varReadable ·) = true := by kernel_rfl
theorem g19 : Try.f13.resultTypes.all (fun t => Try.prog.readableRec t && decide (t < Try.prog.types.size)) = true := by kernel_rfl
theorem g20 : (Rows.fnExactThreatsToRow.ifacesOut == Try.f13.resultTypes.toList.any (Try.prog.ifacesRec ·)) = true := by kernel_rfl
theorem g21 : (Rows.fnExactThreatsToRow.loopsOut == Try.f13.resultTypes.toList.any (Try.prog.loopsFrom ·)) = true := by kernel_rfl
theorem g23 : Rows.fnExactThreatsToRow.shortTexts.isNone = true := by kernel_rfl
theorem g28 : (Rows.fnExactThreatsToRow.kinds == (if Rows.fnExactThreatsToRow.domain.isEmpty then [] else Try.f13.params.toList.map fun t => match Try.prog.underlying t with | some (.int k) => some k | _ => none)) = true := by kernel_rfl
theorem g29 : (Rows.fnExactThreatsToRow.pinned == Rows.fnExactThreatsToRow.pinnedBy) = true := by kernel_rfl
theorem g30 : (Rows.fnExactThreatsToRow.veiled == (Try.f13.params.toList ++ Rows.fnExactThreatsToSpec.plain.varTypes Try.prog ++ Try.f13.resultTypes.toList).any (Try.prog.veiledRec ·)) = true := by kernel_rfl
theorem g31 : Rows.fnExactThreatsToRow.veiledFits Try.prog Try.f13.params.toList (Try.f13.params.toList ++ Rows.fnExactThreatsToSpec.plain.varTypes Try.prog ++ Try.f13.resultTypes.toList) = true := by kernel_rfl
set_option maxRecDepth 100000 in
theorem joined : joinedFacts Try.prog 13 Try.f13 Rows.fnExactThreatsToSpec Rows.fnExactThreatsToRow = true := (Closed.both (Closed.both (Closed.both (Closed.both (Closed.both (Closed.both (Closed.both (Closed.both (Closed.both (Closed.both (Closed.both (Closed.both (Closed.both (Closed.both (Closed.both (Closed.both (Closed.both (Closed.both (Closed.both (Closed.both (Closed.both (Closed.both (Closed.both (Closed.both (Closed.both (Closed.both (Closed.both (Closed.both (Closed.both (Closed.both (Closed.both g0 Closed.g1) Closed.g2) g3) g4) g5) Closed.g6) g7) Closed.g8) g9) g10) g11) g12) g13) g14) g15) g16) g17) g18) g19) g20) g21) Closed.g22) g23) Closed.g24) Closed.g25) Closed.g26) Closed.g27) g28) g29) g30) g31)
theorem named : Try.pinned.checked.prog.funcNamed Rows.fnExactThreatsToRow.func = some 13 := by kernel_rfl
theorem over : Rows.fnExactThreatsToRow.holds Try.pinned (OpenSpec.ofChange Rows.fnExactThreatsToSpec) :=
  OpenClaim.holds_of_wide 13 Try.f13 rfl rfl rfl rfl rfl rfl rfl ⟨rfl, rfl, rfl, rfl, rfl⟩ rfl rfl rfl rfl rfl named Try.func13 joined
    (of_decide_eq_true (by kernel_rfl)) (by unfold Func.isWrapper; first | (rw [if_pos (by decide +kernel)]; kernel_rfl) | (rw [if_neg (by decide +kernel)]; exact ⟨rfl, rfl⟩))
    (fun os started H enc _ => lifted os started H enc)
theorem proved : Rows.FnExactThreatsToSaid := over
#print axioms proved
end Go.Proofs.Ytcppahkdfajcaaa.fnExactThreatsTo
namespace Go.Proofs.Ytcppahkdfajcaaa
/-- The row, under a short name, for the claim. -/
theorem fnExactThreatsTo_holds : Rows.FnExactThreatsToSaid := fnExactThreatsTo.proved
end Go.Proofs.Ytcppahkdfajcaaa
