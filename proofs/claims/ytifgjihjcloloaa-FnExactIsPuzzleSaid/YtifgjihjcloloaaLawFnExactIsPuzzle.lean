/- The row of the law FnExactIsPuzzle, out of its pure statement and the walk of its Go text. No condition. -/
import Derived.Test.YtifgjihjcloloaaRows
import Derived.Test.YtifgjihjcloloaaP6
import Derived.Test.YtifgjihjcloloaaPureFnExactIsPuzzle
import Derived.Test.YtifgjihjcloloaaRd
import Derived.Test.YtifgjihjcloloaaClosed
import Derived.WalkKit
import Derived.ProofKit
import Derived.OpenShut
import Derived.ShutString
import Derived.ChangeOld
import Derived.Below
import Derived.SizedLaws
namespace Go.Proofs.Ytifgjihjcloloaa.fnExactIsPuzzle
open Go.ChangeShapes Go.WideShapes Go.ChangeAt Go.RowKit Go.Proofs.Ytifgjihjcloloaa.Open Go.Proofs.Ytifgjihjcloloaa.Rd Go.Proofs.Ytifgjihjcloloaa.P Go.Proofs.YtifgjihjcloloaaW.PrintWords
open Go.ChangeMaps (open_string shut_string)
set_option linter.unusedVariables false
theorem own : ownKnob Try.prog.godebug = none := by kernel_rfl
theorem laidOut : laidOutB Try.prog = true := Closed.g1
set_option maxRecDepth 100000 in
theorem lifted (os : Os) (started : os.Started) (H : Type) (enc : TypeId × Value → H) :
    ReturnsInHanded {} Try.checked os 6 .any (Rows.fnExactIsPuzzleSpec.pre6 enc Try.prog Try.f6 Rows.fnExactIsPuzzleRow.domain false) (Rows.fnExactIsPuzzleSpec.post enc Try.prog Try.f6 false true false false) := by
  refine returnsInHanded_of_change_sized (C := Try.checked) own started (by kernel_rfl) Try.func6
    (ChangeSpec.witness6 (enc := enc) (C := Try.checked) false ⟨#[], #[.agg #[.int .i64 0, .int .i64 0, .slice none 0 0]], []⟩ 8 (by kernel_rfl) (by kernel_rfl) (by kernel_rfl) (by kernel_rfl)) ?_
  intro W base args ds gs before hval0 hW hcnd hsz0 _
  have hval : ∀ (j : Nat) t v, Try.f6.params[j]? = some t → args[j]? = some v → Value.okWide Try.prog W .any base t v := hval0
  have hW' := hW
  obtain ⟨p, q, hA0, hV, rfl, hfz, hnd⟩ := hW
  have hA : DataW.TrodAll enc Try.prog W 0 (fun _ => true) true Try.f6.params.toList args.toList ds p := hA0
  rw [Try.params6] at hA hval
  obtain ⟨v0, vs0, d0, ds0, p0, q0, hargs, rfl, rfl, h0, r0⟩ := trodAll_cons hA
  obtain ⟨rfl, rfl, rfl⟩ := trodAll_nil r0
  obtain rfl : args = #[v0] := by cases args; simp_all
  obtain ⟨rfl, rfl⟩ := trodVars_none hV
  have k0 := h0
  have lt0 : ∀ x ∈ p0, x.block < W.heap.size := by obtain ⟨m, hm⟩ := k0; exact DataW.trod_lt m _ _ _ hm
  obtain ⟨x0, cs0, rfl, hx0⟩ := rd_33.agg Try.underlying33 (hval 0 33 v0 rfl rfl) h0
  obtain ⟨A0_2, c0_2, rfl, hc0_2, hr0_2⟩ := k33_open hx0
  clear hA0 hval0 hsz0
  obtain ⟨k, hk⟩ := Pure.FnExactIsPuzzle x0.f0 x0.f1 x0.f2 hr0_2.2.1
  refine (laws_FnExactIsPuzzle.calls k x0.f0 x0.f1 _ _ x0.f2 true W hr0_2 hc0_2 hk).mono fun e W' ⟨he, hd⟩ => ?_
  have bel : Below W.heap.size W W' := hd
  subst he
  exact ⟨_, rfl, _, _, _, [], _, [], hW', trodAll_mk1 (shut_bool Try.underlying4 _), (trodAll_cons_mk (Below.trod laidOut (by kernel_rfl) (of_decide_eq_true (by kernel_rfl)) k0 bel lt0) trodAll_mk0), rfl, bel.frame _, fun h => by cases h⟩
theorem g0 : Rows.fnExactIsPuzzleRow.wf (OpenSpec.ofChange Rows.fnExactIsPuzzleSpec) = true := by kernel_rfl
theorem g3 : Try.f6.params.all (Try.prog.readableRec ·) = true := by kernel_rfl
theorem g4 : namedTie Try.prog Rows.fnExactIsPuzzleRow.named Rows.fnExactIsPuzzleSpec.vars = true := by kernel_rfl
theorem g5 : (Rows.fnExactIsPuzzleRow.stops == []) = true := by kernel_rfl
theorem g7 : (Rows.fnExactIsPuzzleRow.knobs == []) = true := by kernel_rfl
theorem g9 : (Rows.fnExactIsPuzzleRow.inPlace == Try.prog.inPlace 6) = true := by kernel_rfl
theorem g10 : (Rows.fnExactIsPuzzleRow.unfollowed == Try.prog.unfollowed 6) = true := by kernel_rfl
theorem g11 : (Rows.fnExactIsPuzzleRow.recurses == Try.prog.recurses 6) = true := by kernel_rfl
theorem g12 : (Rows.fnExactIsPuzzleRow.named == Try.prog.varsNamed 6) = true := by kernel_rfl
theorem g13 : (Rows.fnExactIsPuzzleRow.maps == (Try.f6.params.toList ++ Rows.fnExactIsPuzzleSpec.plain.varTypes Try.prog).any (Try.prog.mapsRec ·)) = true := by kernel_rfl
theorem g14 : (Rows.fnExactIsPuzzleRow.ifaces == (Try.f6.params.toList ++ Rows.fnExactIsPuzzleSpec.plain.varTypes Try.prog).any (Try.prog.ifacesRec ·)) = true := by kernel_rfl
theorem g15 : (Rows.fnExactIsPuzzleRow.mapsOut == Try.prog.mapsAmong Try.f6.resultTypes.toList) = true := by kernel_rfl
theorem g16 : (Rows.fnExactIsPuzzleRow.loops == (Try.f6.params.toList ++ Rows.fnExactIsPuzzleSpec.plain.varTypes Try.prog).any (Try.prog.loopsFrom ·)) = true := by kernel_rfl
theorem g17 : (Rows.fnExactIsPuzzleRow.wideKeys == (Try.f6.params.toList ++ Rows.fnExactIsPuzzleSpec.plain.varTypes Try.prog ++ Try.f6.resultTypes.toList).any (Try.prog.wideKeysFrom ·)) = true := by kernel_rfl
theorem g18 : Rows.fnExactIsPuzzleSpec.vars.all (Try.prog.varReadable ·) = true := by kernel_rfl
theorem g19 : Try.f6.resultTypes.all (fun t => Try.prog.readableRec t && decide (t < Try.prog.types.size)) = true := by kernel_rfl
theorem g20 : (Rows.fnExactIsPuzzleRow.ifacesOut == Try.f6.resultTypes.toList.any (Try.prog.ifacesRec ·)) = true := by kernel_rfl
theorem g21 : (Rows.fnExactIsPuzzleRow.loopsOut == Try.f6.resultTypes.toList.any (Try.prog.loopsFrom ·)) = true := by kernel_rfl
theorem g23 : Rows.fnExactIsPuzzleRow.shortTexts.isNone = true := by kernel_rfl
theorem g28 : (Rows.fnExactIsPuzzleRow.kinds == (if Rows.fnExactIsPuzzleRow.domain.isEmpty then [] else Try.f6.params.toList.map fun t => match Try.prog.underlying t with | some (.int k) => some k | _ => none)) = true := by kernel_rfl
theorem g29 : (Rows.fnExactIsPuzzleRow.pinned == Rows.fnExactIsPuzzleRow.pinnedBy) = true := by kernel_rfl
theorem g30 : (Rows.fnExactIsPuzzleRow.veiled == (Try.f6.params.toList ++ Rows.fnExactIsPuzzleSpec.plain.varTypes Try.prog ++ Try.f6.resultTypes.toList).any (Try.prog.veiledRec ·)) = true := by kernel_rfl
theorem g31 : Rows.fnExactIsPuzzleRow.veiledFits Try.prog Try.f6.params.toList (Try.f6.params.toList ++ Rows.fnExactIsPuzzleSpec.plain.varTypes Try.prog ++ Try.f6.resultTypes.toList) = true := by kernel_rfl
set_option maxRecDepth 100000 in
theorem joined : joinedFacts Try.prog 6 Try.f6 Rows.fnExactIsPuzzleSpec Rows.fnExactIsPuzzleRow = true := (Closed.both (Closed.both (Closed.both (Closed.both (Closed.both (Closed.both (Closed.both (Closed.both (Closed.both (Closed.both (Closed.both (Closed.both (Closed.both (Closed.both (Closed.both (Closed.both (Closed.both (Closed.both (Closed.both (Closed.both (Closed.both (Closed.both (Closed.both (Closed.both (Closed.both (Closed.both (Closed.both (Closed.both (Closed.both (Closed.both (Closed.both g0 Closed.g1) Closed.g2) g3) g4) g5) Closed.g6) g7) Closed.g8) g9) g10) g11) g12) g13) g14) g15) g16) g17) g18) g19) g20) g21) Closed.g22) g23) Closed.g24) Closed.g25) Closed.g26) Closed.g27) g28) g29) g30) g31)
theorem named : Try.pinned.checked.prog.funcNamed Rows.fnExactIsPuzzleRow.func = some 6 := by kernel_rfl
theorem over : Rows.fnExactIsPuzzleRow.holds Try.pinned (OpenSpec.ofChange Rows.fnExactIsPuzzleSpec) :=
  OpenClaim.holds_of_wide 6 Try.f6 rfl rfl rfl rfl rfl rfl rfl ⟨rfl, rfl, rfl, rfl, rfl⟩ rfl rfl rfl rfl rfl named Try.func6 joined
    (of_decide_eq_true (by kernel_rfl)) (by unfold Func.isWrapper; first | (rw [if_pos (by decide +kernel)]; kernel_rfl) | (rw [if_neg (by decide +kernel)]; exact ⟨rfl, rfl⟩))
    (fun os started H enc _ => lifted os started H enc)
theorem proved : Rows.FnExactIsPuzzleSaid := over
#print axioms proved
end Go.Proofs.Ytifgjihjcloloaa.fnExactIsPuzzle
namespace Go.Proofs.Ytifgjihjcloloaa
/-- The row, under a short name, for the claim. -/
theorem fnExactIsPuzzle_holds : Rows.FnExactIsPuzzleSaid := fnExactIsPuzzle.proved
end Go.Proofs.Ytifgjihjcloloaa
