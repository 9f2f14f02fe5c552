/- The row of the law FnExactIsClue, out of its pure statement and the walk of its Go text. No condition. -/
import Derived.Test.YtifgjihjcloloaaRows
import Derived.Test.YtifgjihjcloloaaP4
import Derived.Test.YtifgjihjcloloaaPureFnExactIsClue
import Derived.Test.YtifgjihjcloloaaRd
import Derived.Test.YtifgjihjcloloaaClosed
import Derived.WalkKit
import Derived.ProofKit
import Derived.OpenShut
import Derived.ShutString
import Derived.ChangeOld
import Derived.Below
import Derived.SizedLaws
namespace Go.Proofs.Ytifgjihjcloloaa.fnExactIsClue
open Go.ChangeShapes Go.WideShapes Go.ChangeAt Go.RowKit Go.Proofs.Ytifgjihjcloloaa.Open Go.Proofs.Ytifgjihjcloloaa.Rd Go.Proofs.Ytifgjihjcloloaa.P Go.Proofs.YtifgjihjcloloaaW.PrintWords
open Go.ChangeMaps (open_string shut_string)
set_option linter.unusedVariables false
theorem own : ownKnob Try.prog.godebug = none := by kernel_rfl
theorem laidOut : laidOutB Try.prog = true := Closed.g1
set_option maxRecDepth 100000 in
theorem lifted (os : Os) (started : os.Started) (H : Type) (enc : TypeId × Value → H) :
    ReturnsInHanded {} Try.checked os 4 .any (Rows.fnExactIsClueSpec.pre6 enc Try.prog Try.f4 Rows.fnExactIsClueRow.domain false) (Rows.fnExactIsClueSpec.post enc Try.prog Try.f4 false true false false) := by
  refine returnsInHanded_of_change_sized (C := Try.checked) own started (by kernel_rfl) Try.func4
    (ChangeSpec.witness6 (enc := enc) (C := Try.checked) false ⟨#[], #[.int .i64 0, .int .i64 0, .agg #[.int .i64 0, .int .i64 0, .int .i64 0, .int .i64 0]], []⟩ 8 (by kernel_rfl) (by kernel_rfl) (by kernel_rfl) (by kernel_rfl)) ?_
  intro W base args ds gs before hval0 hW hcnd hsz0 _
  have hval : ∀ (j : Nat) t v, Try.f4.params[j]? = some t → args[j]? = some v → Value.okWide Try.prog W .any base t v := hval0
  have hW' := hW
  obtain ⟨p, q, hA0, hV, rfl, hfz, hnd⟩ := hW
  have hA : DataW.TrodAll enc Try.prog W 0 (fun _ => true) true Try.f4.params.toList args.toList ds p := hA0
  rw [Try.params4] at hA hval
  obtain ⟨v0, vs0, d0, ds0, p0, q0, hargs, rfl, rfl, h0, r0⟩ := trodAll_cons hA
  obtain ⟨v1, vs1, d1, ds1, p1, q1, rfl, rfl, rfl, h1, r1⟩ := trodAll_cons r0
  obtain ⟨v2, vs2, d2, ds2, p2, q2, rfl, rfl, rfl, h2, r2⟩ := trodAll_cons r1
  obtain ⟨rfl, rfl, rfl⟩ := trodAll_nil r2
  obtain rfl : args = #[v0, v1, v2] := by cases args; simp_all
  obtain ⟨rfl, rfl⟩ := trodVars_none hV
  obtain ⟨a0, rfl, rfl, rfl, w0⟩ := open_int Try.underlying3 (hval 0 3 v0 rfl rfl) h0
  obtain ⟨a1, rfl, rfl, rfl, w1⟩ := open_int Try.underlying3 (hval 1 3 v1 rfl rfl) h1
  have k2 := h2
  have lt2 : ∀ x ∈ p2, x.block < W.heap.size := by obtain ⟨m, hm⟩ := k2; exact DataW.trod_lt m _ _ _ hm
  obtain ⟨x2, cs2, rfl, hx2⟩ := rd_26.agg Try.underlying26 (hval 2 26 v2 rfl rfl) h2
  obtain rfl := k26_open hx2
  clear hA0 hval0 hsz0
  obtain ⟨k, hk⟩ := Pure.FnExactIsClue a0 a1 x2.f0 x2.f1 x2.f2 x2.f3 w0 w1
  refine (laws_FnExactIsClue.calls k a0 a1 x2.f0 x2.f1 x2.f2 x2.f3 true W  hk).mono fun e W' ⟨he, hd⟩ => ?_
  have bel : Below W.heap.size W W' := hd
  subst he
  exact ⟨_, rfl, _, _, _, [], _, [], hW', trodAll_mk1 (shut_bool Try.underlying4 _), (trodAll_cons_mk (shut_int Try.underlying3 w0) (trodAll_cons_mk (shut_int Try.underlying3 w1) (trodAll_cons_mk (Below.trod laidOut (by kernel_rfl) (of_decide_eq_true (by kernel_rfl)) k2 bel lt2) trodAll_mk0))), rfl, bel.frame _, fun h => by cases h⟩
theorem g0 : Rows.fnExactIsClueRow.wf (OpenSpec.ofChange Rows.fnExactIsClueSpec) = true := by kernel_rfl
theorem g3 : Try.f4.params.all (Try.prog.readableRec ·) = true := by kernel_rfl
theorem g4 : namedTie Try.prog Rows.fnExactIsClueRow.named Rows.fnExactIsClueSpec.vars = true := by kernel_rfl
theorem g5 : (Rows.fnExactIsClueRow.stops == []) = true := by kernel_rfl
theorem g7 : (Rows.fnExactIsClueRow.knobs == []) = true := by kernel_rfl
theorem g9 : (Rows.fnExactIsClueRow.inPlace == Try.prog.inPlace 4) = true := by kernel_rfl
theorem g10 : (Rows.fnExactIsClueRow.unfollowed == Try.prog.unfollowed 4) = true := by kernel_rfl
theorem g11 : (Rows.fnExactIsClueRow.recurses == Try.prog.recurses 4) = true := by kernel_rfl
theorem g12 : (Rows.fnExactIsClueRow.named == Try.prog.varsNamed 4) = true := by kernel_rfl
theorem g13 : (Rows.fnExactIsClueRow.maps == (Try.f4.params.toList ++ Rows.fnExactIsClueSpec.plain.varTypes Try.prog).any (Try.prog.mapsRec ·)) = true := by kernel_rfl
theorem g14 : (Rows.fnExactIsClueRow.ifaces == (Try.f4.params.toList ++ Rows.fnExactIsClueSpec.plain.varTypes Try.prog).any (Try.prog.ifacesRec ·)) = true := by kernel_rfl
theorem g15 : (Rows.fnExactIsClueRow.mapsOut == Try.prog.mapsAmong Try.f4.resultTypes.toList) = true := by kernel_rfl
theorem g16 : (Rows.fnExactIsClueRow.loops == (Try.f4.params.toList ++ Rows.fnExactIsClueSpec.plain.varTypes Try.prog).any (Try.prog.loopsFrom ·)) = true := by kernel_rfl
theorem g17 : (Rows.fnExactIsClueRow.wideKeys == (Try.f4.params.toList ++ Rows.fnExactIsClueSpec.plain.varTypes Try.prog ++ Try.f4.resultTypes.toList).any (Try.prog.wideKeysFrom ·)) = true := by kernel_rfl
theorem g18 : Rows.fnExactIsClueSpec.vars.all (Try.prog.varReadable ·) = true := by kernel_rfl
theorem g19 : Try.f4.resultTypes.all (fun t => Try.prog.readableRec t && decide (t < Try.prog.types.size)) = true := by kernel_rfl
theorem g20 : (Rows.fnExactIsClueRow.ifacesOut == Try.f4.resultTypes.toList.any (Try.prog.ifacesRec ·)) = true := by kernel_rfl
theorem g21 : (Rows.fnExactIsClueRow.loopsOut == Try.f4.resultTypes.toList.any (Try.prog.loopsFrom ·)) = true := by kernel_rfl
theorem g23 : Rows.fnExactIsClueRow.shortTexts.isNone = true := by kernel_rfl
theorem g28 : (Rows.fnExactIsClueRow.kinds == (if Rows.fnExactIsClueRow.domain.isEmpty then [] else Try.f4.params.toList.map fun t => match Try.prog.underlying t with | some (.int k) => some k | _ => none)) = true := by kernel_rfl
theorem g29 : (Rows.fnExactIsClueRow.pinned == Rows.fnExactIsClueRow.pinnedBy) = true := by kernel_rfl
theorem g30 : (Rows.fnExactIsClueRow.veiled == (Try.f4.params.toList ++ Rows.fnExactIsClueSpec.plain.varTypes Try.prog ++ Try.f4.resultTypes.toList).any (Try.prog.veiledRec ·)) = true := by kernel_rfl
theorem g31 : Rows.fnExactIsClueRow.veiledFits Try.prog Try.f4.params.toList (Try.f4.params.toList ++ Rows.fnExactIsClueSpec.plain.varTypes Try.prog ++ Try.f4.resultTypes.toList) = true := by kernel_rfl
set_option maxRecDepth 100000 in
theorem joined : joinedFacts Try.prog 4 Try.f4 Rows.fnExactIsClueSpec Rows.fnExactIsClueRow = true := (Closed.both (Closed.both (Closed.both (Closed.both (Closed.both (Closed.both (Closed.both (Closed.both (Closed.both (Closed.both (Closed.both (Closed.both (Closed.both (Closed.both (Closed.both (Closed.both (Closed.both (Closed.both (Closed.both (Closed.both (Closed.both (Closed.both (Closed.both (Closed.both (Closed.both (Closed.both (Closed.both (Closed.both (Closed.both (Closed.both (Closed.both g0 Closed.g1) Closed.g2) g3) g4) g5) Closed.g6) g7) Closed.g8) g9) g10) g11) g12) g13) g14) g15) g16) g17) g18) g19) g20) g21) Closed.g22) g23) Closed.g24) Closed.g25) Closed.g26) Closed.g27) g28) g29) g30) g31)
theorem named : Try.pinned.checked.prog.funcNamed Rows.fnExactIsClueRow.func = some 4 := by kernel_rfl
theorem over : Rows.fnExactIsClueRow.holds Try.pinned (OpenSpec.ofChange Rows.fnExactIsClueSpec) :=
  OpenClaim.holds_of_wide 4 Try.f4 rfl rfl rfl rfl rfl rfl rfl ⟨rfl, rfl, rfl, rfl, rfl⟩ rfl rfl rfl rfl rfl named Try.func4 joined
    (of_decide_eq_true (by kernel_rfl)) (by unfold Func.isWrapper; first | (rw [if_pos (by decide +kernel)]; kernel_rfl) | (rw [if_neg (by decide +kernel)]; exact ⟨rfl, rfl⟩))
    (fun os started H enc _ => lifted os started H enc)
theorem proved : Rows.FnExactIsClueSaid := over
#print axioms proved
end Go.Proofs.Ytifgjihjcloloaa.fnExactIsClue
namespace Go.Proofs.Ytifgjihjcloloaa
/-- The row, under a short name, for the claim. -/
theorem fnExactIsClue_holds : Rows.FnExactIsClueSaid := fnExactIsClue.proved
end Go.Proofs.Ytifgjihjcloloaa
