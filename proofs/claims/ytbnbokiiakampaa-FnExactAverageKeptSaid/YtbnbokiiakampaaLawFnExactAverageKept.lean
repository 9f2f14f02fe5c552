/- The row of the law FnExactAverageKept, out of its pure statement and the walk of its Go text. No condition. -/
import Derived.Test.YtbnbokiiakampaaRows
import Derived.Test.YtbnbokiiakampaaP23
import Derived.Test.YtbnbokiiakampaaPureFnExactAverageKept
import Derived.Test.YtbnbokiiakampaaRd
import Derived.Test.YtbnbokiiakampaaClosed
import Derived.WalkKit
import Derived.ProofKit
import Derived.OpenShut
import Derived.ShutString
import Derived.ChangeOld
import Derived.Below
import Derived.SizedLaws
namespace Go.Proofs.Ytbnbokiiakampaa.fnExactAverageKept
open Go.ChangeShapes Go.WideShapes Go.ChangeAt Go.RowKit Go.Proofs.Ytbnbokiiakampaa.Open Go.Proofs.Ytbnbokiiakampaa.Rd Go.Proofs.Ytbnbokiiakampaa.P Go.Proofs.YtbnbokiiakampaaW.PrintWords
open Go.ChangeMaps (open_string shut_string)
set_option linter.unusedVariables false
theorem own : ownKnob Try.prog.godebug = none := by kernel_rfl
set_option maxRecDepth 100000 in
theorem lifted (os : Os) (started : os.Started) (H : Type) (enc : TypeId × Value → H) :
    ReturnsInHanded {} Try.checked os 8 .any (Rows.fnExactAverageKeptSpec.pre6 enc Try.prog Try.f8 Rows.fnExactAverageKeptRow.domain false) (Rows.fnExactAverageKeptSpec.post enc Try.prog Try.f8 false true false false) := by
  refine returnsInHanded_of_change_sized (C := Try.checked) own started (by kernel_rfl) Try.func8
    (ChangeSpec.witness6 (enc := enc) (C := Try.checked) false ⟨#[], #[.int .i64 0, .int .i64 0, .int .i64 0], []⟩ 8 (by kernel_rfl) (by kernel_rfl) (by kernel_rfl) (by kernel_rfl)) ?_
  intro W base args ds gs before hval0 hW hcnd hsz0 _
  have hval : ∀ (j : Nat) t v, Try.f8.params[j]? = some t → args[j]? = some v → Value.okWide Try.prog W .any base t v := hval0
  have hW' := hW
  obtain ⟨p, q, hA0, hV, rfl, hfz, hnd⟩ := hW
  have hA : DataW.TrodAll enc Try.prog W 0 (fun _ => true) true Try.f8.params.toList args.toList ds p := hA0
  rw [Try.params8] at hA hval
  obtain ⟨v0, vs0, d0, ds0, p0, q0, hargs, rfl, rfl, h0, r0⟩ := trodAll_cons hA
  obtain ⟨v1, vs1, d1, ds1, p1, q1, rfl, rfl, rfl, h1, r1⟩ := trodAll_cons r0
  obtain ⟨v2, vs2, d2, ds2, p2, q2, rfl, rfl, rfl, h2, r2⟩ := trodAll_cons r1
  obtain ⟨rfl, rfl, rfl⟩ := trodAll_nil r2
  obtain rfl : args = #[v0, v1, v2] := by cases args; simp_all
  obtain ⟨rfl, rfl⟩ := trodVars_none hV
  obtain ⟨a0, rfl, rfl, rfl, w0⟩ := open_int Try.underlying3 (hval 0 3 v0 rfl rfl) h0
  obtain ⟨a1, rfl, rfl, rfl, w1⟩ := open_int Try.underlying3 (hval 1 3 v1 rfl rfl) h1
  obtain ⟨a2, rfl, rfl, rfl, w2⟩ := open_int Try.underlying3 (hval 2 3 v2 rfl rfl) h2
  clear hA0 hval0 hsz0
  obtain ⟨k, hk⟩ := Pure.FnExactAverageKept a0 a1 a2 w0 w1 w2
  refine (laws_FnExactAverageKept.calls k a0 a1 a2 true W  hk).mono fun e W' ⟨he, hd⟩ => ?_
  have bel : Below W.heap.size W W' := hd
  subst he
  exact ⟨_, rfl, _, _, _, [], _, [], hW', trodAll_mk1 (shut_bool Try.underlying4 _), (trodAll_cons_mk (shut_int Try.underlying3 w0) (trodAll_cons_mk (shut_int Try.underlying3 w1) (trodAll_cons_mk (shut_int Try.underlying3 w2) trodAll_mk0))), rfl, bel.frame _, fun h => by cases h⟩
theorem g0 : Rows.fnExactAverageKeptRow.wf (OpenSpec.ofChange Rows.fnExactAverageKeptSpec) = true := by kernel_rfl
theorem g3 : Try.f8.params.all (Try.prog.readableRec ·) = true := by kernel_rfl
theorem g4 : namedTie Try.prog Rows.fnExactAverageKeptRow.named Rows.fnExactAverageKeptSpec.vars = true := by kernel_rfl
theorem g5 : (Rows.fnExactAverageKeptRow.stops == []) = true := by kernel_rfl
theorem g7 : (Rows.fnExactAverageKeptRow.knobs == []) = true := by kernel_rfl
theorem g9 : (Rows.fnExactAverageKeptRow.inPlace == Try.prog.inPlace 8) = true := by kernel_rfl
theorem g10 : (Rows.fnExactAverageKeptRow.unfollowed == Try.prog.unfollowed 8) = true := by kernel_rfl
theorem g11 : (Rows.fnExactAverageKeptRow.recurses == Try.prog.recurses 8) = true := by kernel_rfl
theorem g12 : (Rows.fnExactAverageKeptRow.named == Try.prog.varsNamed 8) = true := by kernel_rfl
theorem g13 : (Rows.fnExactAverageKeptRow.maps == (Try.f8.params.toList ++ Rows.fnExactAverageKeptSpec.plain.varTypes Try.prog).any (Try.prog.mapsRec ·)) = true := by kernel_rfl
theorem g14 : (Rows.fnExactAverageKeptRow.ifaces == (Try.f8.params.toList ++ Rows.fnExactAverageKeptSpec.plain.varTypes Try.prog).any (Try.prog.ifacesRec ·)) = true := by kernel_rfl
theorem g15 : (Rows.fnExactAverageKeptRow.mapsOut == Try.prog.mapsAmong Try.f8.resultTypes.toList) = true := by kernel_rfl
theorem g16 : (Rows.fnExactAverageKeptRow.loops == (Try.f8.params.toList ++ Rows.fnExactAverageKeptSpec.plain.varTypes Try.prog).any (Try.prog.loopsFrom ·)) = true := by kernel_rfl
theorem g17 : (Rows.fnExactAverageKeptRow.wideKeys == (Try.f8.params.toList ++ Rows.fnExactAverageKeptSpec.plain.varTypes Try.prog ++ Try.f8.resultTypes.toList).any (Try.prog.wideKeysFrom ·)) = true := by kernel_rfl
theorem g18 : Rows.fnExactAverageKeptSpec.vars.all (Try.prog.varReadable ·) = true := by kernel_rfl
theorem g19 : Try.f8.resultTypes.all (fun t => Try.prog.readableRec t && decide (t < Try.prog.types.size)) = true := by kernel_rfl
theorem g20 : (Rows.fnExactAverageKeptRow.ifacesOut == Try.f8.resultTypes.toList.any (Try.prog.ifacesRec ·)) = true := by kernel_rfl
theorem g21 : (Rows.fnExactAverageKeptRow.loopsOut == Try.f8.resultTypes.toList.any (Try.prog.loopsFrom ·)) = true := by kernel_rfl
theorem g23 : Rows.fnExactAverageKeptRow.shortTexts.isNone = true := by kernel_rfl
theorem g28 : (Rows.fnExactAverageKeptRow.kinds == (if Rows.fnExactAverageKeptRow.domain.isEmpty then [] else Try.f8.params.toList.map fun t => match Try.prog.underlying t with | some (.int k) => some k | _ => none)) = true := by kernel_rfl
theorem g29 : (Rows.fnExactAverageKeptRow.pinned == Rows.fnExactAverageKeptRow.pinnedBy) = true := by kernel_rfl
theorem g30 : (Rows.fnExactAverageKeptRow.veiled == (Try.f8.params.toList ++ Rows.fnExactAverageKeptSpec.plain.varTypes Try.prog ++ Try.f8.resultTypes.toList).any (Try.prog.veiledRec ·)) = true := by kernel_rfl
theorem g31 : Rows.fnExactAverageKeptRow.veiledFits Try.prog Try.f8.params.toList (Try.f8.params.toList ++ Rows.fnExactAverageKeptSpec.plain.varTypes Try.prog ++ Try.f8.resultTypes.toList) = true := by kernel_rfl
set_option maxRecDepth 100000 in
theorem joined : joinedFacts Try.prog 8 Try.f8 Rows.fnExactAverageKeptSpec Rows.fnExactAverageKeptRow = true := (Closed.both (Closed.both (Closed.both (Closed.both (Closed.both (Closed.both (Closed.both (Closed.both (Closed.both (Closed.both (Closed.both (Closed.both (Closed.both (Closed.both (Closed.both (Closed.both (Closed.both (Closed.both (Closed.both (Closed.both (Closed.both (Closed.both (Closed.both (Closed.both (Closed.both (Closed.both (Closed.both (Closed.both (Closed.both (Closed.both (Closed.both g0 Closed.g1) Closed.g2) g3) g4) g5) Closed.g6) g7) Closed.g8) g9) g10) g11) g12) g13) g14) g15) g16) g17) g18) g19) g20) g21) Closed.g22) g23) Closed.g24) Closed.g25) Closed.g26) Closed.g27) g28) g29) g30) g31)
theorem named : Try.pinned.checked.prog.funcNamed Rows.fnExactAverageKeptRow.func = some 8 := by kernel_rfl
theorem over : Rows.fnExactAverageKeptRow.holds Try.pinned (OpenSpec.ofChange Rows.fnExactAverageKeptSpec) :=
  OpenClaim.holds_of_wide 8 Try.f8 rfl rfl rfl rfl rfl rfl rfl ⟨rfl, rfl, rfl, rfl, rfl⟩ rfl rfl rfl rfl rfl named Try.func8 joined
    (of_decide_eq_true (by kernel_rfl)) (by unfold Func.isWrapper; first | (rw [if_pos (by decide +kernel)]; kernel_rfl) | (rw [if_neg (by decide +kernel)]; exact ⟨rfl, rfl⟩))
    (fun os started H enc _ => lifted os started H enc)
theorem proved : Rows.FnExactAverageKeptSaid := over
#print axioms proved
end Go.Proofs.Ytbnbokiiakampaa.fnExactAverageKept
namespace Go.Proofs.Ytbnbokiiakampaa
/-- The row, under a short name, for the claim. -/
theorem fnExactAverageKept_holds : Rows.FnExactAverageKeptSaid := fnExactAverageKept.proved
end Go.Proofs.Ytbnbokiiakampaa
