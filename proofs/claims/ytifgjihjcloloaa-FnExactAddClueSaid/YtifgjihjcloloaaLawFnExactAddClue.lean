/- The row of the law FnExactAddClue, out of its pure statement and the walk of its Go text. No condition. -/
import Derived.Test.YtifgjihjcloloaaRows
import Derived.Test.YtifgjihjcloloaaP7
import Derived.Test.YtifgjihjcloloaaPureFnExactAddClue
import Derived.Test.YtifgjihjcloloaaRd
import Derived.Test.YtifgjihjcloloaaClosed
import Derived.WalkKit
import Derived.ProofKit
import Derived.OpenShut
import Derived.ShutString
import Derived.ChangeOld
import Derived.Below
import Derived.SizedLaws
namespace Go.Proofs.Ytifgjihjcloloaa.fnExactAddClue
open Go.ChangeShapes Go.WideShapes Go.ChangeAt Go.RowKit Go.Proofs.Ytifgjihjcloloaa.Open Go.Proofs.Ytifgjihjcloloaa.Rd Go.Proofs.Ytifgjihjcloloaa.P Go.Proofs.YtifgjihjcloloaaW.PrintWords
open Go.ChangeMaps (open_string shut_string)
set_option linter.unusedVariables false
theorem own : ownKnob Try.prog.godebug = none := by kernel_rfl
theorem laidOut : laidOutB Try.prog = true := Closed.g1
set_option maxRecDepth 100000 in
theorem lifted (os : Os) (started : os.Started) (H : Type) (enc : TypeId × Value → H) :
    ReturnsInHanded {} Try.checked os 7 .any (Rows.fnExactAddClueSpec.pre6 enc Try.prog Try.f7 Rows.fnExactAddClueRow.domain false) (Rows.fnExactAddClueSpec.post enc Try.prog Try.f7 false true false false) := by
  refine returnsInHanded_of_change_sized (C := Try.checked) own started (by kernel_rfl) Try.func7
    (ChangeSpec.witness6 (enc := enc) (C := Try.checked) false ⟨#[], #[.agg #[.int .i64 0, .int .i64 0, .slice none 0 0], .agg #[.int .i64 0, .int .i64 0, .int .i64 0, .int .i64 0]], []⟩ 8 (by kernel_rfl) (by kernel_rfl) (by kernel_rfl) (by kernel_rfl)) ?_
  intro W base args ds gs before hval0 hW hcnd hsz0 _
  have hval : ∀ (j : Nat) t v, Try.f7.params[j]? = some t → args[j]? = some v → Value.okWide Try.prog W .any base t v := hval0
  have hW' := hW
  obtain ⟨p, q, hA0, hV, rfl, hfz, hnd⟩ := hW
  have hA : DataW.TrodAll enc Try.prog W 0 (fun _ => true) true Try.f7.params.toList args.toList ds p := hA0
  rw [Try.params7] at hA hval
  obtain ⟨v0, vs0, d0, ds0, p0, q0, hargs, rfl, rfl, h0, r0⟩ := trodAll_cons hA
  obtain ⟨v1, vs1, d1, ds1, p1, q1, rfl, rfl, rfl, h1, r1⟩ := trodAll_cons r0
  obtain ⟨rfl, rfl, rfl⟩ := trodAll_nil r1
  obtain rfl : args = #[v0, v1] := by cases args; simp_all
  obtain ⟨rfl, rfl⟩ := trodVars_none hV
  have k0 := h0
  have lt0 : ∀ x ∈ p0, x.block < W.heap.size := by obtain ⟨m, hm⟩ := k0; exact DataW.trod_lt m _ _ _ hm
  obtain ⟨x0, cs0, rfl, hx0⟩ := rd_33.agg Try.underlying33 (hval 0 33 v0 rfl rfl) h0
  obtain ⟨A0_2, c0_2, rfl, hc0_2, hr0_2⟩ := k33_open hx0
  have k1 := h1
  have lt1 : ∀ x ∈ p1, x.block < W.heap.size := by obtain ⟨m, hm⟩ := k1; exact DataW.trod_lt m _ _ _ hm
  obtain ⟨x1, cs1, rfl, hx1⟩ := rd_26.agg Try.underlying26 (hval 1 26 v1 rfl rfl) h1
  obtain rfl := k26_open hx1
  clear hA0 hval0 hsz0
  obtain ⟨k, hk⟩ := Pure.FnExactAddClue x0.f0 x0.f1 x0.f2 x1.f0 x1.f1 x1.f2 x1.f3 hr0_2.2.1
  refine (laws_FnExactAddClue.calls k x0.f0 x0.f1 _ _ x0.f2 x1.f0 x1.f1 x1.f2 x1.f3 true W hr0_2 hc0_2 hk).mono fun e W' ⟨he, hd⟩ => ?_
  have bel : Below W.heap.size W W' := hd
  subst he
  exact ⟨_, rfl, _, _, _, [], _, [], hW', trodAll_mk1 (shut_bool Try.underlying4 _), (trodAll_cons_mk (Below.trod laidOut (by kernel_rfl) (of_decide_eq_true (by kernel_rfl)) k0 bel lt0) (trodAll_cons_mk (Below.trod laidOut (by kernel_rfl) (of_decide_eq_true (by kernel_rfl)) k1 bel lt1) trodAll_mk0)), rfl, bel.frame _, fun h => by cases h⟩
theorem g0 : Rows.fnExactAddClueRow.wf (OpenSpec.ofChange Rows.fnExactAddClueSpec) = true := by kernel_rfl
theorem g3 : Try.f7.params.all (Try.prog.readableRec ·) = true := by kernel_rfl
theorem g4 : namedTie Try.prog Rows.fnExactAddClueRow.named Rows.fnExactAddClueSpec.vars = true := by kernel_rfl
theorem g5 : (Rows.fnExactAddClueRow.stops == []) = true := by kernel_rfl
theorem g7 : (Rows.fnExactAddClueRow.knobs == []) = true := by kernel_rfl
theorem g9 : (Rows.fnExactAddClueRow.inPlace == Try.prog.inPlace 7) = true := by kernel_rfl
theorem g10 : (Rows.fnExactAddClueRow.unfollowed == Try.prog.unfollowed 7) = true := by kernel_rfl
theorem g11 : (Rows.fnExactAddClueRow.recurses == Try.prog.recurses 7) = true := by kernel_rfl
theorem g12 : (Rows.fnExactAddClueRow.named == Try.prog.varsNamed 7) = true := by kernel_rfl
theorem g13 : (Rows.fnExactAddClueRow.maps == (Try.f7.params.toList ++ Rows.fnExactAddClueSpec.plain.varTypes Try.prog).any (Try.prog.mapsRec ·)) = true := by kernel_rfl
theorem g14 : (Rows.fnExactAddClueRow.ifaces == (Try.f7.params.toList ++ Rows.fnExactAddClueSpec.plain.varTypes Try.prog).any (Try.prog.ifacesRec ·)) = true := by kernel_rfl
theorem g15 : (Rows.fnExactAddClueRow.mapsOut == Try.prog.mapsAmong Try.f7.resultTypes.toList) = true := by kernel_rfl
theorem g16 : (Rows.fnExactAddClueRow.loops == (Try.f7.params.toList ++ Rows.fnExactAddClueSpec.plain.varTypes Try.prog).any (Try.prog.loopsFrom ·)) = true := by kernel_rfl
theorem g17 : (Rows.fnExactAddClueRow.wideKeys == (Try.f7.params.toList ++ Rows.fnExactAddClueSpec.plain.varTypes Try.prog ++ Try.f7.resultTypes.toList).any (Try.prog.wideKeysFrom ·)) = true := by kernel_rfl
theorem g18 : Rows.fnExactAddClueSpec.vars.all (Try.prog.varReadable ·) = true := by kernel_rfl
theorem g19 : Try.f7.resultTypes.all (fun t => Try.prog.readableRec t && decide (t < Try.prog.types.size)) = true := by kernel_rfl
theorem g20 : (Rows.fnExactAddClueRow.ifacesOut == Try.f7.resultTypes.toList.any (Try.prog.ifacesRec ·)) = true := by kernel_rfl
theorem g21 : (Rows.fnExactAddClueRow.loopsOut == Try.f7.resultTypes.toList.any (Try.prog.loopsFrom ·)) = true := by kernel_rfl
theorem g23 : Rows.fnExactAddClueRow.shortTexts.isNone = true := by kernel_rfl
theorem g28 : (Rows.fnExactAddClueRow.kinds == (if Rows.fnExactAddClueRow.domain.isEmpty then [] else Try.f7.params.toList.map fun t => match Try.prog.underlying t with | some (.int k) => some k | _ => none)) = true := by kernel_rfl
theorem g29 : (Rows.fnExactAddClueRow.pinned == Rows.fnExactAddClueRow.pinnedBy) = true := by kernel_rfl
theorem g30 : (Rows.fnExactAddClueRow.veiled == (Try.f7.params.toList ++ Rows.fnExactAddClueSpec.plain.varTypes Try.prog ++ Try.f7.resultTypes.toList).any (Try.prog.veiledRec ·)) = true := by kernel_rfl
theorem g31 : Rows.fnExactAddClueRow.veiledFits Try.prog Try.f7.params.toList (Try.f7.params.toList ++ Rows.fnExactAddClueSpec.plain.varTypes Try.prog ++ Try.f7.resultTypes.toList) = true := by kernel_rfl
set_option maxRecDepth 100000 in
theorem joined : joinedFacts Try.prog 7 Try.f7 Rows.fnExactAddClueSpec Rows.fnExactAddClueRow = true := (Closed.both (Closed.both (Closed.both (Closed.both (Closed.both (Closed.both (Closed.both (Closed.both (Closed.both (Closed.both (Closed.both (Closed.both (Closed.both (Closed.both (Closed.both (Closed.both (Closed.both (Closed.both (Closed.both (Closed.both (Closed.both (Closed.both (Closed.both (Closed.both (Closed.both (Closed.both (Closed.both (Closed.both (Closed.both (Closed.both (Closed.both g0 Closed.g1) Closed.g2) g3) g4) g5) Closed.g6) g7) Closed.g8) g9) g10) g11) g12) g13) g14) g15) g16) g17) g18) g19) g20) g21) Closed.g22) g23) Closed.g24) Closed.g25) Closed.g26) Closed.g27) g28) g29) g30) g31)
theorem named : Try.pinned.checked.prog.funcNamed Rows.fnExactAddClueRow.func = some 7 := by kernel_rfl
theorem over : Rows.fnExactAddClueRow.holds Try.pinned (OpenSpec.ofChange Rows.fnExactAddClueSpec) :=
  OpenClaim.holds_of_wide 7 Try.f7 rfl rfl rfl rfl rfl rfl rfl ⟨rfl, rfl, rfl, rfl, rfl⟩ rfl rfl rfl rfl rfl named Try.func7 joined
    (of_decide_eq_true (by kernel_rfl)) (by unfold Func.isWrapper; first | (rw [if_pos (by decide +kernel)]; kernel_rfl) | (rw [if_neg (by decide +kernel)]; exact ⟨rfl, rfl⟩))
    (fun os started H enc _ => lifted os started H enc)
theorem proved : Rows.FnExactAddClueSaid := over
#print axioms proved
end Go.Proofs.Ytifgjihjcloloaa.fnExactAddClue
namespace Go.Proofs.Ytifgjihjcloloaa
/-- The row, under a short name, for the claim. -/
theorem fnExactAddClue_holds : Rows.FnExactAddClueSaid := fnExactAddClue.proved
end Go.Proofs.Ytifgjihjcloloaa
