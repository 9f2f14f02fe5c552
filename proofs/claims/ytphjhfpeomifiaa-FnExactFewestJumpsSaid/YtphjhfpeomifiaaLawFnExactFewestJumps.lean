/- The row of the law FnExactFewestJumps, out of its pure statement and the walk of its Go text. No condition. -/
import Derived.Test.YtphjhfpeomifiaaRows
import Derived.Test.YtphjhfpeomifiaaP32
import Derived.Test.YtphjhfpeomifiaaPureFnExactFewestJumps
import Derived.Test.YtphjhfpeomifiaaRd
import Derived.Test.YtphjhfpeomifiaaClosed
import Derived.WalkKit
import Derived.ProofKit
import Derived.OpenShut
import Derived.ShutString
import Derived.ChangeOld
import Derived.Below
import Derived.SizedLaws
namespace Go.Proofs.Ytphjhfpeomifiaa.fnExactFewestJumps
open Go.ChangeShapes Go.WideShapes Go.ChangeAt Go.RowKit Go.Proofs.Ytphjhfpeomifiaa.Open Go.Proofs.Ytphjhfpeomifiaa.Rd Go.Proofs.Ytphjhfpeomifiaa.P Go.Proofs.YtphjhfpeomifiaaW.PrintWords
open Go.ChangeMaps (open_string shut_string)
set_option linter.unusedVariables false
theorem own : ownKnob Try.prog.godebug = none := by kernel_rfl
theorem laidOut : laidOutB Try.prog = true := Closed.g1
set_option maxRecDepth 100000 in
theorem lifted (os : Os) (started : os.Started) (H : Type) (enc : TypeId × Value → H) :
    ReturnsInHanded {} Try.checked os 8 .any (Rows.fnExactFewestJumpsSpec.pre6 enc Try.prog Try.f8 Rows.fnExactFewestJumpsRow.domain false) (Rows.fnExactFewestJumpsSpec.post enc Try.prog Try.f8 false true false false) := by
  refine returnsInHanded_of_change_sized (C := Try.checked) own started (by kernel_rfl) Try.func8
    (ChangeSpec.witness6 (enc := enc) (C := Try.checked) false ⟨#[], #[.agg #[.int .i64 0, .int .i64 0, .int .i64 0, .slice none 0 0], .int .i64 0], []⟩ 8 (by kernel_rfl) (by kernel_rfl) (by kernel_rfl) (by kernel_rfl)) ?_
  intro W base args ds gs before hval0 hW hcnd hsz0 _
  have hval : ∀ (j : Nat) t v, Try.f8.params[j]? = some t → args[j]? = some v → Value.okWide Try.prog W .any base t v := hval0
  have hW' := hW
  obtain ⟨p, q, hA0, hV, rfl, hfz, hnd⟩ := hW
  have hA : DataW.TrodAll enc Try.prog W 0 (fun _ => true) true Try.f8.params.toList args.toList ds p := hA0
  rw [Try.params8] at hA hval
  obtain ⟨v0, vs0, d0, ds0, p0, q0, hargs, rfl, rfl, h0, r0⟩ := trodAll_cons hA
  obtain ⟨v1, vs1, d1, ds1, p1, q1, rfl, rfl, rfl, h1, r1⟩ := trodAll_cons r0
  obtain ⟨rfl, rfl, rfl⟩ := trodAll_nil r1
  obtain rfl : args = #[v0, v1] := by cases args; simp_all
  obtain ⟨rfl, rfl⟩ := trodVars_none hV
  have k0 := h0
  have lt0 : ∀ x ∈ p0, x.block < W.heap.size := by obtain ⟨m, hm⟩ := k0; exact DataW.trod_lt m _ _ _ hm
  obtain ⟨x0, cs0, rfl, hx0⟩ := rd_24.agg Try.underlying24 (hval 0 24 v0 rfl rfl) h0
  obtain ⟨A0_3, c0_3, rfl, hc0_3, hr0_3⟩ := k24_open hx0
  obtain ⟨a1, rfl, rfl, rfl, w1⟩ := open_int Try.underlying3 (hval 1 3 v1 rfl rfl) h1
  clear hA0 hval0 hsz0
  obtain ⟨k, hk⟩ := Pure.FnExactFewestJumps x0.f0 x0.f1 x0.f2 x0.f3 a1 hr0_3.2.1 w1
  refine (laws_FnExactFewestJumps.calls k x0.f0 x0.f1 x0.f2 _ _ x0.f3 a1 true W hr0_3 hc0_3 hk).mono fun e W' ⟨he, hd⟩ => ?_
  have bel : Below W.heap.size W W' := hd
  subst he
  exact ⟨_, rfl, _, _, _, [], _, [], hW', trodAll_mk1 (shut_bool Try.underlying4 _), (trodAll_cons_mk (Below.trod laidOut (by kernel_rfl) (of_decide_eq_true (by kernel_rfl)) k0 bel lt0) (trodAll_cons_mk (shut_int Try.underlying3 w1) trodAll_mk0)), rfl, bel.frame _, fun h => by cases h⟩
theorem g0 : Rows.fnExactFewestJumpsRow.wf (OpenSpec.ofChange Rows.fnExactFewestJumpsSpec) = true := by kernel_rfl
theorem g3 : Try.f8.params.all (Try.prog.readableRec ·) = true := by kernel_rfl
theorem g4 : namedTie Try.prog Rows.fnExactFewestJumpsRow.named Rows.fnExactFewestJumpsSpec.vars = true := by kernel_rfl
theorem g5 : (Rows.fnExactFewestJumpsRow.stops == []) = true := by kernel_rfl
theorem g7 : (Rows.fnExactFewestJumpsRow.knobs == []) = true := by kernel_rfl
theorem g9 : (Rows.fnExactFewestJumpsRow.inPlace == Try.prog.inPlace 8) = true := by kernel_rfl
theorem g10 : (Rows.fnExactFewestJumpsRow.unfollowed == Try.prog.unfollowed 8) = true := by kernel_rfl
theorem g11 : (Rows.fnExactFewestJumpsRow.recurses == Try.prog.recurses 8) = true := by kernel_rfl
theorem g12 : (Rows.fnExactFewestJumpsRow.named == Try.prog.varsNamed 8) = true := by kernel_rfl
theorem g13 : (Rows.fnExactFewestJumpsRow.maps == (Try.f8.params.toList ++ Rows.fnExactFewestJumpsSpec.plain.varTypes Try.prog).any (Try.prog.mapsRec ·)) = true := by kernel_rfl
theorem g14 : (Rows.fnExactFewestJumpsRow.ifaces == (Try.f8.params.toList ++ Rows.fnExactFewestJumpsSpec.plain.varTypes Try.prog).any (Try.prog.ifacesRec ·)) = true := by kernel_rfl
theorem g15 : (Rows.fnExactFewestJumpsRow.mapsOut == Try.prog.mapsAmong Try.f8.resultTypes.toList) = true := by kernel_rfl
theorem g16 : (Rows.fnExactFewestJumpsRow.loops == (Try.f8.params.toList ++ Rows.fnExactFewestJumpsSpec.plain.varTypes Try.prog).any (Try.prog.loopsFrom ·)) = true := by kernel_rfl
theorem g17 : (Rows.fnExactFewestJumpsRow.wideKeys == (Try.f8.params.toList ++ Rows.fnExactFewestJumpsSpec.plain.varTypes Try.prog ++ Try.f8.resultTypes.toList).any (Try.prog.wideKeysFrom ·)) = true := by kernel_rfl
theorem g18 : Rows.fnExactFewestJumpsSpec.vars.all (Try.prog.varReadable ·) = true := by kernel_rfl
theorem g19 : Try.f8.resultTypes.all (fun t => Try.prog.readableRec t && decide (t < Try.prog.types.size)) = true := by kernel_rfl
theorem g20 : (Rows.fnExactFewestJumpsRow.ifacesOut == Try.f8.resultTypes.toList.any (Try.prog.ifacesRec ·)) = true := by kernel_rfl
theorem g21 : (Rows.fnExactFewestJumpsRow.loopsOut == Try.f8.resultTypes.toList.any (Try.prog.loopsFrom ·)) = true := by kernel_rfl
theorem g23 : Rows.fnExactFewestJumpsRow.shortTexts.isNone = true := by kernel_rfl
theorem g28 : (Rows.fnExactFewestJumpsRow.kinds == (if Rows.fnExactFewestJumpsRow.domain.isEmpty then [] else Try.f8.params.toList.map fun t => match Try.prog.underlying t with | some (.int k) => some k | _ => none)) = true := by kernel_rfl
theorem g29 : (Rows.fnExactFewestJumpsRow.pinned == Rows.fnExactFewestJumpsRow.pinnedBy) = true := by kernel_rfl
theorem g30 : (Rows.fnExactFewestJumpsRow.veiled == (Try.f8.params.toList ++ Rows.fnExactFewestJumpsSpec.plain.varTypes Try.prog ++ Try.f8.resultTypes.toList).any (Try.prog.veiledRec ·)) = true := by kernel_rfl
theorem g31 : Rows.fnExactFewestJumpsRow.veiledFits Try.prog Try.f8.params.toList (Try.f8.params.toList ++ Rows.fnExactFewestJumpsSpec.plain.varTypes Try.prog ++ Try.f8.resultTypes.toList) = true := by kernel_rfl
set_option maxRecDepth 100000 in
theorem joined : joinedFacts Try.prog 8 Try.f8 Rows.fnExactFewestJumpsSpec Rows.fnExactFewestJumpsRow = true := (Closed.both (Closed.both (Closed.both (Closed.both (Closed.both (Closed.both (Closed.both (Closed.both (Closed.both (Closed.both (Closed.both (Closed.both (Closed.both (Closed.both (Closed.both (Closed.both (Closed.both (Closed.both (Closed.both (Closed.both (Closed.both (Closed.both (Closed.both (Closed.both (Closed.both (Closed.both (Closed.both (Closed.both (Closed.both (Closed.both (Closed.both g0 Closed.g1) Closed.g2) g3) g4) g5) Closed.g6) g7) Closed.g8) g9) g10) g11) g12) g13) g14) g15) g16) g17) g18) g19) g20) g21) Closed.g22) g23) Closed.g24) Closed.g25) Closed.g26) Closed.g27) g28) g29) g30) g31)
theorem named : Try.pinned.checked.prog.funcNamed Rows.fnExactFewestJumpsRow.func = some 8 := by kernel_rfl
theorem over : Rows.fnExactFewestJumpsRow.holds Try.pinned (OpenSpec.ofChange Rows.fnExactFewestJumpsSpec) :=
  OpenClaim.holds_of_wide 8 Try.f8 rfl rfl rfl rfl rfl rfl rfl ⟨rfl, rfl, rfl, rfl, rfl⟩ rfl rfl rfl rfl rfl named Try.func8 joined
    (of_decide_eq_true (by kernel_rfl)) (by unfold Func.isWrapper; first | (rw [if_pos (by decide +kernel)]; kernel_rfl) | (rw [if_neg (by decide +kernel)]; exact ⟨rfl, rfl⟩))
    (fun os started H enc _ => lifted os started H enc)
theorem proved : Rows.FnExactFewestJumpsSaid := over
#print axioms proved
end Go.Proofs.Ytphjhfpeomifiaa.fnExactFewestJumps
namespace Go.Proofs.Ytphjhfpeomifiaa
/-- The row, under a short name, for the claim. -/
theorem fnExactFewestJumps_holds : Rows.FnExactFewestJumpsSaid := fnExactFewestJumps.proved
end Go.Proofs.Ytphjhfpeomifiaa
