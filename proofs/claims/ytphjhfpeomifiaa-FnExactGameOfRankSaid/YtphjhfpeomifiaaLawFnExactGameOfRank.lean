/- The row of the law FnExactGameOfRank, out of its pure statement and the walk of its Go text. No condition. -/
import Derived.Test.YtphjhfpeomifiaaRows
import Derived.Test.YtphjhfpeomifiaaP11
import Derived.Test.YtphjhfpeomifiaaPureFnExactGameOfRank
import Derived.Test.YtphjhfpeomifiaaRd
import Derived.Test.YtphjhfpeomifiaaClosed
import Derived.WalkKit
import Derived.ProofKit
import Derived.OpenShut
import Derived.ShutString
import Derived.ChangeOld
import Derived.Below
import Derived.SizedLaws
namespace Go.Proofs.Ytphjhfpeomifiaa.fnExactGameOfRank
open Go.ChangeShapes Go.WideShapes Go.ChangeAt Go.RowKit Go.Proofs.Ytphjhfpeomifiaa.Open Go.Proofs.Ytphjhfpeomifiaa.Rd Go.Proofs.Ytphjhfpeomifiaa.P Go.Proofs.YtphjhfpeomifiaaW.PrintWords
open Go.ChangeMaps (open_string shut_string)
set_option linter.unusedVariables false
theorem own : ownKnob Try.prog.godebug = none := by kernel_rfl
theorem laidOut : laidOutB Try.prog = true := Closed.g1
set_option maxRecDepth 100000 in
theorem lifted (os : Os) (started : os.Started) (H : Type) (enc : TypeId × Value → H) :
    ReturnsInHanded {} Try.checked os 11 .any (Rows.fnExactGameOfRankSpec.pre6 enc Try.prog Try.f11 Rows.fnExactGameOfRankRow.domain false) (Rows.fnExactGameOfRankSpec.post enc Try.prog Try.f11 false true false false) := by
  refine returnsInHanded_of_change_sized (C := Try.checked) own started (by kernel_rfl) Try.func11
    (ChangeSpec.witness6 (enc := enc) (C := Try.checked) false ⟨#[], #[.agg #[.int .i64 0, .int .i64 0, .int .i64 0, .slice none 0 0], .int .i64 0, .int .i64 0], []⟩ 8 (by kernel_rfl) (by kernel_rfl) (by kernel_rfl) (by kernel_rfl)) ?_
  intro W base args ds gs before hval0 hW hcnd hsz0 _
  have hval : ∀ (j : Nat) t v, Try.f11.params[j]? = some t → args[j]? = some v → Value.okWide Try.prog W .any base t v := hval0
  have hW' := hW
  obtain ⟨p, q, hA0, hV, rfl, hfz, hnd⟩ := hW
  have hA : DataW.TrodAll enc Try.prog W 0 (fun _ => true) true Try.f11.params.toList args.toList ds p := hA0
  rw [Try.params11] at hA hval
  obtain ⟨v0, vs0, d0, ds0, p0, q0, hargs, rfl, rfl, h0, r0⟩ := trodAll_cons hA
  obtain ⟨v1, vs1, d1, ds1, p1, q1, rfl, rfl, rfl, h1, r1⟩ := trodAll_cons r0
  obtain ⟨v2, vs2, d2, ds2, p2, q2, rfl, rfl, rfl, h2, r2⟩ := trodAll_cons r1
  obtain ⟨rfl, rfl, rfl⟩ := trodAll_nil r2
  obtain rfl : args = #[v0, v1, v2] := by cases args; simp_all
  obtain ⟨rfl, rfl⟩ := trodVars_none hV
  have k0 := h0
  have lt0 : ∀ x ∈ p0, x.block < W.heap.size := by obtain ⟨m, hm⟩ := k0; exact DataW.trod_lt m _ _ _ hm
  obtain ⟨x0, cs0, rfl, hx0⟩ := rd_24.agg Try.underlying24 (hval 0 24 v0 rfl rfl) h0
  obtain ⟨A0_3, c0_3, rfl, hc0_3, hr0_3⟩ := k24_open hx0
  obtain ⟨a1, rfl, rfl, rfl, w1⟩ := open_int Try.underlying3 (hval 1 3 v1 rfl rfl) h1
  obtain ⟨a2, rfl, rfl, rfl, w2⟩ := open_int Try.underlying3 (hval 2 3 v2 rfl rfl) h2
  clear hA0 hval0 hsz0
  obtain ⟨k, hk⟩ := Pure.FnExactGameOfRank x0.f0 x0.f1 x0.f2 x0.f3 a1 a2 hr0_3.2.1 w1 w2
  refine (laws_FnExactGameOfRank.calls k x0.f0 x0.f1 x0.f2 _ _ x0.f3 a1 a2 true W hr0_3 hc0_3 hk).mono fun e W' ⟨he, hd⟩ => ?_
  have bel : Below W.heap.size W W' := hd
  subst he
  exact ⟨_, rfl, _, _, _, [], _, [], hW', trodAll_mk1 (shut_bool Try.underlying4 _), (trodAll_cons_mk (Below.trod laidOut (by kernel_rfl) (of_decide_eq_true (by kernel_rfl)) k0 bel lt0) (trodAll_cons_mk (shut_int Try.underlying3 w1) (trodAll_cons_mk (shut_int Try.underlying3 w2) trodAll_mk0))), rfl, bel.frame _, fun h => by cases h⟩
theorem g0 : Rows.fnExactGameOfRankRow.wf (OpenSpec.ofChange Rows.fnExactGameOfRankSpec) = true := by kernel_rfl
theorem g3 : Try.f11.params.all (Try.prog.readableRec ·) = true := by kernel_rfl
theorem g4 : namedTie Try.prog Rows.fnExactGameOfRankRow.named Rows.fnExactGameOfRankSpec.vars = true := by kernel_rfl
theorem g5 : (Rows.fnExactGameOfRankRow.stops == []) = true := by kernel_rfl
theorem g7 : (Rows.fnExactGameOfRankRow.knobs == []) = true := by kernel_rfl
theorem g9 : (Rows.fnExactGameOfRankRow.inPlace == Try.prog.inPlace 11) = true := by kernel_rfl
theorem g10 : (Rows.fnExactGameOfRankRow.unfollowed == Try.prog.unfollowed 11) = true := by kernel_rfl
theorem g11 : (Rows.fnExactGameOfRankRow.recurses == Try.prog.recurses 11) = true := by kernel_rfl
theorem g12 : (Rows.fnExactGameOfRankRow.named == Try.prog.varsNamed 11) = true := by kernel_rfl
theorem g13 : (Rows.fnExactGameOfRankRow.maps == (Try.f11.params.toList ++ Rows.fnExactGameOfRankSpec.plain.varTypes Try.prog).any (Try.prog.mapsRec ·)) = true := by kernel_rfl
theorem g14 : (Rows.fnExactGameOfRankRow.ifaces == (Try.f11.params.toList ++ Rows.fnExactGameOfRankSpec.plain.varTypes Try.prog).any (Try.prog.ifacesRec ·)) = true := by kernel_rfl
theorem g15 : (Rows.fnExactGameOfRankRow.mapsOut == Try.prog.mapsAmong Try.f11.resultTypes.toList) = true := by kernel_rfl
theorem g16 : (Rows.fnExactGameOfRankRow.loops == (Try.f11.params.toList ++ Rows.fnExactGameOfRankSpec.plain.varTypes Try.prog).any (Try.prog.loopsFrom ·)) = true := by kernel_rfl
theorem g17 : (Rows.fnExactGameOfRankRow.wideKeys == (Try.f11.params.toList ++ Rows.fnExactGameOfRankSpec.plain.varTypes Try.prog ++ Try.f11.resultTypes.toList).any (Try.prog.wideKeysFrom ·)) = true := by kernel_rfl
theorem g18 : Rows.fnExactGameOfRankSpec.vars.all (Try.prog.varReadable ·) = true := by kernel_rfl
theorem g19 : Try.f11.resultTypes.all (fun t => Try.prog.readableRec t && decide (t < Try.prog.types.size)) = true := by kernel_rfl
theorem g20 : (Rows.fnExactGameOfRankRow.ifacesOut == Try.f11.resultTypes.toList.any (Try.prog.ifacesRec ·)) = true := by kernel_rfl
theorem g21 : (Rows.fnExactGameOfRankRow.loopsOut == Try.f11.resultTypes.toList.any (Try.prog.loopsFrom ·)) = true := by kernel_rfl
theorem g23 : Rows.fnExactGameOfRankRow.shortTexts.isNone = true := by kernel_rfl
theorem g28 : (Rows.fnExactGameOfRankRow.kinds == (if Rows.fnExactGameOfRankRow.domain.isEmpty then [] else Try.f11.params.toList.map fun t => match Try.prog.underlying t with | some (.int k) => some k | _ => none)) = true := by kernel_rfl
theorem g29 : (Rows.fnExactGameOfRankRow.pinned == Rows.fnExactGameOfRankRow.pinnedBy) = true := by kernel_rfl
theorem g30 : (Rows.fnExactGameOfRankRow.veiled == (Try.f11.params.toList ++ Rows.fnExactGameOfRankSpec.plain.varTypes Try.prog ++ Try.f11.resultTypes.toList).any (Try.prog.veiledRec ·)) = true := by kernel_rfl
theorem g31 : Rows.fnExactGameOfRankRow.veiledFits Try.prog Try.f11.params.toList (Try.f11.params.toList ++ Rows.fnExactGameOfRankSpec.plain.varTypes Try.prog ++ Try.f11.resultTypes.toList) = true := by kernel_rfl
set_option maxRecDepth 100000 in
theorem joined : joinedFacts Try.prog 11 Try.f11 Rows.fnExactGameOfRankSpec Rows.fnExactGameOfRankRow = true := (Closed.both (Closed.both (Closed.both (Closed.both (Closed.both (Closed.both (Closed.both (Closed.both (Closed.both (Closed.both (Closed.both (Closed.both (Closed.both (Closed.both (Closed.both (Closed.both (Closed.both (Closed.both (Closed.both (Closed.both (Closed.both (Closed.both (Closed.both (Closed.both (Closed.both (Closed.both (Closed.both (Closed.both (Closed.both (Closed.both (Closed.both g0 Closed.g1) Closed.g2) g3) g4) g5) Closed.g6) g7) Closed.g8) g9) g10) g11) g12) g13) g14) g15) g16) g17) g18) g19) g20) g21) Closed.g22) g23) Closed.g24) Closed.g25) Closed.g26) Closed.g27) g28) g29) g30) g31)
theorem named : Try.pinned.checked.prog.funcNamed Rows.fnExactGameOfRankRow.func = some 11 := by kernel_rfl
theorem over : Rows.fnExactGameOfRankRow.holds Try.pinned (OpenSpec.ofChange Rows.fnExactGameOfRankSpec) :=
  OpenClaim.holds_of_wide 11 Try.f11 rfl rfl rfl rfl rfl rfl rfl ⟨rfl, rfl, rfl, rfl, rfl⟩ rfl rfl rfl rfl rfl named Try.func11 joined
    (of_decide_eq_true (by kernel_rfl)) (by unfold Func.isWrapper; first | (rw [if_pos (by decide +kernel)]; kernel_rfl) | (rw [if_neg (by decide +kernel)]; exact ⟨rfl, rfl⟩))
    (fun os started H enc _ => lifted os started H enc)
theorem proved : Rows.FnExactGameOfRankSaid := over
#print axioms proved
end Go.Proofs.Ytphjhfpeomifiaa.fnExactGameOfRank
namespace Go.Proofs.Ytphjhfpeomifiaa
/-- The row, under a short name, for the claim. -/
theorem fnExactGameOfRank_holds : Rows.FnExactGameOfRankSaid := fnExactGameOfRank.proved
end Go.Proofs.Ytphjhfpeomifiaa
