/- A look-up in a map, with the number's bounds. -/
import Derived.Test.YtphjhfpeomifiaaEGames
namespace Go.Proofs.Ytphjhfpeomifiaa.P
open Go.RowKit Go.ChangeShapes Go.WideShapes Go.MapKept Go.ChangeMaps Go.WideElems
open Go.Proofs.Ytphjhfpeomifiaa.Q Go.Proofs.YtphjhfpeomifiaaW.PrintWords
set_option linter.unusedVariables false
set_option linter.unusedSimpArgs false

theorem inI_of_wf {x : Int} (h : (Lit.int .i64 x).wf = true) : InI x := by
  have h' : (decide (IntKind.i64.min ≤ x) && decide (x ≤ IntKind.i64.max)) = true := h
  rw [show IntKind.i64.min = -9223372036854775808 by decide, show IntKind.i64.max = 9223372036854775807 by decide] at h'
  simp at h'
  exact h'

section
variable {P : Program} {w : World} {t k e : TypeId} {b : Nat} {L : List (Value × Value)}
/-- 'm[k]'. -/
theorem mapZ_lookupW (K : Maps.Keyed P k) (ht : P.underlying t = some (.map k e)) (he : P.underlying e = some (.int .i64)) (hz : ∀ u : World, (zeroValue e).run P u = .ok (.int .i64 0) u) (h : mapZ P k e w b L) {key : Value} {kl : Lit} (hkey : keyOf P k key = some kl) :
    ∃ c : Int, (Instr.lookup t (.map (some b)) key false).run P w = .ok (.int .i64 c) w ∧ (Lit.int .i64 c).wf = true ∧ ∀ F : Value → Int, (∀ v, v ≠ key → F v = 0) → c * F key = wsum F L := by
  obtain ⟨es, clock, hb, F, rfl⟩ := h
  rcases K.find w hkey es.toList F.keys with ⟨h1, h2⟩ | ⟨j, e0, h1, h2, h3⟩
  · refine ⟨0, by simp [Instr.lookup, run_underlying ht, MapKept.run_getObj_map hb, K.check w _ hkey, h1, hz, Result.andThen], by decide, fun G hG => ?_⟩
    rw [Int.zero_mul]
    refine (vsum_zero _ _ fun x hx => ?_).symm
    obtain ⟨y, hy, rfl⟩ := List.mem_map.1 hx
    show intOf y.val * G y.key = 0
    rw [hG _ (h2 y hy), Int.mul_zero]
  · have hj : es[j]? = some e0 := by simpa using h2
    have hm0 : e0 ∈ es.toList := List.mem_of_getElem? h2
    obtain ⟨y0, hy0⟩ := F.reads e0 hm0
    obtain ⟨zv, hzv, _⟩ := rd_val hy0
    obtain ⟨c, hc, _, hwfc⟩ := plainElem_int_inv he hzv
    have hmapset : (es.toList.set j { e0 with val := .int .i64 0 }).map kv = (es.toList.map kv).set j (key, .int .i64 0) := by rw [List.map_set]; simp [kv, h3]
    have hLj : (es.toList.map kv)[j]? = some (key, .int .i64 c) := by rw [List.getElem?_map, h2]; simp [kv, h3, hc]
    refine ⟨c, by simp [Instr.lookup, run_underlying ht, MapKept.run_getObj_map hb, K.check w _ hkey, h1, Result.andThen, hc], hwfc, fun G hG => ?_⟩
    have h0 : vsum (fun x => intOf x.2 * G x.1) ((es.toList.map kv).set j (key, .int .i64 0)) = 0 := by
      rw [← hmapset]
      refine vsum_zero _ _ fun x hx => ?_
      obtain ⟨y, hy, rfl⟩ := List.mem_map.1 hx
      obtain ⟨i, hi, ex⟩ := List.getElem_of_mem hy
      rw [List.getElem_set] at ex
      split at ex
      · subst ex; simp [kv, intOf]
      · rename_i hne
        have hi' : i < es.toList.length := by simpa using hi
        have hk : y.key ≠ key := by
          rw [← h3]
          exact other_key F h2 (by rw [List.getElem?_eq_getElem hi', ex]) (fun e1 => hne e1.symm)
        show intOf y.val * G y.key = 0
        rw [hG _ hk, Int.mul_zero]
    have h1' : (0 : Int) = vsum (fun x => intOf x.2 * G x.1) (es.toList.map kv) + (0 * G key - c * G key) := h0.symm.trans (vsum_set (fun x => intOf x.2 * G x.1) _ j _ (key, .int .i64 0) hLj)
    rw [Int.zero_mul] at h1'
    show c * G key = vsum (fun x => intOf x.2 * G x.1) (es.toList.map kv)
    omega

end
section
variable {P : Program} {ops : Array Oper} {rest : List Oper} {o : Oper} {a : Act} {Q : Exit → Act → World → Prop} {W : World}
/-- 'm[k]', at the operation. -/
theorem lookupW {N : Tmp} (_hd : o.dst = some N) (hgd : o.guard = none) (m x : Operand) (t k e : TypeId) (hop : o.op = .lookup t m x false) (K : Maps.Keyed P k) (ht : P.underlying t = some (.map k e)) (he : P.underlying e = some (.int .i64)) (hz : ∀ u : World, (zeroValue e).run P u = .ok (.int .i64 0) u) {b : Nat} {L : List (Value × Value)} (hm : a.eval m = .map (some b)) (h : mapZ P k e W b L) {key : Value} {kl : Lit} (hx : a.eval x = key) (hkey : keyOf P k key = some kl)
    (hK : ∀ c : Int, (∀ F : Value → Int, (∀ v, v ≠ key → F v = 0) → c * F key = wsum F L) → (Lit.int .i64 c).wf = true → wpList P ops Q rest (a.put o.dst (.int .i64 c)) W) : wpList P ops Q (o :: rest) a W := by
  obtain ⟨c, hrun, hwf, hind⟩ := mapZ_lookupW K ht he hz h hkey
  refine Kd.event_run hgd (v := .int .i64 c) (w1 := W) ?_ (hK c hind hwf)
  simp [execOp, hop, hm, hx, hrun, Result.andThen]
end
end Go.Proofs.Ytphjhfpeomifiaa.P
