/- Board.byJumps: the walk. Boards with at most eight faces, at most sixteen throws. -/
import Derived.Test.YtphjhfpeomifiaaEBy
namespace Go.Proofs.Ytphjhfpeomifiaa.P
open Go.RowKit Go.Proofs.Ytphjhfpeomifiaa.Q Go.Proofs.YtphjhfpeomifiaaW.PrintWords Go.Proofs.YtphjhfpeomifiaaW.PrintLast Go.Proofs.YtphjhfpeomifiaaW.PrintMore
open Go.WideElems (rd_val)
set_option linter.unusedVariables false
set_option linter.unusedSimpArgs false

theorem mapZ_wf {P : Program} {k e : TypeId} {w : World} {b : Nat} {L : List (Value × Value)} (he : P.underlying e = some (.int .i64)) (h : mapZ P k e w b L) : ∀ x ∈ L, ∃ c, x.2 = .int .i64 c ∧ (Lit.int .i64 c).wf = true := by
  obtain ⟨es, clock, hb, F, rfl⟩ := h
  intro x hx
  obtain ⟨y, hy, rfl⟩ := List.mem_map.1 hx
  obtain ⟨y0, hy0⟩ := F.reads y hy
  obtain ⟨zv, hzv, _⟩ := rd_val hy0
  obtain ⟨c, hc, _, hwf⟩ := plainElem_int_inv he hzv
  exact ⟨c, hc, hwf⟩
theorem key_le (key : Value) : ∀ l : List (Value × Value), l.Pairwise (fun x y => x.1 ≠ y.1) → ∀ f : Value × Value → Int, (∀ x, x.1 = key → f x = 1) → (∀ x, x.1 ≠ key → f x = 0) → vsum f l ≤ 1 ∧ ((∃ x ∈ l, x.1 = key) → 1 ≤ vsum f l) ∧ ((∀ x ∈ l, x.1 ≠ key) → vsum f l = 0)
  | [], _, f, _, _ => ⟨by simp [vsum], fun ⟨x, hx, _⟩ => by simp at hx, fun _ => rfl⟩
  | a :: r, hp, f, h1, h0 => by
    obtain ⟨ha, hr⟩ := List.pairwise_cons.1 hp
    obtain ⟨i1, i2, i3⟩ := key_le key r hr f h1 h0
    by_cases e : a.1 = key
    · have hz := i3 fun x hx hk => ha x hx (e.trans hk.symm)
      refine ⟨by simp [vsum, h1 a e, hz], fun _ => by simp [vsum, h1 a e, hz], fun h => absurd e (h a (by simp))⟩
    · refine ⟨by simp [vsum, h0 a e]; exact i1, fun ⟨x, hx, hk⟩ => ?_, fun h => by simp [vsum, h0 a e]; exact i3 fun x hx => h x (by simp [hx])⟩
      rcases List.mem_cons.1 hx with rfl | hx
      · exact absurd hk e
      · have := i2 ⟨x, hx, hk⟩
        simp [vsum, h0 a e]
        exact this

/-- One key's own number. -/
def indZ (j : Int) (v : Value) : Int := (fun z : Int => if z = j then 1 else 0) (intOf v)
structure ByI (w : World) (Nb g b r co : Nat) (L : List (Value × Value)) (xs : List Int) (Rm : List (Value × Value)) (wr : World) : Prop where
  own : Kd.R (Kd.int .i64) 3 wr w.heap.size (fun k => k < Nb) (.slice (some ⟨g, 0, none⟩) 17 co) xs
  len : xs.length = 17
  it : iterZ Try.prog 3 3 wr b r Rm
  sub : ∀ x ∈ Rm, x ∈ L
  sum : ∀ j : Nat, j < 17 → rd xs (j : Int) + wsum (indZ (j : Int)) Rm = wsum (indZ (j : Int)) L
  zero : ∀ j : Nat, j < 17 → (∃ x ∈ Rm, x.1 = .int .i64 (j : Int)) → rd xs (j : Int) = 0
  wf : ∀ j : Nat, InI (rd xs (j : Int))
  below : Below w.heap.size w wr
theorem rd_setn (r : List Int) (j q : Nat) (x : Int) : rd (r.set j x) (q : Int) = if j = q ∧ j < r.length then x else rd r (q : Int) := by
  simp only [rd, Int.toNat_natCast, List.getD_eq_getElem?_getD, List.getElem?_set]
  by_cases h : j = q
  · subst h
    by_cases h2 : j < r.length
    · simp [h2]
    · simp [h2]
  · simp [h]
theorem rd_repl (n : Nat) (j : Nat) : rd (List.replicate n (0 : Int)) (j : Int) = 0 := by
  simp only [rd, Int.toNat_natCast, List.getD_eq_getElem?_getD, List.getElem?_replicate]
  split <;> rfl
theorem ByI.start {w w' : World} {Nb g b r co : Nat} {L : List (Value × Value)} (own : Kd.R (Kd.int .i64) 3 w' w.heap.size (fun k => k < Nb) (.slice (some ⟨g, 0, none⟩) 17 co) (List.replicate 17 0)) (it : iterZ Try.prog 3 3 w' b r L) (below : Below w.heap.size w w') : ByI w Nb g b r co L (List.replicate 17 0) L w' :=
  ⟨own, by simp, it, fun _ h => h, fun j _ => by rw [rd_repl]; omega, fun j _ _ => rd_repl 17 j, fun j => by rw [rd_repl]; unfold InI; omega, below⟩
theorem ByI.step {w wr w' : World} {Nb g b r co M : Nat} {L Rm Rm' : List (Value × Value)} {xs : List Int} {c : Int} (h : ByI w Nb g b r co L xs Rm wr) (hM : M < 17) (hc : InI c) (own : Kd.R (Kd.int .i64) 3 w' w.heap.size (fun k => k < Nb) (.slice (some ⟨g, 0, none⟩) 17 co) (xs.set M c)) (it : iterZ Try.prog 3 3 w' b r Rm') (below : Below w.heap.size w w') (hmem : (Value.int .i64 (M : Int), Value.int .i64 c) ∈ Rm) (hsub : ∀ x ∈ Rm', x ∈ Rm) (hsum : ∀ f, vsum f Rm = vsum f Rm' + f (.int .i64 (M : Int), .int .i64 c)) : ByI w Nb g b r co L (xs.set M c) Rm' w' := by
  have hl := h.len
  refine ⟨own, by rw [List.length_set]; exact hl, it, fun x hx => h.sub x (hsub x hx), fun j hj => ?_, fun j hj hex => ?_, fun j => ?_, below⟩
  · have h1 := h.sum j hj
    have h2 : wsum (indZ (j : Int)) Rm = wsum (indZ (j : Int)) Rm' + c * indZ (j : Int) (.int .i64 (M : Int)) := hsum _
    rw [rd_setn]
    by_cases e : M = j
    · subst e
      rw [if_pos ⟨rfl, by omega⟩]
      have h3 := h.zero M hM ⟨_, hmem, rfl⟩
      have h4 : indZ (M : Int) (.int .i64 (M : Int)) = 1 := if_pos rfl
      rw [h4, Int.mul_one] at h2
      omega
    · rw [if_neg (fun h => e h.1)]
      have h4 : indZ (j : Int) (.int .i64 (M : Int)) = 0 := if_neg (by show ¬ (M : Int) = (j : Int); omega)
      rw [h4, Int.mul_zero] at h2
      omega
  · rw [rd_setn]
    by_cases e : M = j
    · exfalso
      subst e
      classical
      let f : Value × Value → Int := fun x => if x.1 = .int .i64 (M : Int) then 1 else 0
      have k1 := key_le (.int .i64 (M : Int)) Rm h.it.apart f (fun x hx => if_pos hx) (fun x hx => if_neg hx)
      have k2 := key_le (.int .i64 (M : Int)) Rm' it.apart f (fun x hx => if_pos hx) (fun x hx => if_neg hx)
      have k3 := hsum f
      have k4 : f (.int .i64 (M : Int), .int .i64 c) = 1 := if_pos rfl
      have k5 := k2.2.1 hex
      rw [k4] at k3
      omega
    · rw [if_neg (fun h => e h.1)]
      obtain ⟨x, hx, hk⟩ := hex
      exact h.zero j hj ⟨x, hsub x hx, hk⟩
  · rw [rd_setn]
    split
    · exact hc
    · exact h.wf j

set_option maxHeartbeats 4000000 in
set_option maxRecDepth 100000 in
theorem impl_Board_byJumps.calls (k : Nat) (a0_0 : Int) (a0_1 : Int) (a0_2 : Int) (A0_3 : Option Addr) (c0_3 : Nat) (l0_3 : List S70) (a1 : Int) (r : List Int) (w : World) (hr0_3 : Kd.C k70 w A0_3 l0_3.length l0_3) (hc0_3 : l0_3.length ≤ c0_3) (h : impl_Board_byJumps.f k a0_0 a0_1 a0_2 l0_3 a1 = some r) :
    Calls Try.prog 54 #[.agg #[.int .i64 a0_0, .int .i64 a0_1, .int .i64 a0_2, .slice A0_3 l0_3.length c0_3], .int .i64 a1] w fun e w' => ∃ v0_ : Value, e = .returned (v0_) ∧ Kd.R (Kd.int .i64) 3 w' w.heap.size (fun _ => True) v0_ r ∧ Below w.heap.size w w' := by
  unfold impl_Board_byJumps.f at h
  by_cases hp : 0 ≤ a0_1 ∧ a0_1 ≤ 8 ∧ a1.toNat ≤ 16
  case neg => rw [if_neg hp] at h; cases h
  rw [if_pos hp] at h
  obtain ⟨gg, hx, hr⟩ := Option.map_eq_some_iff.1 h
  have HX := Aside0.mk hx
  have HRR := Aside0.mk hr
  have HP := Aside0.mk hp
  have HR := Aside0.mk hr0_3
  have HC := Aside0.mk hc0_3
  clear h hx hr hp hr0_3 hc0_3
  have hu30 := Try.underlying30
  have hu76 := Try.underlying76
  have HCI : Aside0 (cbI k a0_0 a0_1 a0_2 l0_3 a1.toNat 0 0) := ⟨⟨gg, HX.out⟩⟩
  have EG : Aside0 (∀ args w, (callFunc 72 args).run Try.prog w = .ok (.enter 72 args) w) := ⟨enters_of Try.func72 (by kernel_rfl) rfl⟩
  go_enter Try.func54, Try.ntmps54
  go_wp2_with (first
    | ((with_reducible refine gate_dst (N := 2) rfl ?_); refine box_event ?hg (N := 2) ?hd (cs := #[.int .i64 a0_0, .int .i64 a0_1, .int .i64 a0_2, .slice A0_3 l0_3.length c0_3]) (t := 30) ?hr ?_; (case hd => rfl); (case hg => rfl); (case hr => first | (go_simp; done) | (go_simp; rfl)); intro B hgb_ w1 hbox hb; have BK := Aside0.mk hbox; have HW1 : Aside0 (Below w.heap.size w w1) := ⟨hb⟩; clear hb hbox hgb_)
    | ((with_reducible refine gate_dst (N := 8) rfl ?_); refine Kd.R_make (Kd.int .i64) (w0 := w1) w1.heap.size 3 rfl (N := 8) rfl 36 _ _ rfl 17 rfl rfl Try.underlying36 (.int .i64 0) 8 info3 rfl (by decide) (by omega) 0 (ok := fun k_ => k_ < w1.heap.size + 1) (okp := fun k_ => k_ < w1.heap.size + 1) rfl (fun _ hk => hk) (Nat.lt_succ_self _) (by decide) (by decide) (Below.refl _ _) (Nat.le_refl _) ?_; intro v1 w2 ho hb hg_ hnew_; obtain ⟨go, co, eo, gb, gl, cl, HG⟩ := Kd.R_form ho (by simp); have HO := Aside0.mk ho; have HB2 := Aside0.mk hb; have HGB := Aside0.mk (And.intro gb gl); have HSZ := Aside0.mk (show w1.heap.size ≤ w2.heap.size from hb.size); replace eo : v1 = .slice (some ⟨go, 0, none⟩) 17 co := eo.trans (by rw [List.length_replicate]; rfl); have HB2K := Aside0.mk (blk_below BK.out hb); have hk0_ := blk_below BK.out hb; have hb0 : w2.cell? ⟨B, 0, none⟩ = some (.int .i64 a0_0) := (blk_cell hk0_ 0).trans rfl; have hb1 : w2.cell? ⟨B, 1, none⟩ = some (.int .i64 a0_1) := (blk_cell hk0_ 1).trans rfl; have hb2 : w2.cell? ⟨B, 2, none⟩ = some (.int .i64 a0_2) := (blk_cell hk0_ 2).trans rfl; have hb3 : w2.cell? ⟨B, 3, none⟩ = some (.slice A0_3 l0_3.length c0_3) := (blk_cell hk0_ 3).trans rfl; subst eo; clear ho hb hg_ hnew_ gb gl HG hk0_)
    | (go_at_call 69; refine calls_at (fun W_ => Below w2.heap.size w2 W_) (by (with_reducible repeat (first | exact Below.refl _ _ | apply below_alloc | apply pw_below_drewN | apply below_drew1)) <;> first | exact Below.refl _ _ | exact Nat.le_refl _) (fun W_ hW_ => ?_); (with_reducible refine (games_way k a0_0 a0_1 a0_2 A0_3 c0_3 l0_3 0 0 a1 72 #[.pointer (some ⟨B, 0, none⟩)] EG.out (tvF k a0_0 a0_1 a0_2 l0_3) (mvF k a0_0 a0_1 a0_2 l0_3) (cbI k a0_0 a0_1 a0_2 l0_3) _ (Kd.C_below HR.out (below_step HW1.out (below_step HB2.out hW_))) HC.out (cb_way HP.out.1 HP.out.2.1) (byMark_ok k a0_0 a0_1 a0_2 A0_3 c0_3 l0_3 B W_ (blk_below HB2K.out hW_) (Kd.C_below HR.out (below_step HW1.out (below_step HB2.out hW_))) HC.out) HP.out.2.2 HCI.out).mono ?_); rintro e w3 ⟨b, L, rfl, hb0, hm, hmk, hsum, hb⟩; have HM := Aside0.mk hm; have HMK := Aside0.mk hmk; have HSUM := Aside0.mk hsum; have HB3 := Aside0.mk (below_step hW_ hb); have HBB := Aside0.mk (Nat.le_trans hW_.size hb0); clear hm hmk hsum hb hW_ hb0 hb1 hb2 hb3)
    | ((with_reducible refine gate_dst (N := 14) rfl ?_); refine rangeZ (N := 14) (b := b) (L := L) rfl rfl _ 73 3 3 rfl Try.underlying73 rfl HM.out ?_; intro r14 er w4 hit4 hb4 hs4; have HBY := Aside0.mk (ByI.start (w := w) (Nb := w1.heap.size + 1) (g := go) (b := b) (r := r14) (co := co) (L := L) (Kd.R_below (Kd.R_below (Kd.R_lower HO.out HW1.out.size) HB3.out) hb4) hit4 (below_step HW1.out (below_step HB2.out (below_step HB3.out hb4)))); have HD : Aside0 (w1.heap.size + 1 ≤ r14 ∧ b < r14) := ⟨by have h1_ := HM.out.lt; have h2_ := HBB.out; have h3_ := HGB.out; omega, by rw [er]; exact HM.out.lt⟩; clear hit4 hb4 hs4 er))
  try go_frame
  go_loopg [6] L.length (fun gk v6 wr2 => ∃ (xs : List Int) (Rm : List (Value × Value)), Rm.length ≤ gk ∧ Aside0 (ByI w (w1.heap.size + 1) go b r14 co L xs Rm wr2))
  case atStart => exact ⟨_, L, Nat.le_refl _, HBY⟩
  case round =>
    clear HBY
    obtain ⟨xs, Rm, hgl, HN⟩ := hrel
    go_wp2_with ((with_reducible refine gate_dst (N := 15) rfl ?_); refine nextZ (N := 15) (b := b) (r := r14) (Rm := Rm) rfl rfl _ 3 3 rfl rfl HN.out.it (by have := HD.out; omega) ?_ ?_)
    · intro hnil
      subst hnil
      go_wp2
      go_ret
      have hxs : xs = r := by
        rw [← HRR.out]
        have h17 := HN.out.len
        refine List.ext_getElem (by simp [h17]) fun j h1 h2 => ?_
        have hj : j < 17 := by omega
        have e1 := HN.out.sum j hj
        rw [show wsum (indZ (j : Int)) [] = 0 from rfl, Int.add_zero] at e1
        have e2 := HSUM.out (fun z : Int => if z = (j : Int) then 1 else 0)
        rw [valG_cbF k a0_0 a0_1 a0_2 l0_3 (j : Int) _ _ _ gg HX.out] at e2
        have e3 : rd xs (j : Int) = xs[j] := by simp [rd, h1]
        have e4 : Cg (rd xs (j : Int)) (gg (j : Int)) := by rw [e1]; exact e2
        rw [← e3]
        simp only [List.getElem_map, List.getElem_range]
        exact Cg.eq (e4.trans (Cg.wrap _).symm) (HN.out.wf j) (InI.wrap _)
      subst hxs
      exact ⟨_, rfl, Kd.R_mono HN.out.own (fun _ _ => trivial), HN.out.below⟩
    · intro key v Rm' w7 hmem hl hsub hsum hit hen hg hs
      obtain ⟨m, c, e, hIv⟩ := HMK.out _ (HN.out.sub _ hmem)
      replace hsub : ∀ x ∈ Rm', x ∈ Rm := fun x h_ => (by first | exact hsub x h_ | exact hsub x.1 x.2 h_)
      obtain ⟨rfl, rfl⟩ := Prod.mk.inj e
      obtain ⟨c', ec, hwc⟩ := mapZ_wf Try.underlying3 HM.out _ (HN.out.sub _ hmem)
      have hcI : InI c := by cases ec; exact inI_of_wf hwc
      have hm16 := (cbI_in hIv).2
      obtain ⟨M, rfl⟩ : ∃ M : Nat, m = (M : Int) := ⟨m.toNat, by omega⟩
      have hM : M < 17 := by omega
      have HX7 := Aside0.mk (And.intro hmem (And.intro hl (And.intro hsub (And.intro hsum (And.intro hcI hM)))))
      have HI7 := Aside0.mk hit
      have HO7 : Aside0 (Kd.R (Kd.int .i64) 3 w7 w.heap.size (fun k_ => k_ < w1.heap.size + 1) (.slice (some ⟨go, 0, none⟩) 17 co) xs) := ⟨Kd.R_step HN.out.own (fun k_ hk_ hlt_ => hg.block k_ hlt_ (fun e_ => by have := HD.out; cases e_; omega))⟩
      have HB7 : Aside0 (Below w.heap.size w w7) := ⟨below_of_grown HN.out.below hg HN.out.below.size (by have := HD.out; have := HW1.out.size; omega)⟩
      have HRN : Aside0 (r14 ≠ go ∧ b ≠ go) := ⟨by have := HD.out; have := HBB.out; have := HGB.out; omega, by have := HD.out; have := HBB.out; have := HGB.out; omega⟩
      clear hmem hl hsub hsum hit hg hs e ec hwc hcI hIv
      obtain ⟨hx8, hf8⟩ := Kd.R_celln 0 HO7.out (M : Int) (by omega) (by omega)
      have HPUT := Aside0.mk (Kd.R_putg HO7.out (M : Int) c)
      have hp0 : (0 : Int) ≤ (M : Int) := by omega
      have hq0 : (M : Int) < 17 := by omega
      have hq1 : (M : Int) < ((17 : Nat) : Int) := by omega
      rw [Int.toNat_natCast] at hx8 hf8
      go_wp2_with ((with_reducible refine gate_store (t := 3) (p := 23) rfl ?_); refine store_event (t := 3) (p := 23) (v := ?vo) (w1 := (w7.setCell ⟨go, (M : Int).toNat, none⟩ (.int .i64 c))) ?hg ?ho ?hn ?hr ?_; (case ho => rfl); (case hg => rfl); (case hn => rfl); (case hr => first | (go_simp; done) | (go_simp; rfl)); intro w8 hw; have HW8 := Aside0.mk hw; clear hw)
      go_roundg Rm'.length
      case measure => have := HX7.out.2.1; omega
      case rel =>
        have hPUT := HPUT.out
        rw [← HW8.out] at hPUT
        rw [Int.toNat_natCast] at hPUT
        have hblk : ∀ i, i < w7.heap.size → i ≠ go → w8.heap[i]? = w7.heap[i]? := fun i h1 h2 => hPUT.2.block i h1 (fun e_ => h2 (by cases e_; rfl))
        exact ⟨xs.set M c, Rm', Nat.le_refl _, ⟨ByI.step HN.out HX7.out.2.2.2.2.2 HX7.out.2.2.2.2.1 hPUT.1 (HI7.out.of_blocks (hblk b HI7.out.lts.1 HRN.out.2) (hblk r14 HI7.out.lts.2 HRN.out.1)) (below_of_grown HB7.out hPUT.2 HB7.out.size (by have := HGB.out; have := HW1.out.size; omega)) HX7.out.1 HX7.out.2.2.1 HX7.out.2.2.2.1⟩⟩

end Go.Proofs.Ytphjhfpeomifiaa.P
