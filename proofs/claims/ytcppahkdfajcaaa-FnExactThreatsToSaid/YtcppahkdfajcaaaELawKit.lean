/- Words for the walks of laws: values of the call's own that lie between two marks in memory; a world under one letter. -/
import Derived.Test.YtcppahkdfajcaaaP
import Derived.Test.YtcppahkdfajcaaaP47
namespace Go.Proofs.Ytcppahkdfajcaaa.P
open Go.RowKit Go.Proofs.YtcppahkdfajcaaaW.PrintWords Go.Proofs.YtcppahkdfajcaaaW.PrintLast Go.Proofs.YtcppahkdfajcaaaW.PrintMore
set_option linter.unusedVariables false
set_option linter.unusedSimpArgs false

/-- The blocks from a on, below b. -/
def Iv (a b : Nat) (k : Nat) : Prop := a ≤ k ∧ k < b
theorem calls_at {P : Program} {f : Nat} {args : Array Value} {W : World} {Q : Ending → World → Prop} (p : World → Prop) (h : p W) (k : ∀ W, p W → Calls P f args W Q) : Calls P f args W Q := k W h
theorem R_iv {α : Type} {d : Kd α} {e n base : Nat} {w1 : World} {ok : Nat → Prop} {v : Value} {xs : List α} (h : d.R e w1 n ok v xs) (hb : base ≤ n) : d.R e w1 base (Iv n w1.heap.size) v xs :=
  Kd.R_lower (Kd.R_mono (Kd.R_bound h) (fun k hk => ⟨hk.2.1, hk.2.2.1⟩)) hb
theorem R_iv2 {α : Type} {d : Kd α} {e n base : Nat} {w1 : World} {ok : Nat → Prop} {v u : Value} {xs : List α} (h : d.R e w1 n (fun k => ok k ∧ some k ≠ u.ownBlock) v xs) (hb : base ≤ n) : d.R e w1 base (fun k => Iv n w1.heap.size k ∧ some k ≠ u.ownBlock) v xs :=
  Kd.R_lower (Kd.R_mono (Kd.R_bound h) (fun k hk => ⟨⟨hk.2.1, hk.2.2.1⟩, hk.1.2⟩)) hb
theorem S_iv {α : Type} {d : Kd α} {e n base : Nat} {w1 : World} {ok : Nat → Prop} {v : Value} {xs : List α} (h : Kd.S d e w1 n ok v xs) (hb : base ≤ n) : Kd.S d e w1 base (Iv n w1.heap.size) v xs :=
  Kd.S_lower (Kd.S_mono (Kd.S_bound h) (fun k hk => ⟨hk.2.1, hk.2.2.1⟩)) hb
theorem R_next {α : Type} {d : Kd α} {e base : Nat} {w w1 : World} {ok S : Nat → Prop} {v : Value} {xs : List α} (h : d.R e w base ok v xs) (hk : Kept w w1 S) (hn : ∀ k, ok k → ¬ S k) : d.R e w1 base ok v xs := Kd.R_kept h hk hn
theorem S_next {α : Type} {d : Kd α} {e base : Nat} {w w1 : World} {ok S : Nat → Prop} {v : Value} {xs : List α} (h : Kd.S d e w base ok v xs) (hk : Kept w w1 S) (hn : ∀ k, ok k → ¬ S k) : Kd.S d e w1 base ok v xs := Kd.S_kept h hk hn
theorem kept_none {w w1 : World} {S : Nat → Prop} (h : Kept w w1 (fun _ => False)) : Kept w w1 S := h.mono (fun _ hf => hf.elim)
theorem kept_put {w W : World} {B j : Nat} {u : Value} (h : Kept w W (fun k_ => k_ = B)) : Kept w (W.setCell ⟨B, j, none⟩ u) (fun k_ => k_ = B) := h.setCell (.inl rfl) u
/-- A new block's place. -/
theorem blk_at {w w1 : World} {o : Obj} {B : Nat} (h : w1.heap[B]? = some o) : B < w1.heap.size := blk_lt h
end Go.Proofs.Ytcppahkdfajcaaa.P
namespace Go.Proofs.Ytcppahkdfajcaaa.P
open Go.RowKit Go.Proofs.YtcppahkdfajcaaaW.PrintWords Go.Proofs.YtcppahkdfajcaaaW.PrintLast Go.Proofs.YtcppahkdfajcaaaW.PrintMore
set_option linter.unusedVariables false
set_option linter.unusedSimpArgs false

def laws_markIntSS.f (k : Nat) : List (List Int) → Int → Option (Int × List (List Int))
  | [], a => some (a, [])
  | r :: rs, a => (laws_markIntS.f k r a).bind fun p => (laws_markIntSS.f k rs p.1).bind fun q => some (q.1, p.2 :: q.2)

set_option maxHeartbeats 4000000 in
set_option maxRecDepth 100000 in
theorem laws_markIntSS.calls (k : Nat) (ok : Nat → Prop) (v : Value) (l0 : List (List Int)) (a1 r1 : Int) (r2 : List (List Int)) (w0 w : World) (hB : Below w0.heap.size w0 w) (ho : Kd.S (Kd.slice 3 (Kd.int .i64)) 22 w w0.heap.size ok v l0) (h : laws_markIntSS.f k l0 a1 = some (r1, r2)) :
    Calls Try.prog 36 #[v, .int .i64 a1] w fun e w' => e = .returned (.int .i64 r1) ∧ Kd.S (Kd.slice 3 (Kd.int .i64)) 22 w' w0.heap.size ok v r2 ∧ Below w0.heap.size w0 w' ∧ Kept w w' ok := by
  obtain ⟨A, c, rfl⟩ := Kd.S_slice ho
  have hbig : l0.length ≤ 9223372036854775807 := (Kd.S_reads' ho).2.2.2.1
  have HO := Aside0.mk ho
  have HB := Aside0.mk hB
  have HF := Aside0.mk h
  clear ho hB h
  cases A with
  | none =>
    have hl : l0.length = 0 := by
      rcases Nat.eq_zero_or_pos l0.length with h | h
      · exact h
      · obtain ⟨g, cap, he, _⟩ := Kd.S_form HO.out h; cases he
    have hnil : l0 = [] := List.eq_nil_of_length_eq_zero hl
    subst hnil
    obtain ⟨rfl, rfl⟩ : a1 = r1 ∧ [] = r2 := by have := HF.out; simp only [laws_markIntSS.f, Option.some.injEq, Prod.mk.injEq] at this; exact this
    clear hl hbig HF
    show Calls Try.prog 36 #[.slice none 0 c, .int .i64 a1] w _
    go_enter Try.func36, Try.ntmps36
    go_wp2
    go_loopg [1, 5] 1 (fun gg v1 v5 wr => v1 = .int .i64 a1 ∧ v5 = .int .i64 0 ∧ wr = w)
    case atStart => exact ⟨rfl, rfl, rfl⟩
    case round =>
      obtain ⟨rfl, rfl, rfl⟩ := hrel
      go_wp2
      go_ret
      exact ⟨rfl, HO.out, HB.out, Kept.refl _ _⟩
  | some ad =>
    obtain ⟨g, rfl⟩ := Kd.R_head (Kd.S_R HO.out)
    go_enter Try.func36, Try.ntmps36
    go_wp2
    go_loopg [1, 5] l0.length (fun gg v1 v5 wr => ∃ (i : Nat) (x : Int) (done : List (List Int)) (q : Int × List (List Int)), i ≤ l0.length ∧ l0.length - i ≤ gg ∧ v1 = .int .i64 x ∧ v5 = .int .i64 i ∧ Aside0 (done.length = i) ∧ Aside0 (laws_markIntSS.f k (l0.drop i) x = some q) ∧ Aside0 (q.1 = r1 ∧ done ++ q.2 = r2) ∧
      Aside0 (Kd.S (Kd.slice 3 (Kd.int .i64)) 22 wr w0.heap.size ok (.slice (some ⟨g, 0, none⟩) l0.length c) (done ++ l0.drop i)) ∧ Aside0 (Below w0.heap.size w0 wr) ∧ Aside0 (Kept w wr ok))
    case atStart => exact ⟨0, a1, [], (r1, r2), Nat.zero_le _, by omega, rfl, rfl, ⟨rfl⟩, ⟨by rw [List.drop_zero]; exact HF.out⟩, ⟨rfl, rfl⟩, ⟨by rw [List.drop_zero]; exact HO.out⟩, HB, ⟨Kept.refl _ _⟩⟩
    case round =>
      clear HO HB HF
      obtain ⟨i, x, done, q, hi, hg, rfl, rfl, HD, HF, HQ, HO, HB, HK⟩ := hrel
      by_cases hlt : i < l0.length
      · have hlti : (i : Int) < (l0.length : Int) := by omega
        have hi0 : (0 : Int) ≤ (i : Int) := by omega
        obtain ⟨oki, cc, hcl, hM, hcc, hoki, hH⟩ := Kd.S_lend HO.out ([] : List Int) (i : Int) hi0 hlti
        obtain ⟨u, rfl, hR⟩ := hM
        have hrow : (done ++ l0.drop i).getD ((i : Int)).toNat [] = l0[i] := by
          rw [Int.toNat_natCast, List.getD_eq_getElem?_getD, List.getElem?_append_right (by rw [HD.out]; exact Nat.le_refl _), HD.out, Nat.sub_self, List.drop_eq_getElem_cons hlt]
          rfl
        rw [hrow] at hR
        have hc0 : wr.cell? ⟨g, i, none⟩ = some u := by have := hcc 0 u rfl; rw [Int.toNat_natCast] at this; simpa [Kd.slice] using this
        have hf := HF.out
        rw [List.drop_eq_getElem_cons hlt] at hf
        unfold laws_markIntSS.f at hf
        obtain ⟨p, hp, hf⟩ := Option.bind_eq_some_iff.1 hf
        obtain ⟨q', hq', hf⟩ := Option.bind_eq_some_iff.1 hf
        have HP := Aside0.mk hp
        have HQ' := Aside0.mk hq'
        have HE := Aside0.mk (Option.some.inj hf)
        have HR := Aside0.mk hR
        have HH := Aside0.mk hH
        have HOK := Aside0.mk hoki
        have HDR := Aside0.mk (List.drop_eq_getElem_cons hlt)
        clear hf hp hq' hR hH hoki hrow hcl hcc
        go_wp2_with (go_at_call 47; refine (laws_markIntS.calls k oki u _ x p.1 p.2 w0 _ HB.out HR.out HP.out).mono ?_; rintro e w' ⟨rfl, hy, hb, hk⟩; have HY := Aside0.mk hy; have HB2 := Aside0.mk hb; have HK2 := Aside0.mk hk; clear hy hb hk)
        go_roundg (l0.length - (i + 1))
        case measure => omega
        case rel =>
          refine ⟨i + 1, p.1, done ++ [p.2], q', by omega, by omega, rfl, by go_num, ⟨by rw [List.length_append, HD.out]; rfl⟩, HQ', ⟨?_⟩, ⟨?_⟩, HB2, ⟨HK.out.then_ HK2.out (fun k_ hk_ => .inl (HOK.out k_ hk_).1)⟩⟩
          · have h1 := HQ.out
            rw [← HE.out] at h1
            refine ⟨h1.1, ?_⟩
            rw [List.append_assoc]
            exact h1.2
          · have hnew := Kd.H_back (x' := p.2) (okp := oki) (Kd.H_kept HH.out HK2.out (fun _ _ hn => hn)) ⟨u, rfl, Kd.R_mono (Kd.R_tight rfl HY.out) (fun k_ e_ => HR.out.1 k_ e_.symm)⟩ (fun _ h_ => h_)
            have e : (done ++ l0.drop i).set ((i : Int)).toNat p.2 = done ++ [p.2] ++ l0.drop (i + 1) := by
              rw [Int.toNat_natCast, HDR.out, List.set_append_right _ _ (by rw [HD.out]; exact Nat.le_refl _), HD.out, Nat.sub_self, List.set_cons_zero, List.append_assoc]
              rfl
            rw [e] at hnew
            exact hnew
      · have hlti : ¬ (i : Int) < (l0.length : Int) := by omega
        have hin : i = l0.length := by omega
        subst hin
        have hf := HF.out
        rw [List.drop_of_length_le (Nat.le_refl _)] at hf
        simp only [laws_markIntSS.f, Option.some.injEq] at hf
        subst hf
        have HO2 := HO.out
        rw [List.drop_of_length_le (Nat.le_refl _), List.append_nil] at HO2
        have HO3 := Aside0.mk HO2
        have h1 := HQ.out
        rw [List.append_nil] at h1
        obtain ⟨e1, e2⟩ := h1
        subst e1 e2
        clear HO2 HQ
        go_wp2
        go_ret
        exact ⟨rfl, HO3.out, HB.out, HK.out⟩

end Go.Proofs.Ytcppahkdfajcaaa.P
namespace Go.Proofs.Ytcppahkdfajcaaa.P
open Go.RowKit Go.Proofs.YtcppahkdfajcaaaW.PrintWords Go.Proofs.YtcppahkdfajcaaaW.PrintLast Go.Proofs.YtcppahkdfajcaaaW.PrintMore
set_option linter.unusedVariables false
set_option linter.unusedSimpArgs false

/-- The list with one number of one row changed. -/
def set2 (s : List (List Int)) (p t : Nat) (x : Int) : List (List Int) := s.set p ((s.getD p []).set t x)
theorem set2_length (s : List (List Int)) (p t : Nat) (x : Int) : (set2 s p t x).length = s.length := by simp [set2]
theorem set2_row (s : List (List Int)) (p t q : Nat) (x : Int) : ((set2 s p t x).getD q []).length = (s.getD q []).length := by
  unfold set2
  simp only [List.getD_eq_getElem?_getD, List.getElem?_set]
  split
  · rename_i h; subst h
    split
    · simp
    · rename_i h; simp [List.getElem?_eq_none (Nat.le_of_not_lt h)]
  · rfl
/-- One number: where its row lies, what its cells hold, and what is left when another number is written there. -/
theorem S2_at {w : World} {base : Nat} {ok : Nat → Prop} {g n c : Nat} {s : List (List Int)} (h : Kd.S (Kd.slice 3 (Kd.int .i64)) 22 w base ok (.slice (some ⟨g, 0, none⟩) n c) s) {p t : Nat} (hp : p < s.length) (ht : t < (s.getD p []).length) :
    ∃ gr cr : Nat, w.cell? ⟨g, p, none⟩ = some (.slice (some ⟨gr, 0, none⟩) (s.getD p []).length cr) ∧ w.cell? ⟨gr, t, none⟩ = some (.int .i64 (rd (s.getD p []) (t : Int))) ∧ w.frozen? ⟨gr, t, none⟩ = false ∧ ok gr ∧ gr < w.heap.size ∧ base ≤ gr ∧
      ∀ (w1 : World) (x : Int), w1.heap = w.heap → Kd.S (Kd.slice 3 (Kd.int .i64)) 22 (w1.setCell ⟨gr, t, none⟩ (.int .i64 x)) base ok (.slice (some ⟨g, 0, none⟩) n c) (set2 s p t x) := by
  have hn := (Kd.S_reads' h).1
  obtain ⟨oki, cc, hcl, hM, hcc, hoki, hH⟩ := Kd.S_lend h ([] : List Int) (p : Int) (by omega) (by omega)
  obtain ⟨u, rfl, hR⟩ := hM
  rw [Int.toNat_natCast] at hR hcc
  obtain ⟨gr, cr, rfl, hge, hlt, cells, hb⟩ := Kd.R_form hR (by omega)
  have hc0 := hcc 0 _ rfl
  obtain ⟨ad, e, hx⟩ := Kd.at_int (Kd.R_reads' hR).2.2 (t : Int) (by omega) (by omega)
  cases e
  have hok : oki gr := hR.1 gr rfl
  refine ⟨gr, cr, by simpa [Kd.slice] using hc0, by rw [Int.toNat_natCast, add_plain] at hx; exact hx, blk_frozen hb t, (hoki gr hok).1, hlt, hge, fun w1 x e => ?_⟩
  have hR1 : Kd.R (Kd.int .i64) 3 w1 base oki (.slice (some ⟨gr, 0, none⟩) (s.getD p []).length cr) (s.getD p []) := Kd.R_move hR (fun k _ => by rw [e])
  obtain ⟨hR2, hg⟩ := Kd.R_putg hR1 (t : Int) x
  rw [Int.toNat_natCast] at hR2 hg
  have hH1 : Kd.H (Kd.slice 3 (Kd.int .i64)) 22 w1 base ok (.slice (some ⟨g, 0, none⟩) n c) s (p : Int) oki [.slice (some ⟨gr, 0, none⟩) (s.getD p []).length cr] := Kd.H_step hH (fun k _ _ _ => by rw [e])
  have hH2 := Kd.H_grown hH1 hg (fun k hk => by injection hk with hk; rw [← hk]; exact hok)
  have hS := Kd.H_back hH2 (x' := (s.getD p []).set t x) (okp := oki) ⟨_, rfl, hR2⟩ (fun _ h_ => h_)
  rw [Int.toNat_natCast] at hS
  exact hS

/-- The tokens of others on a square go home. -/
def sendL (p : Int) : List (List Int) → Int → List (List Int) → Option (Int × List (List Int))
  | [], n, s => some (n, s)
  | one :: r, n, s => if one.length = 2 then (if rd one 0 = p then sendL p r n s else if 0 ≤ rd one 0 ∧ rd one 0 < (s.length : Int) ∧ 0 ≤ rd one 1 ∧ rd one 1 < ((s.getD (rd one 0).toNat []).length : Int) then sendL p r (wrap64 (n + 1)) (set2 s (rd one 0).toNat (rd one 1).toNat (-1)) else none) else none
theorem calls_args {P : Program} {f : Nat} {args args' : Array Value} {W : World} {Q : Ending → World → Prop} (h : args' = args) (hc : Calls P f args' W Q) : Calls P f args W Q := h ▸ hc

end Go.Proofs.Ytcppahkdfajcaaa.P
