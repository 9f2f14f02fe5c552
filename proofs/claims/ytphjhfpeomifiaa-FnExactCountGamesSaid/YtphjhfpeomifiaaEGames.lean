/- Board.games: how many lists of throws come to the end with each mark: what the Go text returns. Boards with at most eight faces, at most sixteen throws. -/
import Derived.Test.YtphjhfpeomifiaaEMapZ
import Derived.Test.YtphjhfpeomifiaaQCg
import Derived.Test.YtphjhfpeomifiaaEFunc
import Derived.Deep.RegionWith
import Derived.DeepKeys5
import Derived.Test.YtphjhfpeomifiaaP79
namespace Go.Proofs.Ytphjhfpeomifiaa.P
open Go.ChangeMaps (setBlock)
open Go.RowKit Go.Proofs.Ytphjhfpeomifiaa.Q Go.Proofs.YtphjhfpeomifiaaW.PrintWords Go.Proofs.YtphjhfpeomifiaaW.PrintLast Go.Proofs.YtphjhfpeomifiaaW.PrintMore
set_option linter.unusedVariables false
set_option linter.unusedSimpArgs false

theorem calls_at {P : Program} {f : Nat} {args : Array Value} {W : World} {Q : Ending → World → Prop} (p : World → Prop) (h : p W) (k : ∀ W, p W → Calls P f args W Q) : Calls P f args W Q := k W h
theorem zeroI (w : World) : (zeroValue 3).run Try.prog w = .ok (.int .i64 0) w := by kernel_rfl
theorem spot_law : Maps.Keyed Try.prog 76 := Maps.Keyed.of_law (deep_law_gate (by kernel_rfl) (by decide +kernel) (by decide +kernel) (by kernel_rfl) (by kernel_rfl))
theorem int_law : Maps.Keyed Try.prog 3 := Maps.int_keyed Try.underlying3
theorem spot_key {q m : Int} (hq : (Lit.int .i64 q).wf = true) (hm : (Lit.int .i64 m).wf = true) : ∃ kl, keyOf Try.prog 76 (.agg #[.int .i64 q, .int .i64 m]) = some kl := by
  have hk : Try.prog.keyType 76 = true := by kernel_rfl
  have hf : (Value.agg #[.int .i64 q, .int .i64 m]).formed Try.prog 76 = true := by kernel_rfl
  have hc : Try.prog.cellsOf 76 = 2 := by kernel_rfl
  have hc3 : Try.prog.cellsOf 3 = 1 := by kernel_rfl
  obtain ⟨n, hn⟩ : ∃ n, Try.prog.types.size = n + 1 := ⟨Try.prog.types.size - 1, by kernel_rfl⟩
  refine ⟨.string (keyBytes [.int .i64 q, .int .i64 m]), ?_⟩
  unfold keyOf
  simp only [Try.underlying76, hk, hf, Bool.and_self, if_true]
  rw [hn]
  unfold Program.keyLits
  simp only [Try.underlying76, Value.cells]
  rw [if_pos (by rw [hc]; exact ⟨rfl, by kernel_rfl⟩)]
  simp [Program.keyLits, Try.underlying3, hc3, hq, hm]
theorem int_key {m : Int} (hm : (Lit.int .i64 m).wf = true) : keyOf Try.prog 3 (.int .i64 m) = some (.int .i64 m) := Maps.keyOf_int_mk Try.underlying3 hm
theorem wf_of {x : Int} (h1 : -9223372036854775808 ≤ x) (h2 : x ≤ 9223372036854775807) : (Lit.int .i64 x).wf = true := by
  show (decide (IntKind.i64.min ≤ x) && decide (x ≤ IntKind.i64.max)) = true
  rw [show IntKind.i64.min = -9223372036854775808 by decide, show IntKind.i64.max = 9223372036854775807 by decide]
  simp [h1, h2]
theorem wf_wrap (x : Int) : (Lit.int .i64 (IntKind.i64.wrap x)).wf = true := by
  rw [IntKind.wrap_i64]
  exact wf_of (by omega) (by omega)
theorem wf_wrap64 (x : Int) : (Lit.int .i64 (wrap64 x)).wf = true := wf_of (by unfold wrap64; omega) (by unfold wrap64; omega)
theorem cg_wrap (x : Int) : Cg (IntKind.i64.wrap x) x := ⟨-((x + 9223372036854775808) / 18446744073709551616), by rw [IntKind.wrap_i64]; omega⟩

/-- A key's two numbers. -/
def sqOf : Value → Int
  | .agg xs => intOf (xs.getD 0 (.bool false))
  | _ => 0
def mkOf : Value → Int
  | .agg xs => intOf (xs.getD 1 (.bool false))
  | _ => 0
theorem sqOf_mk (q m : Int) : sqOf (.agg #[.int .i64 q, .int .i64 m]) = q := rfl
theorem mkOf_mk (q m : Int) : mkOf (.agg #[.int .i64 q, .int .i64 m]) = m := rfl

/-- The lists of n throws from a square on, those that come to the end just by the last one, each as often as F says of its mark. -/
def valG (s f : Int) (tv : Int → Int → Int) (mv : Int → Int → Int → Int) (F : Int → Int) : Nat → Int → Int → Int
  | 0, q, m => if q = s then F m else 0
  | n + 1, q, m => if q = s then 0 else sumN f.toNat fun i => valG s f tv mv F n (tv q ((i : Int) + 1)) (mv q m ((i : Int) + 1))
def valV (s f : Int) (tv : Int → Int → Int) (mv : Int → Int → Int → Int) (F : Int → Int) (n : Nat) (v : Value) : Int := valG s f tv mv F n (sqOf v) (mkOf v)

/-- What is known of the throws and the marks on the way. -/
structure Way (k : Nat) (s f o : Int) (l0 : List S70) (tv : Int → Int → Int) (mv : Int → Int → Int → Int) (Iv : Nat → Int → Int → Prop) : Prop where
  f0 : 0 ≤ f
  f8 : f ≤ 8
  thr : ∀ n q m, Iv (n + 1) q m → q ≠ s → ∀ j : Int, 1 ≤ j → j ≤ f → impl_Board_throw.f k s f o l0 q j = some (tv q j) ∧ Iv n (tv q j) (mv q m j)
  wf : ∀ n q m, Iv n q m → (Lit.int .i64 q).wf = true ∧ (Lit.int .i64 m).wf = true

/-- Function g, bound to lb, tells the mark behind a throw. -/
def MarkOk (g : Nat) (lb : Array Value) (s f : Int) (mv : Int → Int → Int → Int) (Iv : Nat → Int → Int → Prop) (w : World) : Prop :=
  ∀ (W : World) (n : Nat) (q m j : Int), Below w.heap.size w W → Iv (n + 1) q m → q ≠ s → 1 ≤ j → j ≤ f → Calls Try.prog g (#[.agg #[.int .i64 q, .int .i64 m], .int .i64 j] ++ lb) W fun e w' => e = .returned (.int .i64 (mv q m j)) ∧ Below W.heap.size W w'

/-- Entries are spots with numbers. -/
def Spots (Iv : Int → Int → Prop) (L : List (Value × Value)) : Prop := ∀ x ∈ L, ∃ q m c : Int, x = (.agg #[.int .i64 q, .int .i64 m], .int .i64 c) ∧ Iv q m

section
variable (s f : Int) (tv : Int → Int → Int) (mv : Int → Int → Int → Int) (Iv : Nat → Int → Int → Prop) (sq0 mk0 : Int) (T : Nat)
/-- In front of a round. -/
structure AllI (w1 : World) (i b1 : Nat) (L : List (Value × Value)) (wr : World) : Prop where
  map : mapZ Try.prog 76 3 wr b1 L
  len : L.length ≤ 8 ^ i
  spots : Spots (Iv (T - i)) L
  sum : ∀ F, Cg (wsum (valV s f tv mv F (T - i)) L) (valG s f tv mv F T sq0 mk0)
  one : T = 0 → ∀ x ∈ L, sqOf x.1 = sq0
  base : w1.heap.size ≤ b1
  below : Below w1.heap.size w1 wr

/-- Among the spots of a round. -/
structure NextI (w1 : World) (i b1 b2 r : Nat) (N Rm : List (Value × Value)) (wr : World) : Prop where
  map : mapZ Try.prog 76 3 wr b2 N
  it : iterZ Try.prog 76 3 wr b1 r Rm
  len : N.length + 8 * Rm.length ≤ 8 ^ (i + 1)
  spotsN : Spots (Iv (T - (i + 1))) N
  spotsR : Spots (Iv (T - i)) Rm
  sum : ∀ F, Cg (wsum (valV s f tv mv F (T - (i + 1))) N + wsum (valV s f tv mv F (T - i)) Rm) (valG s f tv mv F T sq0 mk0)
  below : Below w1.heap.size w1 wr

/-- Among the faces at a spot. -/
structure FaceI (w1 : World) (i b1 b2 r b3 : Nat) (q m c : Int) (j : Nat) (N Rm : List (Value × Value)) (wr : World) : Prop where
  map : mapZ Try.prog 76 3 wr b2 N
  it : iterZ Try.prog 76 3 wr b1 r Rm
  len : N.length + 8 * Rm.length + 8 ≤ 8 ^ (i + 1) + j
  spotsN : Spots (Iv (T - (i + 1))) N
  spotsR : Spots (Iv (T - i)) Rm
  sum : ∀ F, Cg (wsum (valV s f tv mv F (T - (i + 1))) N + c * (sumN f.toNat (fun i_ => valG s f tv mv F (T - (i + 1)) (tv q ((i_ : Int) + 1)) (mv q m ((i_ : Int) + 1))) - sumN j (fun i_ => valG s f tv mv F (T - (i + 1)) (tv q ((i_ : Int) + 1)) (mv q m ((i_ : Int) + 1)))) + wsum (valV s f tv mv F (T - i)) Rm) (valG s f tv mv F T sq0 mk0)
  below : Below w1.heap.size w1 wr
  cell : wr.heap[b3]? = some (.cells #[.int .i64 q, .int .i64 m] 76 (0, 0))

/-- Among the spots in the end. -/
structure LastI (w1 : World) (b1 b2 r : Nat) (N Rm : List (Value × Value)) (wr : World) : Prop where
  map : mapZ Try.prog 3 3 wr b2 N
  it : iterZ Try.prog 76 3 wr b1 r Rm
  len : N.length + Rm.length ≤ 8 ^ T
  marks : ∀ x ∈ N, ∃ m c : Int, x = (.int .i64 m, .int .i64 c) ∧ Iv 0 s m
  spots : Spots (Iv 0) Rm
  one : T = 0 → ∀ x ∈ Rm, sqOf x.1 = sq0
  sum : ∀ F, Cg (wsum (fun v => F (intOf v)) N + wsum (valV s f tv mv F 0) Rm) (valG s f tv mv F T sq0 mk0)
  below : Below w1.heap.size w1 wr
end

theorem pow8 {T i : Nat} (hT : T ≤ 16) (hi : i ≤ T) : 8 ^ (i + 1) ≤ 2251799813685248 := by
  have : (8 : Nat) ^ (i + 1) ≤ 8 ^ 17 := Nat.pow_le_pow_right (by decide) (by omega)
  exact this

section
variable {P : Program} {ops : Array Oper} {rest : List Oper} {o : Oper} {a : Act} {Q : Exit → Act → World → Prop} {W : World}
/-- A new map. -/
theorem makeMapZ {N : Tmp} (_hd : o.dst = some N) (hgd : o.guard = none) (t k e : TypeId) (hop : o.op = .makeMap t none) (h : ∀ g, g = W.heap.size → ∀ w1, mapZ P k e w1 g [] → Below W.heap.size W w1 → w1.heap.size = W.heap.size + 1 → wpList P ops Q rest (a.put o.dst (.map (some g))) w1) : wpList P ops Q (o :: rest) a W :=
  Kd.event_run hgd (w1 := W.alloc (.map #[] 0)) (by simp [execOp, hop, Instr.makeMap, newObj, Sem.run, Result.andThen]) (h _ rfl _ (mapZ_made W P k e) ((Below.refl _ _).alloc (Nat.le_refl _) _) (by simp))
end

theorem grown_setBlock {w : World} {b : Nat} (o : Obj) : w.grownBy (setBlock w b o) (some b) := ⟨rfl, rfl, rfl, by simp [setBlock], fun i _ hi => setBlock_ne (fun e => hi (by rw [e])) o⟩
theorem below_of_grown {B : Nat} {u w w1 : World} {b : Nat} (h : Below B u w) (g : w.grownBy w1 (some b)) (hs : B ≤ w.heap.size) (hb : B ≤ b) : Below B u w1 := h.grown g hs (fun k e => by cases e; exact hb)
theorem keep_block {w w1 : World} {b i : Nat} {x : Obj} (g : w.grownBy w1 (some b)) (h : w.heap[i]? = some x) (hne : i ≠ b) : w1.heap[i]? = some x :=
  (g.block i (by rcases Nat.lt_or_ge i w.heap.size with h1 | h1; exact h1; rw [Array.getElem?_eq_none h1] at h; cases h) (fun e => hne (by cases e; rfl))).trans h
theorem ind_uniq {c d : Int} {key : Value} {L : List (Value × Value)} (h1 : ∀ F : Value → Int, (∀ v, v ≠ key → F v = 0) → c * F key = wsum F L) (h2 : ∀ F : Value → Int, (∀ v, v ≠ key → F v = 0) → d * F key = wsum F L) : c = d := by
  classical
  have e1 := h1 (fun v => if v = key then 1 else 0) (fun v hv => if_neg hv)
  have e2 := h2 (fun v => if v = key then 1 else 0) (fun v hv => if_neg hv)
  rw [if_pos rfl] at e1 e2
  omega
section
variable {P : Program} {ops : Array Oper} {rest : List Oper} {o : Oper} {a : Act} {Q : Exit → Act → World → Prop} {W : World}
theorem gate_upd {t : TypeId} {m x v : Operand} (_ho : o.op = .mapUpdate t m x v) (h : wpList P ops Q (o :: rest) a W) : wpList P ops Q (o :: rest) a W := h
theorem gate_ins {t : TypeId} {m x v : Operand} (_ho : o.op = .insert t m x v) (h : wpList P ops Q (o :: rest) a W) : wpList P ops Q (o :: rest) a W := h
/-- 'm[k] = n' and an entry of a literal, at the operation. -/
theorem insertZ (hgd : o.guard = none) (m x v : Operand) (t k e : TypeId) (hop : o.op = .insert t m x v) (K : Maps.Keyed P k) (ht : P.underlying t = some (.map k e)) (he : P.underlying e = some (.int .i64)) {b : Nat} {L : List (Value × Value)} (hm : a.eval m = .map (some b)) (h : mapZ P k e W b L) (hlen : L.length < maxLen) {key : Value} {kl : Lit} (hx : a.eval x = key) (hkey : keyOf P k key = some kl) (q : Int) (hv : a.eval v = .int .i64 q) (hq : (Lit.int .i64 q).wf = true)
    (hK : ∀ (c : Int) (L' : List (Value × Value)) (w1 : World), mapZ P k e w1 b L' → L'.length ≤ L.length + 1 → (∀ x ∈ L', x ∈ L ∨ x = (key, .int .i64 q)) → (∀ F : Value → Int, (∀ v, v ≠ key → F v = 0) → c * F key = wsum F L) → (∀ F : Value → Int, wsum F L' = wsum F L + (q - c) * F key) → W.grownBy w1 (some b) → w1.heap.size = W.heap.size → wpList P ops Q rest (a.put o.dst undef) w1) : wpList P ops Q (o :: rest) a W := by
  obtain ⟨c, o2, L', hrun, hmap, hl, hmem, hind, hsum⟩ := mapZ_update K ht he h hlen hkey q hq
  refine wpList_plain hgd fun K' hK' => ?_
  have hnext := hK c L' _ (hmap _ (setBlock_at h.lt o2)) hl hmem hind hsum (grown_setBlock o2) (setBlock_size ..)
  unfold Oper.wp
  simp [execOp, hop, hm, hx, hv, hrun, Result.andThen]
  exact hK' _ _ hnext
theorem updateZ (hgd : o.guard = none) (m x v : Operand) (t k e : TypeId) (hop : o.op = .mapUpdate t m x v) (K : Maps.Keyed P k) (ht : P.underlying t = some (.map k e)) (he : P.underlying e = some (.int .i64)) {b : Nat} {L : List (Value × Value)} (hm : a.eval m = .map (some b)) (h : mapZ P k e W b L) (hlen : L.length < maxLen) {key : Value} {kl : Lit} (hx : a.eval x = key) (hkey : keyOf P k key = some kl) (q : Int) (hv : a.eval v = .int .i64 q) (hq : (Lit.int .i64 q).wf = true)
    (hK : ∀ (c : Int) (L' : List (Value × Value)) (w1 : World), mapZ P k e w1 b L' → L'.length ≤ L.length + 1 → (∀ x ∈ L', x ∈ L ∨ x = (key, .int .i64 q)) → (∀ F : Value → Int, (∀ v, v ≠ key → F v = 0) → c * F key = wsum F L) → (∀ F : Value → Int, wsum F L' = wsum F L + (q - c) * F key) → W.grownBy w1 (some b) → w1.heap.size = W.heap.size → wpList P ops Q rest (a.put o.dst undef) w1) : wpList P ops Q (o :: rest) a W := by
  obtain ⟨c, o2, L', hrun, hmap, hl, hmem, hind, hsum⟩ := mapZ_update K ht he h hlen hkey q hq
  refine wpList_plain hgd fun K' hK' => ?_
  have hnext := hK c L' _ (hmap _ (setBlock_at h.lt o2)) hl hmem hind hsum (grown_setBlock o2) (setBlock_size ..)
  unfold Oper.wp
  simp [execOp, hop, hm, hx, hv, hrun, Result.andThen]
  exact hK' _ _ hnext
/-- 'm[k]', at the operation. -/
theorem lookupZ {N : Tmp} (_hd : o.dst = some N) (hgd : o.guard = none) (m x : Operand) (t k e : TypeId) (hop : o.op = .lookup t m x false) (K : Maps.Keyed P k) (ht : P.underlying t = some (.map k e)) (he : P.underlying e = some (.int .i64)) (hz : ∀ u : World, (zeroValue e).run P u = .ok (.int .i64 0) u) {b : Nat} {L : List (Value × Value)} (hm : a.eval m = .map (some b)) (h : mapZ P k e W b L) {key : Value} {kl : Lit} (hx : a.eval x = key) (hkey : keyOf P k key = some kl)
    (hK : ∀ c : Int, (∀ F : Value → Int, (∀ v, v ≠ key → F v = 0) → c * F key = wsum F L) → wpList P ops Q rest (a.put o.dst (.int .i64 c)) W) : wpList P ops Q (o :: rest) a W := by
  obtain ⟨c, hrun, hind⟩ := mapZ_lookup K ht he hz h hkey
  refine Kd.event_run hgd (v := .int .i64 c) (w1 := W) ?_ (hK c hind)
  simp [execOp, hop, hm, hx, hrun, Result.andThen]
/-- 'range m'. -/
theorem rangeZ {N : Tmp} (_hd : o.dst = some N) (hgd : o.guard = none) (m : Operand) (t k e : TypeId) (hop : o.op = .range t m) (ht : P.underlying t = some (.map k e)) {b : Nat} {L : List (Value × Value)} (hm : a.eval m = .map (some b)) (h : mapZ P k e W b L)
    (hK : ∀ g, g = W.heap.size → ∀ w1, iterZ P k e w1 b g L → Below W.heap.size W w1 → w1.heap.size = W.heap.size + 1 → wpList P ops Q rest (a.put o.dst (.pointer (some ⟨g, 0, none⟩))) w1) : wpList P ops Q (o :: rest) a W := by
  obtain ⟨o1, hrun, hit⟩ := mapZ_range ht h
  refine Kd.event_run hgd (v := .pointer (some ⟨W.heap.size, 0, none⟩)) (w1 := W.alloc o1) ?_ (hK _ rfl _ hit ((Below.refl _ _).alloc (Nat.le_refl _) _) (by simp))
  simp [execOp, hop, hm, hrun, Result.andThen]
/-- The step. -/
theorem nextZ {N : Tmp} (_hd : o.dst = some N) (hgd : o.guard = none) (it : Operand) (k e : TypeId) (hop : o.op = .next it false) {b r : Nat} {Rm : List (Value × Value)} (hit : a.eval it = .pointer (some ⟨r, 0, none⟩)) (h : iterZ P k e W b r Rm) (hbr : b ≠ r)
    (hDone : Rm = [] → wpList P ops Q rest (a.put o.dst (.tuple #[.bool false])) W)
    (hMore : ∀ (key v : Value) (Rm' : List (Value × Value)) (w1 : World), (key, v) ∈ Rm → Rm'.length < Rm.length → (∀ x ∈ Rm', x ∈ Rm) → (∀ f, vsum f Rm = vsum f Rm' + f (key, v)) → iterZ P k e w1 b r Rm' → (Instr.entry (.pointer (some ⟨r, 0, none⟩))).run P w1 = .ok (.tuple #[key, v]) w1 → W.grownBy w1 (some r) → w1.heap.size = W.heap.size → wpList P ops Q rest (a.put o.dst (.tuple #[.bool true, key, v])) w1) : wpList P ops Q (o :: rest) a W := by
  obtain ⟨hlb, hlr⟩ := h.lts
  rcases iterZ_next h hbr o.type with ⟨h0, hrun⟩ | ⟨key, v, Rm', w1, o1, hal, hrun, _, hmem, hl, hsub, hsum, hafter⟩
  · refine Kd.event_run hgd (v := .tuple #[.bool false]) (w1 := W) ?_ (hDone h0)
    simp [execOp, hop, hit, hrun, Result.andThen]
  · have h1 : w1.heap = W.heap := by rcases hal with rfl | rfl <;> rfl
    have hlr1 : r < w1.heap.size := by rw [h1]; exact hlr
    obtain ⟨i1, i2⟩ := hafter (setBlock w1 r o1) (by rw [setBlock_ne hbr, h1]) (setBlock_at hlr1 o1)
    refine Kd.event_run hgd (v := .tuple #[.bool true, key, v]) (w1 := setBlock w1 r o1) ?_ (hMore key v Rm' _ hmem hl hsub hsum i1 i2 ?_ (by rw [setBlock_size, h1]))
    · simp [execOp, hop, hit, hrun, Result.andThen]
    · have g := grown_setBlock (w := w1) (b := r) o1
      rcases hal with rfl | rfl
      · exact g
      · exact ⟨g.os, g.tape, g.output, g.size, g.block⟩
end


section
variable {k : Nat} {s f o : Int} {l0 : List S70} {tv : Int → Int → Int} {mv : Int → Int → Int → Int} {Iv : Nat → Int → Int → Prop} {sq0 mk0 : Int} {T : Nat} {w1 wr w : World} {i b1 b2 r b3 j : Nat} {L N N' Rm Rm' : List (Value × Value)} {q m c c0 : Int}
theorem wsum_take (hsum : ∀ f, vsum f Rm = vsum f Rm' + f (.agg #[.int .i64 q, .int .i64 m], .int .i64 c)) (F : Value → Int) : wsum F Rm = wsum F Rm' + c * F (.agg #[.int .i64 q, .int .i64 m]) := hsum _
theorem AllI.start {c : Int} {L0 : List (Value × Value)} (hmap : mapZ Try.prog 76 3 w b1 L0) (hmem : ∀ x ∈ L0, x ∈ ([] : List (Value × Value)) ∨ x = (.agg #[.int .i64 sq0, .int .i64 mk0], .int .i64 1)) (hind : ∀ F : Value → Int, (∀ v, v ≠ .agg #[.int .i64 sq0, .int .i64 mk0] → F v = 0) → c * F (.agg #[.int .i64 sq0, .int .i64 mk0]) = wsum F []) (hsum : ∀ F : Value → Int, wsum F L0 = wsum F [] + (1 - c) * F (.agg #[.int .i64 sq0, .int .i64 mk0])) (hl : L0.length ≤ ([] : List (Value × Value)).length + 1) (hI : Iv T sq0 mk0) (hbase : w1.heap.size ≤ b1) (hb : Below w1.heap.size w1 w) :
    AllI s f tv mv Iv sq0 mk0 T w1 0 b1 L0 w := by
  have hc : c = 0 := ind_uniq (L := []) hind (fun F _ => by simp [wsum, vsum])
  subst hc
  have hx : ∀ x ∈ L0, x = (.agg #[.int .i64 sq0, .int .i64 mk0], .int .i64 1) := fun x hx => by
    rcases hmem x hx with h | h
    · simp at h
    · exact h
  refine ⟨hmap, by simpa using hl, fun x h => ⟨sq0, mk0, 1, hx x h, hI⟩, fun F => Cg.of ?_, fun _ x h => by rw [hx x h]; rfl, hbase, hb⟩
  rw [hsum]
  show (0 : Int) + (1 - 0) * valG s f tv mv F T sq0 mk0 = _
  omega
theorem NextI.start (h : AllI s f tv mv Iv sq0 mk0 T w1 i b1 L wr) (hi : i < T) (hmap : mapZ Try.prog 76 3 w b2 []) (hit : iterZ Try.prog 76 3 w b1 r L) (hb : Below w1.heap.size w1 w) : NextI s f tv mv Iv sq0 mk0 T w1 i b1 b2 r [] L w := by
  refine ⟨hmap, hit, ?_, fun x h => by simp at h, h.spots, fun F => ?_, hb⟩
  · have := h.len
    rw [Nat.pow_succ]
    simp only [List.length_nil]
    omega
  · have := h.sum F
    rw [show wsum (valV s f tv mv F (T - (i + 1))) [] = 0 from rfl, Int.zero_add]
    exact this
theorem NextI.skip (h : NextI s f tv mv Iv sq0 mk0 T w1 i b1 b2 r N Rm wr) (hi : i < T) (hq : q = s) (hmap : mapZ Try.prog 76 3 w b2 N) (hit : iterZ Try.prog 76 3 w b1 r Rm') (hb : Below w1.heap.size w1 w) (hl : Rm'.length < Rm.length) (hsub : ∀ x ∈ Rm', x ∈ Rm)
    (hsum : ∀ f, vsum f Rm = vsum f Rm' + f (.agg #[.int .i64 q, .int .i64 m], .int .i64 c)) : NextI s f tv mv Iv sq0 mk0 T w1 i b1 b2 r N Rm' w := by
  refine ⟨hmap, hit, by have := h.len; omega, h.spotsN, fun x hx => h.spotsR x (hsub x hx), fun F => ?_, hb⟩
  have h1 := h.sum F
  rw [wsum_take hsum, show T - i = (T - (i + 1)) + 1 by omega] at h1
  have h2 : valV s f tv mv F (T - (i + 1) + 1) (.agg #[.int .i64 q, .int .i64 m]) = 0 := by
    show (if q = s then (0 : Int) else _) = 0
    rw [if_pos hq]
  rw [h2, Int.mul_zero, Int.add_zero] at h1
  rw [show T - i = (T - (i + 1)) + 1 by omega]
  exact h1
theorem FaceI.start (h : NextI s f tv mv Iv sq0 mk0 T w1 i b1 b2 r N Rm wr) (hi : i < T) (hq : q ≠ s) (hmap : mapZ Try.prog 76 3 w b2 N) (hit : iterZ Try.prog 76 3 w b1 r Rm') (hb : Below w1.heap.size w1 w) (hl : Rm'.length < Rm.length) (hsub : ∀ x ∈ Rm', x ∈ Rm)
    (hsum : ∀ f, vsum f Rm = vsum f Rm' + f (.agg #[.int .i64 q, .int .i64 m], .int .i64 c)) (hc : w.heap[b3]? = some (.cells #[.int .i64 q, .int .i64 m] 76 (0, 0))) : FaceI s f tv mv Iv sq0 mk0 T w1 i b1 b2 r b3 q m c 0 N Rm' w := by
  refine ⟨hmap, hit, by have := h.len; omega, h.spotsN, fun x hx => h.spotsR x (hsub x hx), fun F => ?_, hb, hc⟩
  have h1 := h.sum F
  rw [wsum_take hsum, show T - i = (T - (i + 1)) + 1 by omega] at h1
  have h2 : valV s f tv mv F (T - (i + 1) + 1) (.agg #[.int .i64 q, .int .i64 m]) = sumN f.toNat (fun i_ => valG s f tv mv F (T - (i + 1)) (tv q ((i_ : Int) + 1)) (mv q m ((i_ : Int) + 1))) := by
    show (if q = s then (0 : Int) else _) = _
    rw [if_neg hq]
    rfl
  rw [h2] at h1
  rw [show T - i = (T - (i + 1)) + 1 by omega]
  refine Cg.trans (Cg.of ?_) h1
  show _ + c * (_ - 0) + _ = _
  rw [Int.sub_zero]
  omega
theorem FaceI.step (h : FaceI s f tv mv Iv sq0 mk0 T w1 i b1 b2 r b3 q m c j N Rm wr) (hmap : mapZ Try.prog 76 3 w b2 N') (hit : iterZ Try.prog 76 3 w b1 r Rm) (hb : Below w1.heap.size w1 w) (hc : w.heap[b3]? = some (.cells #[.int .i64 q, .int .i64 m] 76 (0, 0)))
    (hl : N'.length ≤ N.length + 1) {y : Int} (hy : Cg y (c0 + c)) (hmem : ∀ x ∈ N', x ∈ N ∨ x = (.agg #[.int .i64 (tv q ((j : Int) + 1)), .int .i64 (mv q m ((j : Int) + 1))], .int .i64 y)) (hI : Iv (T - (i + 1)) (tv q ((j : Int) + 1)) (mv q m ((j : Int) + 1)))
    (hsum : ∀ F : Value → Int, wsum F N' = wsum F N + (y - c0) * F (.agg #[.int .i64 (tv q ((j : Int) + 1)), .int .i64 (mv q m ((j : Int) + 1))])) : FaceI s f tv mv Iv sq0 mk0 T w1 i b1 b2 r b3 q m c (j + 1) N' Rm w := by
  refine ⟨hmap, hit, by have := h.len; omega, fun x hx => ?_, h.spotsR, fun F => ?_, hb, hc⟩
  · rcases hmem x hx with h1 | h1
    · exact h.spotsN x h1
    · exact ⟨_, _, _, h1, hI⟩
  · refine Cg.trans ?_ (h.sum F)
    rw [hsum]
    have e1 : valV s f tv mv F (T - (i + 1)) (.agg #[.int .i64 (tv q ((j : Int) + 1)), .int .i64 (mv q m ((j : Int) + 1))]) = valG s f tv mv F (T - (i + 1)) (tv q ((j : Int) + 1)) (mv q m ((j : Int) + 1)) := rfl
    have e2 : sumN (j + 1) (fun i_ => valG s f tv mv F (T - (i + 1)) (tv q ((i_ : Int) + 1)) (mv q m ((i_ : Int) + 1))) = sumN j (fun i_ => valG s f tv mv F (T - (i + 1)) (tv q ((i_ : Int) + 1)) (mv q m ((i_ : Int) + 1))) + valG s f tv mv F (T - (i + 1)) (tv q ((j : Int) + 1)) (mv q m ((j : Int) + 1)) := rfl
    rw [e1, e2]
    generalize valG s f tv mv F (T - (i + 1)) (tv q ((j : Int) + 1)) (mv q m ((j : Int) + 1)) = x
    generalize sumN f.toNat _ = u
    generalize sumN j _ = z
    have hw : Cg (y - c0) c := by
      obtain ⟨t, ht⟩ := hy
      exact ⟨t, by omega⟩
    have h1 : Cg ((y - c0) * x) (c * x) := hw.mul_right x
    obtain ⟨t, ht⟩ := h1
    refine ⟨t, ?_⟩
    rw [ht, show u - (z + x) = (u - z) - x by omega, Int.mul_sub c (u - z) x]
    omega
theorem FaceI.done (h : FaceI s f tv mv Iv sq0 mk0 T w1 i b1 b2 r b3 q m c j N Rm wr) (hj : j = f.toNat) (hf : f ≤ 8) : NextI s f tv mv Iv sq0 mk0 T w1 i b1 b2 r N Rm wr := by
  refine ⟨h.map, h.it, by have := h.len; omega, h.spotsN, h.spotsR, fun F => ?_, h.below⟩
  have h1 := h.sum F
  rw [hj, Int.sub_self, Int.mul_zero, Int.add_zero] at h1
  exact h1
theorem AllI.of_next (h : NextI s f tv mv Iv sq0 mk0 T w1 i b1 b2 r N [] wr) (hi : i < T) (hbase : w1.heap.size ≤ b2) : AllI s f tv mv Iv sq0 mk0 T w1 (i + 1) b2 N wr := by
  refine ⟨h.map, by have := h.len; simpa using this, h.spotsN, fun F => ?_, fun h0 => by omega, hbase, h.below⟩
  have h1 := h.sum F
  rw [show wsum (valV s f tv mv F (T - i)) [] = 0 from rfl, Int.add_zero] at h1
  exact h1
theorem LastI.start (h : AllI s f tv mv Iv sq0 mk0 T w1 T b1 L wr) (hmap : mapZ Try.prog 3 3 w b2 []) (hit : iterZ Try.prog 76 3 w b1 r L) (hb : Below w1.heap.size w1 w) : LastI s f tv mv Iv sq0 mk0 T w1 b1 b2 r [] L w := by
  have hs := h.spots
  have hsum := h.sum
  rw [Nat.sub_self] at hs
  simp only [Nat.sub_self] at hsum
  refine ⟨hmap, hit, by have := h.len; simpa using this, fun x h => by simp at h, hs, h.one, fun F => ?_, hb⟩
  rw [show wsum (fun v => F (intOf v)) [] = 0 from rfl, Int.zero_add]
  exact hsum F
theorem LastI.skip (h : LastI s f tv mv Iv sq0 mk0 T w1 b1 b2 r N Rm wr) (hq : q ≠ s) (hmap : mapZ Try.prog 3 3 w b2 N) (hit : iterZ Try.prog 76 3 w b1 r Rm') (hb : Below w1.heap.size w1 w) (hl : Rm'.length < Rm.length) (hsub : ∀ x ∈ Rm', x ∈ Rm)
    (hsum : ∀ f, vsum f Rm = vsum f Rm' + f (.agg #[.int .i64 q, .int .i64 m], .int .i64 c)) : LastI s f tv mv Iv sq0 mk0 T w1 b1 b2 r N Rm' w := by
  refine ⟨hmap, hit, by have := h.len; omega, h.marks, fun x hx => h.spots x (hsub x hx), fun h0 x hx => h.one h0 x (hsub x hx), fun F => ?_, hb⟩
  have h1 := h.sum F
  rw [wsum_take hsum] at h1
  have h2 : valV s f tv mv F 0 (.agg #[.int .i64 q, .int .i64 m]) = 0 := by
    show (if q = s then F m else 0) = 0
    rw [if_neg hq]
  rw [h2, Int.mul_zero, Int.add_zero] at h1
  exact h1
theorem LastI.add (h : LastI s f tv mv Iv sq0 mk0 T w1 b1 b2 r N Rm wr) (hq : q = s) (hI : Iv 0 q m) (hmap : mapZ Try.prog 3 3 w b2 N') (hit : iterZ Try.prog 76 3 w b1 r Rm') (hb : Below w1.heap.size w1 w) (hl : Rm'.length < Rm.length) (hsub : ∀ x ∈ Rm', x ∈ Rm)
    (hsum : ∀ f, vsum f Rm = vsum f Rm' + f (.agg #[.int .i64 q, .int .i64 m], .int .i64 c)) (hlN : N'.length ≤ N.length + 1) {y : Int} (hy : Cg y (c0 + c)) (hmem : ∀ x ∈ N', x ∈ N ∨ x = (.int .i64 m, .int .i64 y))
    (hsumN : ∀ F : Value → Int, wsum F N' = wsum F N + (y - c0) * F (.int .i64 m)) : LastI s f tv mv Iv sq0 mk0 T w1 b1 b2 r N' Rm' w := by
  subst hq
  refine ⟨hmap, hit, by have := h.len; omega, fun x hx => ?_, fun x hx => h.spots x (hsub x hx), fun h0 x hx => h.one h0 x (hsub x hx), fun F => ?_, hb⟩
  · rcases hmem x hx with h1 | h1
    · exact h.marks x h1
    · exact ⟨_, _, h1, hI⟩
  · refine Cg.trans ?_ (h.sum F)
    rw [wsum_take hsum, hsumN]
    have h2 : valV q f tv mv F 0 (.agg #[.int .i64 q, .int .i64 m]) = F m := by
      show (if q = q then F m else 0) = F m
      rw [if_pos rfl]
    rw [h2]
    show Cg (_ + (y - c0) * F m + _) _
    have hw : Cg (y - c0) c := by
      obtain ⟨t, ht⟩ := hy
      exact ⟨t, by omega⟩
    obtain ⟨t, ht⟩ := hw.mul_right (F m)
    exact ⟨t, by rw [ht]; omega⟩
theorem LastI.done (h : LastI s f tv mv Iv sq0 mk0 T w1 b1 b2 r N [] wr) (F : Int → Int) : Cg (wsum (fun v => F (intOf v)) N) (valG s f tv mv F T sq0 mk0) := by
  have h1 := h.sum F
  rw [show wsum (valV s f tv mv F 0) [] = 0 from rfl, Int.add_zero] at h1
  exact h1
end
end Go.Proofs.Ytphjhfpeomifiaa.P

