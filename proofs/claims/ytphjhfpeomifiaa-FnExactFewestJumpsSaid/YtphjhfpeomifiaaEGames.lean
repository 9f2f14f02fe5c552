/- Equality up to multiples of 2^64, and sums over 0..n-1. Plain Lean; no Go in it. -/
import Derived.Test.YtphjhfpeomifiaaWWords
import Derived.Maps.RangeWalk
import Derived.WideKeyEntry
import Derived.Below
import Derived.Test.YtphjhfpeomifiaaEFunc
import Derived.Deep.RegionWith
import Derived.DeepKeys5
import Derived.Test.YtphjhfpeomifiaaP79
namespace Go.Proofs.Ytphjhfpeomifiaa.Q
open Go.RowKit Go.Proofs.YtphjhfpeomifiaaW.PrintWords
set_option linter.unusedVariables false
set_option linter.unusedSimpArgs false

/-- Equal but for multiples of 2^64. -/
def Cg (a b : Int) : Prop := ∃ q : Int, a = b + q * 18446744073709551616
theorem Cg.refl (a : Int) : Cg a a := ⟨0, by omega⟩
theorem Cg.of {a b : Int} (h : a = b) : Cg a b := h ▸ Cg.refl a
theorem Cg.symm {a b : Int} (h : Cg a b) : Cg b a := by obtain ⟨q, h⟩ := h; exact ⟨-q, by omega⟩
theorem Cg.trans {a b c : Int} (h : Cg a b) (k : Cg b c) : Cg a c := by obtain ⟨q, h⟩ := h; obtain ⟨p, k⟩ := k; exact ⟨q + p, by omega⟩
theorem Cg.add {a b c d : Int} (h : Cg a b) (k : Cg c d) : Cg (a + c) (b + d) := by obtain ⟨q, h⟩ := h; obtain ⟨p, k⟩ := k; exact ⟨q + p, by omega⟩
theorem Cg.mul_left (x : Int) {a b : Int} (h : Cg a b) : Cg (x * a) (x * b) := by obtain ⟨q, h⟩ := h; exact ⟨x * q, by rw [h, Int.mul_add, Int.mul_assoc]⟩
theorem Cg.mul_right (x : Int) {a b : Int} (h : Cg a b) : Cg (a * x) (b * x) := by rw [Int.mul_comm a, Int.mul_comm b]; exact h.mul_left x
theorem Cg.wrap (a : Int) : Cg (wrap64 a) a := ⟨-((a + 9223372036854775808) / 18446744073709551616), by unfold wrap64; omega⟩
def InI (x : Int) : Prop := -9223372036854775808 ≤ x ∧ x ≤ 9223372036854775807
theorem InI.wrap (a : Int) : InI (wrap64 a) := by unfold InI wrap64; omega
theorem Cg.eq {a b : Int} (h : Cg a b) (ha : InI a) (hb : InI b) : a = b := by obtain ⟨q, h⟩ := h; unfold InI at ha hb; omega

def sumN : Nat → (Nat → Int) → Int
  | 0, _ => 0
  | n + 1, g => sumN n g + g n
theorem sumN_congr {n : Nat} {g h : Nat → Int} (e : ∀ i, i < n → g i = h i) : sumN n g = sumN n h := by
  induction n with
  | zero => rfl
  | succ n ih => show sumN n g + g n = sumN n h + h n; rw [ih fun i hi => e i (by omega), e n (by omega)]
theorem sumN_zero {n : Nat} {g : Nat → Int} (e : ∀ i, i < n → g i = 0) : sumN n g = 0 := by
  induction n with
  | zero => rfl
  | succ n ih => show sumN n g + g n = 0; rw [ih fun i hi => e i (by omega), e n (by omega)]; rfl
theorem sumN_add (n : Nat) (g h : Nat → Int) : sumN n (fun i => g i + h i) = sumN n g + sumN n h := by
  induction n with
  | zero => rfl
  | succ n ih => show sumN n (fun i => g i + h i) + (g n + h n) = (sumN n g + g n) + (sumN n h + h n); rw [ih]; omega
theorem sumN_mul (n : Nat) (x : Int) (g : Nat → Int) : sumN n (fun i => x * g i) = x * sumN n g := by
  induction n with
  | zero => simp [sumN]
  | succ n ih => show sumN n (fun i => x * g i) + x * g n = x * (sumN n g + g n); rw [ih, Int.mul_add]
theorem sumN_first (n : Nat) (g : Nat → Int) : sumN (n + 1) g = g 0 + sumN n (fun i => g (i + 1)) := by
  induction n with
  | zero => simp [sumN]
  | succ n ih => show sumN (n + 1) g + g (n + 1) = g 0 + (sumN n (fun i => g (i + 1)) + g (n + 1)); rw [ih]; omega
theorem sumN_swap (n m : Nat) (g : Nat → Nat → Int) : sumN n (fun i => sumN m (fun j => g i j)) = sumN m (fun j => sumN n (fun i => g i j)) := by
  induction n with
  | zero => exact (sumN_zero fun _ _ => rfl).symm
  | succ n ih => show sumN n (fun i => sumN m (fun j => g i j)) + sumN m (g n) = sumN m (fun j => sumN n (fun i => g i j) + g n j); rw [ih, sumN_add]
theorem sumN_le {n : Nat} {g h : Nat → Int} (e : ∀ i, i < n → g i ≤ h i) : sumN n g ≤ sumN n h := by
  induction n with
  | zero => exact Int.le_refl _
  | succ n ih => show sumN n g + g n ≤ sumN n h + h n; have := ih fun i hi => e i (by omega); have := e n (by omega); omega
theorem sumN_nonneg {n : Nat} {g : Nat → Int} (e : ∀ i, i < n → 0 ≤ g i) : 0 ≤ sumN n g := by
  induction n with
  | zero => exact Int.le_refl _
  | succ n ih => show 0 ≤ sumN n g + g n; have := ih fun i hi => e i (by omega); have := e n (by omega); omega
theorem sumN_more {n m : Nat} {g : Nat → Int} (hnm : n ≤ m) (e : ∀ i, n ≤ i → g i = 0) : sumN m g = sumN n g := by
  obtain ⟨d, rfl⟩ : ∃ d, m = n + d := ⟨m - n, by omega⟩
  clear hnm
  induction d with
  | zero => rfl
  | succ d ih => show sumN (n + d) g + g (n + d) = _; rw [ih, e (n + d) (by omega), Int.add_zero]

end Go.Proofs.Ytphjhfpeomifiaa.Q
namespace Go.Proofs.Ytphjhfpeomifiaa.P
open Go.RowKit Go.ChangeShapes Go.WideShapes Go.MapKept Go.ChangeMaps Go.WideElems
open Go.WideMaps (KeyLaw)
set_option linter.unusedVariables false
set_option linter.unusedSimpArgs false

/-- An entry's key and element. -/
def kv (x : MapEntry) : Value × Value := (x.key, x.val)
/-- A sum over entries. -/
def vsum (f : Value × Value → Int) : List (Value × Value) → Int
  | [] => 0
  | x :: r => f x + vsum f r
/-- The elements, each as often as F says of its key. -/
def wsum (F : Value → Int) (L : List (Value × Value)) : Int := vsum (fun x => intOf x.2 * F x.1) L

theorem vsum_append (f : Value × Value → Int) : ∀ a b, vsum f (a ++ b) = vsum f a + vsum f b
  | [], b => by simp [vsum]
  | x :: r, b => by simp [vsum, vsum_append f r b]; omega
theorem vsum_set (f : Value × Value → Int) : ∀ (l : List (Value × Value)) (j : Nat) (x y), l[j]? = some x → vsum f (l.set j y) = vsum f l + (f y - f x)
  | [], j, x, y, h => by simp at h
  | a :: r, 0, x, y, h => by simp at h; subst h; simp [vsum]; omega
  | a :: r, j + 1, x, y, h => by simp at h; simp [vsum, vsum_set f r j x y h]; omega
theorem vsum_zero (f : Value × Value → Int) : ∀ l, (∀ x ∈ l, f x = 0) → vsum f l = 0
  | [], _ => rfl
  | a :: r, h => by simp [vsum, h a (by simp), vsum_zero f r (fun x hx => h x (by simp [hx]))]
theorem vsum_congr {f g : Value × Value → Int} : ∀ l, (∀ x ∈ l, f x = g x) → vsum f l = vsum g l
  | [], _ => rfl
  | a :: r, h => by simp [vsum, h a (by simp), vsum_congr r (fun x hx => h x (by simp [hx]))]

section
variable {P : Program} {w : World} {t k e : TypeId} {b : Nat} {L : List (Value × Value)}

/-- Elements are numbers. -/
def RZ (P : Program) (e : TypeId) : Value → Option (DataW Unit × List MemPlace) := plainElem P e

/-- Block b is a map with the entries L. -/
def mapZ (P : Program) (k e : TypeId) (w : World) (b : Nat) (L : List (Value × Value)) : Prop :=
  ∃ es clock, w.heap[b]? = some (.map es clock) ∧ Fit P k (RZ P e) es clock ∧ es.toList.map kv = L

/-- A loop over the map in block b: what is still to come. -/
def iterZ (P : Program) (k e : TypeId) (w : World) (b r : Nat) (Rm : List (Value × Value)) : Prop :=
  ∃ es clock since seen c0, w.heap[b]? = some (.map es clock) ∧ Fit P k (RZ P e) es clock ∧ w.heap[r]? = some (.mapIter (some b) since seen c0) ∧ (∀ x ∈ es.toList, x.born < since) ∧ since ≤ c0 ∧ since ≤ clock ∧ (leftOf es seen).toList.map kv = Rm

theorem mapZ.lt (h : mapZ P k e w b L) : b < w.heap.size := by
  obtain ⟨es, clock, hb, _⟩ := h
  exact (Array.getElem?_eq_some_iff.1 hb).1
theorem mapZ.of_block {w' : World} (h : mapZ P k e w b L) (hb : w'.heap[b]? = w.heap[b]?) : mapZ P k e w' b L := by
  obtain ⟨es, clock, h1, h2⟩ := h
  exact ⟨es, clock, hb.trans h1, h2⟩
theorem mapZ.below {B : Nat} {w' : World} (h : mapZ P k e w b L) (hB : Below B w w') (hlt : b < B) : mapZ P k e w' b L := h.of_block (hB.block b hlt)
theorem mapZ_made (w : World) (P : Program) (k e : TypeId) : mapZ P k e (w.alloc (.map #[] 0)) w.heap.size [] :=
  ⟨#[], 0, (MapKept.heap_alloc w _).1, ⟨by simp, stamped_empty 0, by simp⟩, rfl⟩
theorem iterZ.lts {r : Nat} {Rm} (h : iterZ P k e w b r Rm) : b < w.heap.size ∧ r < w.heap.size := by
  obtain ⟨es, clock, since, seen, c0, hb, _, hr, _⟩ := h
  exact ⟨(Array.getElem?_eq_some_iff.1 hb).1, (Array.getElem?_eq_some_iff.1 hr).1⟩
theorem iterZ.of_blocks {w' : World} {r : Nat} {Rm} (h : iterZ P k e w b r Rm) (hb : w'.heap[b]? = w.heap[b]?) (hr : w'.heap[r]? = w.heap[r]?) : iterZ P k e w' b r Rm := by
  obtain ⟨es, clock, since, seen, c0, h1, h2, h3, h4⟩ := h
  exact ⟨es, clock, since, seen, c0, hb.trans h1, h2, hr.trans h3, h4⟩
theorem iterZ.below {B r : Nat} {w' : World} {Rm} (h : iterZ P k e w b r Rm) (hB : Below B w w') (hb : b < B) (hr : r < B) : iterZ P k e w' b r Rm := h.of_blocks (hB.block b hb) (hB.block r hr)

theorem below_setBlock {B : Nat} {a w : World} (h : Below B a w) {b : Nat} (hb : B ≤ b) (o : Obj) : Below B a (setBlock w b o) :=
  h.trans ⟨rfl, rfl, rfl, by simp [setBlock], fun i hi => by
    simp only [setBlock]
    rw [Array.getElem?_setIfInBounds]
    rw [if_neg (by omega)]⟩
theorem setBlock_at {w : World} {b : Nat} (h : b < w.heap.size) (o : Obj) : (setBlock w b o).heap[b]? = some o := by
  simp only [setBlock]
  rw [Array.getElem?_setIfInBounds]
  simp [h]
theorem setBlock_ne {w : World} {b i : Nat} (h : i ≠ b) (o : Obj) : (setBlock w b o).heap[i]? = w.heap[i]? := by
  simp only [setBlock]
  rw [Array.getElem?_setIfInBounds]
  rw [if_neg (by omega)]
theorem setBlock_size (w : World) (b : Nat) (o : Obj) : (setBlock w b o).heap.size = w.heap.size := by simp [setBlock]

theorem look_run (K : Maps.Keyed P k) (ht : P.underlying t = some (.map k e)) {w2 : World} {es : Array MapEntry} {clock : Nat} {c : Int} (hw2 : w2.heap[b]? = some (.map es clock)) (hkeys : ∀ x ∈ es.toList, ∃ l, keyOf P k x.key = some l) {key : Value} {kl : Lit} (hkey : keyOf P k key = some kl) (hex : ∃ x ∈ es.toList, x.key = key) (hv : ∀ x ∈ es.toList, x.key = key → x.val = .int .i64 c) :
    (Instr.lookup t (.map (some b)) key false).run P w2 = .ok (.int .i64 c) w2 := by
  rcases K.find w2 hkey es.toList hkeys with ⟨h1, h2⟩ | ⟨j, e0, h1, h2, h3⟩
  · obtain ⟨x, hx, e⟩ := hex
    exact absurd e (h2 x hx)
  · simp [Instr.lookup, run_underlying ht, MapKept.run_getObj_map hw2, K.check w2 _ hkey, h1, Result.andThen, hv e0 (List.mem_of_getElem? h2) h3]

/-- 'm[k] += n' over the two operations: the number that is there, and the store. -/
theorem mapZ_entry (K : Maps.Keyed P k) (ht : P.underlying t = some (.map k e)) (he : P.underlying e = some (.int .i64)) (hz : ∀ u : World, (zeroValue e).run P u = .ok (.int .i64 0) u) (h : mapZ P k e w b L) (hlen : L.length < maxLen) {key : Value} {kl : Lit} (hkey : keyOf P k key = some kl) :
    ∃ (c : Int) (st : Nat) (o1 : Obj) (O2 : Int → Obj) (L2 : Int → List (Value × Value)), (Instr.mapEntry t (.map (some b)) key).run P w = .ok (.tuple #[.int .i64 c, .int .i64 (st : Int)]) (setBlock w b o1) ∧ (∀ F : Value → Int, (∀ v, v ≠ key → F v = 0) → c * F key = wsum F L) ∧
      (∀ w2 : World, w2.heap[b]? = some o1 → (Instr.lookup t (.map (some b)) key false).run P w2 = .ok (.int .i64 c) w2) ∧
      (∀ (w2 : World) (q : Int), w2.heap[b]? = some o1 → (Instr.entryStore t (.map (some b)) (.int .i64 (st : Int)) (.int .i64 q)).run P w2 = .ok () (setBlock w2 b (O2 q))) ∧
      ∀ q : Int, (Lit.int .i64 q).wf = true → (∀ w3 : World, w3.heap[b]? = some (O2 q) → mapZ P k e w3 b (L2 q)) ∧ (L2 q).length ≤ L.length + 1 ∧ (∀ x ∈ L2 q, x ∈ L ∨ x = (key, .int .i64 q)) ∧ ∀ F : Value → Int, wsum F (L2 q) = wsum F L + (q - c) * F key := by
  obtain ⟨es, clock, hb, F, rfl⟩ := h
  obtain ⟨s1, s2, _⟩ := F.stamped
  have hl : es.size < maxLen := by simpa using hlen
  rcases K.find w hkey es.toList F.keys with ⟨h1, h2⟩ | ⟨j, e0, h1, h2, h3⟩
  · refine ⟨0, clock, .map (es.push ⟨key, .int .i64 0, clock⟩) (clock + 1), fun q => .map (es.push ⟨key, .int .i64 q, clock⟩) (clock + 1), fun q => es.toList.map kv ++ [(key, .int .i64 q)], ?_, fun G hG => ?_, fun w2 hw2 => ?_, fun w2 q hw2 => ?_, fun q hq => ⟨fun w3 hw3 => ⟨_, _, hw3, ⟨by simp; omega, stamped_push F.stamped h2, fun x hx => ?_⟩, by simp [kv]⟩, by simp, fun x hx => ?_, fun G => ?_⟩⟩
    · simp [Instr.mapEntry, goInt, run_underlying ht, MapKept.run_getObj_map hb, K.check w false hkey, h1, hz, MapKept.run_setObj_map _ hb, Result.andThen, setBlock]
    · rw [Int.zero_mul]
      refine (vsum_zero _ _ fun x hx => ?_).symm
      obtain ⟨y, hy, rfl⟩ := List.mem_map.1 hx
      show intOf y.val * G y.key = 0
      rw [hG _ (h2 y hy), Int.mul_zero]
    · refine look_run K ht hw2 (fun x hx => ?_) hkey ⟨⟨key, .int .i64 0, clock⟩, by simp, rfl⟩ (fun x hx hxk => ?_)
      · simp only [Array.toList_push, List.mem_append, List.mem_singleton] at hx
        rcases hx with hx | rfl
        · exact F.keys x hx
        · exact ⟨kl, hkey⟩
      · simp only [Array.toList_push, List.mem_append, List.mem_singleton] at hx
        rcases hx with hx | rfl
        · exact absurd hxk (h2 x hx)
        · rfl
    · have hidx : (es.push ⟨key, .int .i64 0, clock⟩).findIdx? (fun e => ((e.born : Nat) : Int) == ((clock : Nat) : Int)) = some es.size := by
        rw [findIdx_arr]
        have := findIdx_born (l := (es.push ⟨key, .int .i64 0, clock⟩).toList) (j := es.size) (e0 := ⟨key, .int .i64 0, clock⟩) (by
          simp only [Array.toList_push, List.map_append, List.map_cons, List.map_nil]
          refine List.nodup_append.2 ⟨s2, by simp, fun a ha c hc e1 => ?_⟩
          simp only [List.mem_singleton] at hc
          obtain ⟨x, hx, rfl⟩ := List.mem_map.1 ha
          have := s1 x hx
          omega) (by simp)
        exact this
      have hmod : (es.push ⟨key, .int .i64 0, clock⟩).modify es.size (fun e => { e with val := .int .i64 q }) = es.push ⟨key, .int .i64 q, clock⟩ := by
        apply Array.ext'
        rw [Array.toList_modify, Array.toList_push, Array.toList_push, ← Array.length_toList, modify_last]
      simp [Instr.entryStore, MapKept.run_getObj_map hw2, asInt, asIntOf, goInt, hidx, hmod, MapKept.run_setObj_map _ hw2, Result.andThen, setBlock]
    · simp only [Array.toList_push, List.mem_append, List.mem_singleton] at hx
      rcases hx with hx | rfl
      · exact F.reads x hx
      · exact ⟨_, rd_mk hkey (plainElem_int he hq)⟩
    · simp only [List.mem_append, List.mem_singleton] at hx
      exact hx
    · show vsum _ _ = vsum _ _ + _
      rw [vsum_append]
      simp [vsum, intOf]
  · have hj : es[j]? = some e0 := by simpa using h2
    have hm0 : e0 ∈ es.toList := List.mem_of_getElem? h2
    obtain ⟨y0, hy0⟩ := F.reads e0 hm0
    obtain ⟨zv, hzv, _⟩ := rd_val hy0
    obtain ⟨c, hc, _, _⟩ := plainElem_int_inv he hzv
    have hsame : es.modify j (fun e => { e with key := key }) = es := by
      apply Array.ext'
      rw [Array.toList_modify, modify_eq_set _ _ _ _ h2]
      have : ({ e0 with key := key } : MapEntry) = e0 := by rw [← h3]
      rw [this]
      exact set_self _ _ _ h2
    have hjl : j < es.toList.length := (List.getElem?_eq_some_iff.1 h2).1
    have hkeyf : ∀ q : Int, ∀ e', es[j]? = some e' → ({ e' with val := .int .i64 q } : MapEntry).key = e'.key := fun _ _ _ => rfl
    have hlist : ∀ q : Int, (es.modify j (fun e' => { e' with val := .int .i64 q })).toList = es.toList.set j { e0 with val := .int .i64 q } := fun q => by rw [Array.toList_modify, modify_eq_set _ _ _ _ h2]
    have hmapset : ∀ q : Int, (es.toList.set j { e0 with val := .int .i64 q }).map kv = (es.toList.map kv).set j (key, .int .i64 q) := fun q => by rw [List.map_set]; simp [kv, h3]
    have hLj : (es.toList.map kv)[j]? = some (key, .int .i64 c) := by rw [List.getElem?_map, h2]; simp [kv, h3, hc]
    refine ⟨c, e0.born, .map es clock, fun q => .map (es.modify j (fun e' => { e' with val := .int .i64 q })) clock, fun q => (es.toList.map kv).set j (key, .int .i64 q), ?_, fun G hG => ?_, fun w2 hw2 => ?_, fun w2 q hw2 => ?_, fun q hq => ⟨fun w3 hw3 => ⟨_, _, hw3, ⟨by simpa using F.size, stamped_modify F.stamped _ _ (fun _ _ => rfl) (fun e' _ he' => hkeyf q e' he'), fun x hx => ?_⟩, by rw [hlist, hmapset]⟩, by simp, fun x hx => ?_, fun G => ?_⟩⟩
    · simp [Instr.mapEntry, goInt, run_underlying ht, MapKept.run_getObj_map hb, K.check w false hkey, h1, hj, h3, K.stays w hkey, hsame, MapKept.run_setObj_map _ hb, Result.andThen, setBlock, hc]
    · have h0 : vsum (fun x => intOf x.2 * G x.1) ((es.toList.map kv).set j (key, .int .i64 0)) = 0 := by
        rw [← hmapset]
        refine vsum_zero _ _ fun x hx => ?_
        obtain ⟨y, hy, rfl⟩ := List.mem_map.1 hx
        obtain ⟨i, hi, ex⟩ := List.getElem_of_mem hy
        rw [List.getElem_set] at ex
        split at ex
        · subst ex; simp [kv, intOf]
        · rename_i hne
          have hi' : i < es.toList.length := by simpa using hi
          have hk : y.key ≠ key := by
            rw [← h3]
            exact other_key F h2 (by rw [List.getElem?_eq_getElem hi', ex]) (fun e1 => hne e1.symm)
          show intOf y.val * G y.key = 0
          rw [hG _ hk, Int.mul_zero]
      have h1' : (0 : Int) = vsum (fun x => intOf x.2 * G x.1) (es.toList.map kv) + (0 * G key - c * G key) := h0.symm.trans (vsum_set (fun x => intOf x.2 * G x.1) _ j _ (key, .int .i64 0) hLj)
      rw [Int.zero_mul] at h1'
      show c * G key = vsum (fun x => intOf x.2 * G x.1) (es.toList.map kv)
      omega
    · refine look_run K ht hw2 F.keys hkey ⟨e0, hm0, h3⟩ (fun x hx hxk => ?_)
      have : x = e0 := entry_eq_of_key ((stamped_iff es clock).1 F.stamped).2.2 hx hm0 (hxk.trans h3.symm)
      rw [this]
      exact hc
    · have hidx : es.findIdx? (fun e => ((e.born : Nat) : Int) == ((e0.born : Nat) : Int)) = some j := by
        rw [findIdx_arr]
        exact findIdx_born s2 h2
      simp [Instr.entryStore, MapKept.run_getObj_map hw2, asInt, asIntOf, goInt, hidx, MapKept.run_setObj_map _ hw2, Result.andThen, setBlock]
    · rw [hlist] at hx
      obtain ⟨i, hi, ex⟩ := List.getElem_of_mem hx
      rw [List.getElem_set] at ex
      split at ex
      · subst ex
        exact ⟨_, rd_mk (by show keyOf P k e0.key = some kl; rw [h3]; exact hkey) (plainElem_int he hq)⟩
      · subst ex
        exact F.reads _ (List.getElem_mem _)
    · rcases List.mem_or_eq_of_mem_set hx with h | h
      · exact Or.inl h
      · exact Or.inr h
    · show vsum _ _ = vsum _ _ + _
      rw [vsum_set _ _ j _ _ hLj]
      simp only [intOf]
      rw [Int.sub_mul]

/-- 'm[k] = n'. -/
theorem mapZ_update (K : Maps.Keyed P k) (ht : P.underlying t = some (.map k e)) (he : P.underlying e = some (.int .i64)) (h : mapZ P k e w b L) (hlen : L.length < maxLen) {key : Value} {kl : Lit} (hkey : keyOf P k key = some kl) (q : Int) (hq : (Lit.int .i64 q).wf = true) :
    ∃ (c : Int) (o2 : Obj) (L' : List (Value × Value)), (Instr.mapUpdate t (.map (some b)) key (.int .i64 q)).run P w = .ok () (setBlock w b o2) ∧ (∀ w3 : World, w3.heap[b]? = some o2 → mapZ P k e w3 b L') ∧ L'.length ≤ L.length + 1 ∧ (∀ x ∈ L', x ∈ L ∨ x = (key, .int .i64 q)) ∧ (∀ F : Value → Int, (∀ v, v ≠ key → F v = 0) → c * F key = wsum F L) ∧ ∀ F : Value → Int, wsum F L' = wsum F L + (q - c) * F key := by
  obtain ⟨es, clock, hb, F, rfl⟩ := h
  obtain ⟨s1, s2, _⟩ := F.stamped
  have hl : es.size < maxLen := by simpa using hlen
  rcases K.find w hkey es.toList F.keys with ⟨h1, h2⟩ | ⟨j, e0, h1, h2, h3⟩
  · refine ⟨0, .map (es.push ⟨key, .int .i64 q, clock⟩) (clock + 1), es.toList.map kv ++ [(key, .int .i64 q)], ?_, fun w3 hw3 => ⟨_, _, hw3, ⟨by simp; omega, stamped_push F.stamped h2, fun x hx => ?_⟩, by simp [kv]⟩, by simp, fun x hx => ?_, fun G hG => ?_, fun G => ?_⟩
    · simp [Instr.mapUpdate, run_underlying ht, MapKept.run_getObj_map hb, K.check w false hkey, h1, MapKept.run_setObj_map _ hb, Result.andThen, setBlock]
    · simp only [Array.toList_push, List.mem_append, List.mem_singleton] at hx
      rcases hx with hx | rfl
      · exact F.reads x hx
      · exact ⟨_, rd_mk hkey (plainElem_int he hq)⟩
    · simp only [List.mem_append, List.mem_singleton] at hx
      exact hx
    · rw [Int.zero_mul]
      refine (vsum_zero _ _ fun x hx => ?_).symm
      obtain ⟨y, hy, rfl⟩ := List.mem_map.1 hx
      show intOf y.val * G y.key = 0
      rw [hG _ (h2 y hy), Int.mul_zero]
    · show vsum _ _ = vsum _ _ + _
      rw [vsum_append]
      simp [vsum, intOf]
  · have hj : es[j]? = some e0 := by simpa using h2
    have hm0 : e0 ∈ es.toList := List.mem_of_getElem? h2
    obtain ⟨y0, hy0⟩ := F.reads e0 hm0
    obtain ⟨zv, hzv, _⟩ := rd_val hy0
    obtain ⟨c, hc, _, _⟩ := plainElem_int_inv he hzv
    have hkeyf : ∀ q : Int, ∀ e', es[j]? = some e' → ({ e' with key := key, val := .int .i64 q } : MapEntry).key = e'.key := fun _ e' he' => by rw [hj] at he'; cases he'; exact h3.symm
    have hlist : ∀ q : Int, (es.modify j (fun e' => { e' with key := key, val := .int .i64 q })).toList = es.toList.set j { e0 with key := key, val := .int .i64 q } := fun q => by rw [Array.toList_modify, modify_eq_set _ _ _ _ h2]
    have hmapset : ∀ q : Int, (es.toList.set j { e0 with key := key, val := .int .i64 q }).map kv = (es.toList.map kv).set j (key, .int .i64 q) := fun q => by rw [List.map_set]; simp [kv]
    have hLj : (es.toList.map kv)[j]? = some (key, .int .i64 c) := by rw [List.getElem?_map, h2]; simp [kv, h3, hc]
    refine ⟨c, .map (es.modify j (fun e' => { e' with key := key, val := .int .i64 q })) clock, (es.toList.map kv).set j (key, .int .i64 q), ?_, fun w3 hw3 => ⟨_, _, hw3, ⟨by simpa using F.size, stamped_modify F.stamped _ _ (fun _ _ => rfl) (fun e' _ he' => hkeyf q e' he'), fun x hx => ?_⟩, by rw [hlist, hmapset]⟩, by simp, fun x hx => ?_, fun G hG => ?_, fun G => ?_⟩
    · simp [Instr.mapUpdate, run_underlying ht, MapKept.run_getObj_map hb, K.check w false hkey, h1, hj, h3, K.stays w hkey, MapKept.run_setObj_map _ hb, Result.andThen, setBlock]
    · rw [hlist] at hx
      obtain ⟨i, hi, ex⟩ := List.getElem_of_mem hx
      rw [List.getElem_set] at ex
      split at ex
      · subst ex
        exact ⟨_, rd_mk hkey (plainElem_int he hq)⟩
      · subst ex
        exact F.reads _ (List.getElem_mem _)
    · rcases List.mem_or_eq_of_mem_set hx with h | h
      · exact Or.inl h
      · exact Or.inr h
    · have h0 : vsum (fun x => intOf x.2 * G x.1) ((es.toList.map kv).set j (key, .int .i64 0)) = 0 := by
        rw [← hmapset]
        refine vsum_zero _ _ fun x hx => ?_
        obtain ⟨y, hy, rfl⟩ := List.mem_map.1 hx
        obtain ⟨i, hi, ex⟩ := List.getElem_of_mem hy
        rw [List.getElem_set] at ex
        split at ex
        · subst ex; simp [kv, intOf]
        · rename_i hne
          have hi' : i < es.toList.length := by simpa using hi
          have hk : y.key ≠ key := by
            rw [← h3]
            exact other_key F h2 (by rw [List.getElem?_eq_getElem hi', ex]) (fun e1 => hne e1.symm)
          show intOf y.val * G y.key = 0
          rw [hG _ hk, Int.mul_zero]
      have h1' : (0 : Int) = vsum (fun x => intOf x.2 * G x.1) (es.toList.map kv) + (0 * G key - c * G key) := h0.symm.trans (vsum_set (fun x => intOf x.2 * G x.1) _ j _ (key, .int .i64 0) hLj)
      rw [Int.zero_mul] at h1'
      show c * G key = vsum (fun x => intOf x.2 * G x.1) (es.toList.map kv)
      omega
    · show vsum _ _ = vsum _ _ + _
      rw [vsum_set _ _ j _ _ hLj]
      simp only [intOf]
      rw [Int.sub_mul]

/-- 'm[k]'. -/
theorem mapZ_lookup (K : Maps.Keyed P k) (ht : P.underlying t = some (.map k e)) (he : P.underlying e = some (.int .i64)) (hz : ∀ u : World, (zeroValue e).run P u = .ok (.int .i64 0) u) (h : mapZ P k e w b L) {key : Value} {kl : Lit} (hkey : keyOf P k key = some kl) :
    ∃ c : Int, (Instr.lookup t (.map (some b)) key false).run P w = .ok (.int .i64 c) w ∧ ∀ F : Value → Int, (∀ v, v ≠ key → F v = 0) → c * F key = wsum F L := by
  obtain ⟨es, clock, hb, F, rfl⟩ := h
  rcases K.find w hkey es.toList F.keys with ⟨h1, h2⟩ | ⟨j, e0, h1, h2, h3⟩
  · refine ⟨0, by simp [Instr.lookup, run_underlying ht, MapKept.run_getObj_map hb, K.check w _ hkey, h1, hz, Result.andThen], fun G hG => ?_⟩
    rw [Int.zero_mul]
    refine (vsum_zero _ _ fun x hx => ?_).symm
    obtain ⟨y, hy, rfl⟩ := List.mem_map.1 hx
    show intOf y.val * G y.key = 0
    rw [hG _ (h2 y hy), Int.mul_zero]
  · have hj : es[j]? = some e0 := by simpa using h2
    have hm0 : e0 ∈ es.toList := List.mem_of_getElem? h2
    obtain ⟨y0, hy0⟩ := F.reads e0 hm0
    obtain ⟨zv, hzv, _⟩ := rd_val hy0
    obtain ⟨c, hc, _, _⟩ := plainElem_int_inv he hzv
    have hmapset : (es.toList.set j { e0 with val := .int .i64 0 }).map kv = (es.toList.map kv).set j (key, .int .i64 0) := by rw [List.map_set]; simp [kv, h3]
    have hLj : (es.toList.map kv)[j]? = some (key, .int .i64 c) := by rw [List.getElem?_map, h2]; simp [kv, h3, hc]
    refine ⟨c, by simp [Instr.lookup, run_underlying ht, MapKept.run_getObj_map hb, K.check w _ hkey, h1, Result.andThen, hc], fun G hG => ?_⟩
    have h0 : vsum (fun x => intOf x.2 * G x.1) ((es.toList.map kv).set j (key, .int .i64 0)) = 0 := by
      rw [← hmapset]
      refine vsum_zero _ _ fun x hx => ?_
      obtain ⟨y, hy, rfl⟩ := List.mem_map.1 hx
      obtain ⟨i, hi, ex⟩ := List.getElem_of_mem hy
      rw [List.getElem_set] at ex
      split at ex
      · subst ex; simp [kv, intOf]
      · rename_i hne
        have hi' : i < es.toList.length := by simpa using hi
        have hk : y.key ≠ key := by
          rw [← h3]
          exact other_key F h2 (by rw [List.getElem?_eq_getElem hi', ex]) (fun e1 => hne e1.symm)
        show intOf y.val * G y.key = 0
        rw [hG _ hk, Int.mul_zero]
    have h1' : (0 : Int) = vsum (fun x => intOf x.2 * G x.1) (es.toList.map kv) + (0 * G key - c * G key) := h0.symm.trans (vsum_set (fun x => intOf x.2 * G x.1) _ j _ (key, .int .i64 0) hLj)
    rw [Int.zero_mul] at h1'
    show c * G key = vsum (fun x => intOf x.2 * G x.1) (es.toList.map kv)
    omega

/-- 'range m'. -/
theorem mapZ_range (ht : P.underlying t = some (.map k e)) (h : mapZ P k e w b L) :
    ∃ o, (Instr.range t (.map (some b))).run P w = .ok (.pointer (some ⟨w.heap.size, 0, none⟩)) (w.alloc o) ∧ iterZ P k e (w.alloc o) b w.heap.size L := by
  have hlt := h.lt
  obtain ⟨es, clock, hb, F, rfl⟩ := h
  refine ⟨_, run_range_map w t k e b es clock ht hb, es, clock, clock, #[], clock, ((MapKept.heap_alloc w _).2 b hlt).trans hb, F, (MapKept.heap_alloc w _).1, F.stamped.1, Nat.le_refl _, Nat.le_refl _, ?_⟩
  unfold leftOf
  rw [Array.toList_filter, List.filter_eq_self.2 (fun _ _ => by simp)]

theorem vsum_left (f : Value × Value → Int) (seen : Array Nat) (e0 : MapEntry) (hs : seen.contains e0.born = false) : ∀ l : List MapEntry, (l.map (·.born)).Nodup → e0 ∈ l →
    vsum f ((l.filter fun e => !seen.contains e.born).map kv) = vsum f ((l.filter fun e => !(seen.push e0.born).contains e.born).map kv) + f (kv e0) ∧ ((l.filter fun e => !(seen.push e0.born).contains e.born).map kv).length < ((l.filter fun e => !seen.contains e.born).map kv).length
  | [], _, h => by simp at h
  | a :: r, hn, hm => by
    simp only [List.map_cons, List.nodup_cons] at hn
    have hpush : ∀ z : Nat, (seen.push e0.born).contains z = (seen.contains z || (z == e0.born)) := fun z => contains_push seen e0.born z
    by_cases hae : a.born = e0.born
    · have hrest : (r.filter fun e => !(seen.push e0.born).contains e.born) = r.filter fun e => !seen.contains e.born := List.filter_congr fun x hx => by
        rw [hpush]
        have : (x.born == e0.born) = false := by
          simp only [beq_eq_false_iff_ne, ne_eq]
          intro h
          exact hn.1 (List.mem_map.2 ⟨x, hx, by rw [h, hae]⟩)
        rw [this]; simp
      have hax : a = e0 := by
        rcases List.mem_cons.1 hm with h | h
        · exact h.symm
        · exact absurd (List.mem_map.2 ⟨e0, h, hae.symm⟩) hn.1
      subst hax
      have hp : (seen.push a.born).contains a.born = true := by rw [hpush]; simp
      simp only [List.filter_cons, hs, hp, Bool.not_false, if_true, Bool.not_true, Bool.false_eq_true, if_false, hrest, List.map_cons, vsum, List.length_cons]
      exact ⟨by omega, by omega⟩
    · have hm' : e0 ∈ r := by
        rcases List.mem_cons.1 hm with h | h
        · exact absurd (by rw [h]) hae
        · exact h
      obtain ⟨i1, i2⟩ := vsum_left f seen e0 hs r hn.2 hm'
      have hb : (seen.push e0.born).contains a.born = seen.contains a.born := by
        rw [hpush]
        have : (a.born == e0.born) = false := by simpa using hae
        rw [this]; simp
      simp only [List.filter_cons, hb]
      cases seen.contains a.born
      · simp only [Bool.not_false, if_true, List.map_cons, vsum, List.length_cons]
        exact ⟨by omega, by omega⟩
      · simp only [Bool.not_true, Bool.false_eq_true, if_false]
        exact ⟨i1, i2⟩

/-- The step. -/
theorem iterZ_next {r : Nat} {Rm : List (Value × Value)} (h : iterZ P k e w b r Rm) (hbr : b ≠ r) (ty : TypeId) :
    (Rm = [] ∧ (Instr.next (.pointer (some ⟨r, 0, none⟩)) false ty).run P w = .ok (.tuple #[.bool false]) w) ∨
    ∃ (key v : Value) (Rm' : List (Value × Value)) (w1 : World) (o : Obj), (w1 = w ∨ w1 = w.drew) ∧ (Instr.next (.pointer (some ⟨r, 0, none⟩)) false ty).run P w = .ok (.tuple #[.bool true, key, v]) (setBlock w1 r o) ∧ (∃ kl y, keyOf P k key = some kl ∧ RZ P e v = some y) ∧ (key, v) ∈ Rm ∧ Rm'.length < Rm.length ∧ (∀ x ∈ Rm', x ∈ Rm) ∧ (∀ f, vsum f Rm = vsum f Rm' + f (key, v)) ∧
      (∀ w' : World, w'.heap[b]? = w.heap[b]? → w'.heap[r]? = some o → iterZ P k e w' b r Rm' ∧ (Instr.entry (.pointer (some ⟨r, 0, none⟩))).run P w' = .ok (.tuple #[key, v]) w') := by
  obtain ⟨es, clock, since, seen, c0, hb, F, hr, hold, hsc, hsk, rfl⟩ := h
  rcases run_next_at (P := P) w ty r b since c0 seen es clock hr hb hold hsc with ⟨h0, hrun⟩ | ⟨x, hx, w1, hal, hrun⟩
  · refine Or.inl ⟨?_, hrun⟩
    have : leftOf es seen = #[] := Array.eq_empty_of_size_eq_zero h0
    rw [this]; rfl
  · obtain ⟨hxm, hxs⟩ := mem_left hx
    obtain ⟨y0, hy0⟩ := F.reads x hxm
    obtain ⟨z, hz, _⟩ := rd_val hy0
    have hn := ((stamped_iff es clock).1 F.stamped).2.1
    have e1 : ∀ sn : Array Nat, (leftOf es sn).toList = es.toList.filter fun e => !sn.contains e.born := fun sn => by unfold leftOf; rw [← Array.toList_filter]
    refine Or.inr ⟨x.key, x.val, (leftOf es (seen.push x.born)).toList.map kv, w1, _, hal, hrun, ⟨_, _, rd_key hy0, hz⟩, List.mem_map.2 ⟨x, hx, rfl⟩, ?_, ?_, ?_, fun w' hb' hr' => ⟨⟨es, clock, since, seen.push x.born, clock, hb'.trans hb, F, hr', hold, hsk, hsk, rfl⟩, run_entry_at _ r b since seen es clock x hr' (hb'.trans hb) hxm hn⟩⟩
    · rw [e1, e1]
      exact (vsum_left (fun _ => 0) seen x hxs es.toList hn hxm).2
    · intro q hq
      rw [e1] at hq ⊢
      obtain ⟨u, hu, rfl⟩ := List.mem_map.1 hq
      obtain ⟨hu1, hu2⟩ := List.mem_filter.1 hu
      refine List.mem_map.2 ⟨u, List.mem_filter.2 ⟨hu1, ?_⟩, rfl⟩
      rw [contains_push] at hu2
      simp at hu2 ⊢
      exact hu2.1
    · intro f
      rw [e1, e1]
      exact (vsum_left f seen x hxs es.toList hn hxm).1
theorem iterZ.apart {r : Nat} {Rm} (h : iterZ P k e w b r Rm) : Rm.Pairwise (fun x y => x.1 ≠ y.1) := by
  obtain ⟨es, clock, since, seen, c0, hb, F, hr, _, _, _, rfl⟩ := h
  have h1 := ((stamped_iff es clock).1 F.stamped).2.2
  have e1 : (leftOf es seen).toList = es.toList.filter fun e => !seen.contains e.born := by unfold leftOf; rw [← Array.toList_filter]
  rw [e1, List.pairwise_map]
  exact (h1.filter _).imp (fun h => h)
end
end Go.Proofs.Ytphjhfpeomifiaa.P
namespace Go.Proofs.Ytphjhfpeomifiaa.P
open Go.ChangeMaps (setBlock)
open Go.RowKit Go.Proofs.Ytphjhfpeomifiaa.Q Go.Proofs.YtphjhfpeomifiaaW.PrintWords Go.Proofs.YtphjhfpeomifiaaW.PrintLast Go.Proofs.YtphjhfpeomifiaaW.PrintMore
set_option linter.unusedVariables false
set_option linter.unusedSimpArgs false

theorem calls_at {P : Program} {f : Nat} {args : Array Value} {W : World} {Q : Ending → World → Prop} (p : World → Prop) (h : p W) (k : ∀ W, p W → Calls P f args W Q) : Calls P f args W Q := k W h
theorem zeroI (w : World) : (zeroValue 3).run Try.prog w = .ok (.int .i64 0) w := by kernel_rfl
theorem spot_law : Maps.Keyed Try.prog 76 := Maps.Keyed.of_law (deep_law_gate (by kernel_rfl) (by decide +kernel) (by decide +kernel) (by kernel_rfl) (by kernel_rfl))
theorem int_law : Maps.Keyed Try.prog 3 := Maps.int_keyed Try.underlying3
theorem spot_key {q m : Int} (hq : (Lit.int .i64 q).wf = true) (hm : (Lit.int .i64 m).wf = true) : ∃ kl, keyOf Try.prog 76 (.agg #[.int .i64 q, .int .i64 m]) = some kl := by
  have hk : Try.prog.keyType 76 = true := by kernel_rfl
  have hf : (Value.agg #[.int .i64 q, .int .i64 m]).formed Try.prog 76 = true := by kernel_rfl
  have hc : Try.prog.cellsOf 76 = 2 := by kernel_rfl
  have hc3 : Try.prog.cellsOf 3 = 1 := by kernel_rfl
  obtain ⟨n, hn⟩ : ∃ n, Try.prog.types.size = n + 1 := ⟨Try.prog.types.size - 1, by kernel_rfl⟩
  refine ⟨.string (keyBytes [.int .i64 q, .int .i64 m]), ?_⟩
  unfold keyOf
  simp only [Try.underlying76, hk, hf, Bool.and_self, if_true]
  rw [hn]
  unfold Program.keyLits
  simp only [Try.underlying76, Value.cells]
  rw [if_pos (by rw [hc]; exact ⟨rfl, by kernel_rfl⟩)]
  simp [Program.keyLits, Try.underlying3, hc3, hq, hm]
theorem int_key {m : Int} (hm : (Lit.int .i64 m).wf = true) : keyOf Try.prog 3 (.int .i64 m) = some (.int .i64 m) := Maps.keyOf_int_mk Try.underlying3 hm
theorem wf_of {x : Int} (h1 : -9223372036854775808 ≤ x) (h2 : x ≤ 9223372036854775807) : (Lit.int .i64 x).wf = true := by
  show (decide (IntKind.i64.min ≤ x) && decide (x ≤ IntKind.i64.max)) = true
  rw [show IntKind.i64.min = -9223372036854775808 by decide, show IntKind.i64.max = 9223372036854775807 by decide]
  simp [h1, h2]
theorem wf_wrap (x : Int) : (Lit.int .i64 (IntKind.i64.wrap x)).wf = true := by
  rw [IntKind.wrap_i64]
  exact wf_of (by omega) (by omega)
theorem wf_wrap64 (x : Int) : (Lit.int .i64 (wrap64 x)).wf = true := wf_of (by unfold wrap64; omega) (by unfold wrap64; omega)
theorem cg_wrap (x : Int) : Cg (IntKind.i64.wrap x) x := ⟨-((x + 9223372036854775808) / 18446744073709551616), by rw [IntKind.wrap_i64]; omega⟩

/-- A key's two numbers. -/
def sqOf : Value → Int
  | .agg xs => intOf (xs.getD 0 (.bool false))
  | _ => 0
def mkOf : Value → Int
  | .agg xs => intOf (xs.getD 1 (.bool false))
  | _ => 0
theorem sqOf_mk (q m : Int) : sqOf (.agg #[.int .i64 q, .int .i64 m]) = q := rfl
theorem mkOf_mk (q m : Int) : mkOf (.agg #[.int .i64 q, .int .i64 m]) = m := rfl

/-- The lists of n throws from a square on, those that come to the end just by the last one, each as often as F says of its mark. -/
def valG (s f : Int) (tv : Int → Int → Int) (mv : Int → Int → Int → Int) (F : Int → Int) : Nat → Int → Int → Int
  | 0, q, m => if q = s then F m else 0
  | n + 1, q, m => if q = s then 0 else sumN f.toNat fun i => valG s f tv mv F n (tv q ((i : Int) + 1)) (mv q m ((i : Int) + 1))
def valV (s f : Int) (tv : Int → Int → Int) (mv : Int → Int → Int → Int) (F : Int → Int) (n : Nat) (v : Value) : Int := valG s f tv mv F n (sqOf v) (mkOf v)

/-- What is known of the throws and the marks on the way. -/
structure Way (k : Nat) (s f o : Int) (l0 : List S70) (tv : Int → Int → Int) (mv : Int → Int → Int → Int) (Iv : Nat → Int → Int → Prop) : Prop where
  f0 : 0 ≤ f
  f8 : f ≤ 8
  thr : ∀ n q m, Iv (n + 1) q m → q ≠ s → ∀ j : Int, 1 ≤ j → j ≤ f → impl_Board_throw.f k s f o l0 q j = some (tv q j) ∧ Iv n (tv q j) (mv q m j)
  wf : ∀ n q m, Iv n q m → (Lit.int .i64 q).wf = true ∧ (Lit.int .i64 m).wf = true

/-- Function g, bound to lb, tells the mark behind a throw. -/
def MarkOk (g : Nat) (lb : Array Value) (s f : Int) (mv : Int → Int → Int → Int) (Iv : Nat → Int → Int → Prop) (w : World) : Prop :=
  ∀ (W : World) (n : Nat) (q m j : Int), Below w.heap.size w W → Iv (n + 1) q m → q ≠ s → 1 ≤ j → j ≤ f → Calls Try.prog g (#[.agg #[.int .i64 q, .int .i64 m], .int .i64 j] ++ lb) W fun e w' => e = .returned (.int .i64 (mv q m j)) ∧ Below W.heap.size W w'

/-- Entries are spots with numbers. -/
def Spots (Iv : Int → Int → Prop) (L : List (Value × Value)) : Prop := ∀ x ∈ L, ∃ q m c : Int, x = (.agg #[.int .i64 q, .int .i64 m], .int .i64 c) ∧ Iv q m

section
variable (s f : Int) (tv : Int → Int → Int) (mv : Int → Int → Int → Int) (Iv : Nat → Int → Int → Prop) (sq0 mk0 : Int) (T : Nat)
/-- In front of a round. -/
structure AllI (w1 : World) (i b1 : Nat) (L : List (Value × Value)) (wr : World) : Prop where
  map : mapZ Try.prog 76 3 wr b1 L
  len : L.length ≤ 8 ^ i
  spots : Spots (Iv (T - i)) L
  sum : ∀ F, Cg (wsum (valV s f tv mv F (T - i)) L) (valG s f tv mv F T sq0 mk0)
  one : T = 0 → ∀ x ∈ L, sqOf x.1 = sq0
  base : w1.heap.size ≤ b1
  below : Below w1.heap.size w1 wr

/-- Among the spots of a round. -/
structure NextI (w1 : World) (i b1 b2 r : Nat) (N Rm : List (Value × Value)) (wr : World) : Prop where
  map : mapZ Try.prog 76 3 wr b2 N
  it : iterZ Try.prog 76 3 wr b1 r Rm
  len : N.length + 8 * Rm.length ≤ 8 ^ (i + 1)
  spotsN : Spots (Iv (T - (i + 1))) N
  spotsR : Spots (Iv (T - i)) Rm
  sum : ∀ F, Cg (wsum (valV s f tv mv F (T - (i + 1))) N + wsum (valV s f tv mv F (T - i)) Rm) (valG s f tv mv F T sq0 mk0)
  below : Below w1.heap.size w1 wr

/-- Among the faces at a spot. -/
structure FaceI (w1 : World) (i b1 b2 r b3 : Nat) (q m c : Int) (j : Nat) (N Rm : List (Value × Value)) (wr : World) : Prop where
  map : mapZ Try.prog 76 3 wr b2 N
  it : iterZ Try.prog 76 3 wr b1 r Rm
  len : N.length + 8 * Rm.length + 8 ≤ 8 ^ (i + 1) + j
  spotsN : Spots (Iv (T - (i + 1))) N
  spotsR : Spots (Iv (T - i)) Rm
  sum : ∀ F, Cg (wsum (valV s f tv mv F (T - (i + 1))) N + c * (sumN f.toNat (fun i_ => valG s f tv mv F (T - (i + 1)) (tv q ((i_ : Int) + 1)) (mv q m ((i_ : Int) + 1))) - sumN j (fun i_ => valG s f tv mv F (T - (i + 1)) (tv q ((i_ : Int) + 1)) (mv q m ((i_ : Int) + 1)))) + wsum (valV s f tv mv F (T - i)) Rm) (valG s f tv mv F T sq0 mk0)
  below : Below w1.heap.size w1 wr
  cell : wr.heap[b3]? = some (.cells #[.int .i64 q, .int .i64 m] 76 (0, 0))

/-- Among the spots in the end. -/
structure LastI (w1 : World) (b1 b2 r : Nat) (N Rm : List (Value × Value)) (wr : World) : Prop where
  map : mapZ Try.prog 3 3 wr b2 N
  it : iterZ Try.prog 76 3 wr b1 r Rm
  len : N.length + Rm.length ≤ 8 ^ T
  marks : ∀ x ∈ N, ∃ m c : Int, x = (.int .i64 m, .int .i64 c) ∧ Iv 0 s m
  spots : Spots (Iv 0) Rm
  one : T = 0 → ∀ x ∈ Rm, sqOf x.1 = sq0
  sum : ∀ F, Cg (wsum (fun v => F (intOf v)) N + wsum (valV s f tv mv F 0) Rm) (valG s f tv mv F T sq0 mk0)
  below : Below w1.heap.size w1 wr
end

theorem pow8 {T i : Nat} (hT : T ≤ 16) (hi : i ≤ T) : 8 ^ (i + 1) ≤ 2251799813685248 := by
  have : (8 : Nat) ^ (i + 1) ≤ 8 ^ 17 := Nat.pow_le_pow_right (by decide) (by omega)
  exact this

section
variable {P : Program} {ops : Array Oper} {rest : List Oper} {o : Oper} {a : Act} {Q : Exit → Act → World → Prop} {W : World}
/-- A new map. -/
theorem makeMapZ {N : Tmp} (_hd : o.dst = some N) (hgd : o.guard = none) (t k e : TypeId) (hop : o.op = .makeMap t none) (h : ∀ g, g = W.heap.size → ∀ w1, mapZ P k e w1 g [] → Below W.heap.size W w1 → w1.heap.size = W.heap.size + 1 → wpList P ops Q rest (a.put o.dst (.map (some g))) w1) : wpList P ops Q (o :: rest) a W :=
  Kd.event_run hgd (w1 := W.alloc (.map #[] 0)) (by simp [execOp, hop, Instr.makeMap, newObj, Sem.run, Result.andThen]) (h _ rfl _ (mapZ_made W P k e) ((Below.refl _ _).alloc (Nat.le_refl _) _) (by simp))
end

theorem grown_setBlock {w : World} {b : Nat} (o : Obj) : w.grownBy (setBlock w b o) (some b) := ⟨rfl, rfl, rfl, by simp [setBlock], fun i _ hi => setBlock_ne (fun e => hi (by rw [e])) o⟩
theorem below_of_grown {B : Nat} {u w w1 : World} {b : Nat} (h : Below B u w) (g : w.grownBy w1 (some b)) (hs : B ≤ w.heap.size) (hb : B ≤ b) : Below B u w1 := h.grown g hs (fun k e => by cases e; exact hb)
theorem keep_block {w w1 : World} {b i : Nat} {x : Obj} (g : w.grownBy w1 (some b)) (h : w.heap[i]? = some x) (hne : i ≠ b) : w1.heap[i]? = some x :=
  (g.block i (by rcases Nat.lt_or_ge i w.heap.size with h1 | h1; exact h1; rw [Array.getElem?_eq_none h1] at h; cases h) (fun e => hne (by cases e; rfl))).trans h
theorem ind_uniq {c d : Int} {key : Value} {L : List (Value × Value)} (h1 : ∀ F : Value → Int, (∀ v, v ≠ key → F v = 0) → c * F key = wsum F L) (h2 : ∀ F : Value → Int, (∀ v, v ≠ key → F v = 0) → d * F key = wsum F L) : c = d := by
  classical
  have e1 := h1 (fun v => if v = key then 1 else 0) (fun v hv => if_neg hv)
  have e2 := h2 (fun v => if v = key then 1 else 0) (fun v hv => if_neg hv)
  rw [if_pos rfl] at e1 e2
  omega
section
variable {P : Program} {ops : Array Oper} {rest : List Oper} {o : Oper} {a : Act} {Q : Exit → Act → World → Prop} {W : World}
theorem gate_upd {t : TypeId} {m x v : Operand} (_ho : o.op = .mapUpdate t m x v) (h : wpList P ops Q (o :: rest) a W) : wpList P ops Q (o :: rest) a W := h
theorem gate_ins {t : TypeId} {m x v : Operand} (_ho : o.op = .insert t m x v) (h : wpList P ops Q (o :: rest) a W) : wpList P ops Q (o :: rest) a W := h
/-- 'm[k] = n' and an entry of a literal, at the operation. -/
theorem insertZ (hgd : o.guard = none) (m x v : Operand) (t k e : TypeId) (hop : o.op = .insert t m x v) (K : Maps.Keyed P k) (ht : P.underlying t = some (.map k e)) (he : P.underlying e = some (.int .i64)) {b : Nat} {L : List (Value × Value)} (hm : a.eval m = .map (some b)) (h : mapZ P k e W b L) (hlen : L.length < maxLen) {key : Value} {kl : Lit} (hx : a.eval x = key) (hkey : keyOf P k key = some kl) (q : Int) (hv : a.eval v = .int .i64 q) (hq : (Lit.int .i64 q).wf = true)
    (hK : ∀ (c : Int) (L' : List (Value × Value)) (w1 : World), mapZ P k e w1 b L' → L'.length ≤ L.length + 1 → (∀ x ∈ L', x ∈ L ∨ x = (key, .int .i64 q)) → (∀ F : Value → Int, (∀ v, v ≠ key → F v = 0) → c * F key = wsum F L) → (∀ F : Value → Int, wsum F L' = wsum F L + (q - c) * F key) → W.grownBy w1 (some b) → w1.heap.size = W.heap.size → wpList P ops Q rest (a.put o.dst undef) w1) : wpList P ops Q (o :: rest) a W := by
  obtain ⟨c, o2, L', hrun, hmap, hl, hmem, hind, hsum⟩ := mapZ_update K ht he h hlen hkey q hq
  refine wpList_plain hgd fun K' hK' => ?_
  have hnext := hK c L' _ (hmap _ (setBlock_at h.lt o2)) hl hmem hind hsum (grown_setBlock o2) (setBlock_size ..)
  unfold Oper.wp
  simp [execOp, hop, hm, hx, hv, hrun, Result.andThen]
  exact hK' _ _ hnext
theorem updateZ (hgd : o.guard = none) (m x v : Operand) (t k e : TypeId) (hop : o.op = .mapUpdate t m x v) (K : Maps.Keyed P k) (ht : P.underlying t = some (.map k e)) (he : P.underlying e = some (.int .i64)) {b : Nat} {L : List (Value × Value)} (hm : a.eval m = .map (some b)) (h : mapZ P k e W b L) (hlen : L.length < maxLen) {key : Value} {kl : Lit} (hx : a.eval x = key) (hkey : keyOf P k key = some kl) (q : Int) (hv : a.eval v = .int .i64 q) (hq : (Lit.int .i64 q).wf = true)
    (hK : ∀ (c : Int) (L' : List (Value × Value)) (w1 : World), mapZ P k e w1 b L' → L'.length ≤ L.length + 1 → (∀ x ∈ L', x ∈ L ∨ x = (key, .int .i64 q)) → (∀ F : Value → Int, (∀ v, v ≠ key → F v = 0) → c * F key = wsum F L) → (∀ F : Value → Int, wsum F L' = wsum F L + (q - c) * F key) → W.grownBy w1 (some b) → w1.heap.size = W.heap.size → wpList P ops Q rest (a.put o.dst undef) w1) : wpList P ops Q (o :: rest) a W := by
  obtain ⟨c, o2, L', hrun, hmap, hl, hmem, hind, hsum⟩ := mapZ_update K ht he h hlen hkey q hq
  refine wpList_plain hgd fun K' hK' => ?_
  have hnext := hK c L' _ (hmap _ (setBlock_at h.lt o2)) hl hmem hind hsum (grown_setBlock o2) (setBlock_size ..)
  unfold Oper.wp
  simp [execOp, hop, hm, hx, hv, hrun, Result.andThen]
  exact hK' _ _ hnext
/-- 'm[k]', at the operation. -/
theorem lookupZ {N : Tmp} (_hd : o.dst = some N) (hgd : o.guard = none) (m x : Operand) (t k e : TypeId) (hop : o.op = .lookup t m x false) (K : Maps.Keyed P k) (ht : P.underlying t = some (.map k e)) (he : P.underlying e = some (.int .i64)) (hz : ∀ u : World, (zeroValue e).run P u = .ok (.int .i64 0) u) {b : Nat} {L : List (Value × Value)} (hm : a.eval m = .map (some b)) (h : mapZ P k e W b L) {key : Value} {kl : Lit} (hx : a.eval x = key) (hkey : keyOf P k key = some kl)
    (hK : ∀ c : Int, (∀ F : Value → Int, (∀ v, v ≠ key → F v = 0) → c * F key = wsum F L) → wpList P ops Q rest (a.put o.dst (.int .i64 c)) W) : wpList P ops Q (o :: rest) a W := by
  obtain ⟨c, hrun, hind⟩ := mapZ_lookup K ht he hz h hkey
  refine Kd.event_run hgd (v := .int .i64 c) (w1 := W) ?_ (hK c hind)
  simp [execOp, hop, hm, hx, hrun, Result.andThen]
/-- 'range m'. -/
theorem rangeZ {N : Tmp} (_hd : o.dst = some N) (hgd : o.guard = none) (m : Operand) (t k e : TypeId) (hop : o.op = .range t m) (ht : P.underlying t = some (.map k e)) {b : Nat} {L : List (Value × Value)} (hm : a.eval m = .map (some b)) (h : mapZ P k e W b L)
    (hK : ∀ g, g = W.heap.size → ∀ w1, iterZ P k e w1 b g L → Below W.heap.size W w1 → w1.heap.size = W.heap.size + 1 → wpList P ops Q rest (a.put o.dst (.pointer (some ⟨g, 0, none⟩))) w1) : wpList P ops Q (o :: rest) a W := by
  obtain ⟨o1, hrun, hit⟩ := mapZ_range ht h
  refine Kd.event_run hgd (v := .pointer (some ⟨W.heap.size, 0, none⟩)) (w1 := W.alloc o1) ?_ (hK _ rfl _ hit ((Below.refl _ _).alloc (Nat.le_refl _) _) (by simp))
  simp [execOp, hop, hm, hrun, Result.andThen]
/-- The step. -/
theorem nextZ {N : Tmp} (_hd : o.dst = some N) (hgd : o.guard = none) (it : Operand) (k e : TypeId) (hop : o.op = .next it false) {b r : Nat} {Rm : List (Value × Value)} (hit : a.eval it = .pointer (some ⟨r, 0, none⟩)) (h : iterZ P k e W b r Rm) (hbr : b ≠ r)
    (hDone : Rm = [] → wpList P ops Q rest (a.put o.dst (.tuple #[.bool false])) W)
    (hMore : ∀ (key v : Value) (Rm' : List (Value × Value)) (w1 : World), (key, v) ∈ Rm → Rm'.length < Rm.length → (∀ x ∈ Rm', x ∈ Rm) → (∀ f, vsum f Rm = vsum f Rm' + f (key, v)) → iterZ P k e w1 b r Rm' → (Instr.entry (.pointer (some ⟨r, 0, none⟩))).run P w1 = .ok (.tuple #[key, v]) w1 → W.grownBy w1 (some r) → w1.heap.size = W.heap.size → wpList P ops Q rest (a.put o.dst (.tuple #[.bool true, key, v])) w1) : wpList P ops Q (o :: rest) a W := by
  obtain ⟨hlb, hlr⟩ := h.lts
  rcases iterZ_next h hbr o.type with ⟨h0, hrun⟩ | ⟨key, v, Rm', w1, o1, hal, hrun, _, hmem, hl, hsub, hsum, hafter⟩
  · refine Kd.event_run hgd (v := .tuple #[.bool false]) (w1 := W) ?_ (hDone h0)
    simp [execOp, hop, hit, hrun, Result.andThen]
  · have h1 : w1.heap = W.heap := by rcases hal with rfl | rfl <;> rfl
    have hlr1 : r < w1.heap.size := by rw [h1]; exact hlr
    obtain ⟨i1, i2⟩ := hafter (setBlock w1 r o1) (by rw [setBlock_ne hbr, h1]) (setBlock_at hlr1 o1)
    refine Kd.event_run hgd (v := .tuple #[.bool true, key, v]) (w1 := setBlock w1 r o1) ?_ (hMore key v Rm' _ hmem hl hsub hsum i1 i2 ?_ (by rw [setBlock_size, h1]))
    · simp [execOp, hop, hit, hrun, Result.andThen]
    · have g := grown_setBlock (w := w1) (b := r) o1
      rcases hal with rfl | rfl
      · exact g
      · exact ⟨g.os, g.tape, g.output, g.size, g.block⟩
end


section
variable {k : Nat} {s f o : Int} {l0 : List S70} {tv : Int → Int → Int} {mv : Int → Int → Int → Int} {Iv : Nat → Int → Int → Prop} {sq0 mk0 : Int} {T : Nat} {w1 wr w : World} {i b1 b2 r b3 j : Nat} {L N N' Rm Rm' : List (Value × Value)} {q m c c0 : Int}
theorem wsum_take (hsum : ∀ f, vsum f Rm = vsum f Rm' + f (.agg #[.int .i64 q, .int .i64 m], .int .i64 c)) (F : Value → Int) : wsum F Rm = wsum F Rm' + c * F (.agg #[.int .i64 q, .int .i64 m]) := hsum _
theorem AllI.start {c : Int} {L0 : List (Value × Value)} (hmap : mapZ Try.prog 76 3 w b1 L0) (hmem : ∀ x ∈ L0, x ∈ ([] : List (Value × Value)) ∨ x = (.agg #[.int .i64 sq0, .int .i64 mk0], .int .i64 1)) (hind : ∀ F : Value → Int, (∀ v, v ≠ .agg #[.int .i64 sq0, .int .i64 mk0] → F v = 0) → c * F (.agg #[.int .i64 sq0, .int .i64 mk0]) = wsum F []) (hsum : ∀ F : Value → Int, wsum F L0 = wsum F [] + (1 - c) * F (.agg #[.int .i64 sq0, .int .i64 mk0])) (hl : L0.length ≤ ([] : List (Value × Value)).length + 1) (hI : Iv T sq0 mk0) (hbase : w1.heap.size ≤ b1) (hb : Below w1.heap.size w1 w) :
    AllI s f tv mv Iv sq0 mk0 T w1 0 b1 L0 w := by
  have hc : c = 0 := ind_uniq (L := []) hind (fun F _ => by simp [wsum, vsum])
  subst hc
  have hx : ∀ x ∈ L0, x = (.agg #[.int .i64 sq0, .int .i64 mk0], .int .i64 1) := fun x hx => by
    rcases hmem x hx with h | h
    · simp at h
    · exact h
  refine ⟨hmap, by simpa using hl, fun x h => ⟨sq0, mk0, 1, hx x h, hI⟩, fun F => Cg.of ?_, fun _ x h => by rw [hx x h]; rfl, hbase, hb⟩
  rw [hsum]
  show (0 : Int) + (1 - 0) * valG s f tv mv F T sq0 mk0 = _
  omega
theorem NextI.start (h : AllI s f tv mv Iv sq0 mk0 T w1 i b1 L wr) (hi : i < T) (hmap : mapZ Try.prog 76 3 w b2 []) (hit : iterZ Try.prog 76 3 w b1 r L) (hb : Below w1.heap.size w1 w) : NextI s f tv mv Iv sq0 mk0 T w1 i b1 b2 r [] L w := by
  refine ⟨hmap, hit, ?_, fun x h => by simp at h, h.spots, fun F => ?_, hb⟩
  · have := h.len
    rw [Nat.pow_succ]
    simp only [List.length_nil]
    omega
  · have := h.sum F
    rw [show wsum (valV s f tv mv F (T - (i + 1))) [] = 0 from rfl, Int.zero_add]
    exact this
theorem NextI.skip (h : NextI s f tv mv Iv sq0 mk0 T w1 i b1 b2 r N Rm wr) (hi : i < T) (hq : q = s) (hmap : mapZ Try.prog 76 3 w b2 N) (hit : iterZ Try.prog 76 3 w b1 r Rm') (hb : Below w1.heap.size w1 w) (hl : Rm'.length < Rm.length) (hsub : ∀ x ∈ Rm', x ∈ Rm)
    (hsum : ∀ f, vsum f Rm = vsum f Rm' + f (.agg #[.int .i64 q, .int .i64 m], .int .i64 c)) : NextI s f tv mv Iv sq0 mk0 T w1 i b1 b2 r N Rm' w := by
  refine ⟨hmap, hit, by have := h.len; omega, h.spotsN, fun x hx => h.spotsR x (hsub x hx), fun F => ?_, hb⟩
  have h1 := h.sum F
  rw [wsum_take hsum, show T - i = (T - (i + 1)) + 1 by omega] at h1
  have h2 : valV s f tv mv F (T - (i + 1) + 1) (.agg #[.int .i64 q, .int .i64 m]) = 0 := by
    show (if q = s then (0 : Int) else _) = 0
    rw [if_pos hq]
  rw [h2, Int.mul_zero, Int.add_zero] at h1
  rw [show T - i = (T - (i + 1)) + 1 by omega]
  exact h1
theorem FaceI.start (h : NextI s f tv mv Iv sq0 mk0 T w1 i b1 b2 r N Rm wr) (hi : i < T) (hq : q ≠ s) (hmap : mapZ Try.prog 76 3 w b2 N) (hit : iterZ Try.prog 76 3 w b1 r Rm') (hb : Below w1.heap.size w1 w) (hl : Rm'.length < Rm.length) (hsub : ∀ x ∈ Rm', x ∈ Rm)
    (hsum : ∀ f, vsum f Rm = vsum f Rm' + f (.agg #[.int .i64 q, .int .i64 m], .int .i64 c)) (hc : w.heap[b3]? = some (.cells #[.int .i64 q, .int .i64 m] 76 (0, 0))) : FaceI s f tv mv Iv sq0 mk0 T w1 i b1 b2 r b3 q m c 0 N Rm' w := by
  refine ⟨hmap, hit, by have := h.len; omega, h.spotsN, fun x hx => h.spotsR x (hsub x hx), fun F => ?_, hb, hc⟩
  have h1 := h.sum F
  rw [wsum_take hsum, show T - i = (T - (i + 1)) + 1 by omega] at h1
  have h2 : valV s f tv mv F (T - (i + 1) + 1) (.agg #[.int .i64 q, .int .i64 m]) = sumN f.toNat (fun i_ => valG s f tv mv F (T - (i + 1)) (tv q ((i_ : Int) + 1)) (mv q m ((i_ : Int) + 1))) := by
    show (if q = s then (0 : Int) else _) = _
    rw [if_neg hq]
    rfl
  rw [h2] at h1
  rw [show T - i = (T - (i + 1)) + 1 by omega]
  refine Cg.trans (Cg.of ?_) h1
  show _ + c * (_ - 0) + _ = _
  rw [Int.sub_zero]
  omega
theorem FaceI.step (h : FaceI s f tv mv Iv sq0 mk0 T w1 i b1 b2 r b3 q m c j N Rm wr) (hmap : mapZ Try.prog 76 3 w b2 N') (hit : iterZ Try.prog 76 3 w b1 r Rm) (hb : Below w1.heap.size w1 w) (hc : w.heap[b3]? = some (.cells #[.int .i64 q, .int .i64 m] 76 (0, 0)))
    (hl : N'.length ≤ N.length + 1) {y : Int} (hy : Cg y (c0 + c)) (hmem : ∀ x ∈ N', x ∈ N ∨ x = (.agg #[.int .i64 (tv q ((j : Int) + 1)), .int .i64 (mv q m ((j : Int) + 1))], .int .i64 y)) (hI : Iv (T - (i + 1)) (tv q ((j : Int) + 1)) (mv q m ((j : Int) + 1)))
    (hsum : ∀ F : Value → Int, wsum F N' = wsum F N + (y - c0) * F (.agg #[.int .i64 (tv q ((j : Int) + 1)), .int .i64 (mv q m ((j : Int) + 1))])) : FaceI s f tv mv Iv sq0 mk0 T w1 i b1 b2 r b3 q m c (j + 1) N' Rm w := by
  refine ⟨hmap, hit, by have := h.len; omega, fun x hx => ?_, h.spotsR, fun F => ?_, hb, hc⟩
  · rcases hmem x hx with h1 | h1
    · exact h.spotsN x h1
    · exact ⟨_, _, _, h1, hI⟩
  · refine Cg.trans ?_ (h.sum F)
    rw [hsum]
    have e1 : valV s f tv mv F (T - (i + 1)) (.agg #[.int .i64 (tv q ((j : Int) + 1)), .int .i64 (mv q m ((j : Int) + 1))]) = valG s f tv mv F (T - (i + 1)) (tv q ((j : Int) + 1)) (mv q m ((j : Int) + 1)) := rfl
    have e2 : sumN (j + 1) (fun i_ => valG s f tv mv F (T - (i + 1)) (tv q ((i_ : Int) + 1)) (mv q m ((i_ : Int) + 1))) = sumN j (fun i_ => valG s f tv mv F (T - (i + 1)) (tv q ((i_ : Int) + 1)) (mv q m ((i_ : Int) + 1))) + valG s f tv mv F (T - (i + 1)) (tv q ((j : Int) + 1)) (mv q m ((j : Int) + 1)) := rfl
    rw [e1, e2]
    generalize valG s f tv mv F (T - (i + 1)) (tv q ((j : Int) + 1)) (mv q m ((j : Int) + 1)) = x
    generalize sumN f.toNat _ = u
    generalize sumN j _ = z
    have hw : Cg (y - c0) c := by
      obtain ⟨t, ht⟩ := hy
      exact ⟨t, by omega⟩
    have h1 : Cg ((y - c0) * x) (c * x) := hw.mul_right x
    obtain ⟨t, ht⟩ := h1
    refine ⟨t, ?_⟩
    rw [ht, show u - (z + x) = (u - z) - x by omega, Int.mul_sub c (u - z) x]
    omega
theorem FaceI.done (h : FaceI s f tv mv Iv sq0 mk0 T w1 i b1 b2 r b3 q m c j N Rm wr) (hj : j = f.toNat) (hf : f ≤ 8) : NextI s f tv mv Iv sq0 mk0 T w1 i b1 b2 r N Rm wr := by
  refine ⟨h.map, h.it, by have := h.len; omega, h.spotsN, h.spotsR, fun F => ?_, h.below⟩
  have h1 := h.sum F
  rw [hj, Int.sub_self, Int.mul_zero, Int.add_zero] at h1
  exact h1
theorem AllI.of_next (h : NextI s f tv mv Iv sq0 mk0 T w1 i b1 b2 r N [] wr) (hi : i < T) (hbase : w1.heap.size ≤ b2) : AllI s f tv mv Iv sq0 mk0 T w1 (i + 1) b2 N wr := by
  refine ⟨h.map, by have := h.len; simpa using this, h.spotsN, fun F => ?_, fun h0 => by omega, hbase, h.below⟩
  have h1 := h.sum F
  rw [show wsum (valV s f tv mv F (T - i)) [] = 0 from rfl, Int.add_zero] at h1
  exact h1
theorem LastI.start (h : AllI s f tv mv Iv sq0 mk0 T w1 T b1 L wr) (hmap : mapZ Try.prog 3 3 w b2 []) (hit : iterZ Try.prog 76 3 w b1 r L) (hb : Below w1.heap.size w1 w) : LastI s f tv mv Iv sq0 mk0 T w1 b1 b2 r [] L w := by
  have hs := h.spots
  have hsum := h.sum
  rw [Nat.sub_self] at hs
  simp only [Nat.sub_self] at hsum
  refine ⟨hmap, hit, by have := h.len; simpa using this, fun x h => by simp at h, hs, h.one, fun F => ?_, hb⟩
  rw [show wsum (fun v => F (intOf v)) [] = 0 from rfl, Int.zero_add]
  exact hsum F
theorem LastI.skip (h : LastI s f tv mv Iv sq0 mk0 T w1 b1 b2 r N Rm wr) (hq : q ≠ s) (hmap : mapZ Try.prog 3 3 w b2 N) (hit : iterZ Try.prog 76 3 w b1 r Rm') (hb : Below w1.heap.size w1 w) (hl : Rm'.length < Rm.length) (hsub : ∀ x ∈ Rm', x ∈ Rm)
    (hsum : ∀ f, vsum f Rm = vsum f Rm' + f (.agg #[.int .i64 q, .int .i64 m], .int .i64 c)) : LastI s f tv mv Iv sq0 mk0 T w1 b1 b2 r N Rm' w := by
  refine ⟨hmap, hit, by have := h.len; omega, h.marks, fun x hx => h.spots x (hsub x hx), fun h0 x hx => h.one h0 x (hsub x hx), fun F => ?_, hb⟩
  have h1 := h.sum F
  rw [wsum_take hsum] at h1
  have h2 : valV s f tv mv F 0 (.agg #[.int .i64 q, .int .i64 m]) = 0 := by
    show (if q = s then F m else 0) = 0
    rw [if_neg hq]
  rw [h2, Int.mul_zero, Int.add_zero] at h1
  exact h1
theorem LastI.add (h : LastI s f tv mv Iv sq0 mk0 T w1 b1 b2 r N Rm wr) (hq : q = s) (hI : Iv 0 q m) (hmap : mapZ Try.prog 3 3 w b2 N') (hit : iterZ Try.prog 76 3 w b1 r Rm') (hb : Below w1.heap.size w1 w) (hl : Rm'.length < Rm.length) (hsub : ∀ x ∈ Rm', x ∈ Rm)
    (hsum : ∀ f, vsum f Rm = vsum f Rm' + f (.agg #[.int .i64 q, .int .i64 m], .int .i64 c)) (hlN : N'.length ≤ N.length + 1) {y : Int} (hy : Cg y (c0 + c)) (hmem : ∀ x ∈ N', x ∈ N ∨ x = (.int .i64 m, .int .i64 y))
    (hsumN : ∀ F : Value → Int, wsum F N' = wsum F N + (y - c0) * F (.int .i64 m)) : LastI s f tv mv Iv sq0 mk0 T w1 b1 b2 r N' Rm' w := by
  subst hq
  refine ⟨hmap, hit, by have := h.len; omega, fun x hx => ?_, fun x hx => h.spots x (hsub x hx), fun h0 x hx => h.one h0 x (hsub x hx), fun F => ?_, hb⟩
  · rcases hmem x hx with h1 | h1
    · exact h.marks x h1
    · exact ⟨_, _, h1, hI⟩
  · refine Cg.trans ?_ (h.sum F)
    rw [wsum_take hsum, hsumN]
    have h2 : valV q f tv mv F 0 (.agg #[.int .i64 q, .int .i64 m]) = F m := by
      show (if q = q then F m else 0) = F m
      rw [if_pos rfl]
    rw [h2]
    show Cg (_ + (y - c0) * F m + _) _
    have hw : Cg (y - c0) c := by
      obtain ⟨t, ht⟩ := hy
      exact ⟨t, by omega⟩
    obtain ⟨t, ht⟩ := hw.mul_right (F m)
    exact ⟨t, by rw [ht]; omega⟩
theorem LastI.done (h : LastI s f tv mv Iv sq0 mk0 T w1 b1 b2 r N [] wr) (F : Int → Int) : Cg (wsum (fun v => F (intOf v)) N) (valG s f tv mv F T sq0 mk0) := by
  have h1 := h.sum F
  rw [show wsum (valV s f tv mv F 0) [] = 0 from rfl, Int.add_zero] at h1
  exact h1
end
end Go.Proofs.Ytphjhfpeomifiaa.P
namespace Go.Proofs.Ytphjhfpeomifiaa.P
open Go.RowKit Go.ChangeShapes Go.WideShapes Go.MapKept Go.ChangeMaps Go.WideElems
open Go.Proofs.Ytphjhfpeomifiaa.Q Go.Proofs.YtphjhfpeomifiaaW.PrintWords
set_option linter.unusedVariables false
set_option linter.unusedSimpArgs false

theorem inI_of_wf {x : Int} (h : (Lit.int .i64 x).wf = true) : InI x := by
  have h' : (decide (IntKind.i64.min ≤ x) && decide (x ≤ IntKind.i64.max)) = true := h
  rw [show IntKind.i64.min = -9223372036854775808 by decide, show IntKind.i64.max = 9223372036854775807 by decide] at h'
  simp at h'
  exact h'

section
variable {P : Program} {w : World} {t k e : TypeId} {b : Nat} {L : List (Value × Value)}
/-- 'm[k]'. -/
theorem mapZ_lookupW (K : Maps.Keyed P k) (ht : P.underlying t = some (.map k e)) (he : P.underlying e = some (.int .i64)) (hz : ∀ u : World, (zeroValue e).run P u = .ok (.int .i64 0) u) (h : mapZ P k e w b L) {key : Value} {kl : Lit} (hkey : keyOf P k key = some kl) :
    ∃ c : Int, (Instr.lookup t (.map (some b)) key false).run P w = .ok (.int .i64 c) w ∧ (Lit.int .i64 c).wf = true ∧ ∀ F : Value → Int, (∀ v, v ≠ key → F v = 0) → c * F key = wsum F L := by
  obtain ⟨es, clock, hb, F, rfl⟩ := h
  rcases K.find w hkey es.toList F.keys with ⟨h1, h2⟩ | ⟨j, e0, h1, h2, h3⟩
  · refine ⟨0, by simp [Instr.lookup, run_underlying ht, MapKept.run_getObj_map hb, K.check w _ hkey, h1, hz, Result.andThen], by decide, fun G hG => ?_⟩
    rw [Int.zero_mul]
    refine (vsum_zero _ _ fun x hx => ?_).symm
    obtain ⟨y, hy, rfl⟩ := List.mem_map.1 hx
    show intOf y.val * G y.key = 0
    rw [hG _ (h2 y hy), Int.mul_zero]
  · have hj : es[j]? = some e0 := by simpa using h2
    have hm0 : e0 ∈ es.toList := List.mem_of_getElem? h2
    obtain ⟨y0, hy0⟩ := F.reads e0 hm0
    obtain ⟨zv, hzv, _⟩ := rd_val hy0
    obtain ⟨c, hc, _, hwfc⟩ := plainElem_int_inv he hzv
    have hmapset : (es.toList.set j { e0 with val := .int .i64 0 }).map kv = (es.toList.map kv).set j (key, .int .i64 0) := by rw [List.map_set]; simp [kv, h3]
    have hLj : (es.toList.map kv)[j]? = some (key, .int .i64 c) := by rw [List.getElem?_map, h2]; simp [kv, h3, hc]
    refine ⟨c, by simp [Instr.lookup, run_underlying ht, MapKept.run_getObj_map hb, K.check w _ hkey, h1, Result.andThen, hc], hwfc, fun G hG => ?_⟩
    have h0 : vsum (fun x => intOf x.2 * G x.1) ((es.toList.map kv).set j (key, .int .i64 0)) = 0 := by
      rw [← hmapset]
      refine vsum_zero _ _ fun x hx => ?_
      obtain ⟨y, hy, rfl⟩ := List.mem_map.1 hx
      obtain ⟨i, hi, ex⟩ := List.getElem_of_mem hy
      rw [List.getElem_set] at ex
      split at ex
      · subst ex; simp [kv, intOf]
      · rename_i hne
        have hi' : i < es.toList.length := by simpa using hi
        have hk : y.key ≠ key := by
          rw [← h3]
          exact other_key F h2 (by rw [List.getElem?_eq_getElem hi', ex]) (fun e1 => hne e1.symm)
        show intOf y.val * G y.key = 0
        rw [hG _ hk, Int.mul_zero]
    have h1' : (0 : Int) = vsum (fun x => intOf x.2 * G x.1) (es.toList.map kv) + (0 * G key - c * G key) := h0.symm.trans (vsum_set (fun x => intOf x.2 * G x.1) _ j _ (key, .int .i64 0) hLj)
    rw [Int.zero_mul] at h1'
    show c * G key = vsum (fun x => intOf x.2 * G x.1) (es.toList.map kv)
    omega

end
section
variable {P : Program} {ops : Array Oper} {rest : List Oper} {o : Oper} {a : Act} {Q : Exit → Act → World → Prop} {W : World}
/-- 'm[k]', at the operation. -/
theorem lookupW {N : Tmp} (_hd : o.dst = some N) (hgd : o.guard = none) (m x : Operand) (t k e : TypeId) (hop : o.op = .lookup t m x false) (K : Maps.Keyed P k) (ht : P.underlying t = some (.map k e)) (he : P.underlying e = some (.int .i64)) (hz : ∀ u : World, (zeroValue e).run P u = .ok (.int .i64 0) u) {b : Nat} {L : List (Value × Value)} (hm : a.eval m = .map (some b)) (h : mapZ P k e W b L) {key : Value} {kl : Lit} (hx : a.eval x = key) (hkey : keyOf P k key = some kl)
    (hK : ∀ c : Int, (∀ F : Value → Int, (∀ v, v ≠ key → F v = 0) → c * F key = wsum F L) → (Lit.int .i64 c).wf = true → wpList P ops Q rest (a.put o.dst (.int .i64 c)) W) : wpList P ops Q (o :: rest) a W := by
  obtain ⟨c, hrun, hwf, hind⟩ := mapZ_lookupW K ht he hz h hkey
  refine Kd.event_run hgd (v := .int .i64 c) (w1 := W) ?_ (hK c hind hwf)
  simp [execOp, hop, hm, hx, hrun, Result.andThen]
end
end Go.Proofs.Ytphjhfpeomifiaa.P
