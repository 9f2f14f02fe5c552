/- A map's block as a list of keys and elements, in whatever order; sums over it. No condition beyond those written out. -/
import Derived.Maps.RangeWalk
import Derived.WideKeyEntry
import Derived.Below
namespace Go.Proofs.Ytphjhfpeomifiaa.P
open Go.RowKit Go.ChangeShapes Go.WideShapes Go.MapKept Go.ChangeMaps Go.WideElems
open Go.WideMaps (KeyLaw)
set_option linter.unusedVariables false
set_option linter.unusedSimpArgs false

/-- An entry's key and element. -/
def kv (x : MapEntry) : Value × Value := (x.key, x.val)
/-- A sum over entries. -/
def vsum (f : Value × Value → Int) : List (Value × Value) → Int
  | [] => 0
  | x :: r => f x + vsum f r
/-- The elements, each as often as F says of its key. -/
def wsum (F : Value → Int) (L : List (Value × Value)) : Int := vsum (fun x => intOf x.2 * F x.1) L

theorem vsum_append (f : Value × Value → Int) : ∀ a b, vsum f (a ++ b) = vsum f a + vsum f b
  | [], b => by simp [vsum]
  | x :: r, b => by simp [vsum, vsum_append f r b]; omega
theorem vsum_set (f : Value × Value → Int) : ∀ (l : List (Value × Value)) (j : Nat) (x y), l[j]? = some x → vsum f (l.set j y) = vsum f l + (f y - f x)
  | [], j, x, y, h => by simp at h
  | a :: r, 0, x, y, h => by simp at h; subst h; simp [vsum]; omega
  | a :: r, j + 1, x, y, h => by simp at h; simp [vsum, vsum_set f r j x y h]; omega
theorem vsum_zero (f : Value × Value → Int) : ∀ l, (∀ x ∈ l, f x = 0) → vsum f l = 0
  | [], _ => rfl
  | a :: r, h => by simp [vsum, h a (by simp), vsum_zero f r (fun x hx => h x (by simp [hx]))]
theorem vsum_congr {f g : Value × Value → Int} : ∀ l, (∀ x ∈ l, f x = g x) → vsum f l = vsum g l
  | [], _ => rfl
  | a :: r, h => by simp [vsum, h a (by simp), vsum_congr r (fun x hx => h x (by simp [hx]))]

section
variable {P : Program} {w : World} {t k e : TypeId} {b : Nat} {L : List (Value × Value)}

/-- Elements are numbers. -/
def RZ (P : Program) (e : TypeId) : Value → Option (DataW Unit × List MemPlace) := plainElem P e

/-- Block b is a map with the entries L. -/
def mapZ (P : Program) (k e : TypeId) (w : World) (b : Nat) (L : List (Value × Value)) : Prop :=
  ∃ es clock, w.heap[b]? = some (.map es clock) ∧ Fit P k (RZ P e) es clock ∧ es.toList.map kv = L

/-- A loop over the map in block b: what is still to come. -/
def iterZ (P : Program) (k e : TypeId) (w : World) (b r : Nat) (Rm : List (Value × Value)) : Prop :=
  ∃ es clock since seen c0, w.heap[b]? = some (.map es clock) ∧ Fit P k (RZ P e) es clock ∧ w.heap[r]? = some (.mapIter (some b) since seen c0) ∧ (∀ x ∈ es.toList, x.born < since) ∧ since ≤ c0 ∧ since ≤ clock ∧ (leftOf es seen).toList.map kv = Rm

theorem mapZ.lt (h : mapZ P k e w b L) : b < w.heap.size := by
  obtain ⟨es, clock, hb, _⟩ := h
  exact (Array.getElem?_eq_some_iff.1 hb).1
theorem mapZ.of_block {w' : World} (h : mapZ P k e w b L) (hb : w'.heap[b]? = w.heap[b]?) : mapZ P k e w' b L := by
  obtain ⟨es, clock, h1, h2⟩ := h
  exact ⟨es, clock, hb.trans h1, h2⟩
theorem mapZ.below {B : Nat} {w' : World} (h : mapZ P k e w b L) (hB : Below B w w') (hlt : b < B) : mapZ P k e w' b L := h.of_block (hB.block b hlt)
theorem mapZ_made (w : World) (P : Program) (k e : TypeId) : mapZ P k e (w.alloc (.map #[] 0)) w.heap.size [] :=
  ⟨#[], 0, (MapKept.heap_alloc w _).1, ⟨by simp, stamped_empty 0, by simp⟩, rfl⟩
theorem iterZ.lts {r : Nat} {Rm} (h : iterZ P k e w b r Rm) : b < w.heap.size ∧ r < w.heap.size := by
  obtain ⟨es, clock, since, seen, c0, hb, _, hr, _⟩ := h
  exact ⟨(Array.getElem?_eq_some_iff.1 hb).1, (Array.getElem?_eq_some_iff.1 hr).1⟩
theorem iterZ.of_blocks {w' : World} {r : Nat} {Rm} (h : iterZ P k e w b r Rm) (hb : w'.heap[b]? = w.heap[b]?) (hr : w'.heap[r]? = w.heap[r]?) : iterZ P k e w' b r Rm := by
  obtain ⟨es, clock, since, seen, c0, h1, h2, h3, h4⟩ := h
  exact ⟨es, clock, since, seen, c0, hb.trans h1, h2, hr.trans h3, h4⟩
theorem iterZ.below {B r : Nat} {w' : World} {Rm} (h : iterZ P k e w b r Rm) (hB : Below B w w') (hb : b < B) (hr : r < B) : iterZ P k e w' b r Rm := h.of_blocks (hB.block b hb) (hB.block r hr)

theorem below_setBlock {B : Nat} {a w : World} (h : Below B a w) {b : Nat} (hb : B ≤ b) (o : Obj) : Below B a (setBlock w b o) :=
  h.trans ⟨rfl, rfl, rfl, by simp [setBlock], fun i hi => by
    simp only [setBlock]
    rw [Array.getElem?_setIfInBounds]
    rw [if_neg (by omega)]⟩
theorem setBlock_at {w : World} {b : Nat} (h : b < w.heap.size) (o : Obj) : (setBlock w b o).heap[b]? = some o := by
  simp only [setBlock]
  rw [Array.getElem?_setIfInBounds]
  simp [h]
theorem setBlock_ne {w : World} {b i : Nat} (h : i ≠ b) (o : Obj) : (setBlock w b o).heap[i]? = w.heap[i]? := by
  simp only [setBlock]
  rw [Array.getElem?_setIfInBounds]
  rw [if_neg (by omega)]
theorem setBlock_size (w : World) (b : Nat) (o : Obj) : (setBlock w b o).heap.size = w.heap.size := by simp [setBlock]

theorem look_run (K : Maps.Keyed P k) (ht : P.underlying t = some (.map k e)) {w2 : World} {es : Array MapEntry} {clock : Nat} {c : Int} (hw2 : w2.heap[b]? = some (.map es clock)) (hkeys : ∀ x ∈ es.toList, ∃ l, keyOf P k x.key = some l) {key : Value} {kl : Lit} (hkey : keyOf P k key = some kl) (hex : ∃ x ∈ es.toList, x.key = key) (hv : ∀ x ∈ es.toList, x.key = key → x.val = .int .i64 c) :
    (Instr.lookup t (.map (some b)) key false).run P w2 = .ok (.int .i64 c) w2 := by
  rcases K.find w2 hkey es.toList hkeys with ⟨h1, h2⟩ | ⟨j, e0, h1, h2, h3⟩
  · obtain ⟨x, hx, e⟩ := hex
    exact absurd e (h2 x hx)
  · simp [Instr.lookup, run_underlying ht, MapKept.run_getObj_map hw2, K.check w2 _ hkey, h1, Result.andThen, hv e0 (List.mem_of_getElem? h2) h3]

/-- 'm[k] += n' over the two operations: the number that is there, and the store. -/
theorem mapZ_entry (K : Maps.Keyed P k) (ht : P.underlying t = some (.map k e)) (he : P.underlying e = some (.int .i64)) (hz : ∀ u : World, (zeroValue e).run P u = .ok (.int .i64 0) u) (h : mapZ P k e w b L) (hlen : L.length < maxLen) {key : Value} {kl : Lit} (hkey : keyOf P k key = some kl) :
    ∃ (c : Int) (st : Nat) (o1 : Obj) (O2 : Int → Obj) (L2 : Int → List (Value × Value)), (Instr.mapEntry t (.map (some b)) key).run P w = .ok (.tuple #[.int .i64 c, .int .i64 (st : Int)]) (setBlock w b o1) ∧ (∀ F : Value → Int, (∀ v, v ≠ key → F v = 0) → c * F key = wsum F L) ∧
      (∀ w2 : World, w2.heap[b]? = some o1 → (Instr.lookup t (.map (some b)) key false).run P w2 = .ok (.int .i64 c) w2) ∧
      (∀ (w2 : World) (q : Int), w2.heap[b]? = some o1 → (Instr.entryStore t (.map (some b)) (.int .i64 (st : Int)) (.int .i64 q)).run P w2 = .ok () (setBlock w2 b (O2 q))) ∧
      ∀ q : Int, (Lit.int .i64 q).wf = true → (∀ w3 : World, w3.heap[b]? = some (O2 q) → mapZ P k e w3 b (L2 q)) ∧ (L2 q).length ≤ L.length + 1 ∧ (∀ x ∈ L2 q, x ∈ L ∨ x = (key, .int .i64 q)) ∧ ∀ F : Value → Int, wsum F (L2 q) = wsum F L + (q - c) * F key := by
  obtain ⟨es, clock, hb, F, rfl⟩ := h
  obtain ⟨s1, s2, _⟩ := F.stamped
  have hl : es.size < maxLen := by simpa using hlen
  rcases K.find w hkey es.toList F.keys with ⟨h1, h2⟩ | ⟨j, e0, h1, h2, h3⟩
  · refine ⟨0, clock, .map (es.push ⟨key, .int .i64 0, clock⟩) (clock + 1), fun q => .map (es.push ⟨key, .int .i64 q, clock⟩) (clock + 1), fun q => es.toList.map kv ++ [(key, .int .i64 q)], ?_, fun G hG => ?_, fun w2 hw2 => ?_, fun w2 q hw2 => ?_, fun q hq => ⟨fun w3 hw3 => ⟨_, _, hw3, ⟨by simp; omega, stamped_push F.stamped h2, fun x hx => ?_⟩, by simp [kv]⟩, by simp, fun x hx => ?_, fun G => ?_⟩⟩
    · simp [Instr.mapEntry, goInt, run_underlying ht, MapKept.run_getObj_map hb, K.check w false hkey, h1, hz, MapKept.run_setObj_map _ hb, Result.andThen, setBlock]
    · rw [Int.zero_mul]
      refine (vsum_zero _ _ fun x hx => ?_).symm
      obtain ⟨y, hy, rfl⟩ := List.mem_map.1 hx
      show intOf y.val * G y.key = 0
      rw [hG _ (h2 y hy), Int.mul_zero]
    · refine look_run K ht hw2 (fun x hx => ?_) hkey ⟨⟨key, .int .i64 0, clock⟩, by simp, rfl⟩ (fun x hx hxk => ?_)
      · simp only [Array.toList_push, List.mem_append, List.mem_singleton] at hx
        rcases hx with hx | rfl
        · exact F.keys x hx
        · exact ⟨kl, hkey⟩
      · simp only [Array.toList_push, List.mem_append, List.mem_singleton] at hx
        rcases hx with hx | rfl
        · exact absurd hxk (h2 x hx)
        · rfl
    · have hidx : (es.push ⟨key, .int .i64 0, clock⟩).findIdx? (fun e => ((e.born : Nat) : Int) == ((clock : Nat) : Int)) = some es.size := by
        rw [findIdx_arr]
        have := findIdx_born (l := (es.push ⟨key, .int .i64 0, clock⟩).toList) (j := es.size) (e0 := ⟨key, .int .i64 0, clock⟩) (by
          simp only [Array.toList_push, List.map_append, List.map_cons, List.map_nil]
          refine List.nodup_append.2 ⟨s2, by simp, fun a ha c hc e1 => ?_⟩
          simp only [List.mem_singleton] at hc
          obtain ⟨x, hx, rfl⟩ := List.mem_map.1 ha
          have := s1 x hx
          omega) (by simp)
        exact this
      have hmod : (es.push ⟨key, .int .i64 0, clock⟩).modify es.size (fun e => { e with val := .int .i64 q }) = es.push ⟨key, .int .i64 q, clock⟩ := by
        apply Array.ext'
        rw [Array.toList_modify, Array.toList_push, Array.toList_push, ← Array.length_toList, modify_last]
      simp [Instr.entryStore, MapKept.run_getObj_map hw2, asInt, asIntOf, goInt, hidx, hmod, MapKept.run_setObj_map _ hw2, Result.andThen, setBlock]
    · simp only [Array.toList_push, List.mem_append, List.mem_singleton] at hx
      rcases hx with hx | rfl
      · exact F.reads x hx
      · exact ⟨_, rd_mk hkey (plainElem_int he hq)⟩
    · simp only [List.mem_append, List.mem_singleton] at hx
      exact hx
    · show vsum _ _ = vsum _ _ + _
      rw [vsum_append]
      simp [vsum, intOf]
  · have hj : es[j]? = some e0 := by simpa using h2
    have hm0 : e0 ∈ es.toList := List.mem_of_getElem? h2
    obtain ⟨y0, hy0⟩ := F.reads e0 hm0
    obtain ⟨zv, hzv, _⟩ := rd_val hy0
    obtain ⟨c, hc, _, _⟩ := plainElem_int_inv he hzv
    have hsame : es.modify j (fun e => { e with key := key }) = es := by
      apply Array.ext'
      rw [Array.toList_modify, modify_eq_set _ _ _ _ h2]
      have : ({ e0 with key := key } : MapEntry) = e0 := by rw [← h3]
      rw [this]
      exact set_self _ _ _ h2
    have hjl : j < es.toList.length := (List.getElem?_eq_some_iff.1 h2).1
    have hkeyf : ∀ q : Int, ∀ e', es[j]? = some e' → ({ e' with val := .int .i64 q } : MapEntry).key = e'.key := fun _ _ _ => rfl
    have hlist : ∀ q : Int, (es.modify j (fun e' => { e' with val := .int .i64 q })).toList = es.toList.set j { e0 with val := .int .i64 q } := fun q => by rw [Array.toList_modify, modify_eq_set _ _ _ _ h2]
    have hmapset : ∀ q : Int, (es.toList.set j { e0 with val := .int .i64 q }).map kv = (es.toList.map kv).set j (key, .int .i64 q) := fun q => by rw [List.map_set]; simp [kv, h3]
    have hLj : (es.toList.map kv)[j]? = some (key, .int .i64 c) := by rw [List.getElem?_map, h2]; simp [kv, h3, hc]
    refine ⟨c, e0.born, .map es clock, fun q => .map (es.modify j (fun e' => { e' with val := .int .i64 q })) clock, fun q => (es.toList.map kv).set j (key, .int .i64 q), ?_, fun G hG => ?_, fun w2 hw2 => ?_, fun w2 q hw2 => ?_, fun q hq => ⟨fun w3 hw3 => ⟨_, _, hw3, ⟨by simpa using F.size, stamped_modify F.stamped _ _ (fun _ _ => rfl) (fun e' _ he' => hkeyf q e' he'), fun x hx => ?_⟩, by rw [hlist, hmapset]⟩, by simp, fun x hx => ?_, fun G => ?_⟩⟩
    · simp [Instr.mapEntry, goInt, run_underlying ht, MapKept.run_getObj_map hb, K.check w false hkey, h1, hj, h3, K.stays w hkey, hsame, MapKept.run_setObj_map _ hb, Result.andThen, setBlock, hc]
    · have h0 : vsum (fun x => intOf x.2 * G x.1) ((es.toList.map kv).set j (key, .int .i64 0)) = 0 := by
        rw [← hmapset]
        refine vsum_zero _ _ fun x hx => ?_
        obtain ⟨y, hy, rfl⟩ := List.mem_map.1 hx
        obtain ⟨i, hi, ex⟩ := List.getElem_of_mem hy
        rw [List.getElem_set] at ex
        split at ex
        · subst ex; simp [kv, intOf]
        · rename_i hne
          have hi' : i < es.toList.length := by simpa using hi
          have hk : y.key ≠ key := by
            rw [← h3]
            exact other_key F h2 (by rw [List.getElem?_eq_getElem hi', ex]) (fun e1 => hne e1.symm)
          show intOf y.val * G y.key = 0
          rw [hG _ hk, Int.mul_zero]
      have h1' : (0 : Int) = vsum (fun x => intOf x.2 * G x.1) (es.toList.map kv) + (0 * G key - c * G key) := h0.symm.trans (vsum_set (fun x => intOf x.2 * G x.1) _ j _ (key, .int .i64 0) hLj)
      rw [Int.zero_mul] at h1'
      show c * G key = vsum (fun x => intOf x.2 * G x.1) (es.toList.map kv)
      omega
    · refine look_run K ht hw2 F.keys hkey ⟨e0, hm0, h3⟩ (fun x hx hxk => ?_)
      have : x = e0 := entry_eq_of_key ((stamped_iff es clock).1 F.stamped).2.2 hx hm0 (hxk.trans h3.symm)
      rw [this]
      exact hc
    · have hidx : es.findIdx? (fun e => ((e.born : Nat) : Int) == ((e0.born : Nat) : Int)) = some j := by
        rw [findIdx_arr]
        exact findIdx_born s2 h2
      simp [Instr.entryStore, MapKept.run_getObj_map hw2, asInt, asIntOf, goInt, hidx, MapKept.run_setObj_map _ hw2, Result.andThen, setBlock]
    · rw [hlist] at hx
      obtain ⟨i, hi, ex⟩ := List.getElem_of_mem hx
      rw [List.getElem_set] at ex
      split at ex
      · subst ex
        exact ⟨_, rd_mk (by show keyOf P k e0.key = some kl; rw [h3]; exact hkey) (plainElem_int he hq)⟩
      · subst ex
        exact F.reads _ (List.getElem_mem _)
    · rcases List.mem_or_eq_of_mem_set hx with h | h
      · exact Or.inl h
      · exact Or.inr h
    · show vsum _ _ = vsum _ _ + _
      rw [vsum_set _ _ j _ _ hLj]
      simp only [intOf]
      rw [Int.sub_mul]

/-- 'm[k] = n'. -/
theorem mapZ_update (K : Maps.Keyed P k) (ht : P.underlying t = some (.map k e)) (he : P.underlying e = some (.int .i64)) (h : mapZ P k e w b L) (hlen : L.length < maxLen) {key : Value} {kl : Lit} (hkey : keyOf P k key = some kl) (q : Int) (hq : (Lit.int .i64 q).wf = true) :
    ∃ (c : Int) (o2 : Obj) (L' : List (Value × Value)), (Instr.mapUpdate t (.map (some b)) key (.int .i64 q)).run P w = .ok () (setBlock w b o2) ∧ (∀ w3 : World, w3.heap[b]? = some o2 → mapZ P k e w3 b L') ∧ L'.length ≤ L.length + 1 ∧ (∀ x ∈ L', x ∈ L ∨ x = (key, .int .i64 q)) ∧ (∀ F : Value → Int, (∀ v, v ≠ key → F v = 0) → c * F key = wsum F L) ∧ ∀ F : Value → Int, wsum F L' = wsum F L + (q - c) * F key := by
  obtain ⟨es, clock, hb, F, rfl⟩ := h
  obtain ⟨s1, s2, _⟩ := F.stamped
  have hl : es.size < maxLen := by simpa using hlen
  rcases K.find w hkey es.toList F.keys with ⟨h1, h2⟩ | ⟨j, e0, h1, h2, h3⟩
  · refine ⟨0, .map (es.push ⟨key, .int .i64 q, clock⟩) (clock + 1), es.toList.map kv ++ [(key, .int .i64 q)], ?_, fun w3 hw3 => ⟨_, _, hw3, ⟨by simp; omega, stamped_push F.stamped h2, fun x hx => ?_⟩, by simp [kv]⟩, by simp, fun x hx => ?_, fun G hG => ?_, fun G => ?_⟩
    · simp [Instr.mapUpdate, run_underlying ht, MapKept.run_getObj_map hb, K.check w false hkey, h1, MapKept.run_setObj_map _ hb, Result.andThen, setBlock]
    · simp only [Array.toList_push, List.mem_append, List.mem_singleton] at hx
      rcases hx with hx | rfl
      · exact F.reads x hx
      · exact ⟨_, rd_mk hkey (plainElem_int he hq)⟩
    · simp only [List.mem_append, List.mem_singleton] at hx
      exact hx
    · rw [Int.zero_mul]
      refine (vsum_zero _ _ fun x hx => ?_).symm
      obtain ⟨y, hy, rfl⟩ := List.mem_map.1 hx
      show intOf y.val * G y.key = 0
      rw [hG _ (h2 y hy), Int.mul_zero]
    · show vsum _ _ = vsum _ _ + _
      rw [vsum_append]
      simp [vsum, intOf]
  · have hj : es[j]? = some e0 := by simpa using h2
    have hm0 : e0 ∈ es.toList := List.mem_of_getElem? h2
    obtain ⟨y0, hy0⟩ := F.reads e0 hm0
    obtain ⟨zv, hzv, _⟩ := rd_val hy0
    obtain ⟨c, hc, _, _⟩ := plainElem_int_inv he hzv
    have hkeyf : ∀ q : Int, ∀ e', es[j]? = some e' → ({ e' with key := key, val := .int .i64 q } : MapEntry).key = e'.key := fun _ e' he' => by rw [hj] at he'; cases he'; exact h3.symm
    have hlist : ∀ q : Int, (es.modify j (fun e' => { e' with key := key, val := .int .i64 q })).toList = es.toList.set j { e0 with key := key, val := .int .i64 q } := fun q => by rw [Array.toList_modify, modify_eq_set _ _ _ _ h2]
    have hmapset : ∀ q : Int, (es.toList.set j { e0 with key := key, val := .int .i64 q }).map kv = (es.toList.map kv).set j (key, .int .i64 q) := fun q => by rw [List.map_set]; simp [kv]
    have hLj : (es.toList.map kv)[j]? = some (key, .int .i64 c) := by rw [List.getElem?_map, h2]; simp [kv, h3, hc]
    refine ⟨c, .map (es.modify j (fun e' => { e' with key := key, val := .int .i64 q })) clock, (es.toList.map kv).set j (key, .int .i64 q), ?_, fun w3 hw3 => ⟨_, _, hw3, ⟨by simpa using F.size, stamped_modify F.stamped _ _ (fun _ _ => rfl) (fun e' _ he' => hkeyf q e' he'), fun x hx => ?_⟩, by rw [hlist, hmapset]⟩, by simp, fun x hx => ?_, fun G hG => ?_, fun G => ?_⟩
    · simp [Instr.mapUpdate, run_underlying ht, MapKept.run_getObj_map hb, K.check w false hkey, h1, hj, h3, K.stays w hkey, MapKept.run_setObj_map _ hb, Result.andThen, setBlock]
    · rw [hlist] at hx
      obtain ⟨i, hi, ex⟩ := List.getElem_of_mem hx
      rw [List.getElem_set] at ex
      split at ex
      · subst ex
        exact ⟨_, rd_mk hkey (plainElem_int he hq)⟩
      · subst ex
        exact F.reads _ (List.getElem_mem _)
    · rcases List.mem_or_eq_of_mem_set hx with h | h
      · exact Or.inl h
      · exact Or.inr h
    · have h0 : vsum (fun x => intOf x.2 * G x.1) ((es.toList.map kv).set j (key, .int .i64 0)) = 0 := by
        rw [← hmapset]
        refine vsum_zero _ _ fun x hx => ?_
        obtain ⟨y, hy, rfl⟩ := List.mem_map.1 hx
        obtain ⟨i, hi, ex⟩ := List.getElem_of_mem hy
        rw [List.getElem_set] at ex
        split at ex
        · subst ex; simp [kv, intOf]
        · rename_i hne
          have hi' : i < es.toList.length := by simpa using hi
          have hk : y.key ≠ key := by
            rw [← h3]
            exact other_key F h2 (by rw [List.getElem?_eq_getElem hi', ex]) (fun e1 => hne e1.symm)
          show intOf y.val * G y.key = 0
          rw [hG _ hk, Int.mul_zero]
      have h1' : (0 : Int) = vsum (fun x => intOf x.2 * G x.1) (es.toList.map kv) + (0 * G key - c * G key) := h0.symm.trans (vsum_set (fun x => intOf x.2 * G x.1) _ j _ (key, .int .i64 0) hLj)
      rw [Int.zero_mul] at h1'
      show c * G key = vsum (fun x => intOf x.2 * G x.1) (es.toList.map kv)
      omega
    · show vsum _ _ = vsum _ _ + _
      rw [vsum_set _ _ j _ _ hLj]
      simp only [intOf]
      rw [Int.sub_mul]

/-- 'm[k]'. -/
theorem mapZ_lookup (K : Maps.Keyed P k) (ht : P.underlying t = some (.map k e)) (he : P.underlying e = some (.int .i64)) (hz : ∀ u : World, (zeroValue e).run P u = .ok (.int .i64 0) u) (h : mapZ P k e w b L) {key : Value} {kl : Lit} (hkey : keyOf P k key = some kl) :
    ∃ c : Int, (Instr.lookup t (.map (some b)) key false).run P w = .ok (.int .i64 c) w ∧ ∀ F : Value → Int, (∀ v, v ≠ key → F v = 0) → c * F key = wsum F L := by
  obtain ⟨es, clock, hb, F, rfl⟩ := h
  rcases K.find w hkey es.toList F.keys with ⟨h1, h2⟩ | ⟨j, e0, h1, h2, h3⟩
  · refine ⟨0, by simp [Instr.lookup, run_underlying ht, MapKept.run_getObj_map hb, K.check w _ hkey, h1, hz, Result.andThen], fun G hG => ?_⟩
    rw [Int.zero_mul]
    refine (vsum_zero _ _ fun x hx => ?_).symm
    obtain ⟨y, hy, rfl⟩ := List.mem_map.1 hx
    show intOf y.val * G y.key = 0
    rw [hG _ (h2 y hy), Int.mul_zero]
  · have hj : es[j]? = some e0 := by simpa using h2
    have hm0 : e0 ∈ es.toList := List.mem_of_getElem? h2
    obtain ⟨y0, hy0⟩ := F.reads e0 hm0
    obtain ⟨zv, hzv, _⟩ := rd_val hy0
    obtain ⟨c, hc, _, _⟩ := plainElem_int_inv he hzv
    have hmapset : (es.toList.set j { e0 with val := .int .i64 0 }).map kv = (es.toList.map kv).set j (key, .int .i64 0) := by rw [List.map_set]; simp [kv, h3]
    have hLj : (es.toList.map kv)[j]? = some (key, .int .i64 c) := by rw [List.getElem?_map, h2]; simp [kv, h3, hc]
    refine ⟨c, by simp [Instr.lookup, run_underlying ht, MapKept.run_getObj_map hb, K.check w _ hkey, h1, Result.andThen, hc], fun G hG => ?_⟩
    have h0 : vsum (fun x => intOf x.2 * G x.1) ((es.toList.map kv).set j (key, .int .i64 0)) = 0 := by
      rw [← hmapset]
      refine vsum_zero _ _ fun x hx => ?_
      obtain ⟨y, hy, rfl⟩ := List.mem_map.1 hx
      obtain ⟨i, hi, ex⟩ := List.getElem_of_mem hy
      rw [List.getElem_set] at ex
      split at ex
      · subst ex; simp [kv, intOf]
      · rename_i hne
        have hi' : i < es.toList.length := by simpa using hi
        have hk : y.key ≠ key := by
          rw [← h3]
          exact other_key F h2 (by rw [List.getElem?_eq_getElem hi', ex]) (fun e1 => hne e1.symm)
        show intOf y.val * G y.key = 0
        rw [hG _ hk, Int.mul_zero]
    have h1' : (0 : Int) = vsum (fun x => intOf x.2 * G x.1) (es.toList.map kv) + (0 * G key - c * G key) := h0.symm.trans (vsum_set (fun x => intOf x.2 * G x.1) _ j _ (key, .int .i64 0) hLj)
    rw [Int.zero_mul] at h1'
    show c * G key = vsum (fun x => intOf x.2 * G x.1) (es.toList.map kv)
    omega

/-- 'range m'. -/
theorem mapZ_range (ht : P.underlying t = some (.map k e)) (h : mapZ P k e w b L) :
    ∃ o, (Instr.range t (.map (some b))).run P w = .ok (.pointer (some ⟨w.heap.size, 0, none⟩)) (w.alloc o) ∧ iterZ P k e (w.alloc o) b w.heap.size L := by
  have hlt := h.lt
  obtain ⟨es, clock, hb, F, rfl⟩ := h
  refine ⟨_, run_range_map w t k e b es clock ht hb, es, clock, clock, #[], clock, ((MapKept.heap_alloc w _).2 b hlt).trans hb, F, (MapKept.heap_alloc w _).1, F.stamped.1, Nat.le_refl _, Nat.le_refl _, ?_⟩
  unfold leftOf
  rw [Array.toList_filter, List.filter_eq_self.2 (fun _ _ => by simp)]

theorem vsum_left (f : Value × Value → Int) (seen : Array Nat) (e0 : MapEntry) (hs : seen.contains e0.born = false) : ∀ l : List MapEntry, (l.map (·.born)).Nodup → e0 ∈ l →
    vsum f ((l.filter fun e => !seen.contains e.born).map kv) = vsum f ((l.filter fun e => !(seen.push e0.born).contains e.born).map kv) + f (kv e0) ∧ ((l.filter fun e => !(seen.push e0.born).contains e.born).map kv).length < ((l.filter fun e => !seen.contains e.born).map kv).length
  | [], _, h => by simp at h
  | a :: r, hn, hm => by
    simp only [List.map_cons, List.nodup_cons] at hn
    have hpush : ∀ z : Nat, (seen.push e0.born).contains z = (seen.contains z || (z == e0.born)) := fun z => contains_push seen e0.born z
    by_cases hae : a.born = e0.born
    · have hrest : (r.filter fun e => !(seen.push e0.born).contains e.born) = r.filter fun e => !seen.contains e.born := List.filter_congr fun x hx => by
        rw [hpush]
        have : (x.born == e0.born) = false := by
          simp only [beq_eq_false_iff_ne, ne_eq]
          intro h
          exact hn.1 (List.mem_map.2 ⟨x, hx, by rw [h, hae]⟩)
        rw [this]; simp
      have hax : a = e0 := by
        rcases List.mem_cons.1 hm with h | h
        · exact h.symm
        · exact absurd (List.mem_map.2 ⟨e0, h, hae.symm⟩) hn.1
      subst hax
      have hp : (seen.push a.born).contains a.born = true := by rw [hpush]; simp
      simp only [List.filter_cons, hs, hp, Bool.not_false, if_true, Bool.not_true, Bool.false_eq_true, if_false, hrest, List.map_cons, vsum, List.length_cons]
      exact ⟨by omega, by omega⟩
    · have hm' : e0 ∈ r := by
        rcases List.mem_cons.1 hm with h | h
        · exact absurd (by rw [h]) hae
        · exact h
      obtain ⟨i1, i2⟩ := vsum_left f seen e0 hs r hn.2 hm'
      have hb : (seen.push e0.born).contains a.born = seen.contains a.born := by
        rw [hpush]
        have : (a.born == e0.born) = false := by simpa using hae
        rw [this]; simp
      simp only [List.filter_cons, hb]
      cases seen.contains a.born
      · simp only [Bool.not_false, if_true, List.map_cons, vsum, List.length_cons]
        exact ⟨by omega, by omega⟩
      · simp only [Bool.not_true, Bool.false_eq_true, if_false]
        exact ⟨i1, i2⟩

/-- The step. -/
theorem iterZ_next {r : Nat} {Rm : List (Value × Value)} (h : iterZ P k e w b r Rm) (hbr : b ≠ r) (ty : TypeId) :
    (Rm = [] ∧ (Instr.next (.pointer (some ⟨r, 0, none⟩)) false ty).run P w = .ok (.tuple #[.bool false]) w) ∨
    ∃ (key v : Value) (Rm' : List (Value × Value)) (w1 : World) (o : Obj), (w1 = w ∨ w1 = w.drew) ∧ (Instr.next (.pointer (some ⟨r, 0, none⟩)) false ty).run P w = .ok (.tuple #[.bool true, key, v]) (setBlock w1 r o) ∧ (∃ kl y, keyOf P k key = some kl ∧ RZ P e v = some y) ∧ (key, v) ∈ Rm ∧ Rm'.length < Rm.length ∧ (∀ x ∈ Rm', x ∈ Rm) ∧ (∀ f, vsum f Rm = vsum f Rm' + f (key, v)) ∧
      (∀ w' : World, w'.heap[b]? = w.heap[b]? → w'.heap[r]? = some o → iterZ P k e w' b r Rm' ∧ (Instr.entry (.pointer (some ⟨r, 0, none⟩))).run P w' = .ok (.tuple #[key, v]) w') := by
  obtain ⟨es, clock, since, seen, c0, hb, F, hr, hold, hsc, hsk, rfl⟩ := h
  rcases run_next_at (P := P) w ty r b since c0 seen es clock hr hb hold hsc with ⟨h0, hrun⟩ | ⟨x, hx, w1, hal, hrun⟩
  · refine Or.inl ⟨?_, hrun⟩
    have : leftOf es seen = #[] := Array.eq_empty_of_size_eq_zero h0
    rw [this]; rfl
  · obtain ⟨hxm, hxs⟩ := mem_left hx
    obtain ⟨y0, hy0⟩ := F.reads x hxm
    obtain ⟨z, hz, _⟩ := rd_val hy0
    have hn := ((stamped_iff es clock).1 F.stamped).2.1
    have e1 : ∀ sn : Array Nat, (leftOf es sn).toList = es.toList.filter fun e => !sn.contains e.born := fun sn => by unfold leftOf; rw [← Array.toList_filter]
    refine Or.inr ⟨x.key, x.val, (leftOf es (seen.push x.born)).toList.map kv, w1, _, hal, hrun, ⟨_, _, rd_key hy0, hz⟩, List.mem_map.2 ⟨x, hx, rfl⟩, ?_, ?_, ?_, fun w' hb' hr' => ⟨⟨es, clock, since, seen.push x.born, clock, hb'.trans hb, F, hr', hold, hsk, hsk, rfl⟩, run_entry_at _ r b since seen es clock x hr' (hb'.trans hb) hxm hn⟩⟩
    · rw [e1, e1]
      exact (vsum_left (fun _ => 0) seen x hxs es.toList hn hxm).2
    · intro q hq
      rw [e1] at hq ⊢
      obtain ⟨u, hu, rfl⟩ := List.mem_map.1 hq
      obtain ⟨hu1, hu2⟩ := List.mem_filter.1 hu
      refine List.mem_map.2 ⟨u, List.mem_filter.2 ⟨hu1, ?_⟩, rfl⟩
      rw [contains_push] at hu2
      simp at hu2 ⊢
      exact hu2.1
    · intro f
      rw [e1, e1]
      exact (vsum_left f seen x hxs es.toList hn hxm).1
theorem iterZ.apart {r : Nat} {Rm} (h : iterZ P k e w b r Rm) : Rm.Pairwise (fun x y => x.1 ≠ y.1) := by
  obtain ⟨es, clock, since, seen, c0, hb, F, hr, _, _, _, rfl⟩ := h
  have h1 := ((stamped_iff es clock).1 F.stamped).2.2
  have e1 : (leftOf es seen).toList = es.toList.filter fun e => !seen.contains e.born := by unfold leftOf; rw [← Array.toList_filter]
  rw [e1, List.pairwise_map]
  exact (h1.filter _).imp (fun h => h)
end
end Go.Proofs.Ytphjhfpeomifiaa.P
