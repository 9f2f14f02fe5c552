/- What came in, read as data, reads as a kind of the print's: whole numbers, bools, slices, structs of such, whatever their nesting. No condition. -/
import Derived.Test.YtcppahkdfajcaaaWWords
import Derived.Deep.Slices
import Derived.Deep.Fields
import Derived.ChangeSame
import Derived.WalkKit
import Derived.ProofKit
import Derived.OpenShut
namespace Go.Proofs.Ytcppahkdfajcaaa.Open
open Go.ChangeShapes Go.WideShapes Go.ChangeAt Go.RowKit Go.Deep Go.Proofs.YtcppahkdfajcaaaW.PrintWords

/-- Whatever reads as a datum of type t reads as a value of kind d. -/
def RdK {α : Type} (P : Program) (t : TypeId) (d : Kd α) : Prop :=
  ∀ (H : Type) (enc : TypeId × Value → H) (w : World) (base : Nat) (spare : Nat → Bool) (held : Bool) (fuel : Nat) (cs : List Value) (x : DataW H × List MemPlace),
    DataW.trod enc P w base spare held fuel t cs = some x → ∃ a : α, d.K w a cs

theorem RdK.int {P : Program} {t : TypeId} {k : IntKind} (ht : P.underlying t = some (.int k)) : RdK P t (Kd.int k) := by
  intro H enc w base spare held fuel cs x h
  obtain ⟨n, rfl, _⟩ := DataW.trod_int ht h
  exact ⟨n, rfl⟩

theorem RdK.slice {α : Type} {P : Program} {t e : TypeId} {d : Kd α} (ht : P.underlying t = some (.slice e)) (hd : RdK P e d) (hs : P.cellsOf e = d.sz) : RdK P t (Kd.slice e d) := by
  intro H enc w base spare held fuel cs x h
  rcases open_slice ht h with ⟨rfl, _⟩ | ⟨a, len, cap, m, n, D, Pl, rfl, hb, hl, hm, hmm, _, hi⟩
  · exact ⟨[], none, 0, rfl, Nat.le_refl _, rfl, by simp, fun hp => absurd hp (by simp)⟩
  · have hlm : len ≤ m := by rw [hmm]; split <;> omega
    have key : ∀ i, i < len → ∃ y : α, ∃ c, c.length = d.sz ∧ d.K w y c ∧ ∀ j u, c[j]? = some u → w.cell? (a.add (i * d.sz + j)) = some u := by
      intro i hil
      obtain ⟨cs', hc, ht'⟩ := hi i (by omega)
      obtain ⟨y, hy⟩ := hd H enc w base spare held n cs' _ ht'
      obtain ⟨_, hlen, hat⟩ := World.cells?_some hc
      refine ⟨y, cs', by rw [hlen, hs], hy, fun j u hu => ?_⟩
      have hj : j < cs'.length := (List.getElem?_eq_some_iff.1 hu).1
      have h1 := hat j (by omega)
      rw [← hs, ← Go.Deep.add_add, h1, hu]
    rcases Nat.eq_zero_or_pos len with h0 | h0
    · subst h0
      exact ⟨[], some a, cap, rfl, by simp, rfl, by simp, fun hp => absurd hp (by simp)⟩
    obtain ⟨y0, _⟩ := key 0 h0
    haveI : Inhabited α := ⟨y0⟩
    obtain ⟨F, hF⟩ := choose_lt (p := fun i y => ∃ c, c.length = d.sz ∧ d.K w y c ∧ ∀ j u, c[j]? = some u → w.cell? (a.add (i * d.sz + j)) = some u) key
    have hlen : ((List.range len).map F).length = len := by simp
    refine ⟨(List.range len).map F, some a, cap, by rw [hlen], by rw [hlen]; exact hl, by rw [hlen], ?_, fun _ => ⟨a, rfl, fun j p hj => ?_⟩⟩
    · rw [hlen]; have := Nat.le_trans hl hm; simpa [maxLen] using this
    · obtain ⟨hjl, rfl⟩ := List.getElem?_eq_some_iff.1 hj
      rw [hlen] at hjl
      obtain ⟨c, h1, h2, h3⟩ := hF j hjl
      exact ⟨c, h1, by simpa using h2, h3⟩

/-- The fields from one on. -/
def RdFs {α : Type} (P : Program) (fs : List Field) (off : Nat) (d : Kd α) : Prop :=
  ∀ (H : Type) (enc : TypeId × Value → H) (w : World) (base : Nat) (spare : Nat → Bool) (held : Bool) (fuel : Nat) (cs : List Value),
    (∀ f, f ∈ fs → ∃ y, DataW.trod enc P w base spare held fuel f.type ((cs.drop f.offset).take (P.cellsOf f.type)) = some y) → cs.length = off + d.sz → ∃ a : α, d.K w a (cs.drop off)

theorem RdFs.one {α : Type} {P : Program} {f : Field} {off : Nat} {d : Kd α} (hd : RdK P f.type d) (ho : f.offset = off) (hs : P.cellsOf f.type = d.sz) : RdFs P [f] off d := by
  intro H enc w base spare held fuel cs hf hl
  obtain ⟨y, hy⟩ := hf f (by simp)
  rw [ho, hs, List.take_of_length_le (by rw [List.length_drop]; omega)] at hy
  exact hd H enc w base spare held fuel _ _ hy

theorem RdFs.cons {α β : Type} {P : Program} {f : Field} {fs : List Field} {off : Nat} {d1 : Kd α} {d2 : Kd β} (hd : RdK P f.type d1) (ho : f.offset = off) (hs : P.cellsOf f.type = d1.sz) (hr : RdFs P fs (off + d1.sz) d2) : RdFs P (f :: fs) off (Kd.pair d1 d2) := by
  intro H enc w base spare held fuel cs hf hl
  have hl' : cs.length = off + (d1.sz + d2.sz) := hl
  obtain ⟨y, hy⟩ := hf f (by simp)
  rw [ho, hs] at hy
  obtain ⟨a, ha⟩ := hd H enc w base spare held fuel _ _ hy
  obtain ⟨b, hb⟩ := hr H enc w base spare held fuel cs (fun g hg => hf g (by simp [hg])) (by omega)
  refine ⟨(a, b), (cs.drop off).take d1.sz, cs.drop (off + d1.sz), ?_, ha, hb⟩
  rw [← List.drop_drop, List.take_append_drop]

theorem RdK.struct {α β : Type} {P : Program} {t : TypeId} {fs : Array Field} {d : Kd α} {f : β → α} (g : α → β) (hg : ∀ a, f (g a) = a) (ht : P.underlying t = some (.struct fs)) (hC : P.cellsOf t = d.sz) (hf : RdFs P fs.toList 0 d) : RdK P t (Kd.iso d f) := by
  intro H enc w base spare held fuel cs x h
  obtain ⟨xs, n, _, _, hl, hlen, hx⟩ := DataW.trod_struct ht h
  obtain ⟨a, ha⟩ := hf H enc w base spare held n cs (fun fl hfl => by
    obtain ⟨j, hj, rfl⟩ := List.mem_iff_getElem.1 hfl
    have h2 := hx j fs.toList[j] (by simp)
    rw [h2]
    have : j < xs.length := by rw [hlen]; simpa using hj
    exact ⟨xs[j], List.getElem?_eq_getElem this⟩) (by rw [hl, hC]; omega)
  refine ⟨g a, ?_⟩
  show d.K w (f (g a)) cs
  rw [hg]
  exact ha

/-- A parameter that is no struct. -/
theorem RdK.param {α : Type} {P : Program} {t : TypeId} {d : Kd α} (hd : RdK P t d) {H : Type} {enc : TypeId × Value → H} {w : World} {base : Nat} {spare : Nat → Bool} {held : Bool} {v : Value} {x : DataW H} {p : List MemPlace}
    (h : DataW.Trod enc P w base spare held t v x p) : ∃ a : α, d.K w a v.cells.toList := by
  obtain ⟨fuel, hf⟩ := h
  exact hd H enc w base spare held fuel _ _ hf

theorem RdK.agg {α : Type} {P : Program} {t : TypeId} {d : Kd α} (hd : RdK P t d) {r : Reach} {b0 : Nat} {H : Type} {enc : TypeId × Value → H} {w : World} {base : Nat} {spare : Nat → Bool} {held : Bool} {v : Value} {x : DataW H} {p : List MemPlace} {fs : Array Field}
    (ht : P.underlying t = some (.struct fs)) (hv : Value.okWide P w r b0 t v) (h : DataW.Trod enc P w base spare held t v x p) : ∃ (a : α) (cs : List Value), v = .agg cs.toArray ∧ d.K w a cs := by
  obtain ⟨cs, rfl, _⟩ := okWide_struct ht hv
  obtain ⟨a, ha⟩ := hd.param h
  exact ⟨a, cs.toList, by simp, by simpa [Value.cells] using ha⟩

theorem rows_short {α : Type} {e : Nat} {d : Kd α} {w : World} {A : Option Addr} {n : Nat} {xs : List (List α)} (h : (Kd.slice e d).C w A n xs) : ∀ x ∈ xs, x.length ≤ 9223372036854775807 := by
  intro x hx
  obtain ⟨j, hj, rfl⟩ := List.mem_iff_getElem.1 hx
  have h1 := h.1
  obtain ⟨ad, _, hc⟩ := h.2.2 (by omega)
  obtain ⟨c, _, ⟨A', c', _, _, hC⟩, _⟩ := hc j _ (List.getElem?_eq_getElem hj)
  exact hC.2.1

end Go.Proofs.Ytcppahkdfajcaaa.Open
