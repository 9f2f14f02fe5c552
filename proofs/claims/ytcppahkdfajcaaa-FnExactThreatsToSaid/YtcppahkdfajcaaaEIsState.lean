/- Track.isState: whether lists are a state of a track: what the Go text returns, at tracks of at most 60 squares, four players and four tokens. -/
import Derived.Test.YtcppahkdfajcaaaQHas
import Derived.Test.YtcppahkdfajcaaaP63
import Derived.Test.YtcppahkdfajcaaaP63
import Derived.Maps.Own
import Derived.Maps.OwnOps
import Derived.Maps.OwnSet
import Derived.Maps.Views
namespace Go.Proofs.Ytcppahkdfajcaaa.P
open Go.RowKit Go.Maps Go.Proofs.YtcppahkdfajcaaaW.PrintWords Go.Proofs.YtcppahkdfajcaaaW.PrintLast Go.Proofs.YtcppahkdfajcaaaW.PrintMore Go.Proofs.Ytcppahkdfajcaaa.Q
set_option linter.unusedVariables false
set_option linter.unusedSimpArgs false

/-- The square of a player's token with so many steps; -1 for none. -/
def sqOf (a : Int) (l3 : List Int) (p x : Int) : Int := if inR x 0 (wrap64 (a - 1)) = true then Int.tmod (wrap64 ((rd l3 p) + x)) a else -1
theorem square_sqOf {a b c : Int} {l3 l4 : List Int} {p x : Int} (h0 : 0 ≤ p) (h1 : p < l3.length) (ha : a ≠ 0) : impl_Track_square.f a b c l3 l4 p x = some (sqOf a l3 p x) := by
  unfold impl_Track_square.f sqOf
  rw [show impl_within.f x 0 (wrap64 (a - 1)) = some (inR x 0 (wrap64 (a - 1))) from inR_eq _ _ _]
  simp only [Option.bind_some]
  rw [if_pos h0, if_pos h1, if_neg ha]
  split <;> rfl
/-- One owner more. -/
def upd (own : Int → Option Int) (q p : Int) : Int → Option Int := fun x => if x = q then some p else own x
/-- A player's row: none where it can't be. -/
def stRow (a : Int) (l3 l4 : List Int) (p : Int) : List Int → (Int → Option Int) → Option (Int → Option Int)
  | [], own => some own
  | x :: r, own => if inR x (-1) a = true then (if sqOf a l3 p x < 0 then stRow a l3 l4 p r own else if l4.contains (sqOf a l3 p x) = true then stRow a l3 l4 p r own else
      match own (sqOf a l3 p x) with
      | some o => if o = p then stRow a l3 l4 p r (upd own (sqOf a l3 p x) p) else none
      | none => stRow a l3 l4 p r (upd own (sqOf a l3 p x) p)) else none
/-- The rows from a player on. -/
def stRows (a c : Int) (l3 l4 : List Int) : Nat → List (List Int) → (Int → Option Int) → Bool
  | _, [], _ => true
  | p, r :: rs, own => if (r.length : Int) = c then (match stRow a l3 l4 p r own with | some own' => stRows a c l3 l4 (p + 1) rs own' | none => false) else false
def stThen (a c : Int) (l3 l4 : List Int) (p : Nat) (rs : List (List Int)) : Option (Int → Option Int) → Bool
  | some own => stRows a c l3 l4 (p + 1) rs own
  | none => false
/-- What a map of the model holds. -/
def MapRel (D : DataW Unit) (own : Int → Option Int) : Prop :=
  IsMap D ∧ ∀ x, Maps.has D (.int .i64 x) = (own x).isSome ∧ ∀ v z, own x = some v → D.atKey (.int .i64 x) z = .lit (.int .i64 v)
theorem MapRel.nil : MapRel (.map []) (fun _ => none) := ⟨⟨_, rfl⟩, fun x => ⟨rfl, fun v z h => by cases h⟩⟩
theorem MapRel.put {D : DataW Unit} {own : Int → Option Int} (h : MapRel D own) (q p : Int) : MapRel (D.put (.int .i64 q) (.lit (.int .i64 p))) (upd own q p) := by
  have hk : WideAt.IsKeyLit (.int .i64 q) := by first | trivial | decide | constructor
  refine ⟨h.1.put _ _, fun x => ?_⟩
  unfold upd
  by_cases e : x = q
  · subst e
    rw [if_pos rfl, has_put_same h.1 hk]
    exact ⟨rfl, fun v z hv => by rw [atKey_put_same h.1 hk]; injection hv with hv; rw [hv]⟩
  · rw [if_neg e]
    have hne : Lit.int .i64 x ≠ Lit.int .i64 q := by intro h'; injection h' with _ h'; exact e h'
    rw [has_put_other hne]
    exact ⟨(h.2 x).1, fun v z hv => by rw [atKey_put_other hne]; exact (h.2 x).2 v z hv⟩

theorem mapLaw : Keyed Try.prog 3 := int_keyed Try.underlying3
theorem mapZero (w : World) : (zeroValue 3).run Try.prog w = .ok (.int .i64 0) w := by kernel_rfl

def impl_Track_isState.f (a0_0 : Int) (a0_1 : Int) (a0_2 : Int) (l0_3 : List Int) (l0_4 : List Int) (l1 : List (List Int)) : Option (Bool) :=
  if inR a0_0 1 60 = true ∧ inR a0_2 0 4 = true ∧ l0_3.length ≤ 4 then (if l1.length = l0_3.length then some (stRows a0_0 a0_2 l0_3 l0_4 0 l1 (fun _ => none)) else some false) else none

def StBox (B : Nat) (a b c : Int) (A3 : Option Addr) (n3 c3 : Nat) (A4 : Option Addr) (n4 c4 : Nat) (W : World) : Prop :=
  W.heap[B]? = some (.cells #[.int .i64 a, .int .i64 b, .int .i64 c, .slice A3 n3 c3, .slice A4 n4 c4] 27 (0, 0))

theorem StBox.at {B : Nat} {a b c : Int} {A3 : Option Addr} {n3 c3 : Nat} {A4 : Option Addr} {n4 c4 : Nat} {W : World} (h : StBox B a b c A3 n3 c3 A4 n4 c4 W) :
    W.cell? ⟨B, 0, none⟩ = some (.int .i64 a) ∧ W.cell? ⟨B, 1, none⟩ = some (.int .i64 b) ∧ W.cell? ⟨B, 2, none⟩ = some (.int .i64 c) ∧ W.cell? ⟨B, 3, none⟩ = some (.slice A3 n3 c3) ∧ W.cell? ⟨B, 4, none⟩ = some (.slice A4 n4 c4) :=
  ⟨(blk_cell h 0).trans rfl, (blk_cell h 1).trans rfl, (blk_cell h 2).trans rfl, (blk_cell h 3).trans rfl, (blk_cell h 4).trans rfl⟩

theorem MapRel.has {D : DataW Unit} {own : Int → Option Int} (h : MapRel D own) (x : Int) : Maps.has D (.int .i64 x) = (own x).isSome := (h.2 x).1

set_option maxHeartbeats 16000000 in
set_option maxRecDepth 100000 in
theorem impl_Track_isState.calls (a0_0 : Int) (a0_1 : Int) (a0_2 : Int) (A0_3 : Option Addr) (c0_3 : Nat) (l0_3 : List Int) (A0_4 : Option Addr) (c0_4 : Nat) (l0_4 : List Int) (A1 : Option Addr) (c1 : Nat) (l1 : List (List Int)) (r : Bool) (w : World) (hr0_3 : Kd.C (Kd.int .i64) w A0_3 l0_3.length l0_3) (hc0_3 : l0_3.length ≤ c0_3) (hr0_4 : Kd.C (Kd.int .i64) w A0_4 l0_4.length l0_4) (hc0_4 : l0_4.length ≤ c0_4) (hr1 : Kd.C (Kd.slice 3 (Kd.int .i64)) w A1 l1.length l1) (hc1 : l1.length ≤ c1) (h : impl_Track_isState.f a0_0 a0_1 a0_2 l0_3 l0_4 l1 = some r) :
    Calls Try.prog 74 #[.agg #[.int .i64 a0_0, .int .i64 a0_1, .int .i64 a0_2, .slice A0_3 l0_3.length c0_3, .slice A0_4 l0_4.length c0_4], .slice A1 l1.length c1] w fun e w' => e = .returned (.bool r) ∧ Below w.heap.size w w' := by
  unfold impl_Track_isState.f at h
  by_cases hpre : inR a0_0 1 60 = true ∧ inR a0_2 0 4 = true ∧ l0_3.length ≤ 4
  case neg => rw [if_neg hpre] at h; cases h
  rw [if_pos hpre] at h
  obtain ⟨hA, hT, hL⟩ := hpre
  replace hA := inR_iff.1 hA
  replace hT := inR_iff.1 hT
  have hbig4 := hr0_4.2.1
  have hbig1 := hr1.2.1
  have HR3 := Aside0.mk hr0_3
  have HR4 := Aside0.mk hr0_4
  have HR1 := Aside0.mk hr1
  have HC3 := Aside0.mk hc0_3
  have HC4 := Aside0.mk hc0_4
  clear hr0_3 hr0_4 hr1 hc0_3 hc0_4
  have hmm := @run_makeMap Try.prog
  have hu27 := Try.underlying27
  by_cases hlen : l1.length = l0_3.length
  case neg =>
    rw [if_neg hlen] at h
    obtain rfl := Option.some.inj h
    have e1 : ((l1.length : Int) == (l0_3.length : Int)) = false := by simp; omega
    have e2 : ((l1.length : Int) != (l0_3.length : Int)) = true := by simp; omega
    have e3 : (l1.length == l0_3.length) = false := by simpa using hlen
    clear h hlen
    go_enter Try.func74, Try.ntmps74
    go_wp2
    go_ret
    exact ⟨rfl, (Below.refl _ _).alloc (Nat.le_refl _) _⟩
  rw [if_pos hlen] at h
  have HRES := Aside0.mk (Option.some.inj h)
  clear h
  have HLEN := Aside0.mk hlen
  have e1 : ((l1.length : Int) == (l0_3.length : Int)) = true := by simp; omega
  have e2 : ((l1.length : Int) != (l0_3.length : Int)) = false := by simp; omega
  have e3 : (l1.length == l0_3.length) = true := by simpa using hlen
  have hL1 : l1.length ≤ 4 := by omega
  clear hlen
  go_enter Try.func74, Try.ntmps74
  go_wp2
  clear e1 e2 e3
  go_loopg [22] l1.length (fun gg v22 wr => ∃ (p n : Nat) (D : DataW Unit) (own : Int → Option Int), p ≤ l1.length ∧ l1.length - p ≤ gg ∧ v22 = .int .i64 p ∧ n ≤ 4 * p ∧ Aside0 (MapRel D own) ∧ Aside0 (stRows a0_0 a0_2 l0_3 l0_4 p (l1.drop p) own = r) ∧
    Aside0 (wr.ownsMap Try.prog 3 (plainElem Try.prog 3) (w.heap.size + 1) n D) ∧ Aside0 (StBox w.heap.size a0_0 a0_1 a0_2 A0_3 l0_3.length c0_3 A0_4 l0_4.length c0_4 wr) ∧ Aside0 (Below w.heap.size w wr))
  case atStart =>
    refine ⟨0, 0, .map [], fun _ => none, Nat.zero_le _, by omega, rfl, by omega, ⟨MapRel.nil⟩, HRES, ⟨?_⟩, ⟨?_⟩, ⟨?_⟩⟩
    · simpa using World.ownsMap_made (w.alloc (.cells #[.int .i64 a0_0, .int .i64 a0_1, .int .i64 a0_2, .slice A0_3 l0_3.length c0_3, .slice A0_4 l0_4.length c0_4] 27)) Try.prog 3 (plainElem Try.prog 3)
    · exact blk_alloc (blk_new w _) _
    · exact ((Below.refl _ _).alloc (Nat.le_refl _) _).alloc (by simp) _
  case round =>
    clear HRES
    obtain ⟨p, n, D, own, hp, hg, rfl, hn, HM, HRES, HMAP, HBOX, HB⟩ := hrel
    obtain ⟨wo, rfl⟩ : ∃ wo : World, wo = wr := ⟨_, rfl⟩
    by_cases hlt : p < l1.length
    · have hpl : p < l0_3.length := by rw [← HLEN.out]; exact hlt
      obtain ⟨ad1, A7, c7, ea, hx7, hl7, hi7⟩ := at_L1 HR1.out (p : Int) (by omega) (by omega)
      cases ea
      rw [show ((p : Int)).toNat = p by omega] at hx7
      replace hx7 := (HB.out.cell (World.block_lt_of_cell? w _ hx7)).trans hx7
      have hdrop : l1.drop p = rd_L1 l1 (p : Int) :: l1.drop (p + 1) := by
        rw [List.drop_eq_getElem_cons hlt]
        congr 1
        simp [rd_L1, hlt]
      have HRR := HRES.out
      rw [hdrop] at HRR
      clear hdrop HRES
      generalize rd_L1 l1 (p : Int) = row at hx7 hl7 hi7 HRR
      have HR7 := Aside0.mk hi7
      have hbig7 := hi7.2.1
      clear hi7
      have hpi : (p : Int) < (l1.length : Int) := by omega
      obtain ⟨b0, b1, b2, b3, b4⟩ := HBOX.out.at
      by_cases hrl : (row.length : Int) = a0_2
      case neg =>
        have hr : r = false := by rw [← HRR, stRows, if_neg hrl]
        subst hr
        have f1 : ((row.length : Int) == a0_2) = false := by simpa using hrl
        have f2 : ((row.length : Int) != a0_2) = true := by simpa using hrl
        clear HRR hrl
        go_wp2
        go_ret
        exact ⟨rfl, HB.out⟩
      rw [stRows, if_pos hrl] at HRR
      have HRIN : Aside0 (stThen a0_0 a0_2 l0_3 l0_4 p (l1.drop (p + 1)) (stRow a0_0 l0_3 l0_4 p (row.drop 0) own) = r) := by
        refine ⟨?_⟩
        rw [← HRR, List.drop_zero]
        unfold stThen
        cases stRow a0_0 l0_3 l0_4 p row own <;> rfl
      clear HRR
      have hm4 : row.length ≤ 4 := by omega
      have f1 : ((row.length : Int) == a0_2) = true := by simpa using hrl
      have f2 : ((row.length : Int) != a0_2) = false := by simpa using hrl
      have HRL := Aside0.mk hrl
      clear hrl
      go_wp2
      clear f1 f2 b0 b1 b2 b3 b4 hx7
      go_loopg [34] row.length (fun gg v34 wr => ∃ (i n' : Nat) (D' : DataW Unit) (own' : Int → Option Int), i ≤ row.length ∧ row.length - i ≤ gg ∧ v34 = .int .i64 i ∧ n' ≤ 4 * p + i ∧ Aside0 (MapRel D' own') ∧ Aside0 (stThen a0_0 a0_2 l0_3 l0_4 p (l1.drop (p + 1)) (stRow a0_0 l0_3 l0_4 p (row.drop i) own') = r) ∧
        Aside0 (wr.ownsMap Try.prog 3 (plainElem Try.prog 3) (w.heap.size + 1) n' D') ∧ Aside0 (StBox w.heap.size a0_0 a0_1 a0_2 A0_3 l0_3.length c0_3 A0_4 l0_4.length c0_4 wr) ∧ Aside0 (Below w.heap.size w wr))
      case atStart => exact ⟨0, n, D, own, Nat.zero_le _, by omega, rfl, by omega, HM, HRIN, HMAP, HBOX, HB⟩
      case round =>
        clear HRIN HMAP HBOX HB HM
        clear hn D own
        obtain ⟨i, n', D', own', hi, hgi, rfl, hn', HM, HRES, HMAP, HBOX, HB⟩ := hrel
        by_cases hlti : i < row.length
        case neg =>
          have him : i = row.length := by omega
          subst him
          have HRR := HRES.out
          rw [List.drop_length, stRow, stThen] at HRR
          have HRN := Aside0.mk HRR
          clear HRR HRES
          go_wp2
          go_roundg (l1.length - (p + 1))
          case measure => omega
          case rel => exact ⟨p + 1, n', D', own', by omega, by omega, by go_num, by omega, HM, HRN, HMAP, HBOX, HB⟩
        have hiti : (i : Int) < (row.length : Int) := by omega
        obtain ⟨ad2, ea, hx9⟩ := Kd.at_int HR7.out (i : Int) (by omega) hiti
        cases ea
        rw [show ((i : Int)).toNat = i by omega] at hx9
        replace hx9 := (HB.out.cell (World.block_lt_of_cell? w _ hx9)).trans hx9
        have HRR := HRES.out
        have hd : row.drop i = rd row (i : Int) :: row.drop (i + 1) := by
          rw [List.drop_eq_getElem_cons hlti]; congr 1; simp [rd, hlti]
        rw [hd] at HRR
        clear hd HRES
        generalize rd row (i : Int) = x at hx9 HRR
        obtain ⟨b0, b1, b2, b3, b4⟩ := HBOX.out.at
        by_cases hin : inR x (-1) a0_0 = true
        case neg =>
          have hin' : inR x (-1) a0_0 = false := by simpa using hin
          have hr : r = false := by rw [← HRR, stRow, if_neg hin]; rfl
          subst hr
          have HW := Aside0.mk (show impl_within.f x (-1) a0_0 = some false from (inR_eq x (-1) a0_0).trans (by rw [hin']))
          clear hin hin' HRR
          go_wp2_with ((go_at_call 66; (with_reducible refine (impl_within.calls x (-1) a0_0 false _ HW.out).mono ?_); rintro e w' ⟨rfl, ⟨nd, rfl⟩⟩))
          go_ret
          exact ⟨rfl, pw_below_drewN HB.out _⟩
        have HW := Aside0.mk (show impl_within.f x (-1) a0_0 = some true from (inR_eq x (-1) a0_0).trans (by rw [hin]))
        rw [stRow, if_pos hin] at HRR
        have HQ := Aside0.mk (square_sqOf (a := a0_0) (b := a0_1) (c := a0_2) (l3 := l0_3) (l4 := l0_4) (p := (p : Int)) (x := x) (by omega) (by omega) (by omega))
        have hq60 : sqOf a0_0 l0_3 (p : Int) x < 60 := by
          unfold sqOf
          split
          · rename_i h1
            have h2 := inR_iff.1 h1
            have := Int.tmod_lt_of_pos (wrap64 (rd l0_3 (p : Int) + x)) (show 0 < a0_0 by omega)
            omega
          · omega
        clear hin
        generalize sqOf a0_0 l0_3 (p : Int) x = q at HQ HRR hq60
        by_cases hq0 : q < 0
        case pos =>
          rw [if_pos hq0] at HRR
          have g1 : decide (q < 0) = true := by simpa using hq0
          go_wp2_with (first | (go_at_call 66; (with_reducible refine (impl_within.calls x (-1) a0_0 true _ HW.out).mono ?_); rintro e w' ⟨rfl, ⟨nd, rfl⟩⟩) | (go_at_call 72; (with_reducible refine (impl_Track_square.calls a0_0 a0_1 a0_2 _ _ l0_3 _ _ l0_4 (p : Int) x q _ (Kd.C_below HR3.out (pw_below_drewN HB.out _)) HC3.out (Kd.C_below HR4.out (pw_below_drewN HB.out _)) HC4.out HQ.out).mono ?_); rintro e w1 ⟨rfl, hb1⟩; have HB1 := Aside0.mk (below_step (pw_below_drewN HB.out _) hb1); have HBOX1 := Aside0.mk (show StBox w.heap.size a0_0 a0_1 a0_2 A0_3 l0_3.length c0_3 A0_4 l0_4.length c0_4 w1 from blk_below (blk_drewN HBOX.out _) hb1); have HMAP1 := Aside0.mk (World.ownsMap.kept (w := wr.drewN _) HMAP.out (grown_of_below hb1 none) (by simp)); clear hb1; obtain ⟨d0, d1, d2, d3, d4⟩ := HBOX1.out.at))
          clear g1
          go_roundg (row.length - (i + 1))
          case measure => omega
          case rel => exact ⟨i + 1, n', D', own', by omega, by omega, by go_num, by omega, HM, ⟨by rw [← HRR]⟩, HMAP1, HBOX1, HB1⟩

        rw [if_neg hq0] at HRR
        have g1 : decide (q < 0) = false := by simpa using hq0
        obtain ⟨K, hK⟩ := (contains_ans (l := l0_4) (x := q) hbig4).at_
        have HS : Aside0 (impl_Track_isSafe.f K a0_0 a0_1 a0_2 l0_3 l0_4 q = some (l0_4.contains q)) := ⟨by unfold impl_Track_isSafe.f; rw [hK]; rfl⟩
        clear hK
        cases hsf : l0_4.contains q with
        | true =>
          rw [hsf] at HS HRR
          rw [if_pos rfl] at HRR
          clear hsf
          go_wp2_with (first | (go_at_call 66; (with_reducible refine (impl_within.calls x (-1) a0_0 true _ HW.out).mono ?_); rintro e w' ⟨rfl, ⟨nd, rfl⟩⟩) | (go_at_call 72; (with_reducible refine (impl_Track_square.calls a0_0 a0_1 a0_2 _ _ l0_3 _ _ l0_4 (p : Int) x q _ (Kd.C_below HR3.out (pw_below_drewN HB.out _)) HC3.out (Kd.C_below HR4.out (pw_below_drewN HB.out _)) HC4.out HQ.out).mono ?_); rintro e w1 ⟨rfl, hb1⟩; have HB1 := Aside0.mk (below_step (pw_below_drewN HB.out _) hb1); have HBOX1 := Aside0.mk (show StBox w.heap.size a0_0 a0_1 a0_2 A0_3 l0_3.length c0_3 A0_4 l0_4.length c0_4 w1 from blk_below (blk_drewN HBOX.out _) hb1); have HMAP1 := Aside0.mk (World.ownsMap.kept (w := wr.drewN _) HMAP.out (grown_of_below hb1 none) (by simp)); clear hb1; obtain ⟨d0, d1, d2, d3, d4⟩ := HBOX1.out.at) | (go_at_call 89; (with_reducible refine (impl_Track_isSafe.calls K a0_0 a0_1 a0_2 _ _ l0_3 _ _ l0_4 q true _ (Kd.C_below HR3.out HB1.out) HC3.out (Kd.C_below HR4.out HB1.out) HC4.out HS.out).mono ?_); rintro e w2 ⟨rfl, hb2⟩; have HB2 := Aside0.mk (below_step HB1.out hb2); have HBOX2 := Aside0.mk (show StBox w.heap.size a0_0 a0_1 a0_2 A0_3 l0_3.length c0_3 A0_4 l0_4.length c0_4 w2 from blk_below HBOX1.out hb2); have HMAP2 := Aside0.mk (HMAP1.out.kept (grown_of_below hb2 none) (by simp)); clear hb2; clear d0 d1 d2 d3 d4; obtain ⟨d0, d1, d2, d3, d4⟩ := HBOX2.out.at))
          clear g1
          go_roundg (row.length - (i + 1))
          case measure => omega
          case rel => exact ⟨i + 1, n', D', own', by omega, by omega, by go_num, by omega, HM, ⟨by rw [← HRR]⟩, HMAP2, HBOX2, HB2⟩

        | false =>
          rw [hsf] at HS HRR
          rw [if_neg (by simp)] at HRR
          clear hsf
          have hwq : (Lit.int .i64 q).wf = true := WalkArith.wf_i64 (by omega)
          have hwp : (Lit.int .i64 (p : Int)).wf = true := WalkArith.wf_i64 (by omega)
          have HKEY := Aside0.mk (keyOf_int_mk (P := Try.prog) (k := 3) Try.underlying3 hwq)
          have HVAL := Aside0.mk (plainElem_int (H := Unit) (P := Try.prog) (e := 3) Try.underlying3 hwp)
          have hhas := HM.out.has q
          clear hwq hwp
          cases ho : own' q with
          | none =>
            rw [ho] at hhas HRR
            have hhas' : Maps.has D' (.int .i64 q) = false := hhas
            have HMN := Aside0.mk (HM.out.put q (p : Int))
            clear hhas ho
            go_wp2_with (first | (go_at_call 66; (with_reducible refine (impl_within.calls x (-1) a0_0 true _ HW.out).mono ?_); rintro e w' ⟨rfl, ⟨nd, rfl⟩⟩) | (go_at_call 72; (with_reducible refine (impl_Track_square.calls a0_0 a0_1 a0_2 _ _ l0_3 _ _ l0_4 (p : Int) x q _ (Kd.C_below HR3.out (pw_below_drewN HB.out _)) HC3.out (Kd.C_below HR4.out (pw_below_drewN HB.out _)) HC4.out HQ.out).mono ?_); rintro e w1 ⟨rfl, hb1⟩; have HB1 := Aside0.mk (below_step (pw_below_drewN HB.out _) hb1); have HBOX1 := Aside0.mk (show StBox w.heap.size a0_0 a0_1 a0_2 A0_3 l0_3.length c0_3 A0_4 l0_4.length c0_4 w1 from blk_below (blk_drewN HBOX.out _) hb1); have HMAP1 := Aside0.mk (World.ownsMap.kept (w := wr.drewN _) HMAP.out (grown_of_below hb1 none) (by simp)); clear hb1; obtain ⟨d0, d1, d2, d3, d4⟩ := HBOX1.out.at) | (go_at_call 89; (with_reducible refine (impl_Track_isSafe.calls K a0_0 a0_1 a0_2 _ _ l0_3 _ _ l0_4 q false _ (Kd.C_below HR3.out HB1.out) HC3.out (Kd.C_below HR4.out HB1.out) HC4.out HS.out).mono ?_); rintro e w2 ⟨rfl, hb2⟩; have HB2 := Aside0.mk (below_step HB1.out hb2); have HBOX2 := Aside0.mk (show StBox w.heap.size a0_0 a0_1 a0_2 A0_3 l0_3.length c0_3 A0_4 l0_4.length c0_4 w2 from blk_below HBOX1.out hb2); have HMAP2 := Aside0.mk (HMAP1.out.kept (grown_of_below hb2 none) (by simp)); clear hb2; clear d0 d1 d2 d3 d4; obtain ⟨d0, d1, d2, d3, d4⟩ := HBOX2.out.at) | (at_lookup; refine wpList_lookup_own_ok_int _ rfl _ _ 89 rfl 3 3 .i64 mapLaw Try.underlying89 Try.underlying3 (mapZero _) (w.heap.size + 1) n' D' rfl HMAP2.out _ _ rfl HKEY.out ?_; intro cc hat hwc) | (at_mapUpdate; refine wpList_mapUpdate_own _ rfl _ _ _ 89 rfl 3 3 mapLaw Try.underlying89 _ (w.heap.size + 1) n' D' rfl HMAP2.out (by unfold maxLen; omega) _ _ _ rfl rfl HKEY.out (.lit (.int .i64 (p : Int))) [] HVAL.out ?_; intro w3 hown3 hgrow3; have HMAP3 := Aside0.mk hown3; have HBOX3 := Aside0.mk (show StBox w.heap.size a0_0 a0_1 a0_2 A0_3 l0_3.length c0_3 A0_4 l0_4.length c0_4 w3 from blk_grown HBOX2.out hgrow3 (by simp)); have HB3 := Aside0.mk (HB2.out.grown hgrow3 HB2.out.size (fun j hj => by cases hj; omega)); clear hown3 hgrow3))
            clear g1
            go_roundg (row.length - (i + 1))
            case measure => omega
            case rel => exact ⟨i + 1, n' + 1, (D'.put (.int .i64 q) (.lit (.int .i64 (p : Int)))), (upd own' q (p : Int)), by omega, by omega, by go_num, by omega, HMN, ⟨by rw [← HRR]⟩, HMAP3, HBOX3, HB3⟩

          | some o =>
            rw [ho] at hhas HRR
            have hhas' : Maps.has D' (.int .i64 q) = true := hhas
            have HO := Aside0.mk ((HM.out.2 q).2 o (.lit (.int .i64 0)) ho)
            have HMN := Aside0.mk (HM.out.put q (p : Int))
            clear hhas ho
            by_cases hop : o = (p : Int)
            · have HRR2 : stThen a0_0 a0_2 l0_3 l0_4 p (l1.drop (p + 1)) (if o = (p : Int) then stRow a0_0 l0_3 l0_4 p (row.drop (i + 1)) (upd own' q (p : Int)) else none) = r := HRR
              rw [if_pos hop] at HRR2
              clear HRR
              have HRR := HRR2
              clear HRR2
              subst hop
              go_wp2_with (first | (go_at_call 66; (with_reducible refine (impl_within.calls x (-1) a0_0 true _ HW.out).mono ?_); rintro e w' ⟨rfl, ⟨nd, rfl⟩⟩) | (go_at_call 72; (with_reducible refine (impl_Track_square.calls a0_0 a0_1 a0_2 _ _ l0_3 _ _ l0_4 (p : Int) x q _ (Kd.C_below HR3.out (pw_below_drewN HB.out _)) HC3.out (Kd.C_below HR4.out (pw_below_drewN HB.out _)) HC4.out HQ.out).mono ?_); rintro e w1 ⟨rfl, hb1⟩; have HB1 := Aside0.mk (below_step (pw_below_drewN HB.out _) hb1); have HBOX1 := Aside0.mk (show StBox w.heap.size a0_0 a0_1 a0_2 A0_3 l0_3.length c0_3 A0_4 l0_4.length c0_4 w1 from blk_below (blk_drewN HBOX.out _) hb1); have HMAP1 := Aside0.mk (World.ownsMap.kept (w := wr.drewN _) HMAP.out (grown_of_below hb1 none) (by simp)); clear hb1; obtain ⟨d0, d1, d2, d3, d4⟩ := HBOX1.out.at) | (go_at_call 89; (with_reducible refine (impl_Track_isSafe.calls K a0_0 a0_1 a0_2 _ _ l0_3 _ _ l0_4 q false _ (Kd.C_below HR3.out HB1.out) HC3.out (Kd.C_below HR4.out HB1.out) HC4.out HS.out).mono ?_); rintro e w2 ⟨rfl, hb2⟩; have HB2 := Aside0.mk (below_step HB1.out hb2); have HBOX2 := Aside0.mk (show StBox w.heap.size a0_0 a0_1 a0_2 A0_3 l0_3.length c0_3 A0_4 l0_4.length c0_4 w2 from blk_below HBOX1.out hb2); have HMAP2 := Aside0.mk (HMAP1.out.kept (grown_of_below hb2 none) (by simp)); clear hb2; clear d0 d1 d2 d3 d4; obtain ⟨d0, d1, d2, d3, d4⟩ := HBOX2.out.at) | (at_lookup; refine wpList_lookup_own_ok_int _ rfl _ _ 89 rfl 3 3 .i64 mapLaw Try.underlying89 Try.underlying3 (mapZero _) (w.heap.size + 1) n' D' rfl HMAP2.out _ _ rfl HKEY.out ?_; intro cc hat hwc; have hcc : cc = (p : Int) := (by have h_ := hat.symm.trans HO.out; simpa using h_); clear hat hwc; subst hcc) | (at_mapUpdate; refine wpList_mapUpdate_own _ rfl _ _ _ 89 rfl 3 3 mapLaw Try.underlying89 _ (w.heap.size + 1) n' D' rfl HMAP2.out (by unfold maxLen; omega) _ _ _ rfl rfl HKEY.out (.lit (.int .i64 (p : Int))) [] HVAL.out ?_; intro w3 hown3 hgrow3; have HMAP3 := Aside0.mk hown3; have HBOX3 := Aside0.mk (show StBox w.heap.size a0_0 a0_1 a0_2 A0_3 l0_3.length c0_3 A0_4 l0_4.length c0_4 w3 from blk_grown HBOX2.out hgrow3 (by simp)); have HB3 := Aside0.mk (HB2.out.grown hgrow3 HB2.out.size (fun j hj => by cases hj; omega)); clear hown3 hgrow3))
              clear g1
              go_roundg (row.length - (i + 1))
              case measure => omega
              case rel => exact ⟨i + 1, n' + 1, (D'.put (.int .i64 q) (.lit (.int .i64 (p : Int)))), (upd own' q (p : Int)), by omega, by omega, by go_num, by omega, HMN, ⟨by rw [← HRR]⟩, HMAP3, HBOX3, HB3⟩

            · have HRR2 : stThen a0_0 a0_2 l0_3 l0_4 p (l1.drop (p + 1)) (if o = (p : Int) then stRow a0_0 l0_3 l0_4 p (row.drop (i + 1)) (upd own' q (p : Int)) else none) = r := HRR
              rw [if_neg hop] at HRR2
              have hr : r = false := by rw [← HRR2]; rfl
              subst hr
              have g2 : (o == (p : Int)) = false := by simpa using hop
              have g3 : (o != (p : Int)) = true := by simpa using hop
              clear HRR HRR2 hop
              go_wp2_with (first | (go_at_call 66; (with_reducible refine (impl_within.calls x (-1) a0_0 true _ HW.out).mono ?_); rintro e w' ⟨rfl, ⟨nd, rfl⟩⟩) | (go_at_call 72; (with_reducible refine (impl_Track_square.calls a0_0 a0_1 a0_2 _ _ l0_3 _ _ l0_4 (p : Int) x q _ (Kd.C_below HR3.out (pw_below_drewN HB.out _)) HC3.out (Kd.C_below HR4.out (pw_below_drewN HB.out _)) HC4.out HQ.out).mono ?_); rintro e w1 ⟨rfl, hb1⟩; have HB1 := Aside0.mk (below_step (pw_below_drewN HB.out _) hb1); have HBOX1 := Aside0.mk (show StBox w.heap.size a0_0 a0_1 a0_2 A0_3 l0_3.length c0_3 A0_4 l0_4.length c0_4 w1 from blk_below (blk_drewN HBOX.out _) hb1); have HMAP1 := Aside0.mk (World.ownsMap.kept (w := wr.drewN _) HMAP.out (grown_of_below hb1 none) (by simp)); clear hb1; obtain ⟨d0, d1, d2, d3, d4⟩ := HBOX1.out.at) | (go_at_call 89; (with_reducible refine (impl_Track_isSafe.calls K a0_0 a0_1 a0_2 _ _ l0_3 _ _ l0_4 q false _ (Kd.C_below HR3.out HB1.out) HC3.out (Kd.C_below HR4.out HB1.out) HC4.out HS.out).mono ?_); rintro e w2 ⟨rfl, hb2⟩; have HB2 := Aside0.mk (below_step HB1.out hb2); have HBOX2 := Aside0.mk (show StBox w.heap.size a0_0 a0_1 a0_2 A0_3 l0_3.length c0_3 A0_4 l0_4.length c0_4 w2 from blk_below HBOX1.out hb2); have HMAP2 := Aside0.mk (HMAP1.out.kept (grown_of_below hb2 none) (by simp)); clear hb2; clear d0 d1 d2 d3 d4; obtain ⟨d0, d1, d2, d3, d4⟩ := HBOX2.out.at) | (at_lookup; refine wpList_lookup_own_ok_int _ rfl _ _ 89 rfl 3 3 .i64 mapLaw Try.underlying89 Try.underlying3 (mapZero _) (w.heap.size + 1) n' D' rfl HMAP2.out _ _ rfl HKEY.out ?_; intro cc hat hwc; have hcc : cc = o := (by have h_ := hat.symm.trans HO.out; simpa using h_); clear hat hwc; subst hcc))
              go_ret
              exact ⟨rfl, HB2.out⟩
    · have hpn : p = l1.length := by omega
      subst hpn
      have hr : r = true := by have h_ := HRES.out; rw [List.drop_length, stRows] at h_; exact h_.symm
      subst hr
      obtain ⟨b0, b1, b2, b3, b4⟩ := HBOX.out.at
      go_wp2
      go_ret
      exact ⟨rfl, HB.out⟩

end Go.Proofs.Ytcppahkdfajcaaa.P
