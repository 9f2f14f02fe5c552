/- impl.ways: how many throws have each sum of the kept greatest dice: what the Go text returns, at up to 8 dice with up to 12 faces. -/
import Derived.Test.YtbnbokiiakampaaETab
import Derived.Deep.RegionWith
import Derived.Test.YtbnbokiiakampaaP44
namespace Go.Proofs.Ytbnbokiiakampaa.P
open Go.RowKit Go.Proofs.YtbnbokiiakampaaW.PrintWords Go.Proofs.YtbnbokiiakampaaW.PrintLast Go.Proofs.YtbnbokiiakampaaW.PrintMore
attribute [local go_sem] max2_int min2_int max_two min_two max_three min_three max_four min_four   -- for this text's walks alone
set_option linter.unusedVariables false
set_option linter.unusedSimpArgs false

def chooseN (n c : Nat) : Int := (impl_choose.f 20 (n : Int) (c : Int)).getD 0
theorem choose_all : ∀ n ∈ List.range 9, ∀ c ∈ List.range 9, c ≤ n → impl_choose.f 20 (n : Int) (c : Int) = some (chooseN n c) := by decide +kernel
theorem choose_val {n c : Nat} (hn : n ≤ 8) (hc : c ≤ n) : impl_choose.f 20 (n : Int) (c : Int) = some (chooseN n c) := choose_all n (by simp; omega) c (by simp; omega) hc

/-- One entry of the next table grows. -/
def upd (d f K n s : Nat) (x : Int) (next : List (List Int)) (c : Nat) : List (List Int) :=
  next.set (n + c) ((next.getD (n + c) []).set (s + f * min c (K - n)) (wrap64 (rd (next.getD (n + c) []) ((s + f * min c (K - n) : Nat) : Int) + wrap64 (x * chooseN (d - n) c))))
def cRun (d f K n s : Nat) (x : Int) : Nat → Nat → List (List Int) → List (List Int)
  | 0, _, next => next
  | q + 1, c, next => cRun d f K n s x q (c + 1) (upd d f K n s x next c)
def sRun (d f K n : Nat) : List Int → Nat → List (List Int) → List (List Int)
  | [], _, next => next
  | x :: xs, s, next => sRun d f K n xs (s + 1) (if x = 0 then next else cRun d f K n s x (d + 1 - n) 0 next)
def nRun (d f K : Nat) : List (List Int) → Nat → List (List Int) → List (List Int)
  | [], _, next => next
  | r :: rs, n, next => nRun d f K rs (n + 1) (sRun d f K n r 0 next)
def zeroT (d m : Nat) : List (List Int) := List.replicate (d + 1) (List.replicate m 0)
def fRun (d m K : Nat) : Nat → List (List Int) → List (List Int)
  | 0, rows => rows
  | f + 1, rows => fRun d m K f (nRun d (f + 1) K rows 0 (zeroT d m))
def initT (d m : Nat) : List (List Int) := (zeroT d m).set 0 ((List.replicate m 0).set 0 1)
def waysL (d F K : Nat) : List Int := (fRun d (d * F + 1) K F (initT d (d * F + 1))).getD d []

/-- The table's form, and where it may bear numbers other than 0. -/
structure Form (d F K m : Nat) (t : List (List Int)) : Prop where
  len : t.length = d + 1
  row : ∀ i, i < d + 1 → (t.getD i []).length = m
  sup : ∀ (i j : Nat), i < d + 1 → rd (t.getD i []) (j : Int) ≠ 0 → j ≤ min i K * F

theorem rd_set (r : List Int) (j q : Nat) (x : Int) : rd (r.set j x) (q : Int) = if j = q ∧ j < r.length then x else rd r (q : Int) := by
  simp only [rd, Int.toNat_natCast, List.getD_eq_getElem?_getD, List.getElem?_set]
  by_cases h : j = q
  · subst h
    by_cases h2 : j < r.length
    · simp [h2]
    · simp [h2]
  · simp [h]
theorem getD_set (t : List (List Int)) (i q : Nat) (r : List Int) : (t.set i r).getD q [] = if i = q ∧ i < t.length then r else t.getD q [] := by
  simp only [List.getD_eq_getElem?_getD, List.getElem?_set]
  by_cases h : i = q
  · subst h
    by_cases h2 : i < t.length
    · simp [h2]
    · simp [h2]
  · simp [h]
theorem min_shift (n c K : Nat) : min n K + min c (K - n) = min (n + c) K := by omega
theorem spot_le {F K f n s c : Nat} (hs : s ≤ min n K * F) (hf : f ≤ F) : s + f * min c (K - n) ≤ min (n + c) K * F := by
  rw [← min_shift n c K, Nat.add_mul, Nat.mul_comm f]
  exact Nat.add_le_add hs (Nat.mul_le_mul_left _ hf)
theorem Form.upd {d F K m f n s c : Nat} {x : Int} {t : List (List Int)} (h : Form d F K m t) (hs : s ≤ min n K * F) (hf : f ≤ F) (hc : n + c ≤ d) : Form d F K m (upd d f K n s x t c) := by
  have hlt : n + c < t.length := by rw [h.len]; omega
  unfold P.upd
  refine ⟨by rw [List.length_set]; exact h.len, fun i hi => ?_, fun i j hi hj => ?_⟩
  · rw [getD_set]
    split
    · rename_i e; obtain ⟨rfl, _⟩ := e
      rw [List.length_set]; exact h.row _ hi
    · exact h.row i hi
  · rw [getD_set] at hj
    split at hj
    · rename_i e; obtain ⟨rfl, _⟩ := e
      rw [rd_set] at hj
      split at hj
      · rename_i e2; obtain ⟨rfl, _⟩ := e2
        exact spot_le hs hf
      · exact h.sup _ j hi hj
    · exact h.sup i j hi hj
theorem Form.zero (d F K m : Nat) : Form d F K m (zeroT d m) := by
  refine ⟨by simp [zeroT], fun i hi => by simp [zeroT, List.getD_eq_getElem?_getD, hi], fun i j hi hj => ?_⟩
  exfalso
  apply hj
  simp only [zeroT, List.getD_eq_getElem?_getD, List.getElem?_replicate, hi, if_true, Option.getD_some, rd, Int.toNat_natCast]
  split <;> rfl
theorem Form.init (d F K m : Nat) : Form d F K m (initT d m) := by
  have h := Form.zero d F K m
  unfold initT
  refine ⟨by rw [List.length_set]; exact h.len, fun i hi => ?_, fun i j hi hj => ?_⟩
  · rw [getD_set]
    split
    · simp
    · exact h.row i hi
  · rw [getD_set] at hj
    split at hj
    · rw [rd_set] at hj
      split at hj
      · rename_i e2; obtain ⟨rfl, _⟩ := e2; omega
      · exfalso; apply hj; simp only [rd, Int.toNat_natCast, List.getD_eq_getElem?_getD, List.getElem?_replicate]; split <;> rfl
    · exact h.sup i j hi hj
theorem getD_at {t : List (List Int)} {i : Nat} (hi : i < t.length) : t[i]? = some (t.getD i []) := by
  rw [List.getD_eq_getElem?_getD, List.getElem?_eq_getElem hi, Option.getD_some]

theorem outC_nil {gs : List Nat} {n k : Nat} {rows : List (List Int)} (h : gs.length = rows.length) (hk : rows.length ≤ k ∧ k < n) : (outC gs n rows).toArray[k]? = some (.slice none 0 0) := by
  rw [List.getElem?_toArray]
  unfold outC
  rw [List.getElem?_append_right (by simp [h]; omega), List.getElem?_replicate, if_pos (by simp [h]; omega)]
theorem info_row : (Try.prog.info? 25).map (fun i => (i.zero, i.size, i.bytes)) = some (some (.slice none 0 0), 1, 24) := by kernel_rfl

def impl_ways.f (a0 a1 a2 : Int) : Option (List Int) := if 1 ≤ a0 ∧ a0 ≤ 8 ∧ 1 ≤ a1 ∧ a1 ≤ 12 ∧ 1 ≤ a2 ∧ a2 ≤ a0 then some (waysL a0.toNat a1.toNat a2.toNat) else none

set_option maxHeartbeats 16000000 in
set_option maxRecDepth 100000 in
theorem impl_ways.calls (a0 a1 a2 : Int) (r : List Int) (w : World) (h : impl_ways.f a0 a1 a2 = some r) :
    Calls Try.prog 36 #[.int .i64 a0, .int .i64 a1, .int .i64 a2] w fun e w' => ∃ v0_ : Value, e = .returned (v0_) ∧ Kd.R (Kd.int .i64) 3 w' w.heap.size (fun _ => True) v0_ r ∧ Below w.heap.size w w' := by
  unfold impl_ways.f at h
  by_cases hp : 1 ≤ a0 ∧ a0 ≤ 8 ∧ 1 ≤ a1 ∧ a1 ≤ 12 ∧ 1 ≤ a2 ∧ a2 ≤ a0
  case neg => rw [if_neg hp] at h; cases h
  rw [if_pos hp] at h
  obtain rfl := Option.some.inj h
  clear h
  obtain ⟨h1, h2, h3, h4, h5, h6⟩ := hp
  obtain ⟨d, rfl⟩ : ∃ d : Nat, a0 = (d : Int) := ⟨a0.toNat, by omega⟩
  obtain ⟨F, rfl⟩ : ∃ F : Nat, a1 = (F : Int) := ⟨a1.toNat, by omega⟩
  obtain ⟨K, rfl⟩ : ∃ K : Nat, a2 = (K : Int) := ⟨a2.toNat, by omega⟩
  rw [Int.toNat_natCast, Int.toNat_natCast, Int.toNat_natCast]
  have hd : d ≤ 8 := by omega
  have hF : F ≤ 12 := by omega
  have hK : K ≤ d := by omega
  have hd1 : 1 ≤ d := by omega
  have hF1 : 1 ≤ F := by omega
  clear h1 h2 h3 h4 h5 h6
  obtain ⟨m, hm⟩ : ∃ m, m = d * F + 1 := ⟨_, rfl⟩
  have hm97 : m ≤ 97 := by
    have : d * F ≤ 8 * 12 := Nat.mul_le_mul hd hF
    omega
  have hm1 : 1 ≤ m := by omega
  have HM := Aside0.mk hm
  have hw1 : IntKind.i64.wrap ((d : Int) + 1) = ((d + 1 : Nat) : Int) := by rw [IntKind.wrap_i64]; omega
  have hdF : ((d : Int) * (F : Int)) = ((m - 1 : Nat) : Int) := by rw [hm]; simp
  have hw2 : IntKind.i64.wrap ((d : Int) * (F : Int)) = ((m - 1 : Nat) : Int) := by rw [hdF, IntKind.wrap_i64]; omega
  have hw3 : IntKind.i64.wrap (((m - 1 : Nat) : Int) + 1) = (m : Int) := by rw [IntKind.wrap_i64]; omega
  clear hdF
  have HW := Aside0.mk (show waysL d F K = (fRun d m K F (initT d m)).getD d [] by rw [hm]; rfl)
  clear hm
  obtain ⟨i0, hi0, hz0, hz1, hz2⟩ := info_parts info3
  have HI := Aside0.mk hi0
  have HZ0 := Aside0.mk hz0
  have HZ1 := Aside0.mk hz1
  have HZ2 := Aside0.mk hz2
  clear hi0 hz0 hz1 hz2
  obtain ⟨i1, hi0, hz0, hz1, hz2⟩ := info_parts info_row
  have HI1 := Aside0.mk hi0
  have HZ10 := Aside0.mk hz0
  have HZ11 := Aside0.mk hz1
  have HZ12 := Aside0.mk hz2
  clear hi0 hz0 hz1 hz2
  go_enter Try.func36, Try.ntmps36
  go_wp2_with ((with_reducible refine gate_dst (N := 20) rfl ?_); refine wpList_make_full _ rfl (.tmp 19) (.tmp 19) 42 rfl w.heap.size 25 i1 (.slice none 0 0) 1 Try.underlying42 HI1.out HZ10.out HZ11.out .i64 .i64 ((d + 1 : Nat) : Int) ((d + 1 : Nat) : Int) (d + 1) rfl rfl rfl rfl (by rw [HZ12.out]; omega) (by simp only [maxLen]; omega) (Nat.le_refl _) ?_; intro w1 hown hgr; have HT := Aside0.mk (Tab.made hown); have HB := Aside0.mk (Below.grown (a := w) (Below.refl _ _) hgr (Nat.le_refl _) (fun k hk => by cases hk)); clear hown hgr)
  go_loopg [23] (d + 1) (fun gg v23 wr => ∃ (k : Nat) (gs : List Nat), k ≤ d + 1 ∧ d + 1 - k ≤ gg ∧ v23 = .int .i64 k ∧ Aside0 (Tab wr w.heap.size gs (d + 1) (List.replicate k (List.replicate m 0))) ∧ Aside0 (Below w.heap.size w wr))
  case atStart => exact ⟨0, [], Nat.zero_le _, by omega, rfl, HT, HB⟩
  case round =>
    clear HT HB
    obtain ⟨k, gs, hk, hg, rfl, HT, HB⟩ := hrel
    by_cases hlt : k < d + 1
    · have hlti : (k : Int) < (d : Int) + 1 := by omega
      have hk0 : (0 : Int) ≤ (k : Int) := by omega
      go_wp2_with ((with_reducible refine gate_dst (N := 32) rfl ?_); refine wpList_make_full _ rfl (.tmp 31) (.tmp 31) 25 rfl w.heap.size 3 i0 (.int .i64 0) 1 Try.underlying25 HI.out HZ0.out HZ1.out .i64 .i64 (m : Int) (m : Int) m rfl rfl rfl rfl (by rw [HZ2.out]; omega) (by simp only [maxLen]; omega) HB.out.size ?_; intro w2 hown hgr; have HR2 := Aside0.mk (row_made hown); have HG2 := Aside0.mk hgr; have HB2 := Aside0.mk (Below.grown (a := w) HB.out hgr HB.out.size (fun k hk => by cases hk)); have hT2 := HT.out.grown hgr (by simp); have hcz := (blk_cell hT2.outer k).trans (outC_nil hT2.len (by simp; omega)); have hfz := blk_frozen hT2.outer k; clear hown hgr hT2)
      go_roundg (d + 1 - (k + 1))
      case measure => omega
      case rel =>
        refine ⟨k + 1, gs ++ [wr.heap.size], by omega, by omega, by go_num, ⟨?_⟩, ⟨below_set HB2.out (Nat.le_refl _)⟩⟩
        have h_ := Tab.snoc HT.out (by simp; omega) HG2.out HR2.out
        rw [List.length_replicate, ← List.replicate_succ'] at h_
        exact h_
    have hkd : k = d + 1 := by omega
    subst hkd
    clear hk hg hlt
    have hz0 : (zeroT d m)[0]? = some (List.replicate m 0) := by simp [zeroT]
    obtain ⟨g0, hg0, hc0, hf0⟩ := HT.out.at_row (i := 0) (by simp)
    obtain ⟨hc1, hf1⟩ := HT.out.at_cell hg0 (r := List.replicate m 0) (j := 0) (by simp) (by simp; omega)
    rw [List.getElem_replicate, List.length_replicate] at hc0
    have hc0' : wr.cell? ⟨w.heap.size, 0, none⟩ = some (.slice (some ⟨g0, 0, none⟩) m m) := hc0
    have hge : w.heap.size ≤ g0 := HT.out.ge (by simp [List.mem_of_getElem? hg0])
    have HT1 : Aside0 (Tab (wr.setCell ⟨g0, 0, none⟩ (.int .i64 1)) w.heap.size gs (d + 1) (initT d m)) := ⟨HT.out.put hg0 (by simp) 1⟩
    have HB1 := Aside0.mk (below_set (v := .int .i64 1) (j := 0) HB.out hge)
    have hm0 : (0 : Int) < (m : Int) := by omega
    clear hc0 hg0 hge HT HB hz0
    go_wp2
    clear hc0' hc1 hf0 hf1 hm0
    go_loopg [7, 9] F (fun gg v7 v9 wr => ∃ (f G : Nat) (gs : List Nat) (rows : List (List Int)), f ≤ F ∧ f ≤ gg ∧ v9 = .int .i64 f ∧ v7 = .slice (some ⟨G, 0, none⟩) (d + 1) (d + 1) ∧ Aside0 (w.heap.size ≤ G) ∧ Aside0 (Tab wr G gs (d + 1) rows) ∧ Aside0 (Form d F K m rows) ∧ Aside0 ((fRun d m K f rows).getD d [] = waysL d F K) ∧ Aside0 (Below w.heap.size w wr))
    case atStart => exact ⟨F, w.heap.size, gs, initT d m, Nat.le_refl _, Nat.le_refl _, rfl, rfl, ⟨Nat.le_refl _⟩, HT1, ⟨Form.init d F K m⟩, ⟨HW.out.symm⟩, HB1⟩
    case round =>
      clear HT1 HB1
      obtain ⟨f, G, gs, rows, hf, hg, rfl, rfl, HGE, HT, HFO, HRES, HB⟩ := hrel
      by_cases hf1 : 1 ≤ f
      · obtain ⟨f, rfl⟩ : ∃ f', f = f' + 1 := ⟨f - 1, by omega⟩
        have hfi : (1 : Int) ≤ (f : Int) + 1 := by omega
        go_wp2_with ((with_reducible refine gate_dst (N := 46) rfl ?_); refine wpList_make_full _ rfl (.tmp 45) (.tmp 45) 42 rfl w.heap.size 25 i1 (.slice none 0 0) 1 Try.underlying42 HI1.out HZ10.out HZ11.out .i64 .i64 ((d + 1 : Nat) : Int) ((d + 1 : Nat) : Int) (d + 1) rfl rfl rfl rfl (by rw [HZ12.out]; omega) (by simp only [maxLen]; omega) HB.out.size ?_; intro w1 hown hgr; have HN := Aside0.mk (Tab.made hown); have HT1 := Aside0.mk (HT.out.grown hgr (by simp)); have HB1 := Aside0.mk (Below.grown (a := w) HB.out hgr HB.out.size (fun k hk => by cases hk)); have HLT := Aside0.mk (fun k (hk : k ∈ G :: gs) => HT.out.lt hk); have HSZ := Aside0.mk HB.out.size; clear hown hgr)
        clear HT HB
        generalize wr.heap.size = G1 at HN HLT HSZ ⊢
        go_loopg [49] (d + 1) (fun gg v49 wr => ∃ (k : Nat) (gn : List Nat), k ≤ d + 1 ∧ d + 1 - k ≤ gg ∧ v49 = .int .i64 k ∧ Aside0 (Tab wr G gs (d + 1) rows) ∧ Aside0 (Tab wr G1 gn (d + 1) (List.replicate k (List.replicate m 0))) ∧ Aside0 (Below w.heap.size w wr))
        case atStart => exact ⟨0, [], Nat.zero_le _, by omega, rfl, HT1, HN, HB1⟩
        case round =>
          clear HN HT1 HB1
          obtain ⟨k, gn, hk, hgk, rfl, HO, HT, HB⟩ := hrel
          by_cases hlt : k < d + 1
          · have hlti : (k : Int) < (d : Int) + 1 := by omega
            have hk0 : (0 : Int) ≤ (k : Int) := by omega
            go_wp2_with ((with_reducible refine gate_dst (N := 58) rfl ?_); refine wpList_make_full _ rfl (.tmp 57) (.tmp 57) 25 rfl w.heap.size 3 i0 (.int .i64 0) 1 Try.underlying25 HI.out HZ0.out HZ1.out .i64 .i64 (m : Int) (m : Int) m rfl rfl rfl rfl (by rw [HZ2.out]; omega) (by simp only [maxLen]; omega) HB.out.size ?_; intro w2 hown hgr; have HR2 := Aside0.mk (row_made hown); have HG2 := Aside0.mk hgr; have HB2 := Aside0.mk (Below.grown (a := w) HB.out hgr HB.out.size (fun k hk => by cases hk)); have HO2 := Aside0.mk (HO.out.grown hgr (by simp)); have hT2 := HT.out.grown hgr (by simp); have hcz := (blk_cell hT2.outer k).trans (outC_nil hT2.len (by simp; omega)); have hfz := blk_frozen hT2.outer k; clear hown hgr hT2)
            go_roundg (d + 1 - (k + 1))
            case measure => omega
            case rel =>
              refine ⟨k + 1, gn ++ [wr.heap.size], by omega, by omega, by go_num, ⟨HO2.out.far _ (fun q hq => Nat.ne_of_lt (HLT.out q hq))⟩, ⟨?_⟩, ⟨below_set HB2.out HSZ.out⟩⟩
              have h_ := Tab.snoc HT.out (by simp; omega) HG2.out HR2.out
              rw [List.length_replicate, ← List.replicate_succ'] at h_
              exact h_
          have hkd : k = d + 1 := by omega
          subst hkd
          clear hk hgk hlt
          go_wp2
          go_loopg [63] (d + 1) (fun gg v63 wr => ∃ (n : Nat) (next : List (List Int)), n ≤ d + 1 ∧ d + 1 - n ≤ gg ∧ v63 = .int .i64 n ∧ Aside0 (Tab wr G gs (d + 1) rows) ∧ Aside0 (Tab wr G1 gn (d + 1) next) ∧ Aside0 (Form d F K m next) ∧ Aside0 (nRun d (f + 1) K (rows.drop n) n next = nRun d (f + 1) K rows 0 (zeroT d m)) ∧ Aside0 (Below w.heap.size w wr))
          case atStart => exact ⟨0, zeroT d m, Nat.zero_le _, by omega, rfl, HO, HT, ⟨Form.zero d F K m⟩, ⟨by rw [List.drop_zero]⟩, HB⟩
          case round =>
            clear HO HT HB
            obtain ⟨n, next, hn, hgn, rfl, HO, HT, HFN, HRN, HB⟩ := hrel
            by_cases hlt : n < d + 1
            · have hlti : (n : Int) < (d : Int) + 1 := by omega
              have hn0 : (0 : Int) ≤ (n : Int) := by omega
              have hnr : n < rows.length := by rw [HFO.out.len]; exact hlt
              obtain ⟨g, hgg, hc0, hf0⟩ := HO.out.at_row hnr
              have hrl : (rows[n]).length = m := by have h_ := HFO.out.row n hlt; rwa [List.getD_eq_getElem?_getD, List.getElem?_eq_getElem hnr, Option.getD_some] at h_
              rw [hrl] at hc0
              have hc0' : wr.cell? ⟨G, n, none⟩ = some (.slice (some ⟨g, 0, none⟩) m m) := hc0
              have HGG := Aside0.mk hgg
              have HDR := Aside0.mk (show rows.drop n = rows[n] :: rows.drop (n + 1) from List.drop_eq_getElem_cons hnr)
              have HRW := Aside0.mk (show rows[n]? = some rows[n] from List.getElem?_eq_getElem hnr)
              have HSUP := Aside0.mk (show ∀ j : Nat, rd rows[n] (j : Int) ≠ 0 → j ≤ min n K * F from fun j hj => HFO.out.sup n j hlt (by rwa [List.getD_eq_getElem?_getD, List.getElem?_eq_getElem hnr, Option.getD_some]))
              generalize rows[n] = row at hrl HDR HRW HSUP
              have HRL := Aside0.mk hrl
              clear hc0 hgg hrl hf0
              go_wp2
              clear hc0'
              go_loopg [70] m (fun gg v70 wr => ∃ (s : Nat) (nx : List (List Int)), s ≤ m ∧ m - s ≤ gg ∧ v70 = .int .i64 s ∧ Aside0 (Tab wr G gs (d + 1) rows) ∧ Aside0 (Tab wr G1 gn (d + 1) nx) ∧ Aside0 (Form d F K m nx) ∧ Aside0 (sRun d (f + 1) K n (row.drop s) s nx = sRun d (f + 1) K n row 0 next) ∧ Aside0 (Below w.heap.size w wr))
              case atStart => exact ⟨0, next, Nat.zero_le _, by omega, rfl, HO, HT, HFN, ⟨by rw [List.drop_zero]⟩, HB⟩
              case round =>
                clear HO HT HB
                obtain ⟨s, nx, hs, hgs, rfl, HO, HT, HFN', HRS, HB⟩ := hrel
                by_cases hlts : s < m
                · have hltsi : (s : Int) < (m : Int) := by omega
                  have hs0 : (0 : Int) ≤ (s : Int) := by omega
                  have hsr : s < row.length := by rw [HRL.out]; exact hlts
                  obtain ⟨hc1, hf1⟩ := HO.out.at_cell HGG.out HRW.out hsr
                  have HDS := Aside0.mk (show row.drop s = rd row (s : Int) :: row.drop (s + 1) by rw [List.drop_eq_getElem_cons hsr]; congr 1; simp [rd, hsr])
                  have HSX := Aside0.mk (HSUP.out s)
                  generalize rd row (s : Int) = x at hc1 HDS HSX
                  clear hf1 hsr
                  by_cases hx : x = 0
                  · subst hx
                    go_wp2
                    go_roundg (m - (s + 1))
                    case measure => omega
                    case rel => exact ⟨s + 1, nx, by omega, by omega, by go_num, HO, HT, HFN', ⟨by rw [← HRS.out, HDS.out]; rfl⟩, HB⟩
                  · have hx1 : (x == 0) = false := by simpa using hx
                    have HX := Aside0.mk hx
                    have HSL := Aside0.mk (HSX.out hx)
                    clear hx
                    go_wp2
                    clear hc1
                    go_loopg [16] (d + 1 - n) (fun gg v16 wr => ∃ (c : Nat) (nz : List (List Int)), n + c ≤ d + 1 ∧ d + 1 - n - c ≤ gg ∧ v16 = .int .i64 c ∧ Aside0 (Tab wr G gs (d + 1) rows) ∧ Aside0 (Tab wr G1 gn (d + 1) nz) ∧ Aside0 (Form d F K m nz) ∧ Aside0 (cRun d (f + 1) K n s x (d + 1 - n - c) c nz = cRun d (f + 1) K n s x (d + 1 - n) 0 nx) ∧ Aside0 (Below w.heap.size w wr))
                    case atStart => exact ⟨0, nx, by omega, by omega, rfl, HO, HT, HFN', ⟨rfl⟩, HB⟩
                    case round =>
                      clear HO HT HB
                      obtain ⟨c, nz, hnc, hgc, rfl, HO, HT, HFZ, HRC, HB⟩ := hrel
                      have hwnc : IntKind.i64.wrap ((n : Int) + (c : Int)) = (n : Int) + (c : Int) := by rw [IntKind.wrap_i64]; omega
                      by_cases hcd : n + c ≤ d
                      · have hcdi : (n : Int) + (c : Int) ≤ (d : Int) := by omega
                        obtain ⟨q, hq⟩ : ∃ q, q = min c (K - n) := ⟨_, rfl⟩
                        obtain ⟨p0, hp0⟩ : ∃ p0, p0 = (f + 1) * q := ⟨_, rfl⟩
                        obtain ⟨p, hp⟩ : ∃ p, p = s + p0 := ⟨_, rfl⟩
                        obtain ⟨e, he⟩ : ∃ e, e = d - n := ⟨_, rfl⟩
                        have hpm : p < m := by
                          have h_ := spot_le (c := c) HSL.out hf
                          have h2_ : min (n + c) K * F ≤ d * F := Nat.mul_le_mul_right _ (by omega)
                          rw [hp, hp0, hq, HM.out]
                          omega
                        have hwk : IntKind.i64.wrap ((K : Int) - (n : Int)) = (K : Int) - (n : Int) := by rw [IntKind.wrap_i64]; omega
                        obtain ⟨q1, hq1⟩ : ∃ q1 : Int, (if (K : Int) - (n : Int) < (c : Int) then (K : Int) - (n : Int) else (c : Int)) = q1 := ⟨_, rfl⟩
                        have hq2 : (if (0 : Int) < q1 then q1 else 0) = (q : Int) := by
                          rw [← hq1]
                          split <;> split <;> omega
                        have hp0i : ((f : Int) + 1) * (q : Int) = (p0 : Int) := by rw [hp0]; simp
                        have hwp : IntKind.i64.wrap (((f : Int) + 1) * (q : Int)) = (p0 : Int) := by rw [hp0i, IntKind.wrap_i64]; omega
                        have hws : IntKind.i64.wrap ((s : Int) + (p0 : Int)) = (p : Int) := by rw [IntKind.wrap_i64]; omega
                        have hwe : IntKind.i64.wrap ((d : Int) - (n : Int)) = (e : Int) := by rw [IntKind.wrap_i64]; omega
                        have hncr : n + c < nz.length := by rw [HFZ.out.len]; omega
                        obtain ⟨gc, hgc', hc0, hf0⟩ := HT.out.at_row hncr
                        have hrz : nz[n + c]? = some (nz.getD (n + c) []) := getD_at hncr
                        have hrl2 : (nz.getD (n + c) []).length = m := HFZ.out.row (n + c) (by omega)
                        have hrl3 : (nz[n + c]).length = m := by rw [← hrl2, List.getD_eq_getElem?_getD, List.getElem?_eq_getElem hncr, Option.getD_some]
                        rw [hrl3] at hc0
                        obtain ⟨hc1, hf1⟩ := HT.out.at_cell hgc' hrz (j := p) (by rw [hrl2]; exact hpm)
                        have hca : wr.drew.cell? ⟨G1, n + c, none⟩ = some (.slice (some ⟨gc, 0, none⟩) m m) := hc0
                        have hcb : wr.drew.cell? ⟨gc, p, none⟩ = some (.int .i64 (rd (nz.getD (n + c) []) (p : Int))) := hc1
                        have hfb : wr.drew.frozen? ⟨gc, p, none⟩ = false := hf1
                        have hcaN : ∀ q_, (wr.drewN q_).cell? ⟨G1, n + c, none⟩ = some (.slice (some ⟨gc, 0, none⟩) m m) := fun _ => hc0
                        have hcbN : ∀ q_, (wr.drewN q_).cell? ⟨gc, p, none⟩ = some (.int .i64 (rd (nz.getD (n + c) []) (p : Int))) := fun _ => hc1
                        have hfbN : ∀ q_, (wr.drewN q_).frozen? ⟨gc, p, none⟩ = false := fun _ => hf1
                        have HCH := Aside0.mk (show impl_choose.f 20 (e : Int) (c : Int) = some (chooseN e c) from choose_val (by omega) (by omega))
                        have HGC := Aside0.mk hgc'
                        have HRZ := Aside0.mk hrz
                        have HTD := Aside0.mk (show Tab wr.drew G1 gn (d + 1) nz from HT.out.same rfl)
                        have HOD := Aside0.mk (show Tab wr.drew G gs (d + 1) rows from HO.out.same rfl)
                        have HBD := Aside0.mk (below_drew1 HB.out)
                        have HPQ := Aside0.mk (show s + (f + 1) * min c (K - n) = p by rw [hp, hp0, hq])
                        have HEE := Aside0.mk he
                        have hpi : (p : Int) < (m : Int) := by omega
                        have hp00 : (0 : Int) ≤ (p : Int) := by omega
                        have hnci : (n : Int) + (c : Int) < (d : Int) + 1 := by omega
                        have hnc0 : (0 : Int) ≤ (n : Int) + (c : Int) := by omega
                        have hnct : ((n : Int) + (c : Int)).toNat = n + c := by omega
                        clear hgc' hc0 hf0 hrz hrl2 hrl3 hc1 hf1 hp0i hp hp0 hq he hncr
                        go_wp2
                        go_region_with (go_at_call 44; refine (impl_choose.calls 20 (e : Int) (c : Int) (chooseN e c) _ HCH.out).mono ?_; rintro e' w' ⟨rfl, ⟨nd, rfl⟩⟩)
                        all_goals
                          go_wp2
                          go_roundg (d + 1 - n - (c + 1))
                          case measure => omega
                          case rel =>
                            have hgm : gc ∈ G1 :: gn := by simp [List.mem_of_getElem? HGC.out]
                            have hG1c := HT.out.ge hgm
                            refine ⟨c + 1, upd d (f + 1) K n s x nz c, by omega, by omega, by go_num, ⟨(HO.out.same (W' := wr.drewN (1 + nd)) rfl).far _ (fun q hq => Nat.ne_of_lt (Nat.lt_of_lt_of_le (HLT.out q hq) hG1c))⟩, ⟨?_⟩, ⟨HFZ.out.upd HSL.out hf hcd⟩, ⟨?_⟩, ⟨below_set (pw_below_drewN HB.out _) (Nat.le_trans HSZ.out hG1c)⟩⟩
                            · have h_ := (HT.out.same (W' := wr.drewN (1 + nd)) rfl).put (j := p) HGC.out HRZ.out (wrap64 (rd (nz.getD (n + c) []) (p : Int) + wrap64 (x * chooseN e c)))
                              have e_ : upd d (f + 1) K n s x nz c = nz.set (n + c) ((nz.getD (n + c) []).set p (wrap64 (rd (nz.getD (n + c) []) (p : Int) + wrap64 (x * chooseN e c)))) := by
                                unfold upd
                                rw [HPQ.out, ← HEE.out]
                              rw [e_]
                              exact h_
                            · rw [← HRC.out, show d + 1 - n - c = (d + 1 - n - (c + 1)) + 1 by omega]
                              rfl
                      · have hcdi : ¬ (n : Int) + (c : Int) ≤ (d : Int) := by omega
                        go_wp2
                        go_roundg (m - (s + 1))
                        case measure => omega
                        case rel =>
                          refine ⟨s + 1, nz, by omega, by omega, by go_num, HO, HT, HFZ, ⟨?_⟩, HB⟩
                          rw [← HRS.out, HDS.out]
                          have h_ := HRC.out
                          rw [show d + 1 - n - c = 0 by omega] at h_
                          show sRun d (f + 1) K n (row.drop (s + 1)) (s + 1) nz = sRun d (f + 1) K n (row.drop (s + 1)) (s + 1) (if x = 0 then nx else cRun d (f + 1) K n s x (d + 1 - n) 0 nx)
                          rw [if_neg HX.out, ← h_]
                          rfl
                · have hsm : s = m := by omega
                  subst hsm
                  have hltsi : ¬ (s : Int) < (s : Int) := by omega
                  go_wp2
                  go_roundg (d + 1 - (n + 1))
                  case measure => omega
                  case rel =>
                    refine ⟨n + 1, nx, by omega, by omega, by go_num, HO, HT, HFN', ⟨?_⟩, HB⟩
                    rw [← HRN.out, HDR.out]
                    have h_ := HRS.out
                    rw [List.drop_of_length_le (by rw [HRL.out]; exact Nat.le_refl _)] at h_
                    show nRun d (f + 1) K (rows.drop (n + 1)) (n + 1) nx = nRun d (f + 1) K (rows.drop (n + 1)) (n + 1) (sRun d (f + 1) K n row 0 next)
                    rw [← h_]
                    rfl
            · have hnd : n = d + 1 := by omega
              subst hnd
              have hfw : IntKind.i64.wrap ((f : Int) + 1 - 1) = (f : Int) := by rw [IntKind.wrap_i64]; omega
              go_wp2
              go_roundg f
              case measure => omega
              case rel =>
                refine ⟨f, G1, gn, next, by omega, by omega, by go_num, rfl, HSZ, HT, HFN, ⟨?_⟩, HB⟩
                rw [← HRES.out]
                have h_ := HRN.out
                rw [List.drop_of_length_le (by rw [HFO.out.len]; exact Nat.le_refl _)] at h_
                show (fRun d m K f next).getD d [] = (fRun d m K f (nRun d (f + 1) K rows 0 (zeroT d m))).getD d []
                rw [← h_]
                rfl
      · have hf0 : f = 0 := by omega
        subst hf0
        have hdr : d < rows.length := by rw [HFO.out.len]; omega
        obtain ⟨g, hgg, hc0, hfz0⟩ := HT.out.at_row hdr
        have hrow : (rows[d]).length = m := by have h_ := HFO.out.row d (by omega); rwa [List.getD_eq_getElem?_getD, List.getElem?_eq_getElem hdr, Option.getD_some] at h_
        rw [hrow] at hc0
        have hc0' : wr.cell? ⟨G, d, none⟩ = some (.slice (some ⟨g, 0, none⟩) m m) := hc0
        have HR : Aside0 (Kd.R (Kd.int .i64) 3 wr w.heap.size (fun _ => True) (.slice (some ⟨g, 0, none⟩) m m) (waysL d F K)) := by
          refine ⟨?_⟩
          have h1 : rows[d] = waysL d F K := by rw [← HRES.out]; show _ = rows.getD d []; rw [List.getD_eq_getElem?_getD, List.getElem?_eq_getElem hdr, Option.getD_some]
          have hb := HT.out.row d g rows[d] hgg (List.getElem?_eq_getElem hdr)
          rw [← h1]
          have hge : w.heap.size ≤ g := Nat.le_trans HGE.out (HT.out.ge (by simp [List.mem_of_getElem? hgg]))
          have h_ := Kd.R_of_own (enc := Value.int .i64) (h1 := fun _ => rfl) (e := 3) (w := wr) (base := w.heap.size) (ok := fun _ => True) (v := .slice (some ⟨g, 0, none⟩) m m) (xs := rows[d])
            ⟨by simp [encs], .inr ⟨g, m, _, by rw [hrow], hge, hb, by rw [hrow]; exact Nat.le_refl _, by simp [maxLen]; omega, by simp [rowC, hrow], by simp [encs, rowC]; rw [← List.map_take, List.take_of_length_le (by rw [hrow]; exact Nat.le_refl _)]⟩⟩ (fun _ _ => trivial)
          exact h_
        have hdi : (d : Int) < (d : Int) + 1 := by omega
        have hd00 : (0 : Int) ≤ (d : Int) := by omega
        clear hc0 hgg hrow hdr
        go_wp2
        go_ret
        exact ⟨_, rfl, HR.out, HB.out⟩

end Go.Proofs.Ytbnbokiiakampaa.P
