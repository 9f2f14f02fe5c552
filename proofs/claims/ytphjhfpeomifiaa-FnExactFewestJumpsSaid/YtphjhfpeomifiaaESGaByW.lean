/- spec.gaBy: the walk. Boards with at most a thousand squares. -/
import Derived.Test.YtphjhfpeomifiaaESGaBy
namespace Go.Proofs.Ytphjhfpeomifiaa.P
open Go.RowKit Go.Proofs.YtphjhfpeomifiaaW.PrintWords Go.Proofs.YtphjhfpeomifiaaW.PrintLast Go.Proofs.YtphjhfpeomifiaaW.PrintMore
set_option linter.unusedVariables false
set_option linter.unusedSimpArgs false

set_option maxHeartbeats 16000000 in
set_option maxRecDepth 100000 in
theorem gaBy_walk (k : Nat) (S F : Nat) (o : Int) (A0 : Option Addr) (c0 : Nat) (l0 : List S70) (a1 : Int) (fin : List (List Int)) (w : World) (hr0 : Kd.C k70 w A0 l0.length l0) (hc0 : l0.length ≤ c0) (hS : 1 ≤ S ∧ S ≤ 1000) (hF : F ≤ 1000) (hA1 : a1 ≤ 1000) (h : tRunB k (S : Int) (F : Int) o l0 a1.toNat (initB S) = some fin) :
    Calls Try.prog 52 #[.agg #[.int .i64 (S : Int), .int .i64 (F : Int), .int .i64 o, .slice A0 l0.length c0], .int .i64 a1] w fun e w' => ∃ v0_ : Value, e = .returned (v0_) ∧ Kd.R (Kd.int .i64) 3 w' w.heap.size (fun _ => True) v0_ ((fin.getD 0 []).take 17) ∧ Below w.heap.size w w' := by
  have hu30 := Try.underlying30
  have HR := Aside0.mk hr0
  have HC := Aside0.mk hc0
  have HS := Aside0.mk hS
  have HF := Aside0.mk hF
  have HH := Aside0.mk h
  have HA1 := Aside0.mk hA1
  have hw1 : IntKind.i64.wrap ((S : Int) + 1) = ((S + 1 : Nat) : Int) := by rw [IntKind.wrap_i64]; omega
  clear hr0 hc0 hS hF h hA1
  obtain ⟨i0, hi0, hz0, hz1, hz2⟩ := info_parts info3
  have HI0 := Aside0.mk hi0
  have HZ00 := Aside0.mk hz0
  have HZ01 := Aside0.mk hz1
  have HZ02 := Aside0.mk hz2
  clear hi0 hz0 hz1 hz2
  obtain ⟨i1, hi0, hz0, hz1, hz2⟩ := info_parts info_rowB
  have HI1 := Aside0.mk hi0
  have HZ10 := Aside0.mk hz0
  have HZ11 := Aside0.mk hz1
  have HZ12 := Aside0.mk hz2
  clear hi0 hz0 hz1 hz2
  go_enter Try.func52, Try.ntmps52
  go_wp2_with (first | ((with_reducible refine gate_dst (N := 2) rfl ?_); refine box_event ?hg (N := 2) ?hd (cs := #[.int .i64 (S : Int), .int .i64 (F : Int), .int .i64 o, .slice A0 l0.length c0]) (t := 30) ?hr ?_; (case hd => rfl); (case hg => rfl); (case hr => first | (go_simp; done) | (go_simp; rfl)); intro B hgb_ w1 hbox hb; have BK := Aside0.mk hbox; have HW1 : Aside0 (Below w.heap.size w w1) := ⟨hb⟩; have HLB := Aside0.mk (blk_lt hbox); have hbk_ : w1.heap[B]? = some (.cells #[.int .i64 (S : Int), .int .i64 (F : Int), .int .i64 o, .slice A0 l0.length c0] 30 (0, 0)) := BK.out; have hz0 : w1.cell? ⟨B, 0, none⟩ = some (.int .i64 (S : Int)) := (blk_cell hbk_ 0).trans rfl; have hz1 : w1.cell? ⟨B, 1, none⟩ = some (.int .i64 (F : Int)) := (blk_cell hbk_ 1).trans rfl; have hz2 : w1.cell? ⟨B, 2, none⟩ = some (.int .i64 o) := (blk_cell hbk_ 2).trans rfl; have hz3 : w1.cell? ⟨B, 3, none⟩ = some (.slice A0 l0.length c0) := (blk_cell hbk_ 3).trans rfl; clear hbk_; clear hb hbox hgb_) | ((with_reducible refine gate_dst (N := 16) rfl ?_); refine wpList_make_full _ rfl (.tmp 15) (.tmp 15) 79 rfl w1.heap.size 36 i1 (.slice none 0 0) 1 Try.underlying79 HI1.out HZ10.out HZ11.out .i64 .i64 ((S + 1 : Nat) : Int) ((S + 1 : Nat) : Int) (S + 1) rfl rfl rfl rfl (by rw [HZ12.out]; have := HS.out; omega) (by simp only [maxLen]; have := HS.out; omega) (Nat.le_refl _) ?_; intro w2 hown hgr; have HT := Aside0.mk (Tab.made hown); have HB := Aside0.mk (Below.grown (a := w1) (Below.refl _ _) hgr (Nat.le_refl _) (fun k hk => by cases hk)); clear hown hgr))
  clear hz0 hz1 hz2 hz3
  go_loopg [19] (S + 1) (fun gg v19 wr => ∃ (i : Nat) (gs : List Nat), i ≤ S + 1 ∧ S + 1 - i ≤ gg ∧ v19 = .int .i64 i ∧ Aside0 (Tab wr w1.heap.size gs (S + 1) (List.replicate i (List.replicate 18 0))) ∧ Aside0 (Below w1.heap.size w1 wr))
  case atStart => exact ⟨0, [], Nat.zero_le _, by omega, rfl, HT, HB⟩
  case round =>
    clear HT HB
    obtain ⟨i, gs, hi, hg, rfl, HT, HB⟩ := hrel
    by_cases hlt : i < S + 1
    case pos =>
      have hlti : (i : Int) < (S : Int) + 1 := by omega
      have hi0 : (0 : Int) ≤ (i : Int) := by omega
      have hi16 : i < 1001 := by have := HS.out; omega
      go_wp2_with (((with_reducible refine gate_dst (N := 24) rfl ?_); refine wpList_make_full _ rfl (.const (.int .i64 18)) (.const (.int .i64 18)) 36 rfl w1.heap.size 3 i0 (.int .i64 0) 1 Try.underlying36 HI0.out HZ00.out HZ01.out .i64 .i64 (18 : Int) (18 : Int) 18 rfl rfl rfl rfl (by rw [HZ02.out]; omega) (by simp only [maxLen]; omega) HB.out.size ?_; intro w2 hown hgr; have HR2 := Aside0.mk (row_made hown); have HG2 := Aside0.mk hgr; have HB2 := Aside0.mk (Below.grown (a := w1) HB.out hgr HB.out.size (fun k hk => by cases hk)); have hT2 := HT.out.grown hgr (by simp); have hcz := (blk_cell hT2.outer i).trans (outC_nilB hT2.len (by simp; omega)); have hfz := blk_frozen hT2.outer i; clear hown hgr hT2))
      go_roundg (S + 1 - (i + 1))
      case measure => omega
      case rel =>
        refine ⟨i + 1, gs ++ [wr.heap.size], by omega, by omega, by go_num, ⟨?_⟩, ⟨below_set HB2.out (Nat.le_refl _)⟩⟩
        have h_ := Tab.snoc HT.out (by simp; omega) HG2.out HR2.out
        rw [List.length_replicate, ← List.replicate_succ'] at h_
        exact h_
    have hiS : i = S + 1 := by omega
    subst hiS
    clear hi hg hlt
    obtain ⟨g0, hg0, hc0, hf0⟩ := HT.out.at_row (i := S) (by simp)
    have hrS : (List.replicate (S + 1) (List.replicate 18 (0 : Int)))[S]? = some (List.replicate 18 0) := by rw [List.getElem?_replicate, if_pos (by omega)]
    obtain ⟨hc1, hf1⟩ := HT.out.at_cell hg0 hrS (j := 0) (by simp)
    rw [List.getElem_replicate, List.length_replicate] at hc0
    have hc0' : wr.cell? ⟨w1.heap.size, S, none⟩ = some (.slice (some ⟨g0, 0, none⟩) 18 18) := hc0
    have hge : w1.heap.size ≤ g0 := HT.out.ge (by simp [List.mem_of_getElem? hg0])
    have HT1 : Aside0 (Tab (wr.setCell ⟨g0, 0, none⟩ (.int .i64 1)) w1.heap.size gs (S + 1) (initB S)) := ⟨HT.out.put hg0 hrS 1⟩
    have HB1 := Aside0.mk (below_set (v := .int .i64 1) (j := 0) HB.out hge)
    have hbk_ : wr.heap[B]? = some (.cells #[.int .i64 (S : Int), .int .i64 (F : Int), .int .i64 o, .slice A0 l0.length c0] 30 (0, 0)) := blk_below BK.out HB.out
    have hy0 : wr.cell? ⟨B, 0, none⟩ = some (.int .i64 (S : Int)) := (blk_cell hbk_ 0).trans rfl
    have hy1 : wr.cell? ⟨B, 1, none⟩ = some (.int .i64 (F : Int)) := (blk_cell hbk_ 1).trans rfl
    have hy2 : wr.cell? ⟨B, 2, none⟩ = some (.int .i64 o) := (blk_cell hbk_ 2).trans rfl
    have hy3 : wr.cell? ⟨B, 3, none⟩ = some (.slice A0 l0.length c0) := (blk_cell hbk_ 3).trans rfl
    clear hbk_
    have hS0 : (0 : Int) ≤ (S : Int) := by omega
    have hS1 : (S : Int) < (S : Int) + 1 := by omega
    have hS2 : (S : Int) < ((S + 1 : Nat) : Int) := by omega
    clear hc0 hg0 hge HT HB hrS
    go_wp2
    clear hc0' hc1 hf0 hf1 hy0 hy1 hy2 hy3
    go_loopg [5, 1] a1.toNat (fun gg v5 v1 wr => ∃ (x1 : Int) (G : Nat) (gs : List Nat) (rows : List (List Int)), x1.toNat ≤ gg ∧ v1 = .int .i64 x1 ∧ v5 = .slice (some ⟨G, 0, none⟩) (S + 1) (S + 1) ∧ Aside0 (x1.toNat ≤ a1.toNat ∧ x1 ≤ a1) ∧ Aside0 (w1.heap.size ≤ G) ∧ Aside0 (Tab wr G gs (S + 1) rows) ∧ Aside0 (Row18 rows ∧ rows.length = S + 1) ∧ Aside0 (tRunB k (S : Int) (F : Int) o l0 x1.toNat rows = some fin) ∧ Aside0 (Below w1.heap.size w1 wr))
    case atStart => exact ⟨a1, w1.heap.size, gs, initB S, Nat.le_refl _, rfl, rfl, ⟨Nat.le_refl _, Int.le_refl _⟩, ⟨Nat.le_refl _⟩, HT1, ⟨Row18.init S, by simp [initB, zeroB]⟩, HH, HB1⟩
    case round =>
      clear HT1 HB1
      obtain ⟨x1, G, gs, rows, hgg, rfl, rfl, HXL, HGE, HT, HFO, HRES, HB⟩ := hrel
      have hbk_ : wr.heap[B]? = some (.cells #[.int .i64 (S : Int), .int .i64 (F : Int), .int .i64 o, .slice A0 l0.length c0] 30 (0, 0)) := blk_below BK.out HB.out
      have hy0 : wr.cell? ⟨B, 0, none⟩ = some (.int .i64 (S : Int)) := (blk_cell hbk_ 0).trans rfl
      have hy1 : wr.cell? ⟨B, 1, none⟩ = some (.int .i64 (F : Int)) := (blk_cell hbk_ 1).trans rfl
      have hy2 : wr.cell? ⟨B, 2, none⟩ = some (.int .i64 o) := (blk_cell hbk_ 2).trans rfl
      have hy3 : wr.cell? ⟨B, 3, none⟩ = some (.slice A0 l0.length c0) := (blk_cell hbk_ 3).trans rfl
      clear hbk_
      by_cases hx1 : x1 > 0
      case neg =>
        have hdr : 0 < rows.length := by have := HFO.out.2; omega
        obtain ⟨g, hgg', hc0, hfz0⟩ := HT.out.at_row hdr
        have hrow : (rows[0]).length = 18 := HFO.out.1 _ (List.getElem_mem hdr)
        rw [hrow] at hc0
        have hc0' : wr.cell? ⟨G, 0, none⟩ = some (.slice (some ⟨g, 0, none⟩) 18 18) := hc0
        have HRR : Aside0 (Kd.R (Kd.int .i64) 3 wr w.heap.size (fun _ => True) (.slice (some ⟨g, 0, none⟩) 17 18) ((fin.getD 0 []).take 17)) := by
          refine ⟨Kd.R_take (n := 18) ?_ ?_⟩
          · have hres := HRES.out
            rw [show x1.toNat = 0 by omega] at hres
            have hfin : rows = fin := Option.some.inj hres
            subst hfin
            have h1 : rows.getD 0 [] = rows[0] := by rw [List.getD_eq_getElem?_getD, List.getElem?_eq_getElem hdr, Option.getD_some]
            rw [h1]
            have hb := HT.out.row 0 g rows[0] hgg' (List.getElem?_eq_getElem hdr)
            have hge : w.heap.size ≤ g := Nat.le_trans HW1.out.size (Nat.le_trans HGE.out (HT.out.ge (by simp [List.mem_of_getElem? hgg'])))
            have h_ := Kd.R_of_own (enc := Value.int .i64) (h1 := fun _ => rfl) (e := 3) (w := wr) (base := w.heap.size) (ok := fun _ => True) (v := .slice (some ⟨g, 0, none⟩) 18 18) (xs := rows[0])
              ⟨by simp [encs], .inr ⟨g, 18, _, by rw [hrow], hge, hb, by rw [hrow]; exact Nat.le_refl _, by simp [maxLen], by simp [rowC, hrow], by simp [encs, rowC]; rw [← List.map_take, List.take_of_length_le (by rw [hrow]; exact Nat.le_refl _)]⟩⟩ (fun _ _ => trivial)
            exact h_
          · have hres := HRES.out
            rw [show x1.toNat = 0 by omega] at hres
            have hfin : rows = fin := Option.some.inj hres
            subst hfin
            rw [List.getD_eq_getElem?_getD, List.getElem?_eq_getElem hdr, Option.getD_some, hrow]; decide
        have hd1 : (0 : Int) < (S : Int) + 1 := by omega
        have hd2 : (0 : Int) < ((S + 1 : Nat) : Int) := by omega
        clear hc0 hgg' hrow hdr
        go_wp2
        go_ret
        exact ⟨_, rfl, HRR.out, below_step HW1.out HB.out⟩
      obtain ⟨n, hn⟩ : ∃ n, x1.toNat = n + 1 := ⟨x1.toNat - 1, by omega⟩
      have hres := HRES.out
      rw [hn] at hres
      unfold tRunB at hres
      rw [Int.toNat_natCast] at hres
      obtain ⟨nxF, hA, hTn⟩ := Option.bind_eq_some_iff.1 hres
      have HTN := Aside0.mk hTn
      have HA0 := Aside0.mk hA
      have HN := Aside0.mk hn
      clear hres hA hTn hn HRES
      have hxb : decide (x1 > 0) = true := decide_eq_true hx1
      go_wp2_with (((with_reducible refine gate_dst (N := 40) rfl ?_); refine wpList_make_full _ rfl (.tmp 39) (.tmp 39) 79 rfl w1.heap.size 36 i1 (.slice none 0 0) 1 Try.underlying79 HI1.out HZ10.out HZ11.out .i64 .i64 ((S + 1 : Nat) : Int) ((S + 1 : Nat) : Int) (S + 1) rfl rfl rfl rfl (by rw [HZ12.out]; have := HS.out; omega) (by simp only [maxLen]; have := HS.out; omega) HB.out.size ?_; intro w2 hown hgr; have HNX := Aside0.mk (Tab.made hown); have HT1 := Aside0.mk (HT.out.grown hgr (by simp)); have HB1 := Aside0.mk (Below.grown (a := w1) HB.out hgr HB.out.size (fun k hk => by cases hk)); have HLT := Aside0.mk (fun k (hk : k ∈ G :: gs) => HT.out.lt hk); have HSZ := Aside0.mk HB.out.size; clear hown hgr))
      clear HT HB hy0 hy1 hy2 hy3
      generalize wr.heap.size = G1 at HNX HLT HSZ ⊢
      go_loopg [43] (S + 1) (fun gg v43 wr => ∃ (i : Nat) (gn : List Nat) (nx : List (List Int)), i ≤ S + 1 ∧ S + 1 - i ≤ gg ∧ v43 = .int .i64 i ∧ Aside0 (Tab wr G gs (S + 1) rows) ∧ Aside0 (Tab wr G1 gn (S + 1) nx) ∧ Aside0 (Row18 nx ∧ nx.length = i) ∧ Aside0 (aRunB k (S : Int) (F : Int) o l0 rows (S + 1 - i) i nx = some nxF) ∧ Aside0 (Below w1.heap.size w1 wr))
      case atStart => exact ⟨0, [], [], Nat.zero_le _, by omega, rfl, HT1, HNX, ⟨fun _ h_ => by simp at h_, rfl⟩, HA0, HB1⟩
      case round =>
        clear HT1 HNX HA0 HB1
        obtain ⟨i, gn, nx, hi, hgi, rfl, HO, HT, HFN, HAR, HB⟩ := hrel
        by_cases hlt : i < S + 1
        case neg =>
          have hiS : i = S + 1 := by omega
          subst hiS
          have hlti : ¬ (S : Int) + 1 < (S : Int) + 1 := by omega
          have hnx : nx = nxF := by have h_ := HAR.out; rw [Nat.sub_self] at h_; exact Option.some.inj h_
          subst hnx
          have hx1k : x1 ≤ 1000 := by have := HXL.out; have := HA1.out; omega
          go_wp2
          go_roundg n
          case measure => have := HN.out; omega
          case rel => exact ⟨x1 - 1, G1, gn, nx, by have := HN.out; omega, by first | rfl | go_num, rfl, ⟨by have := HXL.out; omega, by have := HXL.out; omega⟩, HSZ, HT, ⟨HFN.out.1, HFN.out.2⟩, ⟨by rw [show (x1 - 1).toNat = n by have := HN.out; omega]; exact HTN.out⟩, HB⟩
        have hlti : (i : Int) < (S : Int) + 1 := by omega
        have hi0 : (0 : Int) ≤ (i : Int) := by omega
        have hi16 : i < 1001 := by have := HS.out; omega
        have har := HAR.out
        rw [show S + 1 - i = (S + 1 - (i + 1)) + 1 by omega] at har
        unfold aRunB at har
        obtain ⟨yF, hy, hrest⟩ := Option.bind_eq_some_iff.1 har
        have HY := Aside0.mk hy
        have HREST := Aside0.mk hrest
        have HLT1 := Aside0.mk hlt
        clear har hy hrest HAR
        have hbk_ : wr.heap[B]? = some (.cells #[.int .i64 (S : Int), .int .i64 (F : Int), .int .i64 o, .slice A0 l0.length c0] 30 (0, 0)) := blk_below BK.out HB.out
        have hy0 : wr.cell? ⟨B, 0, none⟩ = some (.int .i64 (S : Int)) := (blk_cell hbk_ 0).trans rfl
        have hy1 : wr.cell? ⟨B, 1, none⟩ = some (.int .i64 (F : Int)) := (blk_cell hbk_ 1).trans rfl
        have hy2 : wr.cell? ⟨B, 2, none⟩ = some (.int .i64 o) := (blk_cell hbk_ 2).trans rfl
        have hy3 : wr.cell? ⟨B, 3, none⟩ = some (.slice A0 l0.length c0) := (blk_cell hbk_ 3).trans rfl
        clear hbk_
        have HTS := fun w2 (hg_ : wr.grownBy w2 none) hr_ => Tab.snoc (m := 18) HT.out (by have := HFN.out.2; omega) (W1 := w2) hg_ hr_
        replace HTS := Aside0.mk HTS
        by_cases hiS : i = S
        case pos =>
          have hbS : ((i : Int) == (S : Int)) = true := by simp; omega
          have HIS := Aside0.mk hiS
          clear hiS
          go_wp2_with (((with_reducible refine gate_dst (N := 48) rfl ?_); refine wpList_make_full _ rfl (.const (.int .i64 18)) (.const (.int .i64 18)) 36 rfl w1.heap.size 3 i0 (.int .i64 0) 1 Try.underlying36 HI0.out HZ00.out HZ01.out .i64 .i64 (18 : Int) (18 : Int) 18 rfl rfl rfl rfl (by rw [HZ02.out]; omega) (by simp only [maxLen]; omega) HB.out.size ?_; intro w2 hown hgr; have HR2 := Aside0.mk (row_made hown); have HG2 := Aside0.mk hgr; have HB2 := Aside0.mk (Below.grown (a := w1) HB.out hgr HB.out.size (fun k hk => by cases hk)); have HO2 := Aside0.mk (HO.out.grown hgr (by simp)); have hT2 := HT.out.grown hgr (by simp); have hcz := (blk_cell hT2.outer i).trans (outC_nilB hT2.len (by have := HFN.out.2; omega)); have hfz := blk_frozen hT2.outer i; have hG1_ := blk_lt hT2.outer; have hbs_ : ∀ u, (w2.setCell ⟨G1, i, none⟩ u).heap[B]? = some (.cells #[.int .i64 (S : Int), .int .i64 (F : Int), .int .i64 o, .slice A0 l0.length c0] 30 (0, 0)) := fun u => (Below.heap_setCell w2 ⟨G1, i, none⟩ u B (by have h1_ := HLB.out; have h2_ := HSZ.out; simp only; omega)).trans (blk_below BK.out HB2.out); have hs0_ : ∀ u, (w2.setCell ⟨G1, i, none⟩ u).cell? ⟨B, 0, none⟩ = some (.int .i64 (S : Int)) := fun u => (blk_cell (hbs_ u) 0).trans rfl; clear hown hgr hT2 hbs_ hG1_))
          go_roundg (S + 1 - (i + 1))
          case measure => have := HLT1.out; omega
          case rel =>
            have h_ := HTS.out _ HG2.out HR2.out
            have e_ : yF = List.replicate 18 0 := by have h1_ := HY.out; unfold rowB at h1_; rw [if_pos (by have := HIS.out; omega)] at h1_; exact (Option.some.inj h1_).symm
            have hr_ := HREST.out
            rw [e_] at hr_
            rw [HFN.out.2] at h_
            exact ⟨i + 1, _, _, by have := HLT1.out; omega, Nat.le_refl _, by go_num, ⟨HO2.out.far _ (fun q hq => Nat.ne_of_lt (HLT.out q hq))⟩, ⟨h_⟩, ⟨HFN.out.1.snoc (by simp), by simp [HFN.out.2]⟩, ⟨hr_⟩, ⟨below_set HB2.out HSZ.out⟩⟩
        have hbS : ((i : Int) == (S : Int)) = false := by simp; omega
        have hyF := HY.out
        unfold rowB at hyF
        rw [if_neg (by omega), Int.toNat_natCast] at hyF
        have HFR := Aside0.mk hyF
        have HIS := Aside0.mk (show i < S by omega)
        clear hyF hiS HY
        go_wp2_with (((with_reducible refine gate_dst (N := 48) rfl ?_); refine wpList_make_full _ rfl (.const (.int .i64 18)) (.const (.int .i64 18)) 36 rfl w1.heap.size 3 i0 (.int .i64 0) 1 Try.underlying36 HI0.out HZ00.out HZ01.out .i64 .i64 (18 : Int) (18 : Int) 18 rfl rfl rfl rfl (by rw [HZ02.out]; omega) (by simp only [maxLen]; omega) HB.out.size ?_; intro w2 hown hgr; have HR2 := Aside0.mk (row_made hown); have HG2 := Aside0.mk hgr; have HB2 := Aside0.mk (Below.grown (a := w1) HB.out hgr HB.out.size (fun k hk => by cases hk)); have HO2 := Aside0.mk (HO.out.grown hgr (by simp)); have hT2 := HT.out.grown hgr (by simp); have hcz := (blk_cell hT2.outer i).trans (outC_nilB hT2.len (by have := HFN.out.2; omega)); have hfz := blk_frozen hT2.outer i; have hG1_ := blk_lt hT2.outer; have hbs_ : ∀ u, (w2.setCell ⟨G1, i, none⟩ u).heap[B]? = some (.cells #[.int .i64 (S : Int), .int .i64 (F : Int), .int .i64 o, .slice A0 l0.length c0] 30 (0, 0)) := fun u => (Below.heap_setCell w2 ⟨G1, i, none⟩ u B (by have h1_ := HLB.out; have h2_ := HSZ.out; simp only; omega)).trans (blk_below BK.out HB2.out); have hs0_ : ∀ u, (w2.setCell ⟨G1, i, none⟩ u).cell? ⟨B, 0, none⟩ = some (.int .i64 (S : Int)) := fun u => (blk_cell (hbs_ u) 0).trans rfl; clear hown hgr hT2 hbs_ hG1_))
        have HTN1 := HTS.out _ HG2.out HR2.out
        rw [HFN.out.2] at HTN1
        replace HTN1 := Aside0.mk HTN1
        have HWR := Aside0.mk (HB.out.size)
        generalize wr.heap.size = gy at HTN1 HWR ⊢
        go_loopg [9] F (fun gg v9 wr => ∃ (t : Nat) (y : List Int), t ≤ F ∧ F - t ≤ gg ∧ v9 = .int .i64 ((t : Int) + 1) ∧ Aside0 (Tab wr G gs (S + 1) rows) ∧ Aside0 (Tab wr G1 (gn ++ [gy]) (S + 1) (nx ++ [y])) ∧ Aside0 (y.length = 18) ∧ Aside0 (fRunB k (S : Int) (F : Int) o l0 rows (i : Int) (F - t) t y = some yF) ∧ Aside0 (Below w1.heap.size w1 wr))
        case atStart => exact ⟨0, List.replicate 18 0, Nat.zero_le _, by omega, rfl, ⟨HO2.out.far _ (fun q hq => Nat.ne_of_lt (HLT.out q hq))⟩, HTN1, ⟨by simp⟩, HFR, ⟨below_set HB2.out HSZ.out⟩⟩
        case round =>
          clear HO HT HB HTN1 HFR hy0 hy1 hy2 hy3 hcz hfz hs0_ HO2 HB2
          obtain ⟨t, y, ht, hgt, rfl, HO, HT, HYL, HFR, HB⟩ := hrel
          have hbk_ : wr.heap[B]? = some (.cells #[.int .i64 (S : Int), .int .i64 (F : Int), .int .i64 o, .slice A0 l0.length c0] 30 (0, 0)) := blk_below BK.out HB.out
          have hy0 : wr.cell? ⟨B, 0, none⟩ = some (.int .i64 (S : Int)) := (blk_cell hbk_ 0).trans rfl
          have hy1 : wr.cell? ⟨B, 1, none⟩ = some (.int .i64 (F : Int)) := (blk_cell hbk_ 1).trans rfl
          have hy2 : wr.cell? ⟨B, 2, none⟩ = some (.int .i64 o) := (blk_cell hbk_ 2).trans rfl
          have hy3 : wr.cell? ⟨B, 3, none⟩ = some (.slice A0 l0.length c0) := (blk_cell hbk_ 3).trans rfl
          clear hbk_
          have hF16 : F ≤ 1000 := HF.out
          by_cases htF : t < F
          case neg =>
            have htb : ¬ ((t : Int) + 1 ≤ (F : Int)) := by omega
            have hyy : y = yF := by have h_ := HFR.out; rw [show F - t = 0 by omega] at h_; exact Option.some.inj h_
            subst hyy
            have hi16 : i < 1001 := by have := HS.out; have := HIS.out; omega
            go_wp2
            go_roundg (S + 1 - (i + 1))
            case measure => have := HLT1.out; omega
            case rel => exact ⟨i + 1, _, _, by have := HLT1.out; omega, Nat.le_refl _, by go_num, HO, HT, ⟨HFN.out.1.snoc HYL.out, by simp [HFN.out.2]⟩, HREST, HB⟩
          have htb : (t : Int) + 1 ≤ (F : Int) := by omega
          have hfr := HFR.out
          rw [show F - t = (F - (t + 1)) + 1 by omega] at hfr
          unfold fRunB at hfr
          obtain ⟨more, hm, hfr⟩ := Option.bind_eq_some_iff.1 hfr
          obtain ⟨q, hq, hfr⟩ := Option.bind_eq_some_iff.1 hfr
          by_cases hqS : 0 ≤ q ∧ q ≤ (S : Int)
          case neg => rw [if_neg hqS] at hfr; cases hfr
          rw [if_pos hqS] at hfr
          obtain ⟨yJ, hj, hrest⟩ := Option.bind_eq_some_iff.1 hfr
          obtain ⟨Q, rfl⟩ : ∃ Q : Nat, q = (Q : Int) := ⟨q.toNat, by omega⟩
          rw [Int.toNat_natCast] at hj
          have HMO := Aside0.mk hm
          have HQ := Aside0.mk hq
          have HJ := Aside0.mk hj
          have HRT := Aside0.mk hrest
          have HQS : Aside0 (Q < S + 1) := ⟨by omega⟩
          have HTF := Aside0.mk htF
          clear hm hq hj hrest hfr HFR
          have hQ0 : (0 : Int) ≤ (Q : Int) := by omega
          have hQ1 : (Q : Int) < (S : Int) + 1 := by omega
          have hQ2 : (Q : Int) < ((S + 1 : Nat) : Int) := by omega
          have hqr : Q < rows.length := by rw [HFO.out.2]; exact HQS.out
          obtain ⟨gq, hgq, hc0, hf0⟩ := HO.out.at_row hqr
          have hrl : (rows[Q]).length = 18 := HFO.out.1 _ (List.getElem_mem hqr)
          rw [hrl] at hc0
          have HGQ := Aside0.mk hgq
          have HRW := Aside0.mk (show rows[Q]? = some rows[Q] from List.getElem?_eq_getElem hqr)
          have HJ2 : Aside0 (jRunB more rows[Q] 0 y = some yJ) := ⟨by have h_ := HJ.out; rwa [List.getD_eq_getElem?_getD, List.getElem?_eq_getElem hqr, Option.getD_some] at h_⟩
          have HCQ := Aside0.mk hc0
          clear hc0 hf0 hgq HJ
          generalize rows[Q] = row at hrl HRW HJ2
          have HRL := Aside0.mk hrl
          clear hrl hqr hqS
          go_wp2_with (first | (go_at_call 56; refine calls_at2 (fun W_ => Below wr.heap.size wr W_) (by (with_reducible repeat (first | exact Below.refl _ _ | apply below_alloc | apply pw_below_drewN | apply below_drew1)) <;> first | exact Below.refl _ _ | exact Nat.le_refl _) (fun W_ hW_ => ?_); (with_reducible refine (spec_gaJumps.calls k (S : Int) (F : Int) o A0 c0 l0 (i : Int) ((t : Int) + 1) more _ (Kd.C_below HR.out (below_step HW1.out (below_step HB.out hW_))) HC.out HMO.out).mono ?_); rintro e w4 ⟨rfl, hb⟩; have HB4 := Aside0.mk (below_step hW_ hb); have hbk_ : w4.heap[B]? = some (.cells #[.int .i64 (S : Int), .int .i64 (F : Int), .int .i64 o, .slice A0 l0.length c0] 30 (0, 0)) := blk_below BK.out (below_step HB.out (below_step hW_ hb)); have hv0 : w4.cell? ⟨B, 0, none⟩ = some (.int .i64 (S : Int)) := (blk_cell hbk_ 0).trans rfl; have hv1 : w4.cell? ⟨B, 1, none⟩ = some (.int .i64 (F : Int)) := (blk_cell hbk_ 1).trans rfl; have hv2 : w4.cell? ⟨B, 2, none⟩ = some (.int .i64 o) := (blk_cell hbk_ 2).trans rfl; have hv3 : w4.cell? ⟨B, 3, none⟩ = some (.slice A0 l0.length c0) := (blk_cell hbk_ 3).trans rfl; clear hbk_; clear hW_ hb) | (go_at_call 57; refine calls_at2 (fun W_ => Below wr.heap.size wr W_) (by (with_reducible repeat (first | exact HB4.out | apply below_alloc | apply pw_below_drewN | apply below_drew1)) <;> first | exact HB4.out | exact Nat.le_refl _) (fun W_ hW_ => ?_); (with_reducible refine (spec_sqThrow.calls k (S : Int) (F : Int) o A0 c0 l0 (i : Int) ((t : Int) + 1) (Q : Int) _ (Kd.C_below HR.out (below_step HW1.out (below_step HB.out hW_))) HC.out HQ.out).mono ?_); rintro e w5 ⟨rfl, hb⟩; have HB5 := Aside0.mk (below_step hW_ hb); have hcq : w5.cell? ⟨G, Q, none⟩ = some (.slice (some ⟨gq, 0, none⟩) 18 18) := ((below_step hW_ hb).cell (HO.out.lt (by simp))).trans HCQ.out; clear hW_ hb))
          clear hcq hy0 hy1 hy2 hy3 hv0 hv1 hv2 hv3
          go_loopg [72] 18 (fun gg v72 wr => ∃ (j : Nat) (yy : List Int), j ≤ 18 ∧ 18 - j ≤ gg ∧ v72 = .int .i64 j ∧ Aside0 (Tab wr G gs (S + 1) rows) ∧ Aside0 (Tab wr G1 (gn ++ [gy]) (S + 1) (nx ++ [yy])) ∧ Aside0 (yy.length = 18) ∧ Aside0 (jRunB more (row.drop j) j yy = some yJ) ∧ Aside0 (Below w1.heap.size w1 wr))
          case atStart => exact ⟨0, y, Nat.zero_le _, by omega, rfl, ⟨HO.out.below HB5.out⟩, ⟨HT.out.below HB5.out⟩, HYL, ⟨by rw [List.drop_zero]; exact HJ2.out⟩, ⟨below_step HB.out HB5.out⟩⟩
          case round =>
            clear HO HT HYL HB HB4 HB5 HJ2 HCQ
            obtain ⟨j, yy, hj, hgj, rfl, HO, HT, HYL, HJ, HB⟩ := hrel
            by_cases hj18 : j < 18
            case neg =>
              have hj1 : ¬ (j : Int) < 18 := by omega
              have hyy : yy = yJ := by have h_ := HJ.out; rw [List.drop_of_length_le (by rw [HRL.out]; omega)] at h_; exact Option.some.inj h_
              subst hyy
              have ht16 : t < 1001 := by have := HF.out; have := HTF.out; omega
              go_wp2
              go_roundg (F - (t + 1))
              case measure => have := HTF.out; omega
              case rel => exact ⟨t + 1, yy, by have := HTF.out; omega, Nat.le_refl _, by first | rfl | go_num, HO, HT, HYL, HRT, HB⟩
            have hj1 : (j : Int) < 18 := by omega
            have hj0 : (0 : Int) ≤ (j : Int) := by omega
            have hjr : j < row.length := by rw [HRL.out]; exact hj18
            obtain ⟨hc1, hf1⟩ := HO.out.at_cell HGQ.out HRW.out hjr
            have hjd := HJ.out
            have hdj : row.drop j = rd row (j : Int) :: row.drop (j + 1) := by rw [List.drop_eq_getElem_cons hjr]; congr 1; simp [rd, hjr]
            rw [hdj] at hjd
            unfold jRunB at hjd
            generalize rd row (j : Int) = x at hc1 hjd
            clear hf1 hjr hdj HJ
            by_cases hx : 0 < x
            case neg =>
              rw [if_neg hx] at hjd
              have HJ2 := Aside0.mk hjd
              have hxb : decide (0 < x) = false := decide_eq_false hx
              clear hjd
              go_wp2
              go_roundg (18 - (j + 1))
              case measure => omega
              case rel => exact ⟨j + 1, yy, by omega, Nat.le_refl _, by go_num, HO, HT, HYL, HJ2, HB⟩
            rw [if_pos hx] at hjd
            by_cases hP : 0 ≤ (j : Int) + more ∧ (j : Int) + more < 18
            case neg => rw [if_neg hP] at hjd; cases hjd
            rw [if_pos hP] at hjd
            obtain ⟨P, hPe⟩ : ∃ P : Nat, (j : Int) + more = (P : Int) := ⟨((j : Int) + more).toNat, by omega⟩
            rw [hPe, Int.toNat_natCast] at hjd
            have hwP : IntKind.i64.wrap ((j : Int) + more) = (P : Int) := by rw [hPe, IntKind.wrap_i64]; omega
            have HJ2 := Aside0.mk hjd
            have hxb : decide (0 < x) = true := decide_eq_true hx
            have hP0 : (0 : Int) ≤ (P : Int) := by omega
            have hP1 : (P : Int) < 18 := by omega
            clear hjd
            have hnxl : i < (nx ++ [yy]).length := by simp [HFN.out.2]
            obtain ⟨gc, hgc, hc2, hf2⟩ := HT.out.at_row hnxl
            have hgcy : gc = gy := by have h_ := HT.out.len; simp at h_; have h2_ := HFN.out.2; rw [List.getElem?_append_right (by omega), show i - gn.length = 0 by omega] at hgc; simpa using hgc.symm
            subst hgcy
            have hryy : (nx ++ [yy])[i]? = some yy := by rw [List.getElem?_append_right (by rw [HFN.out.2]; exact Nat.le_refl _), HFN.out.2, Nat.sub_self]; rfl
            have hr3 : ((nx ++ [yy])[i]).length = 18 := by rw [List.getElem?_eq_getElem hnxl] at hryy; rw [Option.some.inj hryy]; exact HYL.out
            rw [hr3] at hc2
            have hc2' : wr.cell? ⟨G1, i, none⟩ = some (.slice (some ⟨gc, 0, none⟩) 18 18) := hc2
            obtain ⟨hc3, hf3⟩ := HT.out.at_cell hgc hryy (j := P) (by rw [HYL.out]; omega)
            have hi0 : (0 : Int) ≤ (i : Int) := by omega
            have hi1 : (i : Int) < (S : Int) + 1 := by have := HIS.out; omega
            have hi2 : (i : Int) < ((S + 1 : Nat) : Int) := by have := HIS.out; omega
            have HGC : Aside0 (G1 ≤ gc) := ⟨HT.out.ge (by simp)⟩
            have HTP := Aside0.mk (fun z_ => HT.out.put_last (j := P) z_)
            clear hgc hc2 hf2 hryy hr3 hnxl hP
            go_wp2
            go_roundg (18 - (j + 1))
            case measure => omega
            case rel => exact ⟨j + 1, yy.set P _, by omega, Nat.le_refl _, by go_num, ⟨HO.out.far _ (fun q hq => Nat.ne_of_lt (Nat.lt_of_lt_of_le (HLT.out q hq) HGC.out))⟩, ⟨HTP.out _⟩, ⟨by rw [List.length_set]; exact HYL.out⟩, ⟨HJ2.out⟩, ⟨below_set HB.out (Nat.le_trans HSZ.out HGC.out)⟩⟩

theorem spec_gaBy.calls (k : Nat) (a0_0 : Int) (a0_1 : Int) (a0_2 : Int) (A0_3 : Option Addr) (c0_3 : Nat) (l0_3 : List S70) (a1 : Int) (r : List Int) (w : World) (hr0_3 : Kd.C k70 w A0_3 l0_3.length l0_3) (hc0_3 : l0_3.length ≤ c0_3) (h : spec_gaBy.f k a0_0 a0_1 a0_2 l0_3 a1 = some r) :
    Calls Try.prog 52 #[.agg #[.int .i64 a0_0, .int .i64 a0_1, .int .i64 a0_2, .slice A0_3 l0_3.length c0_3], .int .i64 a1] w fun e w' => ∃ v0_ : Value, e = .returned (v0_) ∧ Kd.R (Kd.int .i64) 3 w' w.heap.size (fun _ => True) v0_ r ∧ Below w.heap.size w w' := by
  unfold spec_gaBy.f at h
  by_cases hp : 1 ≤ a0_0 ∧ a0_0 ≤ 1000 ∧ 0 ≤ a0_1 ∧ a0_1 ≤ 1000 ∧ a1 ≤ 1000
  case neg => rw [if_neg hp] at h; cases h
  rw [if_pos hp] at h
  obtain ⟨fin, hx, rfl⟩ := Option.map_eq_some_iff.1 h
  obtain ⟨S, rfl⟩ : ∃ S : Nat, a0_0 = (S : Int) := ⟨a0_0.toNat, by omega⟩
  obtain ⟨F, rfl⟩ : ∃ F : Nat, a0_1 = (F : Int) := ⟨a0_1.toNat, by omega⟩
  rw [Int.toNat_natCast] at hx
  exact gaBy_walk k S F a0_2 A0_3 c0_3 l0_3 a1 fin w hr0_3 hc0_3 (by omega) (by omega) (by omega) hx

end Go.Proofs.Ytphjhfpeomifiaa.P
