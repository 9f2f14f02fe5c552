/- Board.games: the walk. Boards with at most eight faces, at most sixteen throws. -/
import Derived.Test.YtphjhfpeomifiaaEGames
namespace Go.Proofs.Ytphjhfpeomifiaa.P
open Go.RowKit Go.Proofs.Ytphjhfpeomifiaa.Q Go.Proofs.YtphjhfpeomifiaaW.PrintWords Go.Proofs.YtphjhfpeomifiaaW.PrintLast Go.Proofs.YtphjhfpeomifiaaW.PrintMore
set_option linter.unusedVariables false
set_option linter.unusedSimpArgs false

set_option maxHeartbeats 16000000 in
set_option maxRecDepth 100000 in
theorem games_way (k : Nat) (s f o : Int) (A0 : Option Addr) (c0 : Nat) (l0 : List S70) (sq0 mk0 throws : Int) (g : Nat) (lb : Array Value) (eg : ∀ args w, (callFunc g args).run Try.prog w = .ok (.enter g args) w)
    (tv : Int → Int → Int) (mv : Int → Int → Int → Int) (Iv : Nat → Int → Int → Prop) (w : World) (hr0 : Kd.C k70 w A0 l0.length l0) (hc0 : l0.length ≤ c0)
    (hway : Way k s f o l0 tv mv Iv) (hmark : MarkOk g lb s f mv Iv w) (hT : throws.toNat ≤ 16) (h0 : Iv throws.toNat sq0 mk0) :
    Calls Try.prog 69 #[.agg #[.int .i64 s, .int .i64 f, .int .i64 o, .slice A0 l0.length c0], .agg #[.int .i64 sq0, .int .i64 mk0], .int .i64 throws, .func (.func g) #[] lb] w fun e w' => ∃ (b : Nat) (L : List (Value × Value)), e = .returned (.map (some b)) ∧ w.heap.size ≤ b ∧ mapZ Try.prog 3 3 w' b L ∧ (∀ x ∈ L, ∃ m c : Int, x = (.int .i64 m, .int .i64 c) ∧ Iv 0 s m) ∧ (∀ F, Cg (wsum (fun v => F (intOf v)) L) (valG s f tv mv F throws.toNat sq0 mk0)) ∧ Below w.heap.size w w' := by
  have hu30 := Try.underlying30
  have hu76 := Try.underlying76
  have HR := Aside0.mk hr0
  have HC := Aside0.mk hc0
  have HWAY := Aside0.mk hway
  have HM := Aside0.mk hmark
  have HT := Aside0.mk hT
  have HI := Aside0.mk h0
  clear hr0 hc0 hway hmark hT h0
  go_enter Try.func69, Try.ntmps69
  go_wp2_with (first | ((with_reducible refine gate_dst (N := 4) rfl ?_); refine box_event ?hg (N := 4) ?hd (cs := #[.int .i64 s, .int .i64 f, .int .i64 o, .slice A0 l0.length c0]) (t := 30) ?hr ?_; (case hd => rfl); (case hg => rfl); (case hr => first | (go_simp; done) | (go_simp; rfl)); intro B hgb_ w1 hbox hb; have BK0 := Aside0.mk hbox; have HW1 : Aside0 (Below w.heap.size w w1) := ⟨hb⟩; clear hb hbox hgb_) | ((with_reducible refine gate_dst (N := 5) rfl ?_); refine box_event ?hg (N := 5) ?hd (cs := #[.int .i64 sq0, .int .i64 mk0]) (t := 76) ?hr ?_; (case hd => rfl); (case hg => rfl); (case hr => first | (go_simp; done) | (go_simp; rfl)); intro B5 hgb_ w2 hbox hb; have BK := Aside0.mk ((hb.block B (blk_lt BK0.out)).trans BK0.out); have BK5 := Aside0.mk hbox; have HW2 : Aside0 (Below w.heap.size w w2) := ⟨below_step HW1.out hb⟩; clear hb hbox hgb_ BK0 HW1; have HLB := Aside0.mk (blk_lt BK.out); have HLB5 := Aside0.mk (blk_lt BK5.out)) | ((with_reducible refine gate_dst (N := 17) rfl ?_); refine makeMapZ (N := 17) rfl rfl 87 76 3 rfl ?_; intro b0 eb0 w3 hm0 hb3 hs3; have HM0 := Aside0.mk hm0; have HB3 := Aside0.mk hb3; have HE0 := Aside0.mk eb0; have hk5_ := (hb3.block B5 HLB5.out).trans BK5.out; have hc50 : w3.cell? ⟨B5, 0, none⟩ = some (.int .i64 sq0) := (blk_cell hk5_ 0).trans rfl; have hc51 : w3.cell? ⟨B5, 1, none⟩ = some (.int .i64 mk0) := (blk_cell hk5_ 1).trans rfl; clear hm0 hb3 hs3 eb0 hk5_) | ((with_reducible refine gate_ins rfl ?_); refine insertZ (b := b0) (L := []) (key := .agg #[.int .i64 sq0, .int .i64 mk0]) rfl _ _ _ 87 76 3 rfl spot_law Try.underlying87 Try.underlying3 rfl HM0.out (by decide) rfl (spot_key (HWAY.out.wf _ _ _ HI.out).1 (HWAY.out.wf _ _ _ HI.out).2).choose_spec 1 rfl (by decide) ?_; intro c L0 w4 hm4 hl4 hmem4 hind4 hsum4 hg4 hs4; have HA4 := Aside0.mk (And.intro hm4 (And.intro hmem4 (And.intro hind4 hsum4))); have HB4 : Aside0 (Below w2.heap.size w2 w4) := ⟨below_of_grown HB3.out hg4 HB3.out.size (by rw [HE0.out]; exact Nat.le_refl _)⟩; have HLL := Aside0.mk hl4; clear hm4 hl4 hmem4 hind4 hsum4 hg4 hs4 hc50 hc51))
  go_loopg [9, 21] throws.toNat (fun gg v9 v21 wr => ∃ (i b1 : Nat) (L : List (Value × Value)), i ≤ throws.toNat ∧ throws.toNat - i ≤ gg ∧ v9 = .map (some b1) ∧ v21 = .int .i64 i ∧ Aside0 (AllI s f tv mv Iv sq0 mk0 throws.toNat w2 i b1 L wr))
  case atStart => exact ⟨0, b0, L0, Nat.zero_le _, by omega, rfl, rfl, ⟨AllI.start HA4.out.1 HA4.out.2.1 HA4.out.2.2.1 HA4.out.2.2.2 HLL.out HI.out (by rw [HE0.out]; exact Nat.le_refl _) HB4.out⟩⟩
  case round =>
    clear HA4 HB4 HLL HM0 HB3 HE0
    obtain ⟨i, b1, L, hi, hgg, rfl, rfl, HA⟩ := hrel
    by_cases hlt : (i : Int) < throws
    case neg =>
      obtain rfl : i = throws.toNat := by omega
      go_wp2_with (first | ((with_reducible refine gate_dst (N := 60) rfl ?_); refine makeMapZ (N := 60) rfl rfl 73 3 3 rfl ?_; intro b2 eb2 w5 hm5 hb5 hs5; have HM5 := Aside0.mk hm5; have HB5 : Aside0 (Below w2.heap.size w2 w5) := ⟨below_step HA.out.below hb5⟩; have HL5 := Aside0.mk (HA.out.map.below hb5 HA.out.map.lt); have HD5 := Aside0.mk (show b1 < b2 ∧ b2 < w5.heap.size from ⟨by rw [eb2]; exact HA.out.map.lt, by omega⟩); clear hm5 hb5 hs5 eb2) | ((with_reducible refine gate_dst (N := 62) rfl ?_); refine rangeZ (N := 62) (b := b1) (L := L) rfl rfl _ 87 76 3 rfl Try.underlying87 rfl HL5.out ?_; intro r er w6 hit6 hb6 hs6; have HN6 := Aside0.mk (LastI.start HA.out (HM5.out.below hb6 HM5.out.lt) hit6 (below_step HB5.out hb6)); have HD : Aside0 (b1 < b2 ∧ b2 < r ∧ w2.heap.size ≤ b1) := ⟨HD5.out.1, by rw [er]; exact HD5.out.2, HA.out.base⟩; clear hit6 hb6 hs6 er HM5 HB5 HL5 HD5))
      try go_frame
      go_loopg [16] L.length (fun gg v16 wr2 => ∃ (N Rm : List (Value × Value)), Rm.length ≤ gg ∧ Aside0 (LastI s f tv mv Iv sq0 mk0 throws.toNat w2 b1 b2 r N Rm wr2))
      case atStart => exact ⟨[], L, Nat.le_refl _, HN6⟩
      case round =>
        clear HN6
        obtain ⟨N, Rm, hgl, HN⟩ := hrel
        go_wp2_with (((with_reducible refine gate_dst (N := 63) rfl ?_); refine nextZ (N := 63) (b := b1) (r := r) (Rm := Rm) rfl rfl _ 76 3 rfl rfl HN.out.it (by have := HD.out; omega) ?_ ?_))
        · intro hnil
          subst hnil
          go_wp2
          go_ret
          exact ⟨b2, N, rfl, by have := HD.out; have := HW2.out.size; omega, HN.out.map, HN.out.marks, HN.out.done, below_step HW2.out HN.out.below⟩
        · intro key v Rm' w7 hmem hl hsub hsum hit hen hg hs
          have hone := fun h_ => HN.out.one h_ _ hmem
          obtain ⟨q, m, c, e, hIv⟩ := HN.out.spots _ hmem
          replace hsub : ∀ x ∈ Rm', x ∈ Rm := fun x h_ => by first | exact hsub x h_ | exact hsub x.1 x.2 h_
          obtain ⟨rfl, rfl⟩ := Prod.mk.inj e
          have HX := Aside0.mk (And.intro hl (And.intro hsub (And.intro hsum hIv)))
          have HONE : Aside0 (throws.toNat = 0 → q = sq0) := ⟨hone⟩
          have HI7 := Aside0.mk hit
          have HM7 : Aside0 (mapZ Try.prog 3 3 w7 b2 N) := ⟨HN.out.map.of_block (hg.block b2 HN.out.map.lt (fun e_ => by have := HD.out; cases e_; omega))⟩
          have HB7 : Aside0 (Below w2.heap.size w2 w7) := ⟨below_of_grown HN.out.below hg HN.out.below.size (by have := HD.out; omega)⟩
          clear hmem hl hsub hsum hIv hit hg hs e hone
          have hbk_ := (HB7.out).block B (blk_lt BK.out) |>.trans BK.out
          have h7b0 : w7.cell? ⟨B, 0, none⟩ = some (.int .i64 s) := (blk_cell hbk_ 0).trans rfl
          have h7b0d : w7.drew.cell? ⟨B, 0, none⟩ = some (.int .i64 s) := h7b0
          have h7b1 : w7.cell? ⟨B, 1, none⟩ = some (.int .i64 f) := (blk_cell hbk_ 1).trans rfl
          have h7b1d : w7.drew.cell? ⟨B, 1, none⟩ = some (.int .i64 f) := h7b1
          have h7b2 : w7.cell? ⟨B, 2, none⟩ = some (.int .i64 o) := (blk_cell hbk_ 2).trans rfl
          have h7b2d : w7.drew.cell? ⟨B, 2, none⟩ = some (.int .i64 o) := h7b2
          have h7b3 : w7.cell? ⟨B, 3, none⟩ = some (.slice A0 l0.length c0) := (blk_cell hbk_ 3).trans rfl
          have h7b3d : w7.drew.cell? ⟨B, 3, none⟩ = some (.slice A0 l0.length c0) := h7b3
          clear hbk_
          have hbk_ := (HB7.out.block B (blk_lt BK.out)).trans BK.out
          have hbk5_ := (HB7.out.block B5 (blk_lt BK5.out)).trans BK5.out
          have h7a0 : ∀ o_, (w7.alloc o_).cell? ⟨B, 0, none⟩ = some (.int .i64 s) := fun o_ => (World.cell?_of_block (w := w7) (Below.heap_alloc w7 o_ B (blk_lt hbk_))).trans ((blk_cell hbk_ 0).trans rfl)
          have h7a1 : ∀ o_, (w7.alloc o_).cell? ⟨B, 1, none⟩ = some (.int .i64 f) := fun o_ => (World.cell?_of_block (w := w7) (Below.heap_alloc w7 o_ B (blk_lt hbk_))).trans ((blk_cell hbk_ 1).trans rfl)
          have h7a2 : ∀ o_, (w7.alloc o_).cell? ⟨B, 2, none⟩ = some (.int .i64 o) := fun o_ => (World.cell?_of_block (w := w7) (Below.heap_alloc w7 o_ B (blk_lt hbk_))).trans ((blk_cell hbk_ 2).trans rfl)
          have h7a3 : ∀ o_, (w7.alloc o_).cell? ⟨B, 3, none⟩ = some (.slice A0 l0.length c0) := fun o_ => (World.cell?_of_block (w := w7) (Below.heap_alloc w7 o_ B (blk_lt hbk_))).trans ((blk_cell hbk_ 3).trans rfl)
          have h7f : ∀ o_, (w7.alloc o_).cell? ⟨B5, 0, none⟩ = some (.int .i64 sq0) := fun o_ => (World.cell?_of_block (w := w7) (Below.heap_alloc w7 o_ B5 (blk_lt hbk5_))).trans ((blk_cell hbk5_ 0).trans rfl)
          clear hbk_ hbk5_
          have HA7 : ∀ o_, Aside0 (Below w7.heap.size w7 (w7.alloc o_)) := fun o_ => ⟨(Below.refl _ w7).alloc (Nat.le_refl _) o_⟩
          have HLEN : Aside0 (N.length < maxLen) := ⟨by have h1_ := HN.out.len; have h2_ := pow8 HT.out (Nat.le_refl _); rw [Nat.pow_succ] at h2_; show N.length < 9223372036854775807; omega⟩
          by_cases hq : q = s
          case neg =>
            have hqb : (q == s) = false := by simpa using hq
            have HQ := Aside0.mk hq
            clear hq
            go_wp2
            go_roundg Rm'.length
            case measure => have := HX.out.1; omega
            case rel => exact ⟨N, Rm', Nat.le_refl _, ⟨LastI.skip HN.out HQ.out (HM7.out.below (HA7 _).out HM7.out.lt) (HI7.out.below (HA7 _).out HI7.out.lts.1 HI7.out.lts.2) (below_step HB7.out (HA7 _).out) HX.out.1 HX.out.2.1 HX.out.2.2.1⟩⟩
          have hqb : (q == s) = true := by simpa using hq
          have HQ := Aside0.mk hq
          have HWF := Aside0.mk (HWAY.out.wf _ _ _ HX.out.2.2.2).2
          by_cases ht : throws > 0
          case pos =>
            have htb : decide (0 < throws) = true := decide_eq_true ht
            clear hq
            go_wp2_with (first | ((with_reducible refine gate_dst (N := 87) rfl ?_); refine lookupZ (N := 87) (b := b2) (L := N) (key := .int .i64 m) rfl rfl _ _ 73 3 3 rfl int_law Try.underlying73 Try.underlying3 zeroI rfl (HM7.out.below (HA7 _).out HM7.out.lt) rfl (int_key HWF.out) ?_; intro cl hindL; have HIL := Aside0.mk hindL; clear hindL) | ((with_reducible refine gate_upd rfl ?_); (with_reducible refine updateZ (b := b2) (L := N) (key := .int .i64 m) rfl _ _ _ 73 3 3 rfl int_law Try.underlying73 Try.underlying3 rfl (HM7.out.below (HA7 _).out HM7.out.lt) HLEN.out rfl (int_key HWF.out) (wrap64 (cl + c)) rfl (wf_wrap64 _) ?_); intro ce L' w8 hm8 hl8 hmem8 hind8 hsum8 hg8 hs8; have ece := ind_uniq hind8 HIL.out; subst ece; replace hmem8 : ∀ x ∈ L', x ∈ N ∨ _ := fun x h_ => (by first | exact hmem8 x h_ | exact hmem8 x.1 x.2 h_); have H8 := Aside0.mk (And.intro hm8 (And.intro hl8 (And.intro hmem8 (And.intro hsum8 hg8)))); clear hm8 hl8 hmem8 hind8 hsum8 hg8 hs8))
            go_roundg Rm'.length
            case measure => have := HX.out.1; omega
            case rel => exact ⟨L', Rm', Nat.le_refl _, ⟨LastI.add HN.out HQ.out HX.out.2.2.2 H8.out.1 ((HI7.out.below (HA7 _).out HI7.out.lts.1 HI7.out.lts.2).of_blocks (H8.out.2.2.2.2.block _ (Nat.lt_of_lt_of_le HI7.out.lts.1 (HA7 _).out.size) (fun e_ => by have := HD.out; cases e_; omega)) (H8.out.2.2.2.2.block _ (Nat.lt_of_lt_of_le HI7.out.lts.2 (HA7 _).out.size) (fun e_ => by have := HD.out; cases e_; omega))) (below_of_grown (below_step HB7.out (HA7 _).out) H8.out.2.2.2.2 (Nat.le_trans HB7.out.size (HA7 _).out.size) (by have := HD.out; omega)) HX.out.1 HX.out.2.1 HX.out.2.2.1 H8.out.2.1 (by first | exact cg_wrap _ | exact Cg.wrap _) H8.out.2.2.1 H8.out.2.2.2.1⟩⟩
          case neg =>
            have htb : decide (0 < throws) = false := decide_eq_false ht
            have hsq : sq0 = s := by rw [← HONE.out (by omega)]; exact hq
            have hsqb : (sq0 == s) = true := by simpa using hsq
            clear hq hsq
            go_wp2_with (first | ((with_reducible refine gate_dst (N := 87) rfl ?_); refine lookupZ (N := 87) (b := b2) (L := N) (key := .int .i64 m) rfl rfl _ _ 73 3 3 rfl int_law Try.underlying73 Try.underlying3 zeroI rfl (HM7.out.below (HA7 _).out HM7.out.lt) rfl (int_key HWF.out) ?_; intro cl hindL; have HIL := Aside0.mk hindL; clear hindL) | ((with_reducible refine gate_upd rfl ?_); (with_reducible refine updateZ (b := b2) (L := N) (key := .int .i64 m) rfl _ _ _ 73 3 3 rfl int_law Try.underlying73 Try.underlying3 rfl (HM7.out.below (HA7 _).out HM7.out.lt) HLEN.out rfl (int_key HWF.out) (wrap64 (cl + c)) rfl (wf_wrap64 _) ?_); intro ce L' w8 hm8 hl8 hmem8 hind8 hsum8 hg8 hs8; have ece := ind_uniq hind8 HIL.out; subst ece; replace hmem8 : ∀ x ∈ L', x ∈ N ∨ _ := fun x h_ => (by first | exact hmem8 x h_ | exact hmem8 x.1 x.2 h_); have H8 := Aside0.mk (And.intro hm8 (And.intro hl8 (And.intro hmem8 (And.intro hsum8 hg8)))); clear hm8 hl8 hmem8 hind8 hsum8 hg8 hs8))
            go_roundg Rm'.length
            case measure => have := HX.out.1; omega
            case rel => exact ⟨L', Rm', Nat.le_refl _, ⟨LastI.add HN.out HQ.out HX.out.2.2.2 H8.out.1 ((HI7.out.below (HA7 _).out HI7.out.lts.1 HI7.out.lts.2).of_blocks (H8.out.2.2.2.2.block _ (Nat.lt_of_lt_of_le HI7.out.lts.1 (HA7 _).out.size) (fun e_ => by have := HD.out; cases e_; omega)) (H8.out.2.2.2.2.block _ (Nat.lt_of_lt_of_le HI7.out.lts.2 (HA7 _).out.size) (fun e_ => by have := HD.out; cases e_; omega))) (below_of_grown (below_step HB7.out (HA7 _).out) H8.out.2.2.2.2 (Nat.le_trans HB7.out.size (HA7 _).out.size) (by have := HD.out; omega)) HX.out.1 HX.out.2.1 HX.out.2.2.1 H8.out.2.1 (by first | exact cg_wrap _ | exact Cg.wrap _) H8.out.2.2.1 H8.out.2.2.2.1⟩⟩
    have HIT := Aside0.mk (show i < throws.toNat by omega)
    go_wp2_with (first | ((with_reducible refine gate_dst (N := 23) rfl ?_); refine makeMapZ (N := 23) rfl rfl 87 76 3 rfl ?_; intro b2 eb2 w5 hm5 hb5 hs5; have HM5 := Aside0.mk hm5; have HB5 : Aside0 (Below w2.heap.size w2 w5) := ⟨below_step HA.out.below hb5⟩; have HL5 := Aside0.mk (HA.out.map.below hb5 HA.out.map.lt); have HD5 := Aside0.mk (show b1 < b2 ∧ b2 < w5.heap.size from ⟨by rw [eb2]; exact HA.out.map.lt, by omega⟩); clear hm5 hb5 hs5 eb2) | ((with_reducible refine gate_dst (N := 25) rfl ?_); refine rangeZ (N := 25) (b := b1) (L := L) rfl rfl _ 87 76 3 rfl Try.underlying87 rfl HL5.out ?_; intro r er w6 hit6 hb6 hs6; have HN6 := Aside0.mk (NextI.start HA.out HIT.out (HM5.out.below hb6 HM5.out.lt) hit6 (below_step HB5.out hb6)); have HD : Aside0 (b1 < b2 ∧ b2 < r ∧ w2.heap.size ≤ b1) := ⟨HD5.out.1, by rw [er]; exact HD5.out.2, HA.out.base⟩; clear hit6 hb6 hs6 er HM5 HB5 HL5 HD5))
    try go_frame
    go_loopg [12] L.length (fun gg v12 wr2 => ∃ (N Rm : List (Value × Value)), Rm.length ≤ gg ∧ Aside0 (NextI s f tv mv Iv sq0 mk0 throws.toNat w2 i b1 b2 r N Rm wr2))
    case atStart => exact ⟨[], L, Nat.le_refl _, HN6⟩
    case round =>
      clear HN6
      obtain ⟨N, Rm, hgl, HN⟩ := hrel
      go_wp2_with (((with_reducible refine gate_dst (N := 26) rfl ?_); refine nextZ (N := 26) (b := b1) (r := r) (Rm := Rm) rfl rfl _ 76 3 rfl rfl HN.out.it (by have := HD.out; omega) ?_ ?_))
      · intro hnil
        subst hnil
        go_wp2
        have h16 : i < 16 := by have := HIT.out; have := HT.out; omega
        have hwi : wrap64 ((i : Int) + 1) = ((i + 1 : Nat) : Int) := by unfold wrap64; omega
        go_roundg (throws.toNat - (i + 1))
        case measure => have := HIT.out; omega
        case rel => exact ⟨i + 1, b2, N, by have := HIT.out; omega, Nat.le_refl _, rfl, by first | rfl | rw [hwi] | go_num, ⟨AllI.of_next HN.out HIT.out (by have := HD.out; omega)⟩⟩
      · intro key v Rm' w7 hmem hl hsub hsum hit hen hg hs
        obtain ⟨q, m, c, e, hIv⟩ := HN.out.spotsR _ hmem
        replace hsub : ∀ x ∈ Rm', x ∈ Rm := fun x h_ => by first | exact hsub x h_ | exact hsub x.1 x.2 h_
        obtain ⟨rfl, rfl⟩ := Prod.mk.inj e
        have HX := Aside0.mk (And.intro hl (And.intro hsub (And.intro hsum hIv)))
        have HI7 := Aside0.mk hit
        have HG7 := Aside0.mk (And.intro hg hs)
        have HM7 : Aside0 (mapZ Try.prog 76 3 w7 b2 N) := ⟨HN.out.map.of_block (hg.block b2 HN.out.map.lt (fun e_ => by have := HD.out; cases e_; omega))⟩
        have HB7 : Aside0 (Below w2.heap.size w2 w7) := ⟨below_of_grown HN.out.below hg HN.out.below.size (by have := HD.out; omega)⟩
        clear hmem hl hsub hsum hIv hit hg hs e
        have hbk_ := (HB7.out).block B (blk_lt BK.out) |>.trans BK.out
        have h7b0 : w7.cell? ⟨B, 0, none⟩ = some (.int .i64 s) := (blk_cell hbk_ 0).trans rfl
        have h7b0d : w7.drew.cell? ⟨B, 0, none⟩ = some (.int .i64 s) := h7b0
        have h7b1 : w7.cell? ⟨B, 1, none⟩ = some (.int .i64 f) := (blk_cell hbk_ 1).trans rfl
        have h7b1d : w7.drew.cell? ⟨B, 1, none⟩ = some (.int .i64 f) := h7b1
        have h7b2 : w7.cell? ⟨B, 2, none⟩ = some (.int .i64 o) := (blk_cell hbk_ 2).trans rfl
        have h7b2d : w7.drew.cell? ⟨B, 2, none⟩ = some (.int .i64 o) := h7b2
        have h7b3 : w7.cell? ⟨B, 3, none⟩ = some (.slice A0 l0.length c0) := (blk_cell hbk_ 3).trans rfl
        have h7b3d : w7.drew.cell? ⟨B, 3, none⟩ = some (.slice A0 l0.length c0) := h7b3
        clear hbk_
        have hbk_ := (HB7.out.block B (blk_lt BK.out)).trans BK.out
        have h7a0 : ∀ o_, (w7.alloc o_).cell? ⟨B, 0, none⟩ = some (.int .i64 s) := fun o_ => (World.cell?_of_block (w := w7) (Below.heap_alloc w7 o_ B (blk_lt hbk_))).trans ((blk_cell hbk_ 0).trans rfl)
        have h7a1 : ∀ o_, (w7.alloc o_).cell? ⟨B, 1, none⟩ = some (.int .i64 f) := fun o_ => (World.cell?_of_block (w := w7) (Below.heap_alloc w7 o_ B (blk_lt hbk_))).trans ((blk_cell hbk_ 1).trans rfl)
        have h7a2 : ∀ o_, (w7.alloc o_).cell? ⟨B, 2, none⟩ = some (.int .i64 o) := fun o_ => (World.cell?_of_block (w := w7) (Below.heap_alloc w7 o_ B (blk_lt hbk_))).trans ((blk_cell hbk_ 2).trans rfl)
        have h7a3 : ∀ o_, (w7.alloc o_).cell? ⟨B, 3, none⟩ = some (.slice A0 l0.length c0) := fun o_ => (World.cell?_of_block (w := w7) (Below.heap_alloc w7 o_ B (blk_lt hbk_))).trans ((blk_cell hbk_ 3).trans rfl)
        clear hbk_
        have HA7 : ∀ o_, Aside0 (Below w7.heap.size w7 (w7.alloc o_)) := fun o_ => ⟨(Below.refl _ w7).alloc (Nat.le_refl _) o_⟩
        by_cases hq : q = s
        case pos =>
          have hqb : (q == s) = true := by simpa using hq
          go_wp2
          go_roundg Rm'.length
          case measure => have := HX.out.1; omega
          case rel => exact ⟨N, Rm', Nat.le_refl _, ⟨NextI.skip HN.out HIT.out hq (HM7.out.below (HA7 _).out HM7.out.lt) (HI7.out.below (HA7 _).out HI7.out.lts.1 HI7.out.lts.2) (below_step HB7.out (HA7 _).out) HX.out.1 HX.out.2.1 HX.out.2.2.1⟩⟩
        have hqb : (q == s) = false := by simpa using hq
        have HQ := Aside0.mk hq
        have H1 := Aside0.mk HIT.out
        clear hq
        go_wp2
        go_loopg [13] f.toNat (fun gg v13 wr => ∃ (j : Nat) (N3 : List (Value × Value)), j ≤ f.toNat ∧ f.toNat - j ≤ gg ∧ v13 = .int .i64 ((j : Int) + 1) ∧ Aside0 (FaceI s f tv mv Iv sq0 mk0 throws.toNat w2 i b1 b2 r w7.heap.size q m c j N3 Rm' wr))
        case atStart => exact ⟨0, N, Nat.zero_le _, by omega, rfl, ⟨FaceI.start HN.out HIT.out HQ.out (HM7.out.below (HA7 _).out HM7.out.lt) (HI7.out.below (HA7 _).out HI7.out.lts.1 HI7.out.lts.2) (below_step HB7.out (HA7 _).out) HX.out.1 HX.out.2.1 HX.out.2.2.1 (blk_new w7 _)⟩⟩
        case round =>
          clear h7b0 h7b0d h7b1 h7b1d h7b2 h7b2d h7b3 h7b3d
          clear h7a0 h7a1 h7a2 h7a3 HN
          obtain ⟨j, N3, hj, hgj, rfl, HF⟩ := hrel
          have HD3 := Aside0.mk (And.intro HI7.out.lts.1 (And.intro HI7.out.lts.2 HM7.out.lt))
          have hf8 := HWAY.out.f8
          have hf0 := HWAY.out.f0
          have hbk_ := (HF.out.below).block B (blk_lt BK.out) |>.trans BK.out
          have h3b0 : wr.cell? ⟨B, 0, none⟩ = some (.int .i64 s) := (blk_cell hbk_ 0).trans rfl
          have h3b0d : wr.drew.cell? ⟨B, 0, none⟩ = some (.int .i64 s) := h3b0
          have h3b1 : wr.cell? ⟨B, 1, none⟩ = some (.int .i64 f) := (blk_cell hbk_ 1).trans rfl
          have h3b1d : wr.drew.cell? ⟨B, 1, none⟩ = some (.int .i64 f) := h3b1
          have h3b2 : wr.cell? ⟨B, 2, none⟩ = some (.int .i64 o) := (blk_cell hbk_ 2).trans rfl
          have h3b2d : wr.drew.cell? ⟨B, 2, none⟩ = some (.int .i64 o) := h3b2
          have h3b3 : wr.cell? ⟨B, 3, none⟩ = some (.slice A0 l0.length c0) := (blk_cell hbk_ 3).trans rfl
          have h3b3d : wr.drew.cell? ⟨B, 3, none⟩ = some (.slice A0 l0.length c0) := h3b3
          clear hbk_
          have h3s0 : wr.cell? ⟨w7.heap.size, 0, none⟩ = some (.int .i64 q) := (blk_cell (HF.out.cell) 0).trans rfl
          have h3s0d : wr.drew.cell? ⟨w7.heap.size, 0, none⟩ = some (.int .i64 q) := h3s0
          have h3s1 : wr.cell? ⟨w7.heap.size, 1, none⟩ = some (.int .i64 m) := (blk_cell (HF.out.cell) 1).trans rfl
          have h3s1d : wr.drew.cell? ⟨w7.heap.size, 1, none⟩ = some (.int .i64 m) := h3s1
          by_cases hjf : (j : Int) + 1 ≤ f
          case neg =>
            go_wp2
            go_roundg Rm'.length
            case measure => have := HX.out.1; omega
            case rel => exact ⟨N3, Rm', Nat.le_refl _, ⟨FaceI.done HF.out (by omega) hf8⟩⟩
          have HJ := Aside0.mk hjf
          obtain ⟨hth, hIn⟩ := HWAY.out.thr (throws.toNat - (i + 1)) q m (by have h_ := HX.out.2.2.2; rwa [show throws.toNat - i = throws.toNat - (i + 1) + 1 by have := HIT.out; omega] at h_) HQ.out ((j : Int) + 1) (by omega) hjf
          have HMK := fun W_ h_ => HM.out W_ (throws.toNat - (i + 1)) q m ((j : Int) + 1) h_ (by have h_ := HX.out.2.2.2; rwa [show throws.toNat - i = throws.toNat - (i + 1) + 1 by have := HIT.out; omega] at h_) HQ.out (by omega) hjf
          have HIN := Aside0.mk hIn
          have hlen3 : N3.length < maxLen := by have h1_ := HF.out.len; have h2_ := pow8 HT.out (Nat.le_of_lt HIT.out); show N3.length < 9223372036854775807; omega
          have HLEN := Aside0.mk hlen3
          obtain ⟨kl, hkl⟩ := spot_key (HWAY.out.wf _ _ _ hIn).1 (HWAY.out.wf _ _ _ hIn).2
          have HE1 := fun c0 N' w' hm hi hb hc hl y (hy : Cg y (c0 + c)) h1 h2 => FaceI.step (c0 := c0) (N' := N') (w := w') HF.out hm hi hb hc hl hy h1 hIn h2
          clear hIn hlen3
          generalize tv q ((j : Int) + 1) = q' at hth hkl HIN HE1
          generalize mv q m ((j : Int) + 1) = m' at hkl HIN HMK HE1
          have HTH := Aside0.mk hth
          have HKL := Aside0.mk hkl
          have HMK1 := Aside0.mk HMK
          have HSTEP := Aside0.mk HE1
          clear hth hkl HMK HE1
          go_wp2
          go_region_with (first | (go_at_call 61; refine calls_at (fun W_ => Below wr.heap.size wr W_) (by (with_reducible repeat (first | exact Below.refl _ _ | apply below_alloc | apply pw_below_drewN | apply below_drew1)) <;> first | exact Below.refl _ _ | exact Nat.le_refl _) (fun W_ hW_ => ?_); (with_reducible refine (impl_Board_throw.calls k s f o A0 c0 l0 q ((j : Int) + 1) q' _ (Kd.C_below HR.out (below_step (below_step HW2.out HF.out.below) hW_)) HC.out HTH.out).mono ?_); rintro e w4 ⟨rfl, hb⟩; have HB4 := Aside0.mk (below_step hW_ hb); clear hW_ hb; have hbk_ := (below_step HF.out.below HB4.out).block B (blk_lt BK.out) |>.trans BK.out; have h4b0 : w4.cell? ⟨B, 0, none⟩ = some (.int .i64 s) := (blk_cell hbk_ 0).trans rfl; have h4b0d : w4.drew.cell? ⟨B, 0, none⟩ = some (.int .i64 s) := h4b0; have h4b1 : w4.cell? ⟨B, 1, none⟩ = some (.int .i64 f) := (blk_cell hbk_ 1).trans rfl; have h4b1d : w4.drew.cell? ⟨B, 1, none⟩ = some (.int .i64 f) := h4b1; have h4b2 : w4.cell? ⟨B, 2, none⟩ = some (.int .i64 o) := (blk_cell hbk_ 2).trans rfl; have h4b2d : w4.drew.cell? ⟨B, 2, none⟩ = some (.int .i64 o) := h4b2; have h4b3 : w4.cell? ⟨B, 3, none⟩ = some (.slice A0 l0.length c0) := (blk_cell hbk_ 3).trans rfl; have h4b3d : w4.drew.cell? ⟨B, 3, none⟩ = some (.slice A0 l0.length c0) := h4b3; clear hbk_; have h4s0 : w4.cell? ⟨w7.heap.size, 0, none⟩ = some (.int .i64 q) := (blk_cell ((HB4.out.block _ (blk_lt HF.out.cell)).trans HF.out.cell) 0).trans rfl; have h4s0d : w4.drew.cell? ⟨w7.heap.size, 0, none⟩ = some (.int .i64 q) := h4s0; have h4s1 : w4.cell? ⟨w7.heap.size, 1, none⟩ = some (.int .i64 m) := (blk_cell ((HB4.out.block _ (blk_lt HF.out.cell)).trans HF.out.cell) 1).trans rfl; have h4s1d : w4.drew.cell? ⟨w7.heap.size, 1, none⟩ = some (.int .i64 m) := h4s1) | (go_at_fn g; refine calls_at (fun W_ => Below wr.heap.size wr W_) (by (with_reducible repeat (first | exact HB4.out | apply below_alloc | apply pw_below_drewN | apply below_drew1)) <;> first | exact HB4.out | exact Nat.le_refl _) (fun W_ hW_ => ?_); (with_reducible refine (HMK1.out _ (below_step (below_step HW2.out HF.out.below) hW_)).mono ?_); rintro e w5 ⟨rfl, hb⟩; have HB5 := Aside0.mk (below_step hW_ hb); clear hW_ hb; have hbk_ := (below_step HF.out.below HB5.out).block B (blk_lt BK.out) |>.trans BK.out; have h5b0 : w5.cell? ⟨B, 0, none⟩ = some (.int .i64 s) := (blk_cell hbk_ 0).trans rfl; have h5b0d : w5.drew.cell? ⟨B, 0, none⟩ = some (.int .i64 s) := h5b0; have h5b1 : w5.cell? ⟨B, 1, none⟩ = some (.int .i64 f) := (blk_cell hbk_ 1).trans rfl; have h5b1d : w5.drew.cell? ⟨B, 1, none⟩ = some (.int .i64 f) := h5b1; have h5b2 : w5.cell? ⟨B, 2, none⟩ = some (.int .i64 o) := (blk_cell hbk_ 2).trans rfl; have h5b2d : w5.drew.cell? ⟨B, 2, none⟩ = some (.int .i64 o) := h5b2; have h5b3 : w5.cell? ⟨B, 3, none⟩ = some (.slice A0 l0.length c0) := (blk_cell hbk_ 3).trans rfl; have h5b3d : w5.drew.cell? ⟨B, 3, none⟩ = some (.slice A0 l0.length c0) := h5b3; clear hbk_; have h5s0 : w5.cell? ⟨w7.heap.size, 0, none⟩ = some (.int .i64 q) := (blk_cell ((HB5.out.block _ (blk_lt HF.out.cell)).trans HF.out.cell) 0).trans rfl; have h5s0d : w5.drew.cell? ⟨w7.heap.size, 0, none⟩ = some (.int .i64 q) := h5s0; have h5s1 : w5.cell? ⟨w7.heap.size, 1, none⟩ = some (.int .i64 m) := (blk_cell ((HB5.out.block _ (blk_lt HF.out.cell)).trans HF.out.cell) 1).trans rfl; have h5s1d : w5.drew.cell? ⟨w7.heap.size, 1, none⟩ = some (.int .i64 m) := h5s1; obtain ⟨cl, hrunL, hindL⟩ := mapZ_lookup spot_law Try.underlying87 Try.underlying3 zeroI (HF.out.map.below HB5.out HF.out.map.lt) HKL.out; obtain ⟨ce, st, o1, O2, L2, hrunE, hindE, hrunL1, hrunS, hall⟩ := mapZ_entry spot_law Try.underlying87 Try.underlying3 zeroI (HF.out.map.below HB5.out HF.out.map.lt) HLEN.out HKL.out; have ece := ind_uniq hindE hindL; subst ece; have HALL := Aside0.mk hall; have HLT2 := Aside0.mk (HF.out.map.below HB5.out HF.out.map.lt).lt; replace hrunS := fun q_ => hrunS (Go.ChangeMaps.setBlock w5 b2 o1) q_ (setBlock_at HLT2.out o1); replace hrunL1 := hrunL1 (Go.ChangeMaps.setBlock w5 b2 o1) (setBlock_at HLT2.out o1); clear hindL hindE hall))
          all_goals
            clear h3s0 h3s0d h3s1 h3s1d h3b0 h3b0d h3b1 h3b1d h3b2 h3b2d h3b3 h3b3d
            have hb2_ : w2.heap.size ≤ b2 := by have := HD.out; omega
            have hsz_ : b2 < (Go.ChangeMaps.setBlock w5 b2 o1).heap.size := by rw [setBlock_size]; exact HLT2.out
            have hblk_ : ∀ i_ x_, i_ < wr.heap.size → i_ ≠ b2 → (Go.ChangeMaps.setBlock (Go.ChangeMaps.setBlock w5 b2 o1) b2 x_).heap[i_]? = wr.heap[i_]? := fun i_ x_ h1_ h2_ => (setBlock_ne h2_ _).trans ((setBlock_ne h2_ _).trans (HB5.out.block i_ h1_))
            have HNEW := Aside0.mk (fun (x_ : Int) (hx_ : (Lit.int .i64 x_).wf = true) (hc_ : Cg x_ (ce + c)) => HSTEP.out ce (L2 x_) (Go.ChangeMaps.setBlock (Go.ChangeMaps.setBlock w5 b2 o1) b2 (O2 x_)) ((HALL.out x_ hx_).1 _ (setBlock_at hsz_ _)) (HF.out.it.of_blocks (hblk_ b1 _ HF.out.it.lts.1 (by have := HD.out; omega)) (hblk_ r _ HF.out.it.lts.2 (by have := HD.out; omega))) (below_setBlock (below_setBlock (below_step HF.out.below HB5.out) hb2_ _) hb2_ _) ((hblk_ _ _ (blk_lt HF.out.cell) (by have := HD3.out; omega)).trans HF.out.cell) (HALL.out x_ hx_).2.1 x_ hc_ (HALL.out x_ hx_).2.2.1 (HALL.out x_ hx_).2.2.2)
            clear hb2_ hsz_ hblk_
            have hj8 : j < 8 := by have := HJ.out; omega
            have hjt : j + 1 ≤ f.toNat := by have := HJ.out; omega
            have HWJ : Aside0 (wrap64 ((j : Int) + 1 + 1) = ((j + 1 : Nat) : Int) + 1) := ⟨by unfold wrap64; omega⟩
            go_wp2
            go_roundg (f.toNat - (j + 1))
            case measure => omega
            case rel => exact ⟨j + 1, L2 _, hjt, Nat.le_refl _, by first | rfl | rw [HWJ.out] | exact congrArg (Value.int .i64) (by omega), ⟨HNEW.out _ (by first | exact wf_wrap64 _ | exact wf_wrap _) (by first | exact Cg.wrap _ | exact cg_wrap _)⟩⟩
end Go.Proofs.Ytphjhfpeomifiaa.P
