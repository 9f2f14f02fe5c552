/- slices.Repeat at []int: a list of one number, so many times: what the Go text returns, up to 1000 times. -/
import Derived.Test.YtcppahkdfajcaaaP79
import Derived.Deep.RegionLaw
import Derived.Lib.Hide
import Derived.Laws.CopyOwn
import Derived.Laws.OwnMore
import Derived.OwnWalk
namespace Go.Proofs.Ytcppahkdfajcaaa.P
open Go.RowKit Go.Proofs.YtcppahkdfajcaaaW.PrintWords Go.Proofs.YtcppahkdfajcaaaW.PrintLast Go.Proofs.YtcppahkdfajcaaaW.PrintMore
set_option linter.unusedVariables false
set_option linter.unusedSimpArgs false

set_option maxRecDepth 100000 in
theorem mul_one_all : ∀ n ∈ List.range 1001, bits_Mul.f 1 (n : Int) = some (0, (n : Int)) := by decide +kernel
theorem mul_one {n : Nat} (h : n ≤ 1000) : bits_Mul.f 1 (n : Int) = some (0, (n : Int)) := mul_one_all n (by simp; omega)

def slices_Repeat_int_int.f (l0 : List Int) (a1 : Int) : Option (List Int) := if l0.length = 1 ∧ 0 ≤ a1 ∧ a1 ≤ 1000 then some (List.replicate a1.toNat (rd l0 0)) else none

def repCur (x : Int) (n m : Nat) : List Value := List.replicate m (.int .i64 x) ++ List.replicate (n - m) (.int .i64 0)
theorem repCur_length {x : Int} {n m : Nat} (h : m ≤ n) : (repCur x n m).length = n := by simp [repCur]; omega
theorem repCur_splice {x : Int} {n m c : Nat} (h : m + c ≤ n) : splice (repCur x n m) m (List.replicate c (.int .i64 x)) = repCur x n (m + c) := by
  unfold splice repCur
  rw [List.length_replicate, List.take_left' (by simp), ← List.append_assoc, List.replicate_append_replicate, List.drop_append, List.drop_of_length_le (by simp), List.nil_append, List.length_replicate, List.drop_replicate]
  congr 2
  omega
theorem rep_own {W : World} {B G n : Nat} {x : Int} (hB : B ≤ G) (hn : n ≤ 1000) (hG : W.heap[G]? = some (.cells (repCur x n n).toArray 3 (0, 0))) :
    Kd.R (Kd.int .i64) 3 W B (fun _ => True) (.slice (some ⟨G, 0, none⟩) n n) (List.replicate n x) := by
  have e : repCur x n n = List.replicate n (Value.int .i64 x) := by simp [repCur]
  rw [e] at hG
  have h := Kd.R_of_own (enc := Value.int .i64) (h1 := fun _ => rfl) (e := 3) (w := W) (base := B) (ok := fun _ => True) (v := .slice (some ⟨G, 0, none⟩) n n) (xs := List.replicate n x)
    ⟨by simp [encs], .inr ⟨G, n, _, by simp, hB, hG, by simp, by simp [maxLen]; omega, by simp, by simp [encs]⟩⟩ (fun _ _ => trivial)
  exact h

theorem make_row {W : World} {B G n : Nat} {x : Int} (h : W.ownsRow B 3 1 (.slice (some ⟨G, 0, none⟩) n n) n (madeCells (Value.int .i64 0).cells (n * 1)).toList) :
    W.heap[G]? = some (.cells (repCur x n 0).toArray 3 (0, 0)) := by
  obtain ⟨_, h2⟩ := h
  rcases h2 with ⟨h3, _⟩ | ⟨g, cap, cur, h3, _, hh, h4, h5, h6, h7⟩
  · cases h3
  · injection h3 with h8 h9 h10
    injection h8 with h8
    injection h8 with h8
    subst h8 h10
    rw [hh]
    have e1 : cur.toList = List.replicate n (Value.int .i64 0) := by
      rw [show (Value.int .i64 0).cells = #[.int .i64 0] from rfl, toList_madeCells_one, List.take_of_length_le (by simp; omega)] at h7
      rw [h7, Nat.mul_one]
    have e2 : cur = (repCur x n 0).toArray := by
      apply Array.ext'
      rw [e1]; simp [repCur]
    rw [e2]

theorem rep_cell {W : World} {G n m : Nat} {x : Int} (h : W.heap[G]? = some (.cells (repCur x n m).toArray 3 (0, 0))) {j : Nat} {v : Value} (hj : (List.replicate (min m (n - m)) (Value.int .i64 x))[j]? = some v) :
    W.cell? ((⟨G, 0, none⟩ : Addr).add j) = some v := by
  obtain ⟨h1, h2⟩ := List.getElem?_eq_some_iff.1 hj
  simp at h1 h2
  rw [add_plain, blk_cell h]
  subst h2
  rw [List.getElem?_toArray]
  unfold repCur
  rw [List.getElem?_append_left (by simp; omega), List.getElem?_replicate, if_pos (by omega)]

set_option maxHeartbeats 8000000 in
set_option maxRecDepth 100000 in
theorem slices_Repeat_int_int.calls (A0 : Option Addr) (c0 : Nat) (l0 : List Int) (a1 : Int) (r : List Int) (w : World) (hr0 : Kd.C (Kd.int .i64) w A0 l0.length l0) (hc0 : l0.length ≤ c0) (h : slices_Repeat_int_int.f l0 a1 = some r) :
    Calls Try.prog 104 #[.slice A0 l0.length c0, .int .i64 a1] w fun e w' => ∃ v0_ : Value, e = .returned (v0_) ∧ Kd.R (Kd.int .i64) 3 w' w.heap.size (fun _ => True) v0_ r ∧ Below w.heap.size w w' := by
  unfold slices_Repeat_int_int.f at h
  by_cases hp : l0.length = 1 ∧ 0 ≤ a1 ∧ a1 ≤ 1000
  case neg => rw [if_neg hp] at h; cases h
  rw [if_pos hp] at h
  obtain rfl := Option.some.inj h
  clear h
  obtain ⟨h1, h2, h3⟩ := hp
  obtain ⟨n, rfl⟩ : ∃ n : Nat, a1 = (n : Int) := ⟨a1.toNat, by omega⟩
  obtain ⟨ad, e0, hx⟩ := Kd.at_int hr0 0 (by omega) (by omega)
  cases e0
  have hx0 : w.cell? (ad.add 0) = some (.int .i64 (rd l0 0)) := hx
  rw [Int.toNat_natCast]
  generalize rd l0 0 = x at hx0 ⊢
  rw [h1]
  clear hr0 hx
  have hn : n ≤ 1000 := by omega
  have HM := Aside0.mk (mul_one hn)
  have HX := Aside0.mk hx0
  clear hx0 hc0 h1 h2 h3 l0
  obtain ⟨i0, hi0, hz0, hz1, hz2⟩ := info_parts info3
  have HI := Aside0.mk hi0
  have HZ0 := Aside0.mk hz0
  have HZ1 := Aside0.mk hz1
  have HZ2 := Aside0.mk hz2
  clear hi0 hz0 hz1 hz2
  by_cases hn0 : n = 0
  · subst hn0
    have HM0 := Aside0.mk (show bits_Mul.f 1 0 = some (0, 0) from HM.out)
    show Calls Try.prog 104 #[.slice (some ad) 1 c0, .int .i64 0] w _
    go_enter Try.func104, Try.ntmps104
    go_wp2_with (first | (go_at_call 108; (with_reducible refine (bits_Mul.calls 1 0 0 0 _ HM0.out).mono ?_); rintro e w' ⟨rfl, ⟨nd, rfl⟩⟩) | ((with_reducible refine gate_dst (N := 30) rfl ?_); refine wpList_make_full _ rfl (.tmp 29) (.tmp 29) 22 rfl w.heap.size 3 i0 (.int .i64 0) 1 Try.underlying22 HI.out HZ0.out HZ1.out .i64 .i64 0 0 0 rfl rfl rfl rfl (by rw [HZ2.out]; omega) (by simp only [maxLen]; omega) (by simp) ?_; intro w1 hown hgr; have HG1 := Aside0.mk (make_row (x := x) (B := w.heap.size) (G := w.heap.size) (n := 0) (W := w1) hown); have HB1 := Aside0.mk (Below.grown (a := w) (pw_below_drewN (Below.refl _ _) _) hgr (Nat.le_refl _) (fun k hk => by cases hk)); clear hown hgr) | ((with_reducible refine gate_builtin (b := .copy) (xs := #[.tmp 31, .tmp 32]) rfl ?_); refine wpList_copy_splice rfl (.tmp 31) (.tmp 32) 22 22 rfl 3 Try.underlying22 (by kernel_rfl) _ _ _ _ _ _ rfl rfl w.heap.size 0 (repCur x 0 0) 3 HG1.out (List.replicate 0 (.int .i64 x)) (by simp) (fun h_ => absurd h_ (by simp)) (by simp) (by simp) w.heap.size w HB1.out (Nat.le_refl _) ?_; intro w2 hg2 hb2; have HG2 := hg2.out; rw [repCur_splice (by omega)] at HG2; have HG := Aside0.mk HG2; have HB2 := Aside0.mk hb2; clear HG1 HB1 hg2 hb2 HG2))
    refine wp_loop_rounds 1 ?_
    rw [rounds_succ]
    go_wp2
    go_ret
    exact ⟨_, rfl, rep_own (x := x) (n := 0) (Nat.le_refl _) (by omega) HG.out, HB2.out⟩
  · have hn1 : 1 ≤ n := by omega
    go_enter Try.func104, Try.ntmps104
    go_wp2_with (first | (go_at_call 108; (with_reducible refine (bits_Mul.calls 1 (n : Int) 0 (n : Int) _ HM.out).mono ?_); rintro e w' ⟨rfl, ⟨nd, rfl⟩⟩) | ((with_reducible refine gate_dst (N := 30) rfl ?_); refine wpList_make_full _ rfl (.tmp 29) (.tmp 29) 22 rfl w.heap.size 3 i0 (.int .i64 0) 1 Try.underlying22 HI.out HZ0.out HZ1.out .i64 .i64 (n : Int) (n : Int) n rfl rfl rfl rfl (by rw [HZ2.out]; omega) (by simp only [maxLen]; omega) (by simp) ?_; intro w1 hown hgr; have HG1 := Aside0.mk (make_row (x := x) (B := w.heap.size) (G := w.heap.size) (n := n) (W := w1) hown); have HB1 := Aside0.mk (Below.grown (a := w) (pw_below_drewN (Below.refl _ _) _) hgr (Nat.le_refl _) (fun k hk => by cases hk)); clear hown hgr) | ((with_reducible refine gate_builtin (b := .copy) (xs := #[.tmp 31, .tmp 32]) rfl ?_); refine wpList_copy_splice rfl (.tmp 31) (.tmp 32) 22 22 rfl 3 Try.underlying22 (by kernel_rfl) _ _ _ _ _ _ rfl rfl w.heap.size 0 (repCur x n 0) 3 HG1.out (List.replicate 1 (.int .i64 x)) (show (List.replicate 1 (Value.int .i64 x)).length = min 1 n from (by rw [List.length_replicate]; omega)) (fun _ => ⟨rfl, ad, rfl, fun j v hj => by have hj0 : j = 0 := (by have h_ := (List.getElem?_eq_some_iff.1 hj).1; simp at h_; exact h_); subst hj0; injection hj with hj; rw [← hj]; exact (HB1.out.cell (World.block_lt_of_cell? w _ HX.out)).trans HX.out⟩) (by rw [repCur_length (by omega)]; simp; omega) (by simp [Value.oneCell']) w.heap.size w HB1.out (Nat.le_refl _) ?_; intro w2 hg2 hb2; have HG2 := hg2.out; rw [repCur_splice (by omega)] at HG2; have HG := Aside0.mk HG2; have HB2 := Aside0.mk hb2; clear HG1 HB1 hg2 hb2 HG2))
    go_loopg [8] n (fun gg v8 wr => ∃ m : Nat, 1 ≤ m ∧ m ≤ n ∧ n - m ≤ gg ∧ v8 = .int .i64 m ∧ Aside0 (wr.heap[w.heap.size]? = some (.cells (repCur x n m).toArray 3 (0, 0))) ∧ Aside0 (Below w.heap.size w wr))
    case atStart => exact ⟨1, Nat.le_refl _, hn1, by omega, by first | rfl | simp, by simpa using HG, HB2⟩
    case round =>
      clear HG HB2
      obtain ⟨m, hm1, hm2, hg, rfl, HG, HB⟩ := hrel
      by_cases hlt : m < n
      · have hmi : (m : Int) < (n : Int) := by omega
        have hd1 : (0 : Int) ≤ (m : Int) := by omega
        have hd2 : (m : Int) ≤ (n : Int) := by omega
        have hsum : IntKind.i64.wrap ((m : Int) + ((min m (n - m) : Nat) : Int)) = ((m + min m (n - m) : Nat) : Int) := by rw [IntKind.wrap_i64]; omega
        have HS := Lib.hid hsum
        clear hsum
        go_wp2
        go_region_law (refine step_copy_splice rfl (.tmp 41) (.tmp 44) 22 22 rfl 3 Try.underlying22 (by kernel_rfl) (some ⟨w.heap.size, m, none⟩) (some ⟨w.heap.size, 0, none⟩) (n - m) (n - m) m n (by simp [Act.eval, Act.put] <;> omega) (by simp [Act.eval, Act.put]) w.heap.size m (repCur x n m) 3 HG.out (List.replicate (min m (n - m)) (.int .i64 x)) (by simp) (fun _ => ⟨rfl, _, rfl, fun j v hj => rep_cell HG.out hj⟩) (by rw [repCur_length (by omega)]; simp; omega) (fun v hv => by rw [(List.mem_replicate.1 hv).2]; rfl) w.heap.size w (by repeat (first | exact HB.out | apply below_drew)) (Nat.le_refl _) ?_; intro w3 hg3 hb3)
        have HG3 := hg3.out
        rw [repCur_splice (by omega)] at HG3
        have HG4 := Aside0.mk HG3
        have HB4 := Aside0.mk hb3
        clear hg3 hb3 HG3
        go_wp2
        go_roundg (n - (m + min m (n - m)))
        case measure => omega
        case rel => exact ⟨m + min m (n - m), by omega, by omega, by omega, congrArg (Value.int .i64) HS.out, HG4, HB4⟩
      · have hmn : m = n := by omega
        subst hmn
        go_wp2
        go_ret
        exact ⟨_, rfl, rep_own (x := x) (Nat.le_refl _) (by omega) HG.out, HB.out⟩

end Go.Proofs.Ytcppahkdfajcaaa.P
