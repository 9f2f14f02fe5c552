/- How many throws have each sum of the kept greatest dice: sums over whole numbers up to multiples of 2^64, the numbers by their own recursion, and the program's table. Plain Lean; no Go in it. -/
import Derived.Test.YtbnbokiiakampaaEWays
import Derived.Test.YtbnbokiiakampaaQBase
namespace Go.Proofs.Ytbnbokiiakampaa.Q
open Go.RowKit Go.Proofs.Ytbnbokiiakampaa.P Go.Proofs.YtbnbokiiakampaaW.PrintWords
set_option linter.unusedVariables false
set_option linter.unusedSimpArgs false

/-- Equal but for multiples of 2^64. -/
def Cg (a b : Int) : Prop := ∃ q : Int, a = b + q * 18446744073709551616
theorem Cg.refl (a : Int) : Cg a a := ⟨0, by omega⟩
theorem Cg.of {a b : Int} (h : a = b) : Cg a b := h ▸ Cg.refl a
theorem Cg.symm {a b : Int} (h : Cg a b) : Cg b a := by obtain ⟨q, h⟩ := h; exact ⟨-q, by omega⟩
theorem Cg.trans {a b c : Int} (h : Cg a b) (k : Cg b c) : Cg a c := by obtain ⟨q, h⟩ := h; obtain ⟨p, k⟩ := k; exact ⟨q + p, by omega⟩
theorem Cg.add {a b c d : Int} (h : Cg a b) (k : Cg c d) : Cg (a + c) (b + d) := by obtain ⟨q, h⟩ := h; obtain ⟨p, k⟩ := k; exact ⟨q + p, by omega⟩
theorem Cg.mul_left (x : Int) {a b : Int} (h : Cg a b) : Cg (x * a) (x * b) := by obtain ⟨q, h⟩ := h; exact ⟨x * q, by rw [h, Int.mul_add, Int.mul_assoc]⟩
theorem Cg.mul_right (x : Int) {a b : Int} (h : Cg a b) : Cg (a * x) (b * x) := by rw [Int.mul_comm a, Int.mul_comm b]; exact h.mul_left x
theorem Cg.wrap (a : Int) : Cg (wrap64 a) a := ⟨-((a + 9223372036854775808) / 18446744073709551616), by unfold wrap64; omega⟩
def InI (x : Int) : Prop := -9223372036854775808 ≤ x ∧ x ≤ 9223372036854775807
theorem InI.wrap (a : Int) : InI (wrap64 a) := by unfold InI wrap64; omega
theorem Cg.eq {a b : Int} (h : Cg a b) (ha : InI a) (hb : InI b) : a = b := by obtain ⟨q, h⟩ := h; unfold InI at ha hb; omega

def sumN : Nat → (Nat → Int) → Int
  | 0, _ => 0
  | n + 1, g => sumN n g + g n
theorem sumN_congr {n : Nat} {g h : Nat → Int} (e : ∀ i, i < n → g i = h i) : sumN n g = sumN n h := by
  induction n with
  | zero => rfl
  | succ n ih => show sumN n g + g n = sumN n h + h n; rw [ih fun i hi => e i (by omega), e n (by omega)]
theorem sumN_zero {n : Nat} {g : Nat → Int} (e : ∀ i, i < n → g i = 0) : sumN n g = 0 := by
  induction n with
  | zero => rfl
  | succ n ih => show sumN n g + g n = 0; rw [ih fun i hi => e i (by omega), e n (by omega)]; rfl
theorem sumN_add (n : Nat) (g h : Nat → Int) : sumN n (fun i => g i + h i) = sumN n g + sumN n h := by
  induction n with
  | zero => rfl
  | succ n ih => show sumN n (fun i => g i + h i) + (g n + h n) = (sumN n g + g n) + (sumN n h + h n); rw [ih]; omega
theorem sumN_mul (n : Nat) (x : Int) (g : Nat → Int) : sumN n (fun i => x * g i) = x * sumN n g := by
  induction n with
  | zero => simp [sumN]
  | succ n ih => show sumN n (fun i => x * g i) + x * g n = x * (sumN n g + g n); rw [ih, Int.mul_add]
theorem sumN_first (n : Nat) (g : Nat → Int) : sumN (n + 1) g = g 0 + sumN n (fun i => g (i + 1)) := by
  induction n with
  | zero => simp [sumN]
  | succ n ih => show sumN (n + 1) g + g (n + 1) = g 0 + (sumN n (fun i => g (i + 1)) + g (n + 1)); rw [ih]; omega
theorem sumN_swap (n m : Nat) (g : Nat → Nat → Int) : sumN n (fun i => sumN m (fun j => g i j)) = sumN m (fun j => sumN n (fun i => g i j)) := by
  induction n with
  | zero => exact (sumN_zero fun _ _ => rfl).symm
  | succ n ih => show sumN n (fun i => sumN m (fun j => g i j)) + sumN m (g n) = sumN m (fun j => sumN n (fun i => g i j) + g n j); rw [ih, sumN_add]
theorem sumN_le {n : Nat} {g h : Nat → Int} (e : ∀ i, i < n → g i ≤ h i) : sumN n g ≤ sumN n h := by
  induction n with
  | zero => exact Int.le_refl _
  | succ n ih => show sumN n g + g n ≤ sumN n h + h n; have := ih fun i hi => e i (by omega); have := e n (by omega); omega
theorem sumN_nonneg {n : Nat} {g : Nat → Int} (e : ∀ i, i < n → 0 ≤ g i) : 0 ≤ sumN n g := by
  induction n with
  | zero => exact Int.le_refl _
  | succ n ih => show 0 ≤ sumN n g + g n; have := ih fun i hi => e i (by omega); have := e n (by omega); omega
theorem sumN_more {n m : Nat} {g : Nat → Int} (hnm : n ≤ m) (e : ∀ i, n ≤ i → g i = 0) : sumN m g = sumN n g := by
  obtain ⟨d, rfl⟩ : ∃ d, m = n + d := ⟨m - n, by omega⟩
  clear hnm
  induction d with
  | zero => rfl
  | succ d ih => show sumN (n + d) g + g (n + d) = _; rw [ih, e (n + d) (by omega), Int.add_zero]

def ch : Nat → Nat → Int
  | _, 0 => 1
  | 0, _ + 1 => 0
  | n + 1, k + 1 => ch n k + ch n (k + 1)
theorem ch_zero (n : Nat) : ch n 0 = 1 := by cases n <;> rfl
theorem ch_out : ∀ {n k : Nat}, n < k → ch n k = 0
  | 0, _ + 1, _ => rfl
  | n + 1, k + 1, h => by show ch n k + ch n (k + 1) = 0; rw [ch_out (by omega), ch_out (by omega)]; rfl
theorem ch_nonneg : ∀ n k : Nat, 0 ≤ ch n k
  | n, 0 => by rw [ch_zero]; omega
  | 0, _ + 1 => by show (0 : Int) ≤ 0; omega
  | n + 1, k + 1 => by show 0 ≤ ch n k + ch n (k + 1); have := ch_nonneg n k; have := ch_nonneg n (k + 1); omega
theorem chooseN_all : ∀ n ∈ List.range 9, ∀ c ∈ List.range 9, c ≤ n → chooseN n c = ch n c := by decide +kernel
theorem chooseN_ch {n c : Nat} (hn : n ≤ 8) (hc : c ≤ n) : chooseN n c = ch n c := chooseN_all n (by simp; omega) c (by simp; omega) hc
theorem binom_all : ∀ f ∈ List.range 13, ∀ n ∈ List.range 9, sumN (n + 1) (fun c => ch n c * (f : Int) ^ (n - c)) = ((f : Int) + 1) ^ n := by decide +kernel
theorem binom {f n : Nat} (hf : f ≤ 12) (hn : n ≤ 8) : sumN (n + 1) (fun c => ch n c * (f : Int) ^ (n - c)) = ((f : Int) + 1) ^ n := binom_all f (by simp; omega) n (by simp; omega)

/-- How many throws of n dice have the sum t of the K greatest of them, with no face greater than f. -/
def kap : Nat → Nat → Nat → Int → Int
  | 0, n, _, t => if n = 0 ∧ t = 0 then 1 else 0
  | f + 1, n, K, t => sumN (n + 1) fun c => ch n c * kap f (n - c) (K - c) (t - ((min c K * (f + 1) : Nat) : Int))
theorem kap_neg {f n K : Nat} {t : Int} (h : t < 0) : kap f n K t = 0 := by
  induction f generalizing n K t with
  | zero => unfold kap; rw [if_neg (by omega)]
  | succ f ih => unfold kap; exact sumN_zero fun c _ => by rw [ih (by omega), Int.mul_zero]
theorem kap_big {f n K : Nat} {t : Int} (h : ((n * f : Nat) : Int) < t) : kap f n K t = 0 := by
  induction f generalizing n K t with
  | zero => unfold kap; rw [if_neg (by omega)]
  | succ f ih =>
    unfold kap
    refine sumN_zero fun c hc => ?_
    rw [ih, Int.mul_zero]
    have h1 : min c K * (f + 1) ≤ c * (f + 1) := Nat.mul_le_mul_right _ (by omega)
    have h2 : n * (f + 1) = (n - c) * f + c * f + n := by rw [← Nat.add_mul, show n - c + c = n by omega, Nat.mul_add, Nat.mul_one]
    have h3 : c * (f + 1) = c * f + c := by rw [Nat.mul_add, Nat.mul_one]
    omega
theorem kap_nonneg (f n K : Nat) (t : Int) : 0 ≤ kap f n K t := by
  induction f generalizing n K t with
  | zero => unfold kap; split <;> omega
  | succ f ih => unfold kap; exact sumN_nonneg fun c _ => Int.mul_nonneg (ch_nonneg _ _) (ih ..)
theorem kap_le {f n K : Nat} {t : Int} (hf : f ≤ 12) (hn : n ≤ 8) : kap f n K t ≤ ((f : Int) + 1) ^ n := by
  induction f generalizing n K t with
  | zero =>
    unfold kap
    have : ((0 : Nat) : Int) + 1 = 1 := rfl
    rw [this, Int.one_pow]; split <;> omega
  | succ f ih =>
    unfold kap
    rw [show ((f + 1 : Nat) : Int) + 1 = ((f + 1 : Nat) : Int) + 1 from rfl, ← binom (f := f + 1) hf hn]
    refine sumN_le fun c _ => Int.mul_le_mul_of_nonneg_left ?_ (ch_nonneg _ _)
    exact_mod_cast ih (by omega) (by omega)
theorem kap_keep0 {f n : Nat} {t : Int} (hf : f ≤ 12) (hn : n ≤ 8) : kap f n 0 t = if t = 0 then (f : Int) ^ n else 0 := by
  induction f generalizing n t with
  | zero =>
    unfold kap
    cases n with
    | zero => simp
    | succ n =>
      rw [if_neg (by omega)]
      have : ((0 : Nat) : Int) ^ (n + 1) = 0 := by rw [Int.pow_succ]; exact Int.mul_zero _
      rw [this]; split <;> rfl
  | succ f ih =>
    unfold kap
    have e : ∀ c, c < n + 1 → ch n c * kap f (n - c) (0 - c) (t - ((min c 0 * (f + 1) : Nat) : Int)) = ch n c * (if t = 0 then (f : Int) ^ (n - c) else 0) := by
      intro c hc
      rw [Nat.min_zero, Nat.zero_mul, Nat.zero_sub, ih (by omega) (by omega)]
      simp
    rw [sumN_congr e]
    by_cases h : t = 0
    · simp only [h, if_true]; rw [binom (by omega) hn]; simp
    · simp only [h, if_false]; exact sumN_zero fun c _ => Int.mul_zero _
theorem kap_dice0 (f K : Nat) (t : Int) : kap f 0 K t = if t = 0 then 1 else 0 := by
  induction f generalizing K t with
  | zero => simp [kap]
  | succ f ih => unfold kap; simp [sumN, ch, ih]

/-- How many throws of d dice with F faces have the sum t. -/
def dsum : Nat → Nat → Int → Int
  | 0, _, t => if t = 0 then 1 else 0
  | d + 1, F, t => sumN F fun j => dsum d F (t - ((j + 1 : Nat) : Int))
theorem dsum_face (d F : Nat) (t : Int) : dsum d (F + 1) t = sumN (d + 1) fun k => ch d k * dsum (d - k) F (t - ((k * (F + 1) : Nat) : Int)) := by
  induction d generalizing t with
  | zero => simp [dsum, sumN, ch]
  | succ d ih =>
    have e1 : dsum (d + 1) (F + 1) t = sumN F (fun j => dsum d (F + 1) (t - ((j + 1 : Nat) : Int))) + dsum d (F + 1) (t - ((F + 1 : Nat) : Int)) := rfl
    have e2 : sumN F (fun j => dsum d (F + 1) (t - ((j + 1 : Nat) : Int))) = sumN (d + 1) fun k => ch d k * dsum (d - k + 1) F (t - ((k * (F + 1) : Nat) : Int)) := by
      rw [sumN_congr (fun j _ => ih (t - ((j + 1 : Nat) : Int))), sumN_swap]
      refine sumN_congr fun k _ => ?_
      rw [sumN_mul]
      show _ = ch d k * sumN F fun j => dsum (d - k) F (t - ((k * (F + 1) : Nat) : Int) - ((j + 1 : Nat) : Int))
      congr 1
      refine sumN_congr fun j _ => ?_
      congr 1; omega
    have e3 : dsum d (F + 1) (t - ((F + 1 : Nat) : Int)) = sumN (d + 1) fun k => ch d k * dsum (d - k) F (t - (((k + 1) * (F + 1) : Nat) : Int)) := by
      rw [ih]
      refine sumN_congr fun k _ => ?_
      congr 2
      rw [Nat.add_mul k 1, Nat.one_mul]; omega
    rw [e1, e2, e3, sumN_first (d + 1)]
    have e4 : (sumN (d + 1) fun k => ch (d + 1) (k + 1) * dsum (d + 1 - (k + 1)) F (t - (((k + 1) * (F + 1) : Nat) : Int)))
        = (sumN (d + 1) fun k => ch d k * dsum (d - k) F (t - (((k + 1) * (F + 1) : Nat) : Int))) + sumN (d + 1) fun k => ch d (k + 1) * dsum (d - k) F (t - (((k + 1) * (F + 1) : Nat) : Int)) := by
      rw [← sumN_add]
      refine sumN_congr fun k _ => ?_
      show (ch d k + ch d (k + 1)) * _ = _
      rw [Int.add_mul, show d + 1 - (k + 1) = d - k by omega]
    rw [e4]
    have e5 : (sumN (d + 1) fun k => ch d (k + 1) * dsum (d - k) F (t - (((k + 1) * (F + 1) : Nat) : Int))) = sumN d fun k => ch d (k + 1) * dsum (d - (k + 1) + 1) F (t - (((k + 1) * (F + 1) : Nat) : Int)) := by
      show sumN d _ + ch d (d + 1) * _ = _
      rw [ch_out (by omega), Int.zero_mul, Int.add_zero]
      refine sumN_congr fun k hk => ?_
      rw [show d - (k + 1) + 1 = d - k by omega]
    rw [e5, sumN_first d, ch_zero, ch_zero]
    simp only [Nat.sub_zero]
    omega
theorem kap_all {n K : Nat} (F : Nat) (t : Int) (h : n ≤ K) : kap F n K t = dsum n F t := by
  induction F generalizing n K t with
  | zero => cases n <;> simp [kap, dsum, sumN]
  | succ F ih =>
    rw [dsum_face]
    unfold kap
    refine sumN_congr fun c hc => ?_
    rw [Nat.min_eq_left (by omega), ih _ (by omega)]

/-! Weights along a list, and along a table. -/
def wt (g : Nat → Int) : List Int → Nat → Int
  | [], _ => 0
  | x :: xs, s => x * g s + wt g xs (s + 1)
def wtt (g : Nat → Nat → Int) : List (List Int) → Nat → Int
  | [], _ => 0
  | r :: rs, n => wt (g n) r 0 + wtt g rs (n + 1)
theorem rd_nil (j : Int) : rd [] j = 0 := by simp [rd]
theorem rd_cons0 (x : Int) (xs : List Int) : rd (x :: xs) ((0 : Nat) : Int) = x := by simp [rd]
theorem rd_cons (x : Int) (xs : List Int) (j : Nat) : rd (x :: xs) ((j + 1 : Nat) : Int) = rd xs (j : Int) := by simp only [rd, Int.toNat_natCast]; simp
theorem rd_out {l : List Int} {j : Nat} (h : l.length ≤ j) : rd l (j : Int) = 0 := by simp [rd, List.getElem?_eq_none h]
theorem wt_set (g : Nat → Int) (y : Int) : ∀ (l : List Int) (j s : Nat), j < l.length → wt g (l.set j y) s = wt g l s + (y - rd l (j : Int)) * g (s + j)
  | [], _, _, h => by simp at h
  | x :: xs, 0, s, _ => by
    rw [List.set_cons_zero, rd_cons0]
    show y * g s + wt g xs (s + 1) = x * g s + wt g xs (s + 1) + (y - x) * g s
    rw [Int.sub_mul]; omega
  | x :: xs, j + 1, s, h => by
    rw [List.set_cons_succ, rd_cons]
    show x * g s + wt g (xs.set j y) (s + 1) = x * g s + wt g xs (s + 1) + (y - rd xs (j : Int)) * g (s + (j + 1))
    rw [wt_set g y xs j (s + 1) (by simpa using h), show s + 1 + j = s + (j + 1) by omega]; omega
theorem wtt_set (g : Nat → Nat → Int) (r : List Int) : ∀ (rows : List (List Int)) (i n : Nat), i < rows.length → wtt g (rows.set i r) n = wtt g rows n + (wt (g (n + i)) r 0 - wt (g (n + i)) (rows.getD i []) 0)
  | [], _, _, h => by simp at h
  | x :: xs, 0, n, _ => by
    rw [List.set_cons_zero]
    show wt (g n) r 0 + wtt g xs (n + 1) = wt (g n) x 0 + wtt g xs (n + 1) + (wt (g n) r 0 - wt (g n) x 0)
    omega
  | x :: xs, i + 1, n, h => by
    rw [List.set_cons_succ]
    show wt (g n) x 0 + wtt g (xs.set i r) (n + 1) = wt (g n) x 0 + wtt g xs (n + 1) + (wt (g (n + (i + 1))) r 0 - wt (g (n + (i + 1))) (xs.getD i []) 0)
    rw [wtt_set g r xs i (n + 1) (by simpa using h), show n + 1 + i = n + (i + 1) by omega]; omega
theorem wt_zero (g : Nat → Int) (m s : Nat) : wt g (List.replicate m 0) s = 0 := by
  induction m generalizing s with
  | zero => rfl
  | succ m ih => rw [List.replicate_succ]; show 0 * g s + wt g (List.replicate m 0) (s + 1) = 0; rw [ih]; omega
theorem wtt_zero (g : Nat → Nat → Int) (k m n : Nat) : wtt g (List.replicate k (List.replicate m 0)) n = 0 := by
  induction k generalizing n with
  | zero => rfl
  | succ k ih => rw [List.replicate_succ]; show wt (g n) (List.replicate m 0) 0 + wtt g _ (n + 1) = 0; rw [ih, wt_zero]; rfl
theorem wt_congr {g h : Nat → Int} (l : List Int) (s : Nat) (e : ∀ i, g i = h i) : wt g l s = wt h l s := by rw [show g = h from funext e]
theorem wt_none (g : Nat → Int) : ∀ (l : List Int) (s : Nat), (∀ i, g i = 0) → wt g l s = 0
  | [], _, _ => rfl
  | x :: xs, s, h => by show x * g s + wt g xs (s + 1) = 0; rw [h, wt_none g xs _ h]; omega
theorem wt_pick (t : Nat) : ∀ (l : List Int) (s : Nat), wt (fun i => if (t : Int) - (i : Int) = 0 then 1 else 0) l s = if s ≤ t then rd l ((t - s : Nat) : Int) else 0
  | [], s => by rw [rd_nil]; simp [wt]
  | x :: xs, s => by
    show x * (if (t : Int) - (s : Int) = 0 then 1 else 0) + wt _ xs (s + 1) = _
    rw [wt_pick t xs (s + 1)]
    by_cases h : s ≤ t
    · by_cases h2 : s = t
      · subst h2
        rw [if_pos (by omega), if_neg (by omega), if_pos h, Nat.sub_self, rd_cons0]; omega
      · rw [if_neg (by omega), if_pos (by omega), if_pos h, show t - s = (t - (s + 1)) + 1 by omega, rd_cons]; omega
    · rw [if_neg (by omega), if_neg (by omega), if_neg h]; omega

/-! The program's table. -/
theorem upd_wt (g : Nat → Nat → Int) {d f K n s c : Nat} (x : Int) {next : List (List Int)} (h1 : n + c < next.length) (h2 : s + f * min c (K - n) < (next.getD (n + c) []).length) :
    Cg (wtt g (upd d f K n s x next c) 0) (wtt g next 0 + x * (chooseN (d - n) c * g (n + c) (s + f * min c (K - n)))) := by
  unfold upd
  rw [wtt_set g _ next (n + c) 0 h1, wt_set _ _ _ _ _ h2, Nat.zero_add, Nat.zero_add]
  generalize g (n + c) (s + f * min c (K - n)) = G
  generalize rd (next.getD (n + c) []) ((s + f * min c (K - n) : Nat) : Int) = R
  obtain ⟨q, hq⟩ : Cg (wrap64 (R + wrap64 (x * chooseN (d - n) c))) (R + x * chooseN (d - n) c) := (Cg.wrap _).trans (Cg.add (Cg.refl _) (Cg.wrap _))
  rw [hq]
  have e : (R + x * chooseN (d - n) c + q * 18446744073709551616 - R) * G = x * (chooseN (d - n) c * G) + q * G * 18446744073709551616 := by grind
  refine ⟨q * G, ?_⟩
  rw [e]
  omega
def RgT (rows : List (List Int)) : Prop := ∀ i j : Nat, InI (rd (rows.getD i []) (j : Int))
theorem RgT.upd {d f K n s c : Nat} {x : Int} {t : List (List Int)} (h : RgT t) : RgT (upd d f K n s x t c) := by
  intro i j
  unfold P.upd
  rw [getD_set]
  split
  · rw [rd_set]
    split
    · exact InI.wrap _
    · exact h _ _
  · exact h _ _
theorem spot_lt {d F K m f n s c : Nat} {next : List (List Int)} (hF : P.Form d F K m next) (hm : d * F < m) (hs : s ≤ min n K * F) (hf : f ≤ F) (hc : n + c ≤ d) : s + f * min c (K - n) < (next.getD (n + c) []).length := by
  have h1 := spot_le (c := c) hs hf
  have h2 : min (n + c) K * F ≤ d * F := Nat.mul_le_mul_right _ (by omega)
  rw [hF.row _ (by omega)]; omega
theorem cRun_wt (g : Nat → Nat → Int) {d F K m f n s : Nat} (x : Int) (hm : d * F < m) (hs : s ≤ min n K * F) (hf : f ≤ F) : ∀ (q c : Nat) (next : List (List Int)), P.Form d F K m next → RgT next → n + c + q ≤ d + 1 →
    Cg (wtt g (cRun d f K n s x q c next) 0) (wtt g next 0 + x * sumN q fun i => chooseN (d - n) (c + i) * g (n + (c + i)) (s + f * min (c + i) (K - n))) ∧ P.Form d F K m (cRun d f K n s x q c next) ∧ RgT (cRun d f K n s x q c next)
  | 0, c, next, hF, hR, _ => ⟨Cg.of (by simp [cRun, sumN]), hF, hR⟩
  | q + 1, c, next, hF, hR, hq => by
    have hu := upd_wt g (d := d) (f := f) (K := K) (s := s) x (next := next) (by rw [hF.len]; omega) (spot_lt (c := c) hF hm hs hf (by omega))
    obtain ⟨h1, h2, h3⟩ := cRun_wt g x hm hs hf q (c + 1) _ (hF.upd hs hf (c := c) (by omega)) (hR.upd (d := d) (f := f) (K := K) (n := n) (s := s) (c := c) (x := x)) (by omega)
    refine ⟨?_, h2, h3⟩
    show Cg (wtt g (cRun d f K n s x q (c + 1) (upd d f K n s x next c)) 0) _
    refine h1.trans ((Cg.add hu (Cg.refl _)).trans (Cg.of ?_))
    rw [sumN_first, Int.mul_add, sumN_congr (n := q) (g := fun i => chooseN (d - n) (c + 1 + i) * g (n + (c + 1 + i)) (s + f * min (c + 1 + i) (K - n))) (h := fun i => chooseN (d - n) (c + (i + 1)) * g (n + (c + (i + 1))) (s + f * min (c + (i + 1)) (K - n))) (fun i _ => by rw [show c + 1 + i = c + (i + 1) by omega])]
    simp only [Nat.add_zero]
    omega
/-- What one face more makes of weights. -/
def nextG (d f K : Nat) (g : Nat → Nat → Int) (n s : Nat) : Int := sumN (d + 1 - n) fun i => chooseN (d - n) i * g (n + i) (s + f * min i (K - n))
theorem sRun_wt (g : Nat → Nat → Int) {d F K m f n : Nat} (hm : d * F < m) (hn : n ≤ d) (hf : f ≤ F) : ∀ (xs : List Int) (s : Nat) (next : List (List Int)), P.Form d F K m next → RgT next → (∀ j : Nat, rd xs (j : Int) ≠ 0 → s + j ≤ min n K * F) →
    Cg (wtt g (sRun d f K n xs s next) 0) (wtt g next 0 + wt (nextG d f K g n) xs s) ∧ P.Form d F K m (sRun d f K n xs s next) ∧ RgT (sRun d f K n xs s next)
  | [], s, next, hF, hR, _ => ⟨Cg.of (by simp [sRun, wt]), hF, hR⟩
  | x :: xs, s, next, hF, hR, hx => by
    have hx' : ∀ j : Nat, rd xs (j : Int) ≠ 0 → s + 1 + j ≤ min n K * F := fun j hj => by have := hx (j + 1) (by rwa [rd_cons]); omega
    by_cases h : x = 0
    · obtain ⟨h1, h2, h3⟩ := sRun_wt g hm hn hf xs (s + 1) next hF hR hx'
      unfold sRun
      rw [if_pos h]
      refine ⟨h1.trans (Cg.of ?_), h2, h3⟩
      show _ = _ + (x * nextG d f K g n s + wt (nextG d f K g n) xs (s + 1))
      rw [h]; omega
    · obtain ⟨k1, k2, k3⟩ := cRun_wt g x hm (s := s) (by have := hx 0 (by rw [rd_cons0]; exact h); omega) hf (d + 1 - n) 0 next hF hR (by omega)
      obtain ⟨h1, h2, h3⟩ := sRun_wt g hm hn hf xs (s + 1) _ k2 k3 hx'
      unfold sRun
      rw [if_neg h]
      refine ⟨h1.trans ((Cg.add k1 (Cg.refl _)).trans (Cg.of ?_)), h2, h3⟩
      show _ = _ + (x * nextG d f K g n s + wt (nextG d f K g n) xs (s + 1))
      unfold nextG
      simp only [Nat.zero_add]
      omega
theorem nRun_wt (g : Nat → Nat → Int) {d F K m f : Nat} (hm : d * F < m) (hf : f ≤ F) : ∀ (rows : List (List Int)) (n : Nat) (next : List (List Int)), P.Form d F K m next → RgT next → n + rows.length = d + 1 → (∀ i j : Nat, i < rows.length → rd (rows.getD i []) (j : Int) ≠ 0 → j ≤ min (n + i) K * F) →
    Cg (wtt g (nRun d f K rows n next) 0) (wtt g next 0 + wtt (nextG d f K g) rows n) ∧ P.Form d F K m (nRun d f K rows n next) ∧ RgT (nRun d f K rows n next)
  | [], n, next, hF, hR, _, _ => ⟨Cg.of (by simp [nRun, wtt]), hF, hR⟩
  | r :: rs, n, next, hF, hR, hn, hx => by
    rw [List.length_cons] at hn
    obtain ⟨k1, k2, k3⟩ := sRun_wt g hm (n := n) (by omega) hf r 0 next hF hR (fun j hj => by have := hx 0 j (by simp) (by simpa using hj); simpa using this)
    obtain ⟨h1, h2, h3⟩ := nRun_wt g hm hf rs (n + 1) _ k2 k3 (by omega) (fun i j hi hj => by have := hx (i + 1) j (by simpa using hi) (by simpa using hj); rwa [show n + 1 + i = n + (i + 1) by omega])
    refine ⟨h1.trans ((Cg.add k1 (Cg.refl _)).trans (Cg.of ?_)), h2, h3⟩
    show _ = _ + (wt (nextG d f K g n) r 0 + wtt (nextG d f K g) rs (n + 1))
    omega
theorem wtt_congr {g h : Nat → Nat → Int} : ∀ (rows : List (List Int)) (n : Nat), (∀ i, n ≤ i → i < n + rows.length → ∀ s, g i s = h i s) → wtt g rows n = wtt h rows n
  | [], _, _ => rfl
  | r :: rs, n, e => by
    show wt (g n) r 0 + wtt g rs (n + 1) = wt (h n) r 0 + wtt h rs (n + 1)
    rw [wt_congr r 0 (e n (by omega) (by simp)), wtt_congr rs (n + 1) (fun i hi hi2 => e i (by omega) (by simp; omega))]
def gK (d K t f : Nat) (n s : Nat) : Int := kap f (d - n) (K - n) ((t : Int) - (s : Int))
theorem RgT.zero (d m : Nat) : RgT (zeroT d m) := by
  intro i j
  have : rd ((zeroT d m).getD i []) (j : Int) = 0 := by
    unfold zeroT
    simp only [List.getD_eq_getElem?_getD, List.getElem?_replicate, rd, Int.toNat_natCast]
    split
    · simp only [Option.getD_some, List.getElem?_replicate]; split <;> rfl
    · simp
  rw [this]; unfold InI; omega
theorem fRun_wt {d F K m : Nat} (t : Nat) (hd : d ≤ 8) (hm : d * F < m) : ∀ (f : Nat) (rows : List (List Int)), f ≤ F → P.Form d F K m rows → RgT rows →
    Cg (wtt (gK d K t 0) (fRun d m K f rows) 0) (wtt (gK d K t f) rows 0) ∧ P.Form d F K m (fRun d m K f rows) ∧ RgT (fRun d m K f rows)
  | 0, rows, _, hF, hR => ⟨Cg.refl _, hF, hR⟩
  | f + 1, rows, hf, hF, hR => by
    obtain ⟨k1, k2, k3⟩ := nRun_wt (gK d K t f) hm hf rows 0 (zeroT d m) (P.Form.zero d F K m) (RgT.zero d m) (by rw [hF.len]; omega) (fun i j hi hj => by rw [Nat.zero_add]; exact hF.sup i j (by rwa [hF.len] at hi) hj)
    obtain ⟨h1, h2, h3⟩ := fRun_wt t hd hm f _ (by omega) k2 k3
    refine ⟨h1.trans (k1.trans (Cg.of ?_)), h2, h3⟩
    rw [show zeroT d m = List.replicate (d + 1) (List.replicate m 0) from rfl, wtt_zero, Int.zero_add]
    refine wtt_congr rows 0 fun n _ hn s => ?_
    rw [Nat.zero_add, hF.len] at hn
    show nextG d (f + 1) K (gK d K t f) n s = kap (f + 1) (d - n) (K - n) ((t : Int) - (s : Int))
    unfold nextG kap gK
    rw [show d + 1 - n = d - n + 1 by omega]
    refine sumN_congr fun c hc => ?_
    rw [chooseN_ch (by omega) (by omega), show d - (n + c) = d - n - c by omega, show K - (n + c) = K - n - c by omega]
    congr 2
    rw [Nat.mul_comm (f + 1)]; omega
theorem wtt_pick (d K t : Nat) : ∀ (rows : List (List Int)) (n : Nat), n + rows.length = d + 1 → wtt (gK d K t 0) rows n = rd (rows.getD (d - n) []) (t : Int)
  | [], n, _ => by simp [wtt, rd]
  | r :: rs, n, h => by
    rw [List.length_cons] at h
    show wt (gK d K t 0 n) r 0 + wtt (gK d K t 0) rs (n + 1) = _
    rw [wtt_pick d K t rs (n + 1) (by omega)]
    by_cases hn : n = d
    · subst hn
      obtain rfl : rs = [] := List.eq_nil_of_length_eq_zero (by omega)
      rw [wt_congr (h := fun i => if (t : Int) - (i : Int) = 0 then 1 else 0) r 0 (fun i => by unfold gK kap; simp), wt_pick, if_pos (Nat.zero_le _)]
      simp [rd]
    · rw [wt_none _ r 0 (fun i => by unfold gK kap; rw [if_neg (by omega)]), show d - n = d - (n + 1) + 1 by omega]
      simp
theorem RgT.init (d m : Nat) : RgT (initT d m) := by
  intro i j
  unfold initT
  rw [getD_set]
  split
  · rw [rd_set]
    split
    · unfold InI; omega
    · have := RgT.zero 0 m 0 j
      simpa [zeroT] using this
  · exact RgT.zero d m i j
theorem waysL_length (d F K : Nat) (hd : d ≤ 8) : (waysL d F K).length = d * F + 1 := by
  obtain ⟨_, h2, _⟩ := fRun_wt (K := K) 0 hd (Nat.lt_succ_self (d * F)) F _ (Nat.le_refl _) (P.Form.init d F K (d * F + 1)) (RgT.init d _)
  exact h2.row d (by omega)
theorem kap_InI {f n K : Nat} {t : Int} (hf : f ≤ 12) (hn : n ≤ 8) : kap f n K t ≤ 815730721 := by
  refine Int.le_trans (kap_le hf hn) ?_
  have : ∀ f ∈ List.range 13, ∀ n ∈ List.range 9, ((f : Int) + 1) ^ n ≤ 815730721 := by decide +kernel
  exact this f (by simp; omega) n (by simp; omega)
theorem waysL_rd {d F K : Nat} (t : Nat) (hd : d ≤ 8) (hF : F ≤ 12) (hK : K ≤ d) : rd (waysL d F K) (t : Int) = kap F d K (t : Int) := by
  obtain ⟨h1, h2, h3⟩ := fRun_wt (K := K) t hd (Nat.lt_succ_self (d * F)) F _ (Nat.le_refl _) (P.Form.init d F K (d * F + 1)) (RgT.init d _)
  rw [wtt_pick d K t _ 0 (by rw [h2.len]; omega)] at h1
  have e : wtt (gK d K t F) (initT d (d * F + 1)) 0 = kap F d K (t : Int) := by
    unfold initT
    rw [wtt_set _ _ _ _ _ (by simp [zeroT]), show zeroT d (d * F + 1) = List.replicate (d + 1) (List.replicate (d * F + 1) 0) from rfl, wtt_zero, wt_set _ _ _ _ _ (by simp), wt_zero]
    rw [show (List.replicate (d + 1) (List.replicate (d * F + 1) (0 : Int))).getD 0 [] = List.replicate (d * F + 1) 0 from rfl, wt_zero]
    have : rd (List.replicate (d * F + 1) 0) ((0 : Nat) : Int) = 0 := by simp [rd]
    rw [this]
    simp [gK]
  rw [e] at h1
  refine Cg.eq h1 (h3 d t) ?_
  have := kap_nonneg F d K (t : Int); have := kap_InI (K := K) (t := (t : Int)) hF hd
  unfold InI; omega

end Go.Proofs.Ytbnbokiiakampaa.Q
