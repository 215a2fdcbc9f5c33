/- The error-correcting code (Hamming) over natural numbers: coding, decoding, and what single and double errors do. -/
import Derived.Test.YtjibcpfgnnmfjaaGF
set_option linter.unusedVariables false
set_option linter.unusedSimpArgs false
namespace Go.Proofs.Ytjibcpfgnnmfjaa.Ham
open Go.Proofs.Ytjibcpfgnnmfjaa.GF

def wtN : Nat → Nat → Nat
  | 0, _ => 0
  | k + 1, n => n % 2 + wtN k (n / 2)
def plN (i : Nat) : Nat := [3, 5, 6, 7, 9, 10, 11, 12].getD i 0
def putN : Nat → Nat → Nat → Nat → Nat
  | 0, _, _, w => w
  | d + 1, n, i, w => putN d n (i + 1) (w ||| (n / 2 ^ i % 2) * 2 ^ plN i)
def getN : Nat → Nat → Nat → Nat → Nat
  | 0, _, _, n => n
  | d + 1, w, i, n => getN d w (i + 1) (n ||| (w / 2 ^ plN i % 2) * 2 ^ i)
def sumF : Nat → Nat → Nat → Nat → Nat
  | 0, _, _, x => x
  | d + 1, k, w, x => sumF d (k + 1) w (if w / 2 ^ k % 2 = 1 then x ^^^ k else x)
def ckN (x w : Nat) : Nat :=
  let w1 := if x &&& 1 = 0 then w else w ||| 2
  let w2 := if x &&& 2 = 0 then w1 else w1 ||| 4
  let w3 := if x &&& 4 = 0 then w2 else w2 ||| 16
  if x &&& 8 = 0 then w3 else w3 ||| 256
def encN (n : Nat) : Nat :=
  let w := putN 8 n 0 0
  let v := ckN (sumF 12 1 w 0) w
  v ||| wtN 13 v % 2
def decN (w : Nat) : Nat × Nat :=
  let x := sumF 12 1 w 0
  if x = 0 ∧ wtN 13 w % 2 = 0 then (getN 8 w 0 0, 0)
  else if wtN 13 w % 2 = 1 ∧ x ≤ 12 then (getN 8 (w ^^^ 2 ^ x) 0 0, 1)
  else (0, 2)

theorem or_lt13 (a b : Nat) (ha : a < 8192) (hb : b < 8192) : a ||| b < 8192 := Nat.or_lt_two_pow (n := 13) ha hb
theorem pow_le12 (p : Nat) (hp : p ≤ 12) : 2 ^ p ≤ 4096 := by
  have := Nat.pow_le_pow_right (show 0 < 2 by decide) hp
  simpa using this
theorem plN_le (i : Nat) : plN i ≤ 12 := by
  unfold plN
  by_cases h : i < 8
  · have : ∀ i, i < 8 → [3, 5, 6, 7, 9, 10, 11, 12].getD i 0 ≤ 12 := by decide
    exact this i h
  · rw [List.getD_eq_getElem?_getD, List.getElem?_eq_none (by simp; omega)]; simp
theorem bit_lt (q p : Nat) (hp : p ≤ 12) : (q % 2) * 2 ^ p < 8192 := by
  have h1 := pow_le12 p hp
  have h2 : (q % 2) * 2 ^ p ≤ 1 * 2 ^ p := Nat.mul_le_mul_right _ (by omega)
  omega
theorem putN_lt (d : Nat) : ∀ n i w, w < 8192 → putN d n i w < 8192 := by
  induction d with
  | zero => intro n i w h; exact h
  | succ d ih => intro n i w h; exact ih _ _ _ (or_lt13 _ _ h (bit_lt _ _ (plN_le i)))
theorem sumF_lt (d : Nat) : ∀ k w x, k + d ≤ 13 → x < 16 → sumF d k w x < 16 := by
  induction d with
  | zero => intro k w x _ h; exact h
  | succ d ih =>
    intro k w x hk h
    refine ih _ _ _ (by omega) ?_
    split
    · exact Nat.xor_lt_two_pow (n := 4) h (by omega)
    · exact h
theorem ckN_lt (x w : Nat) (h : w < 8192) : ckN x w < 8192 := by
  have o : ∀ w q, w < 8192 → q < 8192 → ∀ c : Prop, [Decidable c] → (if c then w else w ||| q) < 8192 := fun w q hw hq c _ => by
    split
    · exact hw
    · exact or_lt13 _ _ hw hq
  exact o _ _ (o _ _ (o _ _ (o _ _ h (by omega) _) (by omega) _) (by omega) _) (by omega) _
theorem encN_lt (n : Nat) : encN n < 8192 := or_lt13 _ _ (ckN_lt _ _ (putN_lt 8 n 0 0 (by omega))) (by omega)
theorem or_lt8 (a b : Nat) (ha : a < 256) (hb : b < 256) : a ||| b < 256 := Nat.or_lt_two_pow (n := 8) ha hb
theorem getN_lt (d : Nat) : ∀ w i n, i + d ≤ 8 → n < 256 → getN d w i n < 256 := by
  induction d with
  | zero => intro w i n _ h; exact h
  | succ d ih =>
    intro w i n hi h
    refine ih _ _ _ (by omega) (or_lt8 _ _ h ?_)
    have h1 := Nat.pow_le_pow_right (show 0 < 2 by decide) (show i ≤ 7 by omega)
    have h2 : (w / 2 ^ plN i % 2) * 2 ^ i ≤ 1 * 2 ^ i := Nat.mul_le_mul_right _ (by omega)
    have h3 : (2 : Nat) ^ 7 = 128 := rfl
    omega
theorem decN_lt (w : Nat) : (decN w).1 < 256 := by
  unfold decN
  simp only []
  split
  · exact getN_lt 8 _ 0 0 (by omega) (by omega)
  · split
    · exact getN_lt 8 _ 0 0 (by omega) (by omega)
    · exact (by omega : (0 : Nat) < 256)

theorem decN_a (w : Nat) (h : sumF 12 1 w 0 = 0) (hp : wtN 13 w % 2 = 0) : decN w = (getN 8 w 0 0, 0) := by
  unfold decN; simp only []; rw [if_pos ⟨h, hp⟩]
theorem decN_b (w : Nat) (h : sumF 12 1 w 0 ≤ 12) (hp : wtN 13 w % 2 = 1) : decN w = (getN 8 (w ^^^ 2 ^ sumF 12 1 w 0) 0 0, 1) := by
  unfold decN; simp only []; rw [if_neg (by omega), if_pos ⟨hp, h⟩]
theorem decN_c (w : Nat) (h : sumF 12 1 w 0 ≠ 0) (hp : wtN 13 w % 2 = 0) : decN w = (0, 2) := by
  unfold decN; simp only []; rw [if_neg (fun z => h z.1), if_neg (by omega)]
theorem decN_d (w : Nat) (h : 12 < sumF 12 1 w 0) (hp : wtN 13 w % 2 = 1) : decN w = (0, 2) := by
  unfold decN; simp only []; rw [if_neg (by omega), if_neg (by omega)]

/-! ### Sums and parities are linear -/
theorem xor_bit (a b k : Nat) : (a ^^^ b) / 2 ^ k % 2 = (a / 2 ^ k % 2 + b / 2 ^ k % 2) % 2 := by
  rw [Nat.xor_div_two_pow, xor_mod2]
theorem sumF_xor (d : Nat) : ∀ k a b x y, sumF d k (a ^^^ b) (x ^^^ y) = sumF d k a x ^^^ sumF d k b y := by
  induction d with
  | zero => intro k a b x y; rfl
  | succ d ih =>
    intro k a b x y
    simp only [sumF]
    rw [← ih, xor_bit]
    congr 1
    rcases Nat.mod_two_eq_zero_or_one (a / 2 ^ k) with ha | ha <;> rcases Nat.mod_two_eq_zero_or_one (b / 2 ^ k) with hb | hb <;> rw [ha, hb] <;> simp
    · rw [Nat.xor_assoc]
    · rw [Nat.xor_assoc, Nat.xor_assoc, Nat.xor_comm y k]
    · rw [Nat.xor_assoc x k, xor_lc k y k, Nat.xor_self, Nat.xor_zero]
theorem par_xor (d : Nat) : ∀ a b, wtN d (a ^^^ b) % 2 = (wtN d a + wtN d b) % 2 := by
  induction d with
  | zero => intro a b; rfl
  | succ d ih =>
    intro a b
    have h := ih (a / 2) (b / 2)
    have h2 := xor_mod2 a b
    simp only [wtN]
    rw [xor_half]
    omega
theorem sum_pow : ∀ i, i < 13 → sumF 12 1 (2 ^ i) 0 = i := by decide +kernel
theorem par_pow : ∀ i, i < 13 → wtN 13 (2 ^ i) % 2 = 1 := by decide +kernel
theorem sum_xor (a b : Nat) : sumF 12 1 (a ^^^ b) 0 = sumF 12 1 a 0 ^^^ sumF 12 1 b 0 := sumF_xor 12 1 a b 0 0

/-! ### By trial at all bytes -/
set_option maxHeartbeats 8000000 in
theorem enc_right : ∀ n, n < 256 → sumF 12 1 (encN n) 0 = 0 ∧ wtN 13 (encN n) % 2 = 0 ∧ getN 8 (encN n) 0 0 = n := by decide +kernel
theorem dec_enc (n : Nat) (h : n < 256) : decN (encN n) = (n, 0) := by
  obtain ⟨h1, h2, h3⟩ := enc_right n h
  unfold decN
  simp only []
  rw [if_pos ⟨h1, h2⟩, h3]
theorem xor_back (a b : Nat) : a ^^^ b ^^^ b = a := by rw [Nat.xor_assoc, Nat.xor_self, Nat.xor_zero]
theorem dec_one (n : Nat) (h : n < 256) (i : Nat) (hi : i < 13) : decN (encN n ^^^ 2 ^ i) = (n, 1) := by
  obtain ⟨h1, h2, h3⟩ := enc_right n h
  have e1 : sumF 12 1 (encN n ^^^ 2 ^ i) 0 = i := by rw [sum_xor, h1, sum_pow i hi, Nat.zero_xor]
  have e2 : wtN 13 (encN n ^^^ 2 ^ i) % 2 = 1 := by
    have := par_xor 13 (encN n) (2 ^ i)
    have := par_pow i hi
    omega
  unfold decN
  simp only []
  rw [e1, if_neg (by omega), if_pos ⟨e2, by omega⟩, xor_back, h3]
theorem dec_two (n : Nat) (h : n < 256) (i : Nat) (hi : i < 13) (j : Nat) (hj : j < i) : decN (encN n ^^^ 2 ^ i ^^^ 2 ^ j) = (0, 2) := by
  obtain ⟨h1, h2, h3⟩ := enc_right n h
  have e1 : sumF 12 1 (encN n ^^^ 2 ^ i ^^^ 2 ^ j) 0 = i ^^^ j := by rw [sum_xor, sum_xor, h1, sum_pow i hi, sum_pow j (by omega), Nat.zero_xor]
  have e2 : wtN 13 (encN n ^^^ 2 ^ i ^^^ 2 ^ j) % 2 = 0 := by
    have := par_xor 13 (encN n ^^^ 2 ^ i) (2 ^ j)
    have := par_xor 13 (encN n) (2 ^ i)
    have := par_pow i hi
    have := par_pow j (by omega)
    omega
  have e3 : i ^^^ j ≠ 0 := by
    intro h0
    have : i ^^^ j ^^^ j = j := by rw [h0, Nat.zero_xor]
    rw [xor_back] at this
    omega
  unfold decN
  simp only []
  rw [e1, if_neg (fun hh => e3 hh.1), if_neg (by omega)]
set_option maxHeartbeats 8000000 in
theorem enc_weight : ∀ n, n < 256 → n ≠ 0 → 4 ≤ wtN 13 (encN n) := by decide +kernel
theorem enc_zero : encN 0 = 0 := by decide +kernel

end Go.Proofs.Ytjibcpfgnnmfjaa.Ham
