/- The program's FieldPow answers as the reference's at all bytes and all exponents; no condition. -/
import Derived.Test.YtbcifcggdpphbaaGF
import Derived.Test.YtbcifcggdpphbaaPFnExactFieldPowx1
import Derived.OpenShut
set_option linter.unusedVariables false
set_option linter.unusedSimpArgs false
namespace Go.Proofs.Ytbcifcggdpphbaa.Pure
open Go.RowKit Go.Proofs.Ytbcifcggdpphbaa.PFnExactFieldPow Go.Proofs.YtbcifcggdpphbaaW.PrintWords Go.Proofs.YtbcifcggdpphbaaW.PrintLast Go.Proofs.YtbcifcggdpphbaaW.PrintMore Go.Proofs.Ytbcifcggdpphbaa.GF

theorem wr64 (n : Nat) (h : n < 2 ^ 62) : wrap64 (n : Int) = (n : Int) := by unfold wrap64; omega
theorem wri (n : Int) (h : 0 ≤ n) (h1 : n < 2 ^ 62) : wrap64 n = n := by unfold wrap64; omega
theorem byte_of {x : Int} (h : (Lit.int .u8 x).wf = true) : ∃ n : Nat, n < 256 ∧ x = (n : Int) := by
  have := bounds_u8 h
  exact ⟨x.toNat, by omega, by omega⟩
theorem shr_nat (b j q : Nat) (hj : j ≤ 8) (hq : q = b / 2 ^ j) : shr .u8 (b : Int) (j : Int) = (q : Int) := by
  unfold shr
  rw [Int.toNat_natCast, Nat.min_eq_left (show j ≤ IntKind.bits .u8 from hj), hq]
  simp
theorem and1_nat (q : Nat) (hq : q < 256) : Go.bits .and .u8 (q : Int) 1 = ((q % 2 : Nat) : Int) := by
  rw [and1_u8 (q : Int) (by omega) (by omega)]; simp
theorem and1_inat (q : Nat) (hq : q < 2 ^ 62) : Go.bits .and .i64 (q : Int) 1 = ((q % 2 : Nat) : Int) := by
  rw [and1_i64 (q : Int) (by omega) (by omega)]; simp
theorem dbl (x : Nat) (hx : x < 256) : wrap64 ((x : Int) * 2) = ((2 * x : Nat) : Int) := by unfold wrap64; omega
theorem inc (j : Nat) (hj : j < 2 ^ 62) : wrap64 ((j : Int) + 1) = ((j + 1 : Nat) : Int) := by unfold wrap64; omega
theorem x285 (x : Nat) (hx : x < 256) : Go.bits .xor .i64 ((2 * x : Nat) : Int) 285 = ((2 * x ^^^ 285 : Nat) : Int) := xor_i64 (2 * x) 285 (by omega) (by omega)
theorem xor_nat (o x : Nat) (ho : o < 256) (hx : x < 256) : Go.bits .xor .i64 (o : Int) (x : Int) = ((o ^^^ x : Nat) : Int) := xor_i64 o x (by omega) (by omega)
theorem xt_hi (x : Nat) (h : 2 * x > 255) : xt x = 2 * x ^^^ 285 := by unfold xt; rw [if_pos h]
theorem xt_lo (x : Nat) (h : ¬ 2 * x > 255) : xt x = 2 * x := by unfold xt; rw [if_neg h]

theorem impl_mul_l (n : Nat) : ∀ (k j x o b : Nat), n + j = 8 → n < k → x < 256 → o < 256 → b < 256 →
    impl_FieldMul.l0 k (b : Int) (o : Int) (j : Int) (x : Int) = some ((gmAux n x (b / 2 ^ j) o : Nat) : Int) := by
  induction n with
  | zero =>
    intro k j x o b hj hk hx ho hb
    obtain ⟨k, rfl⟩ : ∃ m, k = m + 1 := ⟨k - 1, by omega⟩
    simp only [impl_FieldMul.l0]
    rw [if_neg (by omega)]
    show some ((o : Int) % 256) = some (o : Int)
    rw [Int.emod_eq_of_lt (by omega) (by omega)]
  | succ n ih =>
    intro k j x o b hj hk hx ho hb
    obtain ⟨k, rfl⟩ : ∃ m, k = m + 1 := ⟨k - 1, by omega⟩
    obtain ⟨q, hq⟩ : ∃ q, q = b / 2 ^ j := ⟨_, rfl⟩
    have hq2 : q < 256 := by rw [hq]; exact Nat.lt_of_le_of_lt (Nat.div_le_self _ _) hb
    have hb2 : q / 2 = b / 2 ^ (j + 1) := by rw [hq, Nat.div_div_eq_div_mul, ← Nat.pow_succ]
    have hs : shr .u8 (b : Int) (j : Int) = (q : Int) := shr_nat b j q (by omega) hq
    rw [← hq]
    simp only [gmAux]
    rw [hb2]
    have hxt := xt_lt x hx
    have hox := xor_lt _ _ ho hx
    have i1 := ih k (j + 1) (xt x) (o ^^^ x) b (by omega) (by omega) hxt hox hb
    have i2 := ih k (j + 1) (xt x) o b (by omega) (by omega) hxt ho hb
    have c1 : (j : Int) < 8 := by omega
    have c2 : (0 : Int) ≤ (j : Int) := by omega
    clear hq hb2
    simp only [impl_FieldMul.l0]
    rw [if_pos c1, if_pos c2, hs, and1_nat q hq2, dbl x hx, inc j (by omega), x285 x hx, xor_nat o x ho hx]
    clear hs
    by_cases h1 : q % 2 = 1
    · rw [if_pos (by omega), if_pos h1]
      by_cases h2 : 2 * x > 255
      · rw [if_pos (by omega), ← xt_hi x h2]; exact i1
      · rw [if_neg (by omega), ← xt_lo x h2]; exact i1
    · rw [if_neg (by omega), if_neg h1]
      by_cases h2 : 2 * x > 255
      · rw [if_pos (by omega), ← xt_hi x h2]; exact i2
      · rw [if_neg (by omega), ← xt_lo x h2]; exact i2
theorem impl_mul (k a b : Nat) (hk : 8 < k) (ha : a < 256) (hb : b < 256) : impl_FieldMul.f k (a : Int) (b : Int) = some ((gm a b : Nat) : Int) := by
  unfold impl_FieldMul.f
  rw [wr64 a (by omega)]
  have := impl_mul_l 8 k 0 a 0 b (by omega) hk ha (by omega) hb
  simpa [gm] using this

theorem spec_mul_l (n : Nat) : ∀ (k x o y : Nat), n < k → y < 2 ^ n → n ≤ 8 → x < 256 → o < 256 →
    spec_l2Mul.l0 k (o : Int) (x : Int) (y : Int) = some ((gmAux n x y o : Nat) : Int) := by
  induction n with
  | zero =>
    intro k x o y hk hy _ hx ho
    obtain ⟨k, rfl⟩ : ∃ m, k = m + 1 := ⟨k - 1, by omega⟩
    have : y = 0 := by simpa using hy
    subst this
    simp only [spec_l2Mul.l0]
    rw [if_neg (by omega)]
    show some ((o : Int) % 256) = some (o : Int)
    rw [Int.emod_eq_of_lt (by omega) (by omega)]
  | succ n ih =>
    intro k x o y hk hy hn hx ho
    obtain ⟨k, rfl⟩ : ∃ m, k = m + 1 := ⟨k - 1, by omega⟩
    simp only [spec_l2Mul.l0]
    by_cases h0 : y = 0
    · subst h0
      rw [if_neg (by omega), gmAux_zero]
      rw [Int.emod_eq_of_lt (by omega) (by omega)]
    have hp : (2 : Nat) ^ (n + 1) ≤ 256 := by
      have := Nat.pow_le_pow_right (show 0 < 2 by decide) (show n + 1 ≤ 8 by omega)
      simpa using this
    have hy2 : y / 2 < 2 ^ n := by rw [Nat.pow_succ] at hy; omega
    have hxt := xt_lt x hx
    have hox := xor_lt _ _ ho hx
    have i1 := ih k (xt x) (o ^^^ x) (y / 2) (by omega) hy2 (by omega) hxt hox
    have i2 := ih k (xt x) o (y / 2) (by omega) hy2 (by omega) hxt ho
    rw [if_pos (by omega), and1_inat y (by omega), dbl x hx, x285 x hx, xor_nat o x ho hx, show (y : Int) / 2 = ((y / 2 : Nat) : Int) by simp]
    simp only [gmAux]
    by_cases h1 : y % 2 = 1
    · rw [if_pos (by omega), if_pos h1]
      by_cases h2 : 2 * x > 255
      · rw [if_pos (by omega), ← xt_hi x h2]; exact i1
      · rw [if_neg (by omega), ← xt_lo x h2]; exact i1
    · rw [if_neg (by omega), if_neg h1]
      by_cases h2 : 2 * x > 255
      · rw [if_pos (by omega), ← xt_hi x h2]; exact i2
      · rw [if_neg (by omega), ← xt_lo x h2]; exact i2
theorem spec_mul (k a b : Nat) (hk : 8 < k) (ha : a < 256) (hb : b < 256) : spec_l2Mul.f k (a : Int) (b : Int) = some ((gm a b : Nat) : Int) := by
  unfold spec_l2Mul.f
  rw [wr64 a (by omega), wr64 b (by omega)]
  have := spec_mul_l 8 k a 0 b hk (by omega) (by omega) ha (by omega)
  simpa [gm] using this

theorem impl_pow_l (a n : Nat) (ha : a < 256) (hn : n < 2 ^ 60) (d : Nat) : ∀ (k i : Nat), i + d = n → d + 9 < k →
    impl_power.l0 k (a : Int) ((gp a i : Nat) : Int) (n : Int) (i : Int) = some ((gp a n : Nat) : Int) := by
  induction d with
  | zero =>
    intro k i hi hk
    obtain ⟨k, rfl⟩ : ∃ m, k = m + 1 := ⟨k - 1, by omega⟩
    simp only [impl_power.l0]
    rw [if_neg (by omega), show i = n by omega]
  | succ d ih =>
    intro k i hi hk
    obtain ⟨k, rfl⟩ : ∃ m, k = m + 1 := ⟨k - 1, by omega⟩
    have e2 : wrap64 ((i : Int) + 1) = ((i + 1 : Nat) : Int) := by rw [wri _ (by omega) (by omega)]; omega
    simp only [impl_power.l0]
    rw [if_pos (by omega), impl_mul k _ _ (by omega) (gp_lt a i) ha, e2]
    simp only [Option.bind_some]
    exact ih k (i + 1) (by omega) (by omega)
theorem impl_pow (k a n : Nat) (hk : n + 9 < k) (ha : a < 256) (hn : n < 2 ^ 60) : impl_power.f k (a : Int) (n : Int) = some ((gp a n : Nat) : Int) := by
  unfold impl_power.f
  exact impl_pow_l a n ha hn n k 0 (by omega) hk

theorem spec_pow_l (a N : Nat) (ha : a < 256) (hn : N < 2 ^ 60) (d : Nat) : ∀ (k : Nat), d ≤ N → d + 9 < k →
    spec_l2Pow.l0 k (a : Int) (d : Int) ((gp a (N - d) : Nat) : Int) = some ((gp a N : Nat) : Int) := by
  induction d with
  | zero =>
    intro k hd hk
    obtain ⟨k, rfl⟩ : ∃ m, k = m + 1 := ⟨k - 1, by omega⟩
    simp only [spec_l2Pow.l0]
    rw [if_neg (by omega), Nat.sub_zero]
  | succ d ih =>
    intro k hd hk
    obtain ⟨k, rfl⟩ : ∃ m, k = m + 1 := ⟨k - 1, by omega⟩
    have e2 : wrap64 (((d + 1 : Nat) : Int) - 1) = (d : Int) := by rw [wri _ (by omega) (by omega)]; omega
    simp only [spec_l2Pow.l0]
    rw [if_pos (by omega), spec_mul k _ _ (by omega) (gp_lt a _) ha, e2]
    simp only [Option.bind_some]
    have := ih k (by omega) (by omega)
    rw [show N - d = (N - (d + 1)) + 1 by omega] at this
    exact this
theorem spec_pow (k a n : Nat) (hk : n + 9 < k) (ha : a < 256) (hn : n < 2 ^ 60) : spec_l2Pow.f k (a : Int) (n : Int) = some ((gp a n : Nat) : Int) := by
  unfold spec_l2Pow.f
  have := spec_pow_l a n ha hn n k (Nat.le_refl _) hk
  rw [Nat.sub_self] at this
  exact this

theorem within_tells (a b c : Int) : impl_within.f a b c = some (decide (a ≥ b ∧ a ≤ c)) := by
  unfold impl_within.f
  split
  · rename_i h; simp [h]
  · rename_i h; simp [h]
theorem l1In_tells (a b c : Int) : spec_l1In.f a b c = some (decide (a ≥ b ∧ a ≤ c)) := by
  unfold spec_l1In.f
  split
  · rename_i h; simp [h]
  · rename_i h; simp [h]

theorem FnExactFieldPow : laws_FnExactFieldPow.Pure := by
  intro a0 a1 w0 w1
  obtain ⟨a, ha, rfl⟩ := byte_of w0
  obtain ⟨K, hK⟩ : ∃ K, 20000 ≤ K := ⟨20000, Nat.le_refl _⟩
  refine ⟨K, ?_⟩
  unfold laws_FnExactFieldPow.f spec_FieldPow.f impl_FieldPow.f
  rw [within_tells, l1In_tells]
  simp only [Option.bind_some]
  by_cases h : a1 ≥ 0 ∧ a1 ≤ 10000
  · obtain ⟨n, rfl⟩ := Int.eq_ofNat_of_zero_le h.1
    rw [if_pos (by simpa using h.2), if_pos (by simpa using h.2), spec_pow K a n (by omega) ha (by omega), impl_pow K a n (by omega) ha (by omega)]
    simp
  · rw [if_neg (by simpa using h), if_neg (by simpa using h)]
    simp

end Go.Proofs.Ytbcifcggdpphbaa.Pure
