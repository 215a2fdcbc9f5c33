/- The program's HamWeight answers as the reference's at all numbers; no condition. -/
import Derived.Test.YtbcifcggdpphbaaGF
import Derived.Test.YtbcifcggdpphbaaQFnExactHamWeightx1
import Derived.OpenShut
set_option linter.unusedVariables false
set_option linter.unusedSimpArgs false
namespace Go.Proofs.Ytbcifcggdpphbaa.Pure
open Go.RowKit Go.Proofs.Ytbcifcggdpphbaa.PFnExactHamWeight Go.Proofs.YtbcifcggdpphbaaW.PrintWords Go.Proofs.YtbcifcggdpphbaaW.PrintLast Go.Proofs.YtbcifcggdpphbaaW.PrintMore Go.Proofs.Ytbcifcggdpphbaa.GF

theorem wr64 (n : Nat) (h : n < 2 ^ 62) : wrap64 (n : Int) = (n : Int) := by unfold wrap64; omega
theorem wri (n : Int) (h : 0 ≤ n) (h1 : n < 2 ^ 62) : wrap64 n = n := by unfold wrap64; omega
theorem byte_of {x : Int} (h : (Lit.int .u8 x).wf = true) : ∃ n : Nat, n < 256 ∧ x = (n : Int) := by
  have := bounds_u8 h
  exact ⟨x.toNat, by omega, by omega⟩
theorem shr_nat (b j q : Nat) (hj : j ≤ 8) (hq : q = b / 2 ^ j) : shr .u8 (b : Int) (j : Int) = (q : Int) := by
  unfold shr
  rw [Int.toNat_natCast, Nat.min_eq_left (show j ≤ IntKind.bits .u8 from hj), hq]
  simp
theorem and1_nat (q : Nat) (hq : q < 256) : Go.bits .and .u8 (q : Int) 1 = ((q % 2 : Nat) : Int) := by
  rw [and1_u8 (q : Int) (by omega) (by omega)]; simp
theorem and1_inat (q : Nat) (hq : q < 2 ^ 62) : Go.bits .and .i64 (q : Int) 1 = ((q % 2 : Nat) : Int) := by
  rw [and1_i64 (q : Int) (by omega) (by omega)]; simp
theorem dbl (x : Nat) (hx : x < 256) : wrap64 ((x : Int) * 2) = ((2 * x : Nat) : Int) := by unfold wrap64; omega
theorem inc (j : Nat) (hj : j < 2 ^ 62) : wrap64 ((j : Int) + 1) = ((j + 1 : Nat) : Int) := by unfold wrap64; omega
theorem x285 (x : Nat) (hx : x < 256) : Go.bits .xor .i64 ((2 * x : Nat) : Int) 285 = ((2 * x ^^^ 285 : Nat) : Int) := xor_i64 (2 * x) 285 (by omega) (by omega)
theorem xor_nat (o x : Nat) (ho : o < 256) (hx : x < 256) : Go.bits .xor .i64 (o : Int) (x : Int) = ((o ^^^ x : Nat) : Int) := xor_i64 o x (by omega) (by omega)
theorem xt_hi (x : Nat) (h : 2 * x > 255) : xt x = 2 * x ^^^ 285 := by unfold xt; rw [if_pos h]
theorem xt_lo (x : Nat) (h : ¬ 2 * x > 255) : xt x = 2 * x := by unfold xt; rw [if_neg h]

theorem within_tells (a b c : Int) : impl_within.f a b c = some (decide (a ≥ b ∧ a ≤ c)) := by
  unfold impl_within.f
  split
  · rename_i h; simp [h]
  · rename_i h; simp [h]
theorem l1In_tells (a b c : Int) : spec_l1In.f a b c = some (decide (a ≥ b ∧ a ≤ c)) := by
  unfold spec_l1In.f
  split
  · rename_i h; simp [h]
  · rename_i h; simp [h]

/-- the count of ones, as math/bits reckons it, on natural numbers -/
def swar (n : Nat) : Nat :=
  let a := (n / 2 &&& 6148914691236517205) + (n &&& 6148914691236517205)
  let b := (a / 4 &&& 3689348814741910323) + (a &&& 3689348814741910323)
  let c := (b / 16 + b) &&& 1085102592571150095
  let d := c + c / 256
  let e := d + d / 65536
  (e + e / 4294967296) &&& 127
def wtN : Nat → Nat → Nat
  | 0, _ => 0
  | k + 1, n => n % 2 + wtN k (n / 2)
set_option maxHeartbeats 8000000 in
theorem swar_wt : ∀ a : Nat, a < 128 → ∀ b : Nat, b < 64 → swar (64 * a + b) = wtN 13 (64 * a + b) := by decide +kernel
theorem swar_is (n : Nat) (h : n < 8192) : swar n = wtN 13 n := by
  have h1 := swar_wt (n / 64) (by omega) (n % 64) (by omega)
  rw [Nat.div_add_mod] at h1
  exact h1
theorem band (k : IntKind) (j : Nat) (hj : j ≤ k.bits) (hk : ∀ n : Int, 0 ≤ n → n < 2 ^ j → k.wrap n = n) (a b : Nat) (ha : a < 2 ^ j) (hb : b < 2 ^ j) : Go.bits .and k (a : Int) (b : Int) = ((a &&& b : Nat) : Int) := (bits_nat k j hj hk a b ha hb).1
theorem u64_wrap (n : Int) : IntKind.u64.wrap n = n % 18446744073709551616 := by simp [IntKind.wrap, IntKind.bits, IntKind.signed]
theorem wraps_u64 (n : Int) (h₀ : 0 ≤ n) (h₁ : n < 2 ^ 64) : IntKind.u64.wrap n = n := by
  rw [u64_wrap]; omega
theorem and_u64 (a b : Nat) (ha : a < 2 ^ 64) (hb : b < 2 ^ 64) : Go.bits .and .u64 (a : Int) (b : Int) = ((a &&& b : Nat) : Int) := band .u64 64 (by decide) wraps_u64 a b ha hb
theorem and_i64 (a b : Nat) (ha : a < 2 ^ 63) (hb : b < 2 ^ 63) : Go.bits .and .i64 (a : Int) (b : Int) = ((a &&& b : Nat) : Int) := band .i64 63 (by decide) wraps_i64 a b ha hb
theorem wrap_add (a b : Nat) (h : a + b < 2 ^ 64) : IntKind.u64.wrap ((a : Int) + (b : Int)) = ((a + b : Nat) : Int) := by
  rw [wraps_u64 _ (by omega) (by omega)]; omega
theorem div_nat (a m : Nat) : (a : Int) / (m : Int) = ((a / m : Nat) : Int) := by simp
theorem ones64 (n : Nat) (h : n < 8192) : bits_OnesCount64.f (n : Int) = some ((swar n : Nat) : Int) := by
  unfold bits_OnesCount64.f
  have l1 : (n / 2 &&& 6148914691236517205) ≤ n / 2 := Nat.and_le_left
  have l2 : (n &&& 6148914691236517205) ≤ n := Nat.and_le_left
  have e1 : Go.bits .and .u64 ((n : Int) / 2) 6148914691236517205 = ((n / 2 &&& 6148914691236517205 : Nat) : Int) := by
    rw [show (n : Int) / 2 = ((n / 2 : Nat) : Int) from div_nat n 2]; exact and_u64 (n / 2) 6148914691236517205 (by omega) (by omega)
  have e2 : Go.bits .and .u64 (n : Int) 6148914691236517205 = ((n &&& 6148914691236517205 : Nat) : Int) := and_u64 n 6148914691236517205 (by omega) (by omega)
  rw [e1, e2, wrap_add _ _ (by omega)]
  clear e1 e2
  have ha : (n / 2 &&& 6148914691236517205) + (n &&& 6148914691236517205) < 16384 := by omega
  unfold swar
  generalize (n / 2 &&& 6148914691236517205) + (n &&& 6148914691236517205) = a at ha ⊢
  have l1 : (a / 4 &&& 3689348814741910323) ≤ a / 4 := Nat.and_le_left
  have l2 : (a &&& 3689348814741910323) ≤ a := Nat.and_le_left
  have e1 : Go.bits .and .u64 ((a : Int) / 4) 3689348814741910323 = ((a / 4 &&& 3689348814741910323 : Nat) : Int) := by
    rw [show (a : Int) / 4 = ((a / 4 : Nat) : Int) from div_nat a 4]; exact and_u64 (a / 4) 3689348814741910323 (by omega) (by omega)
  have e2 : Go.bits .and .u64 (a : Int) 3689348814741910323 = ((a &&& 3689348814741910323 : Nat) : Int) := and_u64 a 3689348814741910323 (by omega) (by omega)
  rw [e1, e2, wrap_add _ _ (by omega)]
  clear e1 e2
  have hb : (a / 4 &&& 3689348814741910323) + (a &&& 3689348814741910323) < 32768 := by omega
  simp only []
  generalize (a / 4 &&& 3689348814741910323) + (a &&& 3689348814741910323) = b at hb ⊢
  have e1 : Go.bits .and .u64 (IntKind.u64.wrap ((b : Int) / 16 + (b : Int))) 1085102592571150095 = (((b / 16 + b) &&& 1085102592571150095 : Nat) : Int) := by
    rw [show (b : Int) / 16 = ((b / 16 : Nat) : Int) from div_nat b 16, wrap_add _ _ (by omega)]
    exact and_u64 (b / 16 + b) 1085102592571150095 (by omega) (by omega)
  rw [e1]
  clear e1
  have l1 : ((b / 16 + b) &&& 1085102592571150095) ≤ b / 16 + b := Nat.and_le_left
  have hc : ((b / 16 + b) &&& 1085102592571150095) < 65536 := by omega
  generalize (b / 16 + b) &&& 1085102592571150095 = c at hc ⊢
  have e1 : IntKind.u64.wrap ((c : Int) + (c : Int) / 256) = ((c + c / 256 : Nat) : Int) := by
    rw [show (c : Int) / 256 = ((c / 256 : Nat) : Int) from div_nat c 256, wrap_add _ _ (by omega)]
  rw [e1]
  clear e1
  have hd : c + c / 256 < 131072 := by omega
  generalize c + c / 256 = d at hd ⊢
  have e1 : IntKind.u64.wrap ((d : Int) + (d : Int) / 65536) = ((d + d / 65536 : Nat) : Int) := by
    rw [show (d : Int) / 65536 = ((d / 65536 : Nat) : Int) from div_nat d 65536, wrap_add _ _ (by omega)]
  rw [e1]
  clear e1
  have he : d + d / 65536 < 262144 := by omega
  generalize d + d / 65536 = e at he ⊢
  have e1 : IntKind.u64.wrap ((e : Int) + (e : Int) / 4294967296) = ((e + e / 4294967296 : Nat) : Int) := by
    rw [show (e : Int) / 4294967296 = ((e / 4294967296 : Nat) : Int) from div_nat e 4294967296, wrap_add _ _ (by omega)]
  rw [e1, wri _ (by omega) (by omega)]
  congr 1
  exact and_i64 _ 127 (by omega) (by omega)
theorem ones_is (n : Nat) (h : n < 8192) : impl_ones.f (n : Int) = some ((wtN 13 n : Nat) : Int) := by
  unfold impl_ones.f bits_OnesCount.f
  rw [wraps_u64 _ (by omega) (by omega), ones64 n h, swar_is n h]
  rfl

theorem wtN_zero (d : Nat) : wtN d 0 = 0 := by
  induction d with
  | zero => rfl
  | succ d ih => simp [wtN, ih]
theorem spec_weight_l (d : Nat) : ∀ (k n c : Nat), n < 2 ^ d → d ≤ 20 → d < k → c + d < 2 ^ 60 → spec_l4Weight.l0 k (n : Int) (c : Int) = some ((c + wtN d n : Nat) : Int) := by
  induction d with
  | zero =>
    intro k n c hn _ hk hc
    obtain ⟨k, rfl⟩ : ∃ m, k = m + 1 := ⟨k - 1, by omega⟩
    obtain rfl : n = 0 := by simpa using hn
    simp only [spec_l4Weight.l0]
    rw [if_neg (by omega)]; rfl
  | succ d ih =>
    intro k n c hn hd hk hc
    obtain ⟨k, rfl⟩ : ∃ m, k = m + 1 := ⟨k - 1, by omega⟩
    by_cases h0 : n = 0
    · subst h0
      rw [wtN_zero]
      simp only [spec_l4Weight.l0]
      rw [if_neg (by omega)]; rfl
    have hn2 : n / 2 < 2 ^ d := by rw [Nat.pow_succ] at hn; omega
    have hn62 : n < 2 ^ 62 := Nat.lt_of_lt_of_le hn (Nat.pow_le_pow_right (by decide) (by omega))
    have h1 := ih k (n / 2) (c + n % 2) hn2 (by omega) (by omega) (by omega)
    simp only [spec_l4Weight.l0]
    rw [if_pos (by omega), and1_inat n hn62, show wrap64 ((c : Int) + ((n % 2 : Nat) : Int)) = ((c + n % 2 : Nat) : Int) by rw [wri _ (by omega) (by omega)]; omega, show (n : Int) / 2 = ((n / 2 : Nat) : Int) by simp, h1]
    simp only [wtN]
    rw [Nat.add_assoc]
theorem spec_weight (n : Nat) (h : n < 8192) (k : Nat) (hk : 13 < k) : spec_l4Weight.f k (n : Int) = some ((wtN 13 n : Nat) : Int) := by
  unfold spec_l4Weight.f
  have := spec_weight_l 13 k n 0 h (by omega) hk (by omega)
  rw [Nat.zero_add] at this
  exact this
theorem weights (n : Nat) (h : n < 8192) : ∃ r, spec_l4Weight.f 20 (n : Int) = some r ∧ impl_ones.f (n : Int) = some r := ⟨_, spec_weight n h 20 (by omega), ones_is n h⟩

theorem FnExactHamWeight : laws_FnExactHamWeight.Pure := by
  intro a0 w0
  refine ⟨20, ?_⟩
  unfold laws_FnExactHamWeight.f spec_HamWeight.f impl_HamWeight.f spec_l4Word.f impl_isWord.f
  rw [within_tells, l1In_tells]
  simp only [Option.bind_some]
  by_cases h : a0 ≥ 0 ∧ a0 ≤ 8191
  · obtain ⟨n, rfl⟩ := Int.eq_ofNat_of_zero_le (show 0 ≤ a0 by omega)
    obtain ⟨r, hw, hr⟩ := weights n (by omega)
    rw [if_pos (by simpa using h.2), if_pos (by simpa using h.2), hw, hr]
    simp
  · rw [if_neg (by simpa using h), if_neg (by simpa using h)]
    rfl

end Go.Proofs.Ytbcifcggdpphbaa.Pure
