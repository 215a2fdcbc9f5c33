/- The program's MendText answers as the reference's at all texts; no condition. -/
import Derived.Test.YtjibcpfgnnmfjaaGF
import Derived.Test.YtjibcpfgnnmfjaaHam
import Derived.Test.YtjibcpfgnnmfjaaQFnExactMendTextx4
import Derived.OpenShut
set_option linter.unusedVariables false
set_option linter.unusedSimpArgs false
namespace Go.Proofs.Ytjibcpfgnnmfjaa.Pure
open Go.RowKit Go.Proofs.Ytjibcpfgnnmfjaa.PFnExactMendText Go.Proofs.YtjibcpfgnnmfjaaW.PrintWords Go.Proofs.YtjibcpfgnnmfjaaW.PrintLast Go.Proofs.YtjibcpfgnnmfjaaW.PrintMore Go.Proofs.Ytjibcpfgnnmfjaa.GF Go.Proofs.Ytjibcpfgnnmfjaa.Ham

theorem wr64 (n : Nat) (h : n < 2 ^ 62) : wrap64 (n : Int) = (n : Int) := by unfold wrap64; omega
theorem wri (n : Int) (h : 0 ≤ n) (h1 : n < 2 ^ 62) : wrap64 n = n := by unfold wrap64; omega
theorem byte_of {x : Int} (h : (Lit.int .u8 x).wf = true) : ∃ n : Nat, n < 256 ∧ x = (n : Int) := by
  have := bounds_u8 h
  exact ⟨x.toNat, by omega, by omega⟩
theorem shr_nat (b j q : Nat) (hj : j ≤ 8) (hq : q = b / 2 ^ j) : shr .u8 (b : Int) (j : Int) = (q : Int) := by
  unfold shr
  rw [Int.toNat_natCast, Nat.min_eq_left (show j ≤ IntKind.bits .u8 from hj), hq]
  simp
theorem and1_nat (q : Nat) (hq : q < 256) : Go.bits .and .u8 (q : Int) 1 = ((q % 2 : Nat) : Int) := by
  rw [and1_u8 (q : Int) (by omega) (by omega)]; simp
theorem and1_inat (q : Nat) (hq : q < 2 ^ 62) : Go.bits .and .i64 (q : Int) 1 = ((q % 2 : Nat) : Int) := by
  rw [and1_i64 (q : Int) (by omega) (by omega)]; simp
theorem dbl (x : Nat) (hx : x < 256) : wrap64 ((x : Int) * 2) = ((2 * x : Nat) : Int) := by unfold wrap64; omega
theorem inc (j : Nat) (hj : j < 2 ^ 62) : wrap64 ((j : Int) + 1) = ((j + 1 : Nat) : Int) := by unfold wrap64; omega
theorem x285 (x : Nat) (hx : x < 256) : Go.bits .xor .i64 ((2 * x : Nat) : Int) 285 = ((2 * x ^^^ 285 : Nat) : Int) := xor_i64 (2 * x) 285 (by omega) (by omega)
theorem xor_nat (o x : Nat) (ho : o < 256) (hx : x < 256) : Go.bits .xor .i64 (o : Int) (x : Int) = ((o ^^^ x : Nat) : Int) := xor_i64 o x (by omega) (by omega)
theorem xt_hi (x : Nat) (h : 2 * x > 255) : xt x = 2 * x ^^^ 285 := by unfold xt; rw [if_pos h]
theorem xt_lo (x : Nat) (h : ¬ 2 * x > 255) : xt x = 2 * x := by unfold xt; rw [if_neg h]

/-- the count of ones, as math/bits reckons it, on natural numbers -/
def swar (n : Nat) : Nat :=
  let a := (n / 2 &&& 6148914691236517205) + (n &&& 6148914691236517205)
  let b := (a / 4 &&& 3689348814741910323) + (a &&& 3689348814741910323)
  let c := (b / 16 + b) &&& 1085102592571150095
  let d := c + c / 256
  let e := d + d / 65536
  (e + e / 4294967296) &&& 127
set_option maxHeartbeats 8000000 in
theorem swar_wt : ∀ a : Nat, a < 128 → ∀ b : Nat, b < 64 → swar (64 * a + b) = wtN 13 (64 * a + b) := by decide +kernel
theorem swar_is (n : Nat) (h : n < 8192) : swar n = wtN 13 n := by
  have h1 := swar_wt (n / 64) (by omega) (n % 64) (by omega)
  rw [Nat.div_add_mod] at h1
  exact h1
theorem band (k : IntKind) (j : Nat) (hj : j ≤ k.bits) (hk : ∀ n : Int, 0 ≤ n → n < 2 ^ j → k.wrap n = n) (a b : Nat) (ha : a < 2 ^ j) (hb : b < 2 ^ j) : Go.bits .and k (a : Int) (b : Int) = ((a &&& b : Nat) : Int) := (bits_nat k j hj hk a b ha hb).1
theorem u64_wrap (n : Int) : IntKind.u64.wrap n = n % 18446744073709551616 := by simp [IntKind.wrap, IntKind.bits, IntKind.signed]
theorem wraps_u64 (n : Int) (h₀ : 0 ≤ n) (h₁ : n < 2 ^ 64) : IntKind.u64.wrap n = n := by
  rw [u64_wrap]; omega
theorem and_u64 (a b : Nat) (ha : a < 2 ^ 64) (hb : b < 2 ^ 64) : Go.bits .and .u64 (a : Int) (b : Int) = ((a &&& b : Nat) : Int) := band .u64 64 (by decide) wraps_u64 a b ha hb
theorem and_i64 (a b : Nat) (ha : a < 2 ^ 63) (hb : b < 2 ^ 63) : Go.bits .and .i64 (a : Int) (b : Int) = ((a &&& b : Nat) : Int) := band .i64 63 (by decide) wraps_i64 a b ha hb
theorem wrap_add (a b : Nat) (h : a + b < 2 ^ 64) : IntKind.u64.wrap ((a : Int) + (b : Int)) = ((a + b : Nat) : Int) := by
  rw [wraps_u64 _ (by omega) (by omega)]; omega
theorem div_nat (a m : Nat) : (a : Int) / (m : Int) = ((a / m : Nat) : Int) := by simp
theorem ones64 (n : Nat) (h : n < 8192) : bits_OnesCount64.f (n : Int) = some ((swar n : Nat) : Int) := by
  unfold bits_OnesCount64.f
  have l1 : (n / 2 &&& 6148914691236517205) ≤ n / 2 := Nat.and_le_left
  have l2 : (n &&& 6148914691236517205) ≤ n := Nat.and_le_left
  have e1 : Go.bits .and .u64 ((n : Int) / 2) 6148914691236517205 = ((n / 2 &&& 6148914691236517205 : Nat) : Int) := by
    rw [show (n : Int) / 2 = ((n / 2 : Nat) : Int) from div_nat n 2]; exact and_u64 (n / 2) 6148914691236517205 (by omega) (by omega)
  have e2 : Go.bits .and .u64 (n : Int) 6148914691236517205 = ((n &&& 6148914691236517205 : Nat) : Int) := and_u64 n 6148914691236517205 (by omega) (by omega)
  rw [e1, e2, wrap_add _ _ (by omega)]
  clear e1 e2
  have ha : (n / 2 &&& 6148914691236517205) + (n &&& 6148914691236517205) < 16384 := by omega
  unfold swar
  generalize (n / 2 &&& 6148914691236517205) + (n &&& 6148914691236517205) = a at ha ⊢
  have l1 : (a / 4 &&& 3689348814741910323) ≤ a / 4 := Nat.and_le_left
  have l2 : (a &&& 3689348814741910323) ≤ a := Nat.and_le_left
  have e1 : Go.bits .and .u64 ((a : Int) / 4) 3689348814741910323 = ((a / 4 &&& 3689348814741910323 : Nat) : Int) := by
    rw [show (a : Int) / 4 = ((a / 4 : Nat) : Int) from div_nat a 4]; exact and_u64 (a / 4) 3689348814741910323 (by omega) (by omega)
  have e2 : Go.bits .and .u64 (a : Int) 3689348814741910323 = ((a &&& 3689348814741910323 : Nat) : Int) := and_u64 a 3689348814741910323 (by omega) (by omega)
  rw [e1, e2, wrap_add _ _ (by omega)]
  clear e1 e2
  have hb : (a / 4 &&& 3689348814741910323) + (a &&& 3689348814741910323) < 32768 := by omega
  simp only []
  generalize (a / 4 &&& 3689348814741910323) + (a &&& 3689348814741910323) = b at hb ⊢
  have e1 : Go.bits .and .u64 (IntKind.u64.wrap ((b : Int) / 16 + (b : Int))) 1085102592571150095 = (((b / 16 + b) &&& 1085102592571150095 : Nat) : Int) := by
    rw [show (b : Int) / 16 = ((b / 16 : Nat) : Int) from div_nat b 16, wrap_add _ _ (by omega)]
    exact and_u64 (b / 16 + b) 1085102592571150095 (by omega) (by omega)
  rw [e1]
  clear e1
  have l1 : ((b / 16 + b) &&& 1085102592571150095) ≤ b / 16 + b := Nat.and_le_left
  have hc : ((b / 16 + b) &&& 1085102592571150095) < 65536 := by omega
  generalize (b / 16 + b) &&& 1085102592571150095 = c at hc ⊢
  have e1 : IntKind.u64.wrap ((c : Int) + (c : Int) / 256) = ((c + c / 256 : Nat) : Int) := by
    rw [show (c : Int) / 256 = ((c / 256 : Nat) : Int) from div_nat c 256, wrap_add _ _ (by omega)]
  rw [e1]
  clear e1
  have hd : c + c / 256 < 131072 := by omega
  generalize c + c / 256 = d at hd ⊢
  have e1 : IntKind.u64.wrap ((d : Int) + (d : Int) / 65536) = ((d + d / 65536 : Nat) : Int) := by
    rw [show (d : Int) / 65536 = ((d / 65536 : Nat) : Int) from div_nat d 65536, wrap_add _ _ (by omega)]
  rw [e1]
  clear e1
  have he : d + d / 65536 < 262144 := by omega
  generalize d + d / 65536 = e at he ⊢
  have e1 : IntKind.u64.wrap ((e : Int) + (e : Int) / 4294967296) = ((e + e / 4294967296 : Nat) : Int) := by
    rw [show (e : Int) / 4294967296 = ((e / 4294967296 : Nat) : Int) from div_nat e 4294967296, wrap_add _ _ (by omega)]
  rw [e1, wri _ (by omega) (by omega)]
  congr 1
  exact and_i64 _ 127 (by omega) (by omega)
theorem ones_is (n : Nat) (h : n < 8192) : impl_ones.f (n : Int) = some ((wtN 13 n : Nat) : Int) := by
  unfold impl_ones.f bits_OnesCount.f
  rw [wraps_u64 _ (by omega) (by omega), ones64 n h, swar_is n h]
  rfl

theorem shr_i (n j : Nat) (hj : j ≤ 64) : shr .i64 (n : Int) (j : Int) = ((n / 2 ^ j : Nat) : Int) := by
  unfold shr
  rw [Int.toNat_natCast, Nat.min_eq_left (show j ≤ IntKind.bits .i64 from hj)]
  simp
theorem shl_i (b p : Nat) (hp : p ≤ 12) (hb : b < 2 ^ 40) : shl .i64 (b : Int) (p : Int) = ((b * 2 ^ p : Nat) : Int) := by
  unfold shl
  rw [Int.toNat_natCast, Nat.min_eq_left (show p ≤ IntKind.bits .i64 from Nat.le_trans hp (by decide))]
  have h1 := pow_le12 p hp
  have h2 : b * 2 ^ p ≤ b * 4096 := Nat.mul_le_mul_left _ h1
  have e : (b : Int) * 2 ^ p = ((b * 2 ^ p : Nat) : Int) := by push_cast; rfl
  rw [e]
  exact wraps_i64 _ (by omega) (by omega)
theorem or_i (a b : Nat) (ha : a < 2 ^ 63) (hb : b < 2 ^ 63) : Go.bits .or .i64 (a : Int) (b : Int) = ((a ||| b : Nat) : Int) := (bits_nat .i64 63 (by decide) wraps_i64 a b ha hb).2
theorem and_i (a b : Nat) (ha : a < 2 ^ 63) (hb : b < 2 ^ 63) : Go.bits .and .i64 (a : Int) (b : Int) = ((a &&& b : Nat) : Int) := (bits_nat .i64 63 (by decide) wraps_i64 a b ha hb).1
theorem u64n (x : Nat) (h : x < 2 ^ 63) : IntKind.u64.wrap (x : Int) = (x : Int) := by
  simp [IntKind.wrap, IntKind.bits, IntKind.signed]; omega
theorem tmod2 (n : Nat) : Int.tmod (n : Int) 2 = ((n % 2 : Nat) : Int) := by
  rw [Int.tmod_eq_emod_of_nonneg (by omega)]; simp
theorem bit_of (n j : Nat) (hj : j ≤ 64) (hn : n < 2 ^ 60) : Go.bits .and .i64 (shr .i64 (n : Int) (j : Int)) 1 = ((n / 2 ^ j % 2 : Nat) : Int) := by
  rw [shr_i n j hj]
  exact and1_inat _ (Nat.lt_of_le_of_lt (Nat.div_le_self _ _) (by omega))
theorem rd_pl : ∀ i : Nat, i < 8 → rd ([3, 5, 6, 7, 9, 10, 11, 12] : List Int) (i : Int) = ((plN i : Nat) : Int) := by decide
theorem half_pow (w k : Nat) : w / 2 ^ k / 2 = w / 2 ^ (k + 1) := by rw [Nat.div_div_eq_div_mul, ← Nat.pow_succ]
def parF : Nat → Nat → Nat → Bool → Bool
  | 0, _, _, o => o
  | d + 1, k, w, o => parF d (k + 1) w (if w / 2 ^ k % 2 = 1 then !o else o)
theorem parF_is (d : Nat) : ∀ k w o, parF d k w o = (o != (wtN d (w / 2 ^ k) % 2 == 1)) := by
  induction d with
  | zero => intro k w o; simp [parF, wtN]
  | succ d ih =>
    intro k w o
    show parF d (k + 1) w (if w / 2 ^ k % 2 = 1 then !o else o) = (o != ((w / 2 ^ k % 2 + wtN d (w / 2 ^ k / 2)) % 2 == 1))
    rw [ih, half_pow]
    generalize wtN d (w / 2 ^ (k + 1)) = m
    have h2 := Nat.mod_two_eq_zero_or_one m
    rcases Nat.mod_two_eq_zero_or_one (w / 2 ^ k) with h | h
    · rw [h, if_neg (by omega), Nat.zero_add]
    · rw [h, if_pos rfl]
      rcases h2 with h2 | h2
      · rw [h2, show (1 + m) % 2 = 1 by omega]; cases o <;> rfl
      · rw [h2, show (1 + m) % 2 = 0 by omega]; cases o <;> rfl

theorem impl_sum_l (w : Nat) (hw : w < 2 ^ 60) (d : Nat) : ∀ (k i x : Nat), i + d = 13 → d < k → x < 16 → impl_sumOf.l0 k (w : Int) (x : Int) (i : Int) = some ((sumF d i w x : Nat) : Int) := by
  induction d with
  | zero =>
    intro k i x hi hk hx
    obtain ⟨k, rfl⟩ : ∃ m, k = m + 1 := ⟨k - 1, by omega⟩
    simp only [impl_sumOf.l0]
    rw [if_neg (by omega)]; rfl
  | succ d ih =>
    intro k i x hi hk hx
    obtain ⟨k, rfl⟩ : ∃ m, k = m + 1 := ⟨k - 1, by omega⟩
    have i1 := ih k (i + 1) (x ^^^ i) (by omega) (by omega) (Nat.xor_lt_two_pow (n := 4) hx (by omega))
    have i2 := ih k (i + 1) x (by omega) (by omega) hx
    simp only [impl_sumOf.l0, sumF]
    rw [if_pos (by omega), if_pos (by omega), bit_of w i (by omega) hw, inc i (by omega), xor_i64 x i (by omega) (by omega)]
    by_cases h : w / 2 ^ i % 2 = 1
    · rw [if_pos (by rw [h]; rfl), if_pos h]; exact i1
    · rw [if_neg (fun e => h (by exact_mod_cast e)), if_neg h]; exact i2
theorem impl_sum (w k : Nat) (hw : w < 2 ^ 60) (hk : 13 < k) : impl_sumOf.f k (w : Int) = some ((sumF 12 1 w 0 : Nat) : Int) := impl_sum_l w hw 12 k 1 0 (by omega) (by omega) (by omega)

theorem spec_syn_l (w : Nat) (hw : w < 2 ^ 60) (d : Nat) : ∀ (k i x : Nat) (o : Bool), i + d = 13 → d < k → x < 16 → spec_l4Syndrome.l0 k (w : Int) (x : Int) o (i : Int) = some (((sumF d i w x : Nat) : Int), parF d i w o) := by
  induction d with
  | zero =>
    intro k i x o hi hk hx
    obtain ⟨k, rfl⟩ : ∃ m, k = m + 1 := ⟨k - 1, by omega⟩
    simp only [spec_l4Syndrome.l0]
    rw [if_neg (by omega)]; rfl
  | succ d ih =>
    intro k i x o hi hk hx
    obtain ⟨k, rfl⟩ : ∃ m, k = m + 1 := ⟨k - 1, by omega⟩
    have i1 := ih k (i + 1) (x ^^^ i) (!o) (by omega) (by omega) (Nat.xor_lt_two_pow (n := 4) hx (by omega))
    have i2 := ih k (i + 1) x o (by omega) (by omega) hx
    simp only [spec_l4Syndrome.l0, sumF, parF]
    rw [if_pos (by omega), u64n i (by omega), if_pos (by omega), bit_of w i (by omega) hw, inc i (by omega), xor_i64 x i (by omega) (by omega)]
    by_cases h : w / 2 ^ i % 2 = 1
    · rw [if_pos (by rw [h]; rfl), if_pos h, if_pos h]; exact i1
    · rw [if_neg (fun e => h (by exact_mod_cast e)), if_neg h, if_neg h]; exact i2
theorem spec_syn (w k : Nat) (hw : w < 2 ^ 60) (hk : 13 < k) : spec_l4Syndrome.f k (w : Int) = some (((sumF 12 1 w 0 : Nat) : Int), (wtN 13 w % 2 == 1)) := by
  have h := spec_syn_l w hw 13 k 0 0 false (by omega) hk (by omega)
  rw [parF_is] at h
  have e : sumF 13 0 w 0 = sumF 12 1 w 0 := by
    show sumF 12 1 w (if w / 2 ^ 0 % 2 = 1 then 0 ^^^ 0 else 0) = _
    rw [show (if w / 2 ^ 0 % 2 = 1 then 0 ^^^ 0 else 0 : Nat) = 0 by split <;> rfl]
  rw [e] at h
  unfold spec_l4Syndrome.f
  simpa using h

theorem impl_get (w : Nat) (hw : w < 2 ^ 60) (m : Int) (d : Nat) : ∀ (k i n : Nat), i + d = 8 → d < k → n < 256 →
    impl_decoded.l0 k (w : Int) m (n : Int) [3, 5, 6, 7, 9, 10, 11, 12] 8 (i : Int) = some (((getN d w i n : Nat) : Int), m) := by
  induction d with
  | zero =>
    intro k i n hi hk hn
    obtain ⟨k, rfl⟩ : ∃ m, k = m + 1 := ⟨k - 1, by omega⟩
    simp only [impl_decoded.l0]
    rw [if_neg (by omega)]; rfl
  | succ d ih =>
    intro k i n hi hk hn
    obtain ⟨k, rfl⟩ : ∃ m, k = m + 1 := ⟨k - 1, by omega⟩
    have hp := plN_le i
    have h1 := Nat.pow_le_pow_right (show 0 < 2 by decide) (show i ≤ 7 by omega)
    have h2 : (w / 2 ^ plN i % 2) * 2 ^ i ≤ 1 * 2 ^ i := Nat.mul_le_mul_right _ (by omega)
    have h3 : (2 : Nat) ^ 7 = 128 := rfl
    have i1 := ih k (i + 1) (n ||| (w / 2 ^ plN i % 2) * 2 ^ i) (by omega) (by omega) (or_lt8 _ _ hn (by omega))
    simp only [impl_decoded.l0, getN]
    rw [if_pos (by omega), if_pos (by omega), if_pos (by show (i : Int) < 8; omega), rd_pl i (by omega), if_pos (by omega), bit_of w _ (by omega) hw, shl_i _ _ (by omega) (by omega), or_i _ _ (by omega) (by omega), inc i (by omega)]
    exact i1
theorem impl_j1 (w k : Nat) (hw : w < 2 ^ 60) (m : Int) (hk : 10 < k) : impl_decoded.j1 k (w : Int) m = some (((getN 8 w 0 0 : Nat) : Int), m) := by
  obtain ⟨k, rfl⟩ : ∃ m, k = m + 1 := ⟨k - 1, by omega⟩
  simp only [impl_decoded.j1]
  unfold impl_placesOf.f
  simp only [Option.bind_some]
  exact impl_get w hw m 8 k 0 0 (by omega) (by omega) (by omega)
theorem pow_x (x : Nat) (h : x ≤ 12) : (2 : Nat) ^ x < 2 ^ 13 := Nat.pow_lt_pow_right (by decide) (by omega)
theorem impl_dec (w k : Nat) (hw : w < 8192) (hk : 20 < k) : impl_decoded.f k (w : Int) = some ((((decN w).1 : Nat) : Int), (((decN w).2 : Nat) : Int)) := by
  unfold impl_decoded.f
  rw [impl_sum w k (by omega) (by omega)]
  simp only [Option.bind_some]
  rw [ones_is w hw]
  simp only [Option.bind_some]
  rw [tmod2]
  obtain ⟨k, rfl⟩ : ∃ m, k = m + 1 := ⟨k - 1, by omega⟩
  have da := decN_a w
  have db := decN_b w
  have dc := decN_c w
  have dd := decN_d w
  generalize sumF 12 1 w 0 = x at da db dc dd ⊢
  have hp := Nat.mod_two_eq_zero_or_one (wtN 13 w)
  generalize wtN 13 w % 2 = p at da db dc dd hp ⊢
  rcases hp with rfl | rfl
  · rw [show (((0 : Nat) : Int) == 1) = false from rfl]
    by_cases h0 : x = 0
    · subst h0
      rw [if_pos (show ((0 : Nat) : Int) = 0 from rfl), da rfl rfl]
      simp only [impl_decoded.j0]
      rw [if_pos (by decide)]
      exact impl_j1 w k (by omega) 0 (by omega)
    · rw [if_neg (by omega), dc h0 rfl]
      simp only [impl_decoded.j0]
      rw [if_neg (by decide), if_neg (by decide)]; rfl
  · rw [show (((1 : Nat) : Int) == 1) = true from rfl]
    have go : impl_decoded.j0 (k + 1) (w : Int) (x : Int) true 0 false = some ((((decN w).1 : Nat) : Int), (((decN w).2 : Nat) : Int)) := by
      simp only [impl_decoded.j0]
      rw [if_neg (by decide), if_pos True.intro]
      by_cases h12 : x ≤ 12
      · have hx := pow_x x h12
        rw [if_pos (by omega), if_pos (by omega), db h12 rfl, show (1 : Int) = ((1 : Nat) : Int) from rfl, shl_i 1 x (by omega) (by omega), Nat.one_mul, xor_i64 _ _ (by omega) (by omega)]
        exact impl_j1 _ k (Nat.lt_of_lt_of_le (Nat.xor_lt_two_pow (n := 13) hw hx) (by decide)) _ (by omega)
      · rw [if_neg (by omega), dd (by omega) rfl]; rfl
    split
    · exact go
    · exact go

theorem spec_get (w : Nat) (hw : w < 2 ^ 60) (d : Nat) : ∀ (k i n : Nat), i + d = 8 → d < k → n < 256 →
    spec_l4Byte.l0 k (w : Int) (n : Int) [3, 5, 6, 7, 9, 10, 11, 12] 8 (i : Int) = some ((getN d w i n : Nat) : Int) := by
  induction d with
  | zero =>
    intro k i n hi hk hn
    obtain ⟨k, rfl⟩ : ∃ m, k = m + 1 := ⟨k - 1, by omega⟩
    simp only [spec_l4Byte.l0]
    rw [if_neg (by omega)]; rfl
  | succ d ih =>
    intro k i n hi hk hn
    obtain ⟨k, rfl⟩ : ∃ m, k = m + 1 := ⟨k - 1, by omega⟩
    have hp := plN_le i
    have h1 := Nat.pow_le_pow_right (show 0 < 2 by decide) (show i ≤ 7 by omega)
    have h2 : (w / 2 ^ plN i % 2) * 2 ^ i ≤ 1 * 2 ^ i := Nat.mul_le_mul_right _ (by omega)
    have h3 : (2 : Nat) ^ 7 = 128 := rfl
    have i1 := ih k (i + 1) (n ||| (w / 2 ^ plN i % 2) * 2 ^ i) (by omega) (by omega) (or_lt8 _ _ hn (by omega))
    simp only [spec_l4Byte.l0, getN]
    rw [if_pos (by omega), if_pos (by omega), if_pos (by show (i : Int) < 8; omega), rd_pl i (by omega), u64n (plN i) (by omega), u64n i (by omega), if_pos (by omega), if_pos (by omega), bit_of w _ (by omega) hw, shl_i _ _ (by omega) (by omega), or_i _ _ (by omega) (by omega), inc i (by omega)]
    exact i1
theorem spec_byte (w k : Nat) (hw : w < 2 ^ 60) (hk : 10 < k) : spec_l4Byte.f k (w : Int) = some ((getN 8 w 0 0 : Nat) : Int) := by
  unfold spec_l4Byte.f spec_l4Places.f
  simp only [Option.bind_some]
  exact spec_get w hw 8 k 0 0 (by omega) (by omega) (by omega)
theorem pow_y (x : Nat) (h : x ≤ 12) : (2 : Nat) ^ x < 2 ^ 13 := Nat.pow_lt_pow_right (by decide) (by omega)
theorem spec_dec (w k : Nat) (hw : w < 8192) (hk : 20 < k) : spec_l4Decode.f k (w : Int) = some ((((decN w).1 : Nat) : Int), (((decN w).2 : Nat) : Int)) := by
  unfold spec_l4Decode.f
  rw [spec_syn w k (by omega) (by omega)]
  simp only [Option.bind_some]
  obtain ⟨k, rfl⟩ : ∃ m, k = m + 1 := ⟨k - 1, by omega⟩
  have da := decN_a w
  have db := decN_b w
  have dc := decN_c w
  have dd := decN_d w
  generalize sumF 12 1 w 0 = x at da db dc dd ⊢
  have hp := Nat.mod_two_eq_zero_or_one (wtN 13 w)
  generalize wtN 13 w % 2 = p at da db dc dd hp ⊢
  rcases hp with rfl | rfl
  · rw [show ((0 : Nat) == 1) = false from rfl]
    by_cases h0 : x = 0
    · subst h0
      rw [if_pos (show ((0 : Nat) : Int) = 0 from rfl), da rfl rfl]
      simp only [spec_l4Decode.j0]
      rw [if_pos (by decide), spec_byte w k (by omega) (by omega)]; rfl
    · rw [if_neg (by omega), dc h0 rfl]
      simp only [spec_l4Decode.j0]
      rw [if_neg (by decide), if_neg (by decide)]; rfl
  · rw [show ((1 : Nat) == 1) = true from rfl]
    have go : spec_l4Decode.j0 (k + 1) (w : Int) (x : Int) true false = some ((((decN w).1 : Nat) : Int), (((decN w).2 : Nat) : Int)) := by
      simp only [spec_l4Decode.j0]
      rw [if_neg (by decide), if_pos True.intro]
      by_cases h12 : x ≤ 12
      · have hx := pow_y x h12
        rw [if_pos (by omega), u64n x (by omega), if_pos (by omega), db h12 rfl, show (1 : Int) = ((1 : Nat) : Int) from rfl, shl_i 1 x (by omega) (by omega), Nat.one_mul, xor_i64 _ _ (by omega) (by omega), spec_byte _ k (Nat.lt_of_lt_of_le (Nat.xor_lt_two_pow (n := 13) hw hx) (by decide)) (by omega)]; rfl
      · rw [if_neg (by omega), dd (by omega) rfl]; rfl
    split
    · exact go
    · exact go

theorem ev_of {α : Type} {g : Nat → Option α} {r : α} (K : Nat) (h : ∀ k, K < k → g k = some r) : Ev g r := ⟨K + 1, fun k hk => h k (by omega)⟩
theorem evp {α : Type} {c : Prop} [Decidable c] {f g : Nat → Option α} {r : α} (h : c) (k : Ev f r) : Ev (fun n => if c then f n else g n) r := Ev.congr (fun _ => if_pos h) k
theorem evn {α : Type} {c : Prop} [Decidable c] {f g : Nat → Option α} {r : α} (h : ¬ c) (k : Ev g r) : Ev (fun n => if c then f n else g n) r := Ev.congr (fun _ => if_neg h) k
theorem ev_some {α β : Type} {a : α} {f : Nat → α → Option β} {r : β} (h : Ev (fun n => f n a) r) : Ev (fun n => (some a).bind (f n)) r := h
theorem ev_to_some {α β : Type} {o : Option α} {a : α} {f : Nat → α → Option β} {r : β} (ho : o = some a) (h : Ev (fun n => f n a) r) : Ev (fun n => o.bind (f n)) r := by subst ho; exact h
theorem maxLen_lt : maxLen < 2 ^ 63 := by decide

theorem or_pair : ∀ a : Nat, a < 256 → ∀ b : Nat, b < 32 → Go.bits .or .i64 (a : Int) ((b : Int) * 256) = ((a + 256 * b : Nat) : Int) := by decide +kernel
/-- what the pair at j tells -/
def pd (s : ByteArray) (j : Nat) : Option (Int × Int) :=
  if bt s ((2 * j + 1 : Nat) : Int) ≥ 32 then none else some ((((decN ((bt s ((2 * j : Nat) : Int)).toNat + 256 * (bt s ((2 * j + 1 : Nat) : Int)).toNat)).1 : Nat) : Int), (((decN ((bt s ((2 * j : Nat) : Int)).toNat + 256 * (bt s ((2 * j + 1 : Nat) : Int)).toNat)).2 : Nat) : Int))
theorem decAt_pd (k : Nat) (hk : 20 < k) (s : ByteArray) (j : Nat) : decAt k s j = some (pd s j) := by
  have r0 := bt_range s ((2 * j : Nat) : Int)
  have r1 := bt_range s ((2 * j + 1 : Nat) : Int)
  unfold decAt pd
  generalize bt s ((2 * j : Nat) : Int) = v0 at r0 ⊢
  generalize bt s ((2 * j + 1 : Nat) : Int) = v1 at r1 ⊢
  by_cases h : v1 ≥ 32
  · rw [if_pos h, if_pos h]
  · rw [if_neg h, if_neg h, show v0 + 256 * v1 = ((v0.toNat + 256 * v1.toNat : Nat) : Int) by omega, impl_dec _ k (by omega) hk]
    rfl
theorem decs_pd (k : Nat) (hk : 20 < k) (s : ByteArray) (n : Nat) : decs k s n = some ((List.range n).map (pd s)) := by
  induction n with
  | zero => rfl
  | succ n ih =>
    rw [decs, ih]
    simp only [Option.bind_some]
    rw [decAt_pd k hk]
    simp only [Option.bind_some]
    rw [List.range_succ, List.map_append]
    rfl
theorem spec_l (s : ByteArray) (n : Nat) (hn : s.size = 2 * n) (h60 : n ≤ 60) (d : Nat) : ∀ (j : Nat) (o : List Int) (c : Int), j + d = n → o.length ≤ j →
    Ev (fun k => spec_MendText.l0 k s o c ((2 * j : Nat) : Int)) (mendR (mfold (((List.range n).drop j).map (pd s)) o c)) := by
  induction d with
  | zero =>
    intro j o c hj ho
    rw [List.drop_eq_nil_of_le (by rw [List.length_range]; omega)]
    show Ev _ (strOfNums o, c, true)
    exact Ev.step (fun k => by simp only [spec_MendText.l0]; rw [if_neg (by omega)]) (Ev.now _)
  | succ d ih =>
    intro j o c hj ho
    have r0 := bt_range s ((2 * j : Nat) : Int)
    have r1 := bt_range s ((2 * j + 1 : Nat) : Int)
    have hw1 : wrap64 (((2 * j : Nat) : Int) + 1) = ((2 * j + 1 : Nat) : Int) := by unfold wrap64; omega
    have hw2 : wrap64 (((2 * j : Nat) : Int) + 2) = ((2 * (j + 1) : Nat) : Int) := by unfold wrap64; omega
    rw [List.drop_eq_getElem_cons (by rw [List.length_range]; omega), List.getElem_range, List.map_cons]
    refine Ev.step (fun k => by simp only [spec_MendText.l0]; rw [if_pos (by omega), hw1, if_pos (by omega), if_pos (by omega), hw2]) ?_
    have hp : pd s j = if bt s ((2 * j + 1 : Nat) : Int) ≥ 32 then none else some ((((decN ((bt s ((2 * j : Nat) : Int)).toNat + 256 * (bt s ((2 * j + 1 : Nat) : Int)).toNat)).1 : Nat) : Int), (((decN ((bt s ((2 * j : Nat) : Int)).toNat + 256 * (bt s ((2 * j + 1 : Nat) : Int)).toNat)).2 : Nat) : Int)) := rfl
    rw [hp]
    generalize bt s ((2 * j : Nat) : Int) = v0 at r0 ⊢
    generalize bt s ((2 * j + 1 : Nat) : Int) = v1 at r1 ⊢
    by_cases h : v1 ≥ 32
    · rw [if_pos h]
      exact evp h (Ev.now _)
    · rw [if_neg h]
      refine evn h (evp (by omega) ?_)
      have ho2 := or_pair v0.toNat (by omega) v1.toNat (by omega)
      rw [show ((v0.toNat : Nat) : Int) = v0 by omega, show ((v1.toNat : Nat) : Int) = v1 by omega] at ho2
      rw [show wrap64 v0 = v0 by unfold wrap64; omega, show wrap64 v1 = v1 by unfold wrap64; omega, show wrap64 (v1 * 256) = v1 * 256 by unfold wrap64; omega, ho2]
      refine Ev.bind (ev_of 20 fun k hk => spec_dec _ k (by omega) hk) ?_
      generalize (((decN (v0.toNat + 256 * v1.toNat)).1 : Nat) : Int) = x
      generalize (((decN (v0.toNat + 256 * v1.toNat)).2 : Nat) : Int) = m
      show Ev _ (mendR ((mstep o c (some (x, m))).bind fun q => mfold _ q.1 q.2))
      simp only [mstep]
      by_cases h2 : m = 2
      · rw [if_pos h2]
        exact evp h2 (Ev.now _)
      · rw [if_neg h2]
        refine evn h2 ?_
        by_cases h1 : m = 1
        · rw [if_pos h1]
          exact evp h1 (evp (by omega) (ih (j + 1) _ _ (by omega) (by rw [List.length_append]; simp; omega)))
        · rw [if_neg h1]
          exact evn h1 (evp (by omega) (ih (j + 1) _ _ (by omega) (by rw [List.length_append]; simp; omega)))
theorem both_MendText (s : ByteArray) (hs : s.size < 2 ^ 40) : ∃ r : ByteArray × Int × Bool, Ev (fun k => spec_MendText.f k s) r ∧ Ev (fun k => impl_MendText.f k s) r := by
  by_cases h : s.size % 2 = 0 ∧ s.size ≤ 120
  · have hn : s.size = 2 * (s.size / 2) := by omega
    have e := spec_l s (s.size / 2) hn (by omega) (s.size / 2) 0 [] 0 (by omega) (by simp)
    rw [List.drop_zero] at e
    have e : Ev (fun k => spec_MendText.l0 k s [] 0 0) (mendR (mfold ((List.range (s.size / 2)).map (pd s)) [] 0)) := e
    refine ⟨mendR (mfold ((List.range (s.size / 2)).map (pd s)) [] 0), ?_, ev_of 20 fun k hk => by unfold impl_MendText.f; rw [if_pos h, decs_pd k hk]; rfl⟩
    unfold spec_MendText.f
    refine evn (by omega) ?_
    rw [decide_eq_false (by omega)]
    exact Ev.step (fun k => by simp only [spec_MendText.j0]; rw [if_neg (by decide)]) e
  · refine ⟨((⟨#[]⟩ : ByteArray), 0, false), ?_, ev_of 0 fun k _ => by unfold impl_MendText.f; rw [if_neg h]⟩
    unfold spec_MendText.f
    by_cases h2 : ((s.size : Int) % 2) = 1
    · exact evp h2 (Ev.step (fun k => by simp only [spec_MendText.j0]; rw [if_pos trivial]) (Ev.now _))
    · refine evn h2 ?_
      rw [decide_eq_true (by omega)]
      exact Ev.step (fun k => by simp only [spec_MendText.j0]; rw [if_pos trivial]) (Ev.now _)
theorem FnExactMendText : laws_FnExactMendText.Pure := by
  intro s hs
  refine Ev.rounds ?_
  unfold laws_FnExactMendText.f
  by_cases hb : (s.size : Int) > 1048576
  · exact evp hb (Ev.now _)
  · obtain ⟨r, e1, e2⟩ := both_MendText s (by omega)
    refine evn hb (Ev.bind e1 (Ev.bind e2 (evp rfl (evp rfl (evn (by simp) (Ev.now _))))))

end Go.Proofs.Ytjibcpfgnnmfjaa.Pure
