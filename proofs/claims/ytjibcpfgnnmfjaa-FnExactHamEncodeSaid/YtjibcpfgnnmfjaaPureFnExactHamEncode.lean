/- The program's HamEncode answers as the reference's at all numbers; no condition. -/
import Derived.Test.YtjibcpfgnnmfjaaGF
import Derived.Test.YtjibcpfgnnmfjaaHam
import Derived.Test.YtjibcpfgnnmfjaaQFnExactHamEncodex2
import Derived.OpenShut
set_option linter.unusedVariables false
set_option linter.unusedSimpArgs false
namespace Go.Proofs.Ytjibcpfgnnmfjaa.Pure
open Go.RowKit Go.Proofs.Ytjibcpfgnnmfjaa.PFnExactHamEncode Go.Proofs.YtjibcpfgnnmfjaaW.PrintWords Go.Proofs.YtjibcpfgnnmfjaaW.PrintLast Go.Proofs.YtjibcpfgnnmfjaaW.PrintMore Go.Proofs.Ytjibcpfgnnmfjaa.GF Go.Proofs.Ytjibcpfgnnmfjaa.Ham

theorem wr64 (n : Nat) (h : n < 2 ^ 62) : wrap64 (n : Int) = (n : Int) := by unfold wrap64; omega
theorem wri (n : Int) (h : 0 ≤ n) (h1 : n < 2 ^ 62) : wrap64 n = n := by unfold wrap64; omega
theorem byte_of {x : Int} (h : (Lit.int .u8 x).wf = true) : ∃ n : Nat, n < 256 ∧ x = (n : Int) := by
  have := bounds_u8 h
  exact ⟨x.toNat, by omega, by omega⟩
theorem shr_nat (b j q : Nat) (hj : j ≤ 8) (hq : q = b / 2 ^ j) : shr .u8 (b : Int) (j : Int) = (q : Int) := by
  unfold shr
  rw [Int.toNat_natCast, Nat.min_eq_left (show j ≤ IntKind.bits .u8 from hj), hq]
  simp
theorem and1_nat (q : Nat) (hq : q < 256) : Go.bits .and .u8 (q : Int) 1 = ((q % 2 : Nat) : Int) := by
  rw [and1_u8 (q : Int) (by omega) (by omega)]; simp
theorem and1_inat (q : Nat) (hq : q < 2 ^ 62) : Go.bits .and .i64 (q : Int) 1 = ((q % 2 : Nat) : Int) := by
  rw [and1_i64 (q : Int) (by omega) (by omega)]; simp
theorem dbl (x : Nat) (hx : x < 256) : wrap64 ((x : Int) * 2) = ((2 * x : Nat) : Int) := by unfold wrap64; omega
theorem inc (j : Nat) (hj : j < 2 ^ 62) : wrap64 ((j : Int) + 1) = ((j + 1 : Nat) : Int) := by unfold wrap64; omega
theorem x285 (x : Nat) (hx : x < 256) : Go.bits .xor .i64 ((2 * x : Nat) : Int) 285 = ((2 * x ^^^ 285 : Nat) : Int) := xor_i64 (2 * x) 285 (by omega) (by omega)
theorem xor_nat (o x : Nat) (ho : o < 256) (hx : x < 256) : Go.bits .xor .i64 (o : Int) (x : Int) = ((o ^^^ x : Nat) : Int) := xor_i64 o x (by omega) (by omega)
theorem xt_hi (x : Nat) (h : 2 * x > 255) : xt x = 2 * x ^^^ 285 := by unfold xt; rw [if_pos h]
theorem xt_lo (x : Nat) (h : ¬ 2 * x > 255) : xt x = 2 * x := by unfold xt; rw [if_neg h]

theorem within_tells (a b c : Int) : impl_within.f a b c = some (decide (a ≥ b ∧ a ≤ c)) := by
  unfold impl_within.f
  split
  · rename_i h; simp [h]
  · rename_i h; simp [h]
theorem l1In_tells (a b c : Int) : spec_l1In.f a b c = some (decide (a ≥ b ∧ a ≤ c)) := by
  unfold spec_l1In.f
  split
  · rename_i h; simp [h]
  · rename_i h; simp [h]

/-- the count of ones, as math/bits reckons it, on natural numbers -/
def swar (n : Nat) : Nat :=
  let a := (n / 2 &&& 6148914691236517205) + (n &&& 6148914691236517205)
  let b := (a / 4 &&& 3689348814741910323) + (a &&& 3689348814741910323)
  let c := (b / 16 + b) &&& 1085102592571150095
  let d := c + c / 256
  let e := d + d / 65536
  (e + e / 4294967296) &&& 127
set_option maxHeartbeats 8000000 in
theorem swar_wt : ∀ a : Nat, a < 128 → ∀ b : Nat, b < 64 → swar (64 * a + b) = wtN 13 (64 * a + b) := by decide +kernel
theorem swar_is (n : Nat) (h : n < 8192) : swar n = wtN 13 n := by
  have h1 := swar_wt (n / 64) (by omega) (n % 64) (by omega)
  rw [Nat.div_add_mod] at h1
  exact h1
theorem band (k : IntKind) (j : Nat) (hj : j ≤ k.bits) (hk : ∀ n : Int, 0 ≤ n → n < 2 ^ j → k.wrap n = n) (a b : Nat) (ha : a < 2 ^ j) (hb : b < 2 ^ j) : Go.bits .and k (a : Int) (b : Int) = ((a &&& b : Nat) : Int) := (bits_nat k j hj hk a b ha hb).1
theorem u64_wrap (n : Int) : IntKind.u64.wrap n = n % 18446744073709551616 := by simp [IntKind.wrap, IntKind.bits, IntKind.signed]
theorem wraps_u64 (n : Int) (h₀ : 0 ≤ n) (h₁ : n < 2 ^ 64) : IntKind.u64.wrap n = n := by
  rw [u64_wrap]; omega
theorem and_u64 (a b : Nat) (ha : a < 2 ^ 64) (hb : b < 2 ^ 64) : Go.bits .and .u64 (a : Int) (b : Int) = ((a &&& b : Nat) : Int) := band .u64 64 (by decide) wraps_u64 a b ha hb
theorem and_i64 (a b : Nat) (ha : a < 2 ^ 63) (hb : b < 2 ^ 63) : Go.bits .and .i64 (a : Int) (b : Int) = ((a &&& b : Nat) : Int) := band .i64 63 (by decide) wraps_i64 a b ha hb
theorem wrap_add (a b : Nat) (h : a + b < 2 ^ 64) : IntKind.u64.wrap ((a : Int) + (b : Int)) = ((a + b : Nat) : Int) := by
  rw [wraps_u64 _ (by omega) (by omega)]; omega
theorem div_nat (a m : Nat) : (a : Int) / (m : Int) = ((a / m : Nat) : Int) := by simp
theorem ones64 (n : Nat) (h : n < 8192) : bits_OnesCount64.f (n : Int) = some ((swar n : Nat) : Int) := by
  unfold bits_OnesCount64.f
  have l1 : (n / 2 &&& 6148914691236517205) ≤ n / 2 := Nat.and_le_left
  have l2 : (n &&& 6148914691236517205) ≤ n := Nat.and_le_left
  have e1 : Go.bits .and .u64 ((n : Int) / 2) 6148914691236517205 = ((n / 2 &&& 6148914691236517205 : Nat) : Int) := by
    rw [show (n : Int) / 2 = ((n / 2 : Nat) : Int) from div_nat n 2]; exact and_u64 (n / 2) 6148914691236517205 (by omega) (by omega)
  have e2 : Go.bits .and .u64 (n : Int) 6148914691236517205 = ((n &&& 6148914691236517205 : Nat) : Int) := and_u64 n 6148914691236517205 (by omega) (by omega)
  rw [e1, e2, wrap_add _ _ (by omega)]
  clear e1 e2
  have ha : (n / 2 &&& 6148914691236517205) + (n &&& 6148914691236517205) < 16384 := by omega
  unfold swar
  generalize (n / 2 &&& 6148914691236517205) + (n &&& 6148914691236517205) = a at ha ⊢
  have l1 : (a / 4 &&& 3689348814741910323) ≤ a / 4 := Nat.and_le_left
  have l2 : (a &&& 3689348814741910323) ≤ a := Nat.and_le_left
  have e1 : Go.bits .and .u64 ((a : Int) / 4) 3689348814741910323 = ((a / 4 &&& 3689348814741910323 : Nat) : Int) := by
    rw [show (a : Int) / 4 = ((a / 4 : Nat) : Int) from div_nat a 4]; exact and_u64 (a / 4) 3689348814741910323 (by omega) (by omega)
  have e2 : Go.bits .and .u64 (a : Int) 3689348814741910323 = ((a &&& 3689348814741910323 : Nat) : Int) := and_u64 a 3689348814741910323 (by omega) (by omega)
  rw [e1, e2, wrap_add _ _ (by omega)]
  clear e1 e2
  have hb : (a / 4 &&& 3689348814741910323) + (a &&& 3689348814741910323) < 32768 := by omega
  simp only []
  generalize (a / 4 &&& 3689348814741910323) + (a &&& 3689348814741910323) = b at hb ⊢
  have e1 : Go.bits .and .u64 (IntKind.u64.wrap ((b : Int) / 16 + (b : Int))) 1085102592571150095 = (((b / 16 + b) &&& 1085102592571150095 : Nat) : Int) := by
    rw [show (b : Int) / 16 = ((b / 16 : Nat) : Int) from div_nat b 16, wrap_add _ _ (by omega)]
    exact and_u64 (b / 16 + b) 1085102592571150095 (by omega) (by omega)
  rw [e1]
  clear e1
  have l1 : ((b / 16 + b) &&& 1085102592571150095) ≤ b / 16 + b := Nat.and_le_left
  have hc : ((b / 16 + b) &&& 1085102592571150095) < 65536 := by omega
  generalize (b / 16 + b) &&& 1085102592571150095 = c at hc ⊢
  have e1 : IntKind.u64.wrap ((c : Int) + (c : Int) / 256) = ((c + c / 256 : Nat) : Int) := by
    rw [show (c : Int) / 256 = ((c / 256 : Nat) : Int) from div_nat c 256, wrap_add _ _ (by omega)]
  rw [e1]
  clear e1
  have hd : c + c / 256 < 131072 := by omega
  generalize c + c / 256 = d at hd ⊢
  have e1 : IntKind.u64.wrap ((d : Int) + (d : Int) / 65536) = ((d + d / 65536 : Nat) : Int) := by
    rw [show (d : Int) / 65536 = ((d / 65536 : Nat) : Int) from div_nat d 65536, wrap_add _ _ (by omega)]
  rw [e1]
  clear e1
  have he : d + d / 65536 < 262144 := by omega
  generalize d + d / 65536 = e at he ⊢
  have e1 : IntKind.u64.wrap ((e : Int) + (e : Int) / 4294967296) = ((e + e / 4294967296 : Nat) : Int) := by
    rw [show (e : Int) / 4294967296 = ((e / 4294967296 : Nat) : Int) from div_nat e 4294967296, wrap_add _ _ (by omega)]
  rw [e1, wri _ (by omega) (by omega)]
  congr 1
  exact and_i64 _ 127 (by omega) (by omega)
theorem ones_is (n : Nat) (h : n < 8192) : impl_ones.f (n : Int) = some ((wtN 13 n : Nat) : Int) := by
  unfold impl_ones.f bits_OnesCount.f
  rw [wraps_u64 _ (by omega) (by omega), ones64 n h, swar_is n h]
  rfl

theorem shr_i (n j : Nat) (hj : j ≤ 64) : shr .i64 (n : Int) (j : Int) = ((n / 2 ^ j : Nat) : Int) := by
  unfold shr
  rw [Int.toNat_natCast, Nat.min_eq_left (show j ≤ IntKind.bits .i64 from hj)]
  simp
theorem shl_i (b p : Nat) (hp : p ≤ 12) (hb : b < 2 ^ 40) : shl .i64 (b : Int) (p : Int) = ((b * 2 ^ p : Nat) : Int) := by
  unfold shl
  rw [Int.toNat_natCast, Nat.min_eq_left (show p ≤ IntKind.bits .i64 from Nat.le_trans hp (by decide))]
  have h1 := pow_le12 p hp
  have h2 : b * 2 ^ p ≤ b * 4096 := Nat.mul_le_mul_left _ h1
  have e : (b : Int) * 2 ^ p = ((b * 2 ^ p : Nat) : Int) := by push_cast; rfl
  rw [e]
  exact wraps_i64 _ (by omega) (by omega)
theorem or_i (a b : Nat) (ha : a < 2 ^ 63) (hb : b < 2 ^ 63) : Go.bits .or .i64 (a : Int) (b : Int) = ((a ||| b : Nat) : Int) := (bits_nat .i64 63 (by decide) wraps_i64 a b ha hb).2
theorem and_i (a b : Nat) (ha : a < 2 ^ 63) (hb : b < 2 ^ 63) : Go.bits .and .i64 (a : Int) (b : Int) = ((a &&& b : Nat) : Int) := (bits_nat .i64 63 (by decide) wraps_i64 a b ha hb).1
theorem u64n (x : Nat) (h : x < 2 ^ 63) : IntKind.u64.wrap (x : Int) = (x : Int) := by
  simp [IntKind.wrap, IntKind.bits, IntKind.signed]; omega
theorem tmod2 (n : Nat) : Int.tmod (n : Int) 2 = ((n % 2 : Nat) : Int) := by
  rw [Int.tmod_eq_emod_of_nonneg (by omega)]; simp
theorem bit_of (n j : Nat) (hj : j ≤ 64) (hn : n < 2 ^ 60) : Go.bits .and .i64 (shr .i64 (n : Int) (j : Int)) 1 = ((n / 2 ^ j % 2 : Nat) : Int) := by
  rw [shr_i n j hj]
  exact and1_inat _ (Nat.lt_of_le_of_lt (Nat.div_le_self _ _) (by omega))
theorem rd_pl : ∀ i : Nat, i < 8 → rd ([3, 5, 6, 7, 9, 10, 11, 12] : List Int) (i : Int) = ((plN i : Nat) : Int) := by decide
theorem half_pow (w k : Nat) : w / 2 ^ k / 2 = w / 2 ^ (k + 1) := by rw [Nat.div_div_eq_div_mul, ← Nat.pow_succ]
def parF : Nat → Nat → Nat → Bool → Bool
  | 0, _, _, o => o
  | d + 1, k, w, o => parF d (k + 1) w (if w / 2 ^ k % 2 = 1 then !o else o)
theorem parF_is (d : Nat) : ∀ k w o, parF d k w o = (o != (wtN d (w / 2 ^ k) % 2 == 1)) := by
  induction d with
  | zero => intro k w o; simp [parF, wtN]
  | succ d ih =>
    intro k w o
    show parF d (k + 1) w (if w / 2 ^ k % 2 = 1 then !o else o) = (o != ((w / 2 ^ k % 2 + wtN d (w / 2 ^ k / 2)) % 2 == 1))
    rw [ih, half_pow]
    generalize wtN d (w / 2 ^ (k + 1)) = m
    have h2 := Nat.mod_two_eq_zero_or_one m
    rcases Nat.mod_two_eq_zero_or_one (w / 2 ^ k) with h | h
    · rw [h, if_neg (by omega), Nat.zero_add]
    · rw [h, if_pos rfl]
      rcases h2 with h2 | h2
      · rw [h2, show (1 + m) % 2 = 1 by omega]; cases o <;> rfl
      · rw [h2, show (1 + m) % 2 = 0 by omega]; cases o <;> rfl

theorem impl_sum_l (w : Nat) (hw : w < 2 ^ 60) (d : Nat) : ∀ (k i x : Nat), i + d = 13 → d < k → x < 16 → impl_sumOf.l0 k (w : Int) (x : Int) (i : Int) = some ((sumF d i w x : Nat) : Int) := by
  induction d with
  | zero =>
    intro k i x hi hk hx
    obtain ⟨k, rfl⟩ : ∃ m, k = m + 1 := ⟨k - 1, by omega⟩
    simp only [impl_sumOf.l0]
    rw [if_neg (by omega)]; rfl
  | succ d ih =>
    intro k i x hi hk hx
    obtain ⟨k, rfl⟩ : ∃ m, k = m + 1 := ⟨k - 1, by omega⟩
    have i1 := ih k (i + 1) (x ^^^ i) (by omega) (by omega) (Nat.xor_lt_two_pow (n := 4) hx (by omega))
    have i2 := ih k (i + 1) x (by omega) (by omega) hx
    simp only [impl_sumOf.l0, sumF]
    rw [if_pos (by omega), if_pos (by omega), bit_of w i (by omega) hw, inc i (by omega), xor_i64 x i (by omega) (by omega)]
    by_cases h : w / 2 ^ i % 2 = 1
    · rw [if_pos (by rw [h]; rfl), if_pos h]; exact i1
    · rw [if_neg (fun e => h (by exact_mod_cast e)), if_neg h]; exact i2
theorem impl_sum (w k : Nat) (hw : w < 2 ^ 60) (hk : 13 < k) : impl_sumOf.f k (w : Int) = some ((sumF 12 1 w 0 : Nat) : Int) := impl_sum_l w hw 12 k 1 0 (by omega) (by omega) (by omega)

theorem spec_syn_l (w : Nat) (hw : w < 2 ^ 60) (d : Nat) : ∀ (k i x : Nat) (o : Bool), i + d = 13 → d < k → x < 16 → spec_l4Syndrome.l0 k (w : Int) (x : Int) o (i : Int) = some (((sumF d i w x : Nat) : Int), parF d i w o) := by
  induction d with
  | zero =>
    intro k i x o hi hk hx
    obtain ⟨k, rfl⟩ : ∃ m, k = m + 1 := ⟨k - 1, by omega⟩
    simp only [spec_l4Syndrome.l0]
    rw [if_neg (by omega)]; rfl
  | succ d ih =>
    intro k i x o hi hk hx
    obtain ⟨k, rfl⟩ : ∃ m, k = m + 1 := ⟨k - 1, by omega⟩
    have i1 := ih k (i + 1) (x ^^^ i) (!o) (by omega) (by omega) (Nat.xor_lt_two_pow (n := 4) hx (by omega))
    have i2 := ih k (i + 1) x o (by omega) (by omega) hx
    simp only [spec_l4Syndrome.l0, sumF, parF]
    rw [if_pos (by omega), u64n i (by omega), if_pos (by omega), bit_of w i (by omega) hw, inc i (by omega), xor_i64 x i (by omega) (by omega)]
    by_cases h : w / 2 ^ i % 2 = 1
    · rw [if_pos (by rw [h]; rfl), if_pos h, if_pos h]; exact i1
    · rw [if_neg (fun e => h (by exact_mod_cast e)), if_neg h, if_neg h]; exact i2
theorem spec_syn (w k : Nat) (hw : w < 2 ^ 60) (hk : 13 < k) : spec_l4Syndrome.f k (w : Int) = some (((sumF 12 1 w 0 : Nat) : Int), (wtN 13 w % 2 == 1)) := by
  have h := spec_syn_l w hw 13 k 0 0 false (by omega) hk (by omega)
  rw [parF_is] at h
  have e : sumF 13 0 w 0 = sumF 12 1 w 0 := by
    show sumF 12 1 w (if w / 2 ^ 0 % 2 = 1 then 0 ^^^ 0 else 0) = _
    rw [show (if w / 2 ^ 0 % 2 = 1 then 0 ^^^ 0 else 0 : Nat) = 0 by split <;> rfl]
  rw [e] at h
  unfold spec_l4Syndrome.f
  simpa using h

theorem impl_enc_l0 (n : Nat) (hn : n < 2 ^ 60) (r : Int) (d : Nat) : ∀ (k i w : Nat), i + d = 8 → d < k → w < 8192 →
    (∀ k', k' + d + 1 = k → ((impl_sumOf.f k' ((putN d n i w : Nat) : Int)).bind fun t127 => ((some (([1, 2, 4, 8] : List Int) : List Int)).bind fun y128 => (impl_encoded.l1 k' ((putN d n i w : Nat) : Int) t127 y128 (y128.length : Int) 0))) = some r) →
    impl_encoded.l0 k (n : Int) (w : Int) [3, 5, 6, 7, 9, 10, 11, 12] 8 (i : Int) = some r := by
  induction d with
  | zero =>
    intro k i w hi hk hw h
    obtain ⟨k, rfl⟩ : ∃ m, k = m + 1 := ⟨k - 1, by omega⟩
    simp only [impl_encoded.l0]
    rw [if_neg (by omega)]
    exact h k (by omega)
  | succ d ih =>
    intro k i w hi hk hw h
    obtain ⟨k, rfl⟩ : ∃ m, k = m + 1 := ⟨k - 1, by omega⟩
    have hp := plN_le i
    have hb := bit_lt (n / 2 ^ i) (plN i) hp
    have i1 := ih k (i + 1) (w ||| (n / 2 ^ i % 2) * 2 ^ plN i) (by omega) (by omega) (or_lt13 _ _ hw hb) (fun k' hk' => h k' (by omega))
    simp only [impl_encoded.l0]
    rw [if_pos (by omega), if_pos (by omega), if_pos (by show (i : Int) < 8; omega), rd_pl i (by omega), if_pos (by omega), bit_of n i (by omega) hn, shl_i _ _ hp (by omega), or_i _ _ (by omega) (by omega), inc i (by omega)]
    exact i1
theorem rd_ck0 : rd ([1, 2, 4, 8] : List Int) ((0 : Nat) : Int) = ((1 : Nat) : Int) := by decide
theorem rd_ck1 : rd ([1, 2, 4, 8] : List Int) ((1 : Nat) : Int) = ((2 : Nat) : Int) := by decide
theorem rd_ck2 : rd ([1, 2, 4, 8] : List Int) ((2 : Nat) : Int) = ((4 : Nat) : Int) := by decide
theorem rd_ck3 : rd ([1, 2, 4, 8] : List Int) ((3 : Nat) : Int) = ((8 : Nat) : Int) := by decide
theorem impl_ck_step (k x w i q : Nat) (hi : i < 4) (hq : q ≤ 8) (hr : rd ([1, 2, 4, 8] : List Int) (i : Int) = (q : Int)) (hx : x < 16) (hw : w < 8192) :
    impl_encoded.l1 (k + 1) (w : Int) (x : Int) [1, 2, 4, 8] 4 (i : Int) = impl_encoded.l1 k ((if x &&& q = 0 then w else w ||| 2 ^ q : Nat) : Int) (x : Int) [1, 2, 4, 8] 4 ((i + 1 : Nat) : Int) := by
  simp only [impl_encoded.l1]
  rw [if_pos (by omega), if_pos (by omega), if_pos (by show (i : Int) < 4; omega), hr, and_i x q (by omega) (by omega), inc i (by omega)]
  by_cases h : x &&& q = 0
  · rw [if_pos (by rw [h]; rfl), if_pos h]
  · have h1 := pow_le12 q (by omega)
    rw [if_neg (fun e => h (by exact_mod_cast e)), if_neg h, if_pos (by omega), show (1 : Int) = ((1 : Nat) : Int) from rfl, shl_i 1 q (by omega) (by omega), Nat.one_mul, or_i _ _ (by omega) (by omega)]
theorem ck_lt (x w q : Nat) (hq : q ≤ 12) (hw : w < 8192) : (if x &&& q = 0 then w else w ||| 2 ^ q) < 8192 := by
  have h1 := pow_le12 q hq
  split
  · exact hw
  · exact or_lt13 _ _ hw (by omega)
theorem impl_ck (k x w : Nat) (hx : x < 16) (hw : w < 8192) (hk : 4 < k) : impl_encoded.l1 k (w : Int) (x : Int) [1, 2, 4, 8] 4 0 = some ((ckN x w ||| wtN 13 (ckN x w) % 2 : Nat) : Int) := by
  obtain ⟨k, rfl⟩ : ∃ m, k = m + 5 := ⟨k - 5, by omega⟩
  have w1 := ck_lt x w 1 (by omega) hw
  have w2 := ck_lt x _ 2 (by omega) w1
  have w3 := ck_lt x _ 4 (by omega) w2
  have w4 := ck_lt x _ 8 (by omega) w3
  rw [show (0 : Int) = ((0 : Nat) : Int) from rfl, show k + 5 = (k + 4) + 1 from rfl, impl_ck_step (k + 4) x w 0 1 (by omega) (by omega) rd_ck0 hx hw,
    show k + 4 = (k + 3) + 1 from rfl, impl_ck_step (k + 3) x _ (0 + 1) 2 (by omega) (by omega) rd_ck1 hx w1,
    show k + 3 = (k + 2) + 1 from rfl, impl_ck_step (k + 2) x _ (0 + 1 + 1) 4 (by omega) (by omega) rd_ck2 hx w2,
    show k + 2 = (k + 1) + 1 from rfl, impl_ck_step (k + 1) x _ (0 + 1 + 1 + 1) 8 (by omega) (by omega) rd_ck3 hx w3]
  have e : (if x &&& 8 = 0 then (if x &&& 4 = 0 then (if x &&& 2 = 0 then (if x &&& 1 = 0 then w else w ||| 2 ^ 1) else (if x &&& 1 = 0 then w else w ||| 2 ^ 1) ||| 2 ^ 2) else (if x &&& 2 = 0 then (if x &&& 1 = 0 then w else w ||| 2 ^ 1) else (if x &&& 1 = 0 then w else w ||| 2 ^ 1) ||| 2 ^ 2) ||| 2 ^ 4) else (if x &&& 4 = 0 then (if x &&& 2 = 0 then (if x &&& 1 = 0 then w else w ||| 2 ^ 1) else (if x &&& 1 = 0 then w else w ||| 2 ^ 1) ||| 2 ^ 2) else (if x &&& 2 = 0 then (if x &&& 1 = 0 then w else w ||| 2 ^ 1) else (if x &&& 1 = 0 then w else w ||| 2 ^ 1) ||| 2 ^ 2) ||| 2 ^ 4) ||| 2 ^ 8 : Nat) = ckN x w := rfl
  rw [e] at w4 ⊢
  generalize ckN x w = v at w4 ⊢
  simp only [impl_encoded.l1]
  rw [if_neg (by omega), ones_is v w4]
  simp only [Option.bind_some]
  rw [tmod2, or_i _ _ (by omega) (by omega)]
theorem impl_enc (n k : Nat) (hn : n < 2 ^ 60) (hk : 40 < k) : impl_encoded.f k (n : Int) = some ((encN n : Nat) : Int) := by
  unfold impl_encoded.f impl_placesOf.f
  simp only [Option.bind_some]
  have hp := putN_lt 8 n 0 0 (by omega)
  refine impl_enc_l0 n hn _ 8 k 0 0 (by omega) (by omega) (by omega) (fun k' hk' => ?_)
  rw [impl_sum _ k' (by omega) (by omega)]
  simp only [Option.bind_some]
  exact impl_ck k' _ _ (sumF_lt 12 1 _ 0 (by omega) (by omega)) hp (by omega)

theorem spec_enc_l0 (n : Nat) (hn : n < 2 ^ 60) (r : Int) (d : Nat) : ∀ (k i w : Nat), i + d = 8 → d < k → w < 8192 →
    (∀ k', k' + d + 1 = k → ((spec_l4Syndrome.f k' ((putN d n i w : Nat) : Int)).bind fun bt108 => ((some (([1, 2, 4, 8] : List Int) : List Int)).bind fun y110 => (spec_l4Encode.l1 k' ((putN d n i w : Nat) : Int) bt108.1 y110 (y110.length : Int) 0))) = some r) →
    spec_l4Encode.l0 k (n : Int) (w : Int) [3, 5, 6, 7, 9, 10, 11, 12] 8 (i : Int) = some r := by
  induction d with
  | zero =>
    intro k i w hi hk hw h
    obtain ⟨k, rfl⟩ : ∃ m, k = m + 1 := ⟨k - 1, by omega⟩
    simp only [spec_l4Encode.l0]
    rw [if_neg (by omega)]
    exact h k (by omega)
  | succ d ih =>
    intro k i w hi hk hw h
    obtain ⟨k, rfl⟩ : ∃ m, k = m + 1 := ⟨k - 1, by omega⟩
    have hp := plN_le i
    have hb := bit_lt (n / 2 ^ i) (plN i) hp
    have i1 := ih k (i + 1) (w ||| (n / 2 ^ i % 2) * 2 ^ plN i) (by omega) (by omega) (or_lt13 _ _ hw hb) (fun k' hk' => h k' (by omega))
    simp only [spec_l4Encode.l0]
    rw [if_pos (by omega), if_pos (by omega), if_pos (by show (i : Int) < 8; omega), rd_pl i (by omega), u64n i (by omega), u64n (plN i) (by omega), if_pos (by omega), if_pos (by omega), bit_of n i (by omega) hn, shl_i _ _ hp (by omega), or_i _ _ (by omega) (by omega), inc i (by omega)]
    exact i1
theorem spec_ck_step (k x w i q : Nat) (hi : i < 4) (hq : q ≤ 8) (hr : rd ([1, 2, 4, 8] : List Int) (i : Int) = (q : Int)) (hx : x < 16) (hw : w < 8192) :
    spec_l4Encode.l1 (k + 1) (w : Int) (x : Int) [1, 2, 4, 8] 4 (i : Int) = spec_l4Encode.l1 k ((if x &&& q = 0 then w else w ||| 2 ^ q : Nat) : Int) (x : Int) [1, 2, 4, 8] 4 ((i + 1 : Nat) : Int) := by
  simp only [spec_l4Encode.l1]
  rw [if_pos (by omega), if_pos (by omega), if_pos (by show (i : Int) < 4; omega), hr, and_i x q (by omega) (by omega), inc i (by omega)]
  by_cases h : x &&& q = 0
  · rw [if_pos (by rw [h]; rfl), if_pos h]
  · have h1 := pow_le12 q (by omega)
    rw [if_neg (fun e => h (by exact_mod_cast e)), if_neg h, u64n q (by omega), if_pos (by omega), show (1 : Int) = ((1 : Nat) : Int) from rfl, shl_i 1 q (by omega) (by omega), Nat.one_mul, or_i _ _ (by omega) (by omega)]
theorem spec_ck (k x w : Nat) (hx : x < 16) (hw : w < 8192) (hk : 20 < k) : spec_l4Encode.l1 k (w : Int) (x : Int) [1, 2, 4, 8] 4 0 = some ((ckN x w ||| wtN 13 (ckN x w) % 2 : Nat) : Int) := by
  obtain ⟨k, rfl⟩ : ∃ m, k = m + 5 := ⟨k - 5, by omega⟩
  have w1 := ck_lt x w 1 (by omega) hw
  have w2 := ck_lt x _ 2 (by omega) w1
  have w3 := ck_lt x _ 4 (by omega) w2
  have w4 := ck_lt x _ 8 (by omega) w3
  rw [show (0 : Int) = ((0 : Nat) : Int) from rfl, show k + 5 = (k + 4) + 1 from rfl, spec_ck_step (k + 4) x w 0 1 (by omega) (by omega) rd_ck0 hx hw,
    show k + 4 = (k + 3) + 1 from rfl, spec_ck_step (k + 3) x _ (0 + 1) 2 (by omega) (by omega) rd_ck1 hx w1,
    show k + 3 = (k + 2) + 1 from rfl, spec_ck_step (k + 2) x _ (0 + 1 + 1) 4 (by omega) (by omega) rd_ck2 hx w2,
    show k + 2 = (k + 1) + 1 from rfl, spec_ck_step (k + 1) x _ (0 + 1 + 1 + 1) 8 (by omega) (by omega) rd_ck3 hx w3]
  have e : (if x &&& 8 = 0 then (if x &&& 4 = 0 then (if x &&& 2 = 0 then (if x &&& 1 = 0 then w else w ||| 2 ^ 1) else (if x &&& 1 = 0 then w else w ||| 2 ^ 1) ||| 2 ^ 2) else (if x &&& 2 = 0 then (if x &&& 1 = 0 then w else w ||| 2 ^ 1) else (if x &&& 1 = 0 then w else w ||| 2 ^ 1) ||| 2 ^ 2) ||| 2 ^ 4) else (if x &&& 4 = 0 then (if x &&& 2 = 0 then (if x &&& 1 = 0 then w else w ||| 2 ^ 1) else (if x &&& 1 = 0 then w else w ||| 2 ^ 1) ||| 2 ^ 2) else (if x &&& 2 = 0 then (if x &&& 1 = 0 then w else w ||| 2 ^ 1) else (if x &&& 1 = 0 then w else w ||| 2 ^ 1) ||| 2 ^ 2) ||| 2 ^ 4) ||| 2 ^ 8 : Nat) = ckN x w := rfl
  rw [e] at w4 ⊢
  generalize ckN x w = v at w4 ⊢
  simp only [spec_l4Encode.l1]
  rw [if_neg (by omega), spec_syn v k (by omega) (by omega)]
  simp only [Option.bind_some]
  rcases Nat.mod_two_eq_zero_or_one (wtN 13 v) with h | h
  · rw [h, if_neg (by decide), Nat.or_zero]
  · rw [h, if_pos (by decide), show (1 : Int) = ((1 : Nat) : Int) from rfl, or_i _ _ (by omega) (by omega)]
theorem spec_enc (n k : Nat) (hn : n < 2 ^ 60) (hk : 40 < k) : spec_l4Encode.f k (n : Int) = some ((encN n : Nat) : Int) := by
  unfold spec_l4Encode.f spec_l4Places.f
  simp only [Option.bind_some]
  have hp := putN_lt 8 n 0 0 (by omega)
  refine spec_enc_l0 n hn _ 8 k 0 0 (by omega) (by omega) (by omega) (fun k' hk' => ?_)
  rw [spec_syn _ k' (by omega) (by omega)]
  simp only [Option.bind_some]
  exact spec_ck k' _ _ (sumF_lt 12 1 _ 0 (by omega) (by omega)) hp (by omega)

theorem FnExactHamEncode : laws_FnExactHamEncode.Pure := by
  intro a0 w0
  obtain ⟨K, hK⟩ : ∃ K, 50 < K := ⟨51, by omega⟩
  refine ⟨K, ?_⟩
  unfold laws_FnExactHamEncode.f spec_HamEncode.f impl_HamEncode.f
  rw [within_tells, l1In_tells]
  simp only [Option.bind_some]
  by_cases h : a0 ≥ 0 ∧ a0 ≤ 255
  · obtain ⟨n, rfl⟩ := Int.eq_ofNat_of_zero_le h.1
    rw [decide_eq_true h]
    simp only [if_true]
    rw [spec_enc n K (by omega) (by omega), impl_enc n K (by omega) (by omega)]
    simp
  · rw [decide_eq_false h]
    rfl

end Go.Proofs.Ytjibcpfgnnmfjaa.Pure
