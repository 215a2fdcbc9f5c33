/- The law of guarded texts holds at all drawn texts; no condition. -/
import Derived.Test.YtjibcpfgnnmfjaaGF
import Derived.Test.YtjibcpfgnnmfjaaHam
import Derived.Test.YtjibcpfgnnmfjaaQFnGuardedx7
import Derived.OpenShut
set_option linter.unusedVariables false
set_option linter.unusedSimpArgs false
namespace Go.Proofs.Ytjibcpfgnnmfjaa.Pure
open Go.RowKit Go.Proofs.Ytjibcpfgnnmfjaa.PFnGuarded Go.Proofs.YtjibcpfgnnmfjaaW.PrintWords Go.Proofs.YtjibcpfgnnmfjaaW.PrintLast Go.Proofs.YtjibcpfgnnmfjaaW.PrintMore Go.Proofs.Ytjibcpfgnnmfjaa.GF Go.Proofs.Ytjibcpfgnnmfjaa.Ham

theorem wr64 (n : Nat) (h : n < 2 ^ 62) : wrap64 (n : Int) = (n : Int) := by unfold wrap64; omega
theorem wri (n : Int) (h : 0 ≤ n) (h1 : n < 2 ^ 62) : wrap64 n = n := by unfold wrap64; omega
theorem byte_of {x : Int} (h : (Lit.int .u8 x).wf = true) : ∃ n : Nat, n < 256 ∧ x = (n : Int) := by
  have := bounds_u8 h
  exact ⟨x.toNat, by omega, by omega⟩
theorem shr_nat (b j q : Nat) (hj : j ≤ 8) (hq : q = b / 2 ^ j) : shr .u8 (b : Int) (j : Int) = (q : Int) := by
  unfold shr
  rw [Int.toNat_natCast, Nat.min_eq_left (show j ≤ IntKind.bits .u8 from hj), hq]
  simp
theorem and1_nat (q : Nat) (hq : q < 256) : Go.bits .and .u8 (q : Int) 1 = ((q % 2 : Nat) : Int) := by
  rw [and1_u8 (q : Int) (by omega) (by omega)]; simp
theorem and1_inat (q : Nat) (hq : q < 2 ^ 62) : Go.bits .and .i64 (q : Int) 1 = ((q % 2 : Nat) : Int) := by
  rw [and1_i64 (q : Int) (by omega) (by omega)]; simp
theorem dbl (x : Nat) (hx : x < 256) : wrap64 ((x : Int) * 2) = ((2 * x : Nat) : Int) := by unfold wrap64; omega
theorem inc (j : Nat) (hj : j < 2 ^ 62) : wrap64 ((j : Int) + 1) = ((j + 1 : Nat) : Int) := by unfold wrap64; omega
theorem x285 (x : Nat) (hx : x < 256) : Go.bits .xor .i64 ((2 * x : Nat) : Int) 285 = ((2 * x ^^^ 285 : Nat) : Int) := xor_i64 (2 * x) 285 (by omega) (by omega)
theorem xor_nat (o x : Nat) (ho : o < 256) (hx : x < 256) : Go.bits .xor .i64 (o : Int) (x : Int) = ((o ^^^ x : Nat) : Int) := xor_i64 o x (by omega) (by omega)
theorem xt_hi (x : Nat) (h : 2 * x > 255) : xt x = 2 * x ^^^ 285 := by unfold xt; rw [if_pos h]
theorem xt_lo (x : Nat) (h : ¬ 2 * x > 255) : xt x = 2 * x := by unfold xt; rw [if_neg h]

/-- the count of ones, as math/bits reckons it, on natural numbers -/
def swar (n : Nat) : Nat :=
  let a := (n / 2 &&& 6148914691236517205) + (n &&& 6148914691236517205)
  let b := (a / 4 &&& 3689348814741910323) + (a &&& 3689348814741910323)
  let c := (b / 16 + b) &&& 1085102592571150095
  let d := c + c / 256
  let e := d + d / 65536
  (e + e / 4294967296) &&& 127
set_option maxHeartbeats 8000000 in
theorem swar_wt : ∀ a : Nat, a < 128 → ∀ b : Nat, b < 64 → swar (64 * a + b) = wtN 13 (64 * a + b) := by decide +kernel
theorem swar_is (n : Nat) (h : n < 8192) : swar n = wtN 13 n := by
  have h1 := swar_wt (n / 64) (by omega) (n % 64) (by omega)
  rw [Nat.div_add_mod] at h1
  exact h1
theorem band (k : IntKind) (j : Nat) (hj : j ≤ k.bits) (hk : ∀ n : Int, 0 ≤ n → n < 2 ^ j → k.wrap n = n) (a b : Nat) (ha : a < 2 ^ j) (hb : b < 2 ^ j) : Go.bits .and k (a : Int) (b : Int) = ((a &&& b : Nat) : Int) := (bits_nat k j hj hk a b ha hb).1
theorem u64_wrap (n : Int) : IntKind.u64.wrap n = n % 18446744073709551616 := by simp [IntKind.wrap, IntKind.bits, IntKind.signed]
theorem wraps_u64 (n : Int) (h₀ : 0 ≤ n) (h₁ : n < 2 ^ 64) : IntKind.u64.wrap n = n := by
  rw [u64_wrap]; omega
theorem and_u64 (a b : Nat) (ha : a < 2 ^ 64) (hb : b < 2 ^ 64) : Go.bits .and .u64 (a : Int) (b : Int) = ((a &&& b : Nat) : Int) := band .u64 64 (by decide) wraps_u64 a b ha hb
theorem and_i64 (a b : Nat) (ha : a < 2 ^ 63) (hb : b < 2 ^ 63) : Go.bits .and .i64 (a : Int) (b : Int) = ((a &&& b : Nat) : Int) := band .i64 63 (by decide) wraps_i64 a b ha hb
theorem wrap_add (a b : Nat) (h : a + b < 2 ^ 64) : IntKind.u64.wrap ((a : Int) + (b : Int)) = ((a + b : Nat) : Int) := by
  rw [wraps_u64 _ (by omega) (by omega)]; omega
theorem div_nat (a m : Nat) : (a : Int) / (m : Int) = ((a / m : Nat) : Int) := by simp
theorem ones64 (n : Nat) (h : n < 8192) : bits_OnesCount64.f (n : Int) = some ((swar n : Nat) : Int) := by
  unfold bits_OnesCount64.f
  have l1 : (n / 2 &&& 6148914691236517205) ≤ n / 2 := Nat.and_le_left
  have l2 : (n &&& 6148914691236517205) ≤ n := Nat.and_le_left
  have e1 : Go.bits .and .u64 ((n : Int) / 2) 6148914691236517205 = ((n / 2 &&& 6148914691236517205 : Nat) : Int) := by
    rw [show (n : Int) / 2 = ((n / 2 : Nat) : Int) from div_nat n 2]; exact and_u64 (n / 2) 6148914691236517205 (by omega) (by omega)
  have e2 : Go.bits .and .u64 (n : Int) 6148914691236517205 = ((n &&& 6148914691236517205 : Nat) : Int) := and_u64 n 6148914691236517205 (by omega) (by omega)
  rw [e1, e2, wrap_add _ _ (by omega)]
  clear e1 e2
  have ha : (n / 2 &&& 6148914691236517205) + (n &&& 6148914691236517205) < 16384 := by omega
  unfold swar
  generalize (n / 2 &&& 6148914691236517205) + (n &&& 6148914691236517205) = a at ha ⊢
  have l1 : (a / 4 &&& 3689348814741910323) ≤ a / 4 := Nat.and_le_left
  have l2 : (a &&& 3689348814741910323) ≤ a := Nat.and_le_left
  have e1 : Go.bits .and .u64 ((a : Int) / 4) 3689348814741910323 = ((a / 4 &&& 3689348814741910323 : Nat) : Int) := by
    rw [show (a : Int) / 4 = ((a / 4 : Nat) : Int) from div_nat a 4]; exact and_u64 (a / 4) 3689348814741910323 (by omega) (by omega)
  have e2 : Go.bits .and .u64 (a : Int) 3689348814741910323 = ((a &&& 3689348814741910323 : Nat) : Int) := and_u64 a 3689348814741910323 (by omega) (by omega)
  rw [e1, e2, wrap_add _ _ (by omega)]
  clear e1 e2
  have hb : (a / 4 &&& 3689348814741910323) + (a &&& 3689348814741910323) < 32768 := by omega
  simp only []
  generalize (a / 4 &&& 3689348814741910323) + (a &&& 3689348814741910323) = b at hb ⊢
  have e1 : Go.bits .and .u64 (IntKind.u64.wrap ((b : Int) / 16 + (b : Int))) 1085102592571150095 = (((b / 16 + b) &&& 1085102592571150095 : Nat) : Int) := by
    rw [show (b : Int) / 16 = ((b / 16 : Nat) : Int) from div_nat b 16, wrap_add _ _ (by omega)]
    exact and_u64 (b / 16 + b) 1085102592571150095 (by omega) (by omega)
  rw [e1]
  clear e1
  have l1 : ((b / 16 + b) &&& 1085102592571150095) ≤ b / 16 + b := Nat.and_le_left
  have hc : ((b / 16 + b) &&& 1085102592571150095) < 65536 := by omega
  generalize (b / 16 + b) &&& 1085102592571150095 = c at hc ⊢
  have e1 : IntKind.u64.wrap ((c : Int) + (c : Int) / 256) = ((c + c / 256 : Nat) : Int) := by
    rw [show (c : Int) / 256 = ((c / 256 : Nat) : Int) from div_nat c 256, wrap_add _ _ (by omega)]
  rw [e1]
  clear e1
  have hd : c + c / 256 < 131072 := by omega
  generalize c + c / 256 = d at hd ⊢
  have e1 : IntKind.u64.wrap ((d : Int) + (d : Int) / 65536) = ((d + d / 65536 : Nat) : Int) := by
    rw [show (d : Int) / 65536 = ((d / 65536 : Nat) : Int) from div_nat d 65536, wrap_add _ _ (by omega)]
  rw [e1]
  clear e1
  have he : d + d / 65536 < 262144 := by omega
  generalize d + d / 65536 = e at he ⊢
  have e1 : IntKind.u64.wrap ((e : Int) + (e : Int) / 4294967296) = ((e + e / 4294967296 : Nat) : Int) := by
    rw [show (e : Int) / 4294967296 = ((e / 4294967296 : Nat) : Int) from div_nat e 4294967296, wrap_add _ _ (by omega)]
  rw [e1, wri _ (by omega) (by omega)]
  congr 1
  exact and_i64 _ 127 (by omega) (by omega)
theorem ones_is (n : Nat) (h : n < 8192) : impl_ones.f (n : Int) = some ((wtN 13 n : Nat) : Int) := by
  unfold impl_ones.f bits_OnesCount.f
  rw [wraps_u64 _ (by omega) (by omega), ones64 n h, swar_is n h]
  rfl

theorem shr_i (n j : Nat) (hj : j ≤ 64) : shr .i64 (n : Int) (j : Int) = ((n / 2 ^ j : Nat) : Int) := by
  unfold shr
  rw [Int.toNat_natCast, Nat.min_eq_left (show j ≤ IntKind.bits .i64 from hj)]
  simp
theorem shl_i (b p : Nat) (hp : p ≤ 12) (hb : b < 2 ^ 40) : shl .i64 (b : Int) (p : Int) = ((b * 2 ^ p : Nat) : Int) := by
  unfold shl
  rw [Int.toNat_natCast, Nat.min_eq_left (show p ≤ IntKind.bits .i64 from Nat.le_trans hp (by decide))]
  have h1 := pow_le12 p hp
  have h2 : b * 2 ^ p ≤ b * 4096 := Nat.mul_le_mul_left _ h1
  have e : (b : Int) * 2 ^ p = ((b * 2 ^ p : Nat) : Int) := by push_cast; rfl
  rw [e]
  exact wraps_i64 _ (by omega) (by omega)
theorem or_i (a b : Nat) (ha : a < 2 ^ 63) (hb : b < 2 ^ 63) : Go.bits .or .i64 (a : Int) (b : Int) = ((a ||| b : Nat) : Int) := (bits_nat .i64 63 (by decide) wraps_i64 a b ha hb).2
theorem and_i (a b : Nat) (ha : a < 2 ^ 63) (hb : b < 2 ^ 63) : Go.bits .and .i64 (a : Int) (b : Int) = ((a &&& b : Nat) : Int) := (bits_nat .i64 63 (by decide) wraps_i64 a b ha hb).1
theorem u64n (x : Nat) (h : x < 2 ^ 63) : IntKind.u64.wrap (x : Int) = (x : Int) := by
  simp [IntKind.wrap, IntKind.bits, IntKind.signed]; omega
theorem tmod2 (n : Nat) : Int.tmod (n : Int) 2 = ((n % 2 : Nat) : Int) := by
  rw [Int.tmod_eq_emod_of_nonneg (by omega)]; simp
theorem bit_of (n j : Nat) (hj : j ≤ 64) (hn : n < 2 ^ 60) : Go.bits .and .i64 (shr .i64 (n : Int) (j : Int)) 1 = ((n / 2 ^ j % 2 : Nat) : Int) := by
  rw [shr_i n j hj]
  exact and1_inat _ (Nat.lt_of_le_of_lt (Nat.div_le_self _ _) (by omega))
theorem rd_pl : ∀ i : Nat, i < 8 → rd ([3, 5, 6, 7, 9, 10, 11, 12] : List Int) (i : Int) = ((plN i : Nat) : Int) := by decide
theorem half_pow (w k : Nat) : w / 2 ^ k / 2 = w / 2 ^ (k + 1) := by rw [Nat.div_div_eq_div_mul, ← Nat.pow_succ]
def parF : Nat → Nat → Nat → Bool → Bool
  | 0, _, _, o => o
  | d + 1, k, w, o => parF d (k + 1) w (if w / 2 ^ k % 2 = 1 then !o else o)
theorem parF_is (d : Nat) : ∀ k w o, parF d k w o = (o != (wtN d (w / 2 ^ k) % 2 == 1)) := by
  induction d with
  | zero => intro k w o; simp [parF, wtN]
  | succ d ih =>
    intro k w o
    show parF d (k + 1) w (if w / 2 ^ k % 2 = 1 then !o else o) = (o != ((w / 2 ^ k % 2 + wtN d (w / 2 ^ k / 2)) % 2 == 1))
    rw [ih, half_pow]
    generalize wtN d (w / 2 ^ (k + 1)) = m
    have h2 := Nat.mod_two_eq_zero_or_one m
    rcases Nat.mod_two_eq_zero_or_one (w / 2 ^ k) with h | h
    · rw [h, if_neg (by omega), Nat.zero_add]
    · rw [h, if_pos rfl]
      rcases h2 with h2 | h2
      · rw [h2, show (1 + m) % 2 = 1 by omega]; cases o <;> rfl
      · rw [h2, show (1 + m) % 2 = 0 by omega]; cases o <;> rfl

theorem impl_sum_l (w : Nat) (hw : w < 2 ^ 60) (d : Nat) : ∀ (k i x : Nat), i + d = 13 → d < k → x < 16 → impl_sumOf.l0 k (w : Int) (x : Int) (i : Int) = some ((sumF d i w x : Nat) : Int) := by
  induction d with
  | zero =>
    intro k i x hi hk hx
    obtain ⟨k, rfl⟩ : ∃ m, k = m + 1 := ⟨k - 1, by omega⟩
    simp only [impl_sumOf.l0]
    rw [if_neg (by omega)]; rfl
  | succ d ih =>
    intro k i x hi hk hx
    obtain ⟨k, rfl⟩ : ∃ m, k = m + 1 := ⟨k - 1, by omega⟩
    have i1 := ih k (i + 1) (x ^^^ i) (by omega) (by omega) (Nat.xor_lt_two_pow (n := 4) hx (by omega))
    have i2 := ih k (i + 1) x (by omega) (by omega) hx
    simp only [impl_sumOf.l0, sumF]
    rw [if_pos (by omega), if_pos (by omega), bit_of w i (by omega) hw, inc i (by omega), xor_i64 x i (by omega) (by omega)]
    by_cases h : w / 2 ^ i % 2 = 1
    · rw [if_pos (by rw [h]; rfl), if_pos h]; exact i1
    · rw [if_neg (fun e => h (by exact_mod_cast e)), if_neg h]; exact i2
theorem impl_sum (w k : Nat) (hw : w < 2 ^ 60) (hk : 13 < k) : impl_sumOf.f k (w : Int) = some ((sumF 12 1 w 0 : Nat) : Int) := impl_sum_l w hw 12 k 1 0 (by omega) (by omega) (by omega)

theorem spec_syn_l (w : Nat) (hw : w < 2 ^ 60) (d : Nat) : ∀ (k i x : Nat) (o : Bool), i + d = 13 → d < k → x < 16 → spec_l4Syndrome.l0 k (w : Int) (x : Int) o (i : Int) = some (((sumF d i w x : Nat) : Int), parF d i w o) := by
  induction d with
  | zero =>
    intro k i x o hi hk hx
    obtain ⟨k, rfl⟩ : ∃ m, k = m + 1 := ⟨k - 1, by omega⟩
    simp only [spec_l4Syndrome.l0]
    rw [if_neg (by omega)]; rfl
  | succ d ih =>
    intro k i x o hi hk hx
    obtain ⟨k, rfl⟩ : ∃ m, k = m + 1 := ⟨k - 1, by omega⟩
    have i1 := ih k (i + 1) (x ^^^ i) (!o) (by omega) (by omega) (Nat.xor_lt_two_pow (n := 4) hx (by omega))
    have i2 := ih k (i + 1) x o (by omega) (by omega) hx
    simp only [spec_l4Syndrome.l0, sumF, parF]
    rw [if_pos (by omega), u64n i (by omega), if_pos (by omega), bit_of w i (by omega) hw, inc i (by omega), xor_i64 x i (by omega) (by omega)]
    by_cases h : w / 2 ^ i % 2 = 1
    · rw [if_pos (by rw [h]; rfl), if_pos h, if_pos h]; exact i1
    · rw [if_neg (fun e => h (by exact_mod_cast e)), if_neg h, if_neg h]; exact i2
theorem spec_syn (w k : Nat) (hw : w < 2 ^ 60) (hk : 13 < k) : spec_l4Syndrome.f k (w : Int) = some (((sumF 12 1 w 0 : Nat) : Int), (wtN 13 w % 2 == 1)) := by
  have h := spec_syn_l w hw 13 k 0 0 false (by omega) hk (by omega)
  rw [parF_is] at h
  have e : sumF 13 0 w 0 = sumF 12 1 w 0 := by
    show sumF 12 1 w (if w / 2 ^ 0 % 2 = 1 then 0 ^^^ 0 else 0) = _
    rw [show (if w / 2 ^ 0 % 2 = 1 then 0 ^^^ 0 else 0 : Nat) = 0 by split <;> rfl]
  rw [e] at h
  unfold spec_l4Syndrome.f
  simpa using h

theorem impl_enc_l0 (n : Nat) (hn : n < 2 ^ 60) (r : Int) (d : Nat) : ∀ (k i w : Nat), i + d = 8 → d < k → w < 8192 →
    (∀ k', k' + d + 1 = k → ((impl_sumOf.f k' ((putN d n i w : Nat) : Int)).bind fun t127 => ((some (([1, 2, 4, 8] : List Int) : List Int)).bind fun y128 => (impl_encoded.l1 k' ((putN d n i w : Nat) : Int) t127 y128 (y128.length : Int) 0))) = some r) →
    impl_encoded.l0 k (n : Int) (w : Int) [3, 5, 6, 7, 9, 10, 11, 12] 8 (i : Int) = some r := by
  induction d with
  | zero =>
    intro k i w hi hk hw h
    obtain ⟨k, rfl⟩ : ∃ m, k = m + 1 := ⟨k - 1, by omega⟩
    simp only [impl_encoded.l0]
    rw [if_neg (by omega)]
    exact h k (by omega)
  | succ d ih =>
    intro k i w hi hk hw h
    obtain ⟨k, rfl⟩ : ∃ m, k = m + 1 := ⟨k - 1, by omega⟩
    have hp := plN_le i
    have hb := bit_lt (n / 2 ^ i) (plN i) hp
    have i1 := ih k (i + 1) (w ||| (n / 2 ^ i % 2) * 2 ^ plN i) (by omega) (by omega) (or_lt13 _ _ hw hb) (fun k' hk' => h k' (by omega))
    simp only [impl_encoded.l0]
    rw [if_pos (by omega), if_pos (by omega), if_pos (by show (i : Int) < 8; omega), rd_pl i (by omega), if_pos (by omega), bit_of n i (by omega) hn, shl_i _ _ hp (by omega), or_i _ _ (by omega) (by omega), inc i (by omega)]
    exact i1
theorem rd_ck0 : rd ([1, 2, 4, 8] : List Int) ((0 : Nat) : Int) = ((1 : Nat) : Int) := by decide
theorem rd_ck1 : rd ([1, 2, 4, 8] : List Int) ((1 : Nat) : Int) = ((2 : Nat) : Int) := by decide
theorem rd_ck2 : rd ([1, 2, 4, 8] : List Int) ((2 : Nat) : Int) = ((4 : Nat) : Int) := by decide
theorem rd_ck3 : rd ([1, 2, 4, 8] : List Int) ((3 : Nat) : Int) = ((8 : Nat) : Int) := by decide
theorem impl_ck_step (k x w i q : Nat) (hi : i < 4) (hq : q ≤ 8) (hr : rd ([1, 2, 4, 8] : List Int) (i : Int) = (q : Int)) (hx : x < 16) (hw : w < 8192) :
    impl_encoded.l1 (k + 1) (w : Int) (x : Int) [1, 2, 4, 8] 4 (i : Int) = impl_encoded.l1 k ((if x &&& q = 0 then w else w ||| 2 ^ q : Nat) : Int) (x : Int) [1, 2, 4, 8] 4 ((i + 1 : Nat) : Int) := by
  simp only [impl_encoded.l1]
  rw [if_pos (by omega), if_pos (by omega), if_pos (by show (i : Int) < 4; omega), hr, and_i x q (by omega) (by omega), inc i (by omega)]
  by_cases h : x &&& q = 0
  · rw [if_pos (by rw [h]; rfl), if_pos h]
  · have h1 := pow_le12 q (by omega)
    rw [if_neg (fun e => h (by exact_mod_cast e)), if_neg h, if_pos (by omega), show (1 : Int) = ((1 : Nat) : Int) from rfl, shl_i 1 q (by omega) (by omega), Nat.one_mul, or_i _ _ (by omega) (by omega)]
theorem ck_lt (x w q : Nat) (hq : q ≤ 12) (hw : w < 8192) : (if x &&& q = 0 then w else w ||| 2 ^ q) < 8192 := by
  have h1 := pow_le12 q hq
  split
  · exact hw
  · exact or_lt13 _ _ hw (by omega)
theorem impl_ck (k x w : Nat) (hx : x < 16) (hw : w < 8192) (hk : 4 < k) : impl_encoded.l1 k (w : Int) (x : Int) [1, 2, 4, 8] 4 0 = some ((ckN x w ||| wtN 13 (ckN x w) % 2 : Nat) : Int) := by
  obtain ⟨k, rfl⟩ : ∃ m, k = m + 5 := ⟨k - 5, by omega⟩
  have w1 := ck_lt x w 1 (by omega) hw
  have w2 := ck_lt x _ 2 (by omega) w1
  have w3 := ck_lt x _ 4 (by omega) w2
  have w4 := ck_lt x _ 8 (by omega) w3
  rw [show (0 : Int) = ((0 : Nat) : Int) from rfl, show k + 5 = (k + 4) + 1 from rfl, impl_ck_step (k + 4) x w 0 1 (by omega) (by omega) rd_ck0 hx hw,
    show k + 4 = (k + 3) + 1 from rfl, impl_ck_step (k + 3) x _ (0 + 1) 2 (by omega) (by omega) rd_ck1 hx w1,
    show k + 3 = (k + 2) + 1 from rfl, impl_ck_step (k + 2) x _ (0 + 1 + 1) 4 (by omega) (by omega) rd_ck2 hx w2,
    show k + 2 = (k + 1) + 1 from rfl, impl_ck_step (k + 1) x _ (0 + 1 + 1 + 1) 8 (by omega) (by omega) rd_ck3 hx w3]
  have e : (if x &&& 8 = 0 then (if x &&& 4 = 0 then (if x &&& 2 = 0 then (if x &&& 1 = 0 then w else w ||| 2 ^ 1) else (if x &&& 1 = 0 then w else w ||| 2 ^ 1) ||| 2 ^ 2) else (if x &&& 2 = 0 then (if x &&& 1 = 0 then w else w ||| 2 ^ 1) else (if x &&& 1 = 0 then w else w ||| 2 ^ 1) ||| 2 ^ 2) ||| 2 ^ 4) else (if x &&& 4 = 0 then (if x &&& 2 = 0 then (if x &&& 1 = 0 then w else w ||| 2 ^ 1) else (if x &&& 1 = 0 then w else w ||| 2 ^ 1) ||| 2 ^ 2) else (if x &&& 2 = 0 then (if x &&& 1 = 0 then w else w ||| 2 ^ 1) else (if x &&& 1 = 0 then w else w ||| 2 ^ 1) ||| 2 ^ 2) ||| 2 ^ 4) ||| 2 ^ 8 : Nat) = ckN x w := rfl
  rw [e] at w4 ⊢
  generalize ckN x w = v at w4 ⊢
  simp only [impl_encoded.l1]
  rw [if_neg (by omega), ones_is v w4]
  simp only [Option.bind_some]
  rw [tmod2, or_i _ _ (by omega) (by omega)]
theorem impl_enc (n k : Nat) (hn : n < 2 ^ 60) (hk : 40 < k) : impl_encoded.f k (n : Int) = some ((encN n : Nat) : Int) := by
  unfold impl_encoded.f impl_placesOf.f
  simp only [Option.bind_some]
  have hp := putN_lt 8 n 0 0 (by omega)
  refine impl_enc_l0 n hn _ 8 k 0 0 (by omega) (by omega) (by omega) (fun k' hk' => ?_)
  rw [impl_sum _ k' (by omega) (by omega)]
  simp only [Option.bind_some]
  exact impl_ck k' _ _ (sumF_lt 12 1 _ 0 (by omega) (by omega)) hp (by omega)

theorem spec_enc_l0 (n : Nat) (hn : n < 2 ^ 60) (r : Int) (d : Nat) : ∀ (k i w : Nat), i + d = 8 → d < k → w < 8192 →
    (∀ k', k' + d + 1 = k → ((spec_l4Syndrome.f k' ((putN d n i w : Nat) : Int)).bind fun bt108 => ((some (([1, 2, 4, 8] : List Int) : List Int)).bind fun y110 => (spec_l4Encode.l1 k' ((putN d n i w : Nat) : Int) bt108.1 y110 (y110.length : Int) 0))) = some r) →
    spec_l4Encode.l0 k (n : Int) (w : Int) [3, 5, 6, 7, 9, 10, 11, 12] 8 (i : Int) = some r := by
  induction d with
  | zero =>
    intro k i w hi hk hw h
    obtain ⟨k, rfl⟩ : ∃ m, k = m + 1 := ⟨k - 1, by omega⟩
    simp only [spec_l4Encode.l0]
    rw [if_neg (by omega)]
    exact h k (by omega)
  | succ d ih =>
    intro k i w hi hk hw h
    obtain ⟨k, rfl⟩ : ∃ m, k = m + 1 := ⟨k - 1, by omega⟩
    have hp := plN_le i
    have hb := bit_lt (n / 2 ^ i) (plN i) hp
    have i1 := ih k (i + 1) (w ||| (n / 2 ^ i % 2) * 2 ^ plN i) (by omega) (by omega) (or_lt13 _ _ hw hb) (fun k' hk' => h k' (by omega))
    simp only [spec_l4Encode.l0]
    rw [if_pos (by omega), if_pos (by omega), if_pos (by show (i : Int) < 8; omega), rd_pl i (by omega), u64n i (by omega), u64n (plN i) (by omega), if_pos (by omega), if_pos (by omega), bit_of n i (by omega) hn, shl_i _ _ hp (by omega), or_i _ _ (by omega) (by omega), inc i (by omega)]
    exact i1
theorem spec_ck_step (k x w i q : Nat) (hi : i < 4) (hq : q ≤ 8) (hr : rd ([1, 2, 4, 8] : List Int) (i : Int) = (q : Int)) (hx : x < 16) (hw : w < 8192) :
    spec_l4Encode.l1 (k + 1) (w : Int) (x : Int) [1, 2, 4, 8] 4 (i : Int) = spec_l4Encode.l1 k ((if x &&& q = 0 then w else w ||| 2 ^ q : Nat) : Int) (x : Int) [1, 2, 4, 8] 4 ((i + 1 : Nat) : Int) := by
  simp only [spec_l4Encode.l1]
  rw [if_pos (by omega), if_pos (by omega), if_pos (by show (i : Int) < 4; omega), hr, and_i x q (by omega) (by omega), inc i (by omega)]
  by_cases h : x &&& q = 0
  · rw [if_pos (by rw [h]; rfl), if_pos h]
  · have h1 := pow_le12 q (by omega)
    rw [if_neg (fun e => h (by exact_mod_cast e)), if_neg h, u64n q (by omega), if_pos (by omega), show (1 : Int) = ((1 : Nat) : Int) from rfl, shl_i 1 q (by omega) (by omega), Nat.one_mul, or_i _ _ (by omega) (by omega)]
theorem spec_ck (k x w : Nat) (hx : x < 16) (hw : w < 8192) (hk : 20 < k) : spec_l4Encode.l1 k (w : Int) (x : Int) [1, 2, 4, 8] 4 0 = some ((ckN x w ||| wtN 13 (ckN x w) % 2 : Nat) : Int) := by
  obtain ⟨k, rfl⟩ : ∃ m, k = m + 5 := ⟨k - 5, by omega⟩
  have w1 := ck_lt x w 1 (by omega) hw
  have w2 := ck_lt x _ 2 (by omega) w1
  have w3 := ck_lt x _ 4 (by omega) w2
  have w4 := ck_lt x _ 8 (by omega) w3
  rw [show (0 : Int) = ((0 : Nat) : Int) from rfl, show k + 5 = (k + 4) + 1 from rfl, spec_ck_step (k + 4) x w 0 1 (by omega) (by omega) rd_ck0 hx hw,
    show k + 4 = (k + 3) + 1 from rfl, spec_ck_step (k + 3) x _ (0 + 1) 2 (by omega) (by omega) rd_ck1 hx w1,
    show k + 3 = (k + 2) + 1 from rfl, spec_ck_step (k + 2) x _ (0 + 1 + 1) 4 (by omega) (by omega) rd_ck2 hx w2,
    show k + 2 = (k + 1) + 1 from rfl, spec_ck_step (k + 1) x _ (0 + 1 + 1 + 1) 8 (by omega) (by omega) rd_ck3 hx w3]
  have e : (if x &&& 8 = 0 then (if x &&& 4 = 0 then (if x &&& 2 = 0 then (if x &&& 1 = 0 then w else w ||| 2 ^ 1) else (if x &&& 1 = 0 then w else w ||| 2 ^ 1) ||| 2 ^ 2) else (if x &&& 2 = 0 then (if x &&& 1 = 0 then w else w ||| 2 ^ 1) else (if x &&& 1 = 0 then w else w ||| 2 ^ 1) ||| 2 ^ 2) ||| 2 ^ 4) else (if x &&& 4 = 0 then (if x &&& 2 = 0 then (if x &&& 1 = 0 then w else w ||| 2 ^ 1) else (if x &&& 1 = 0 then w else w ||| 2 ^ 1) ||| 2 ^ 2) else (if x &&& 2 = 0 then (if x &&& 1 = 0 then w else w ||| 2 ^ 1) else (if x &&& 1 = 0 then w else w ||| 2 ^ 1) ||| 2 ^ 2) ||| 2 ^ 4) ||| 2 ^ 8 : Nat) = ckN x w := rfl
  rw [e] at w4 ⊢
  generalize ckN x w = v at w4 ⊢
  simp only [spec_l4Encode.l1]
  rw [if_neg (by omega), spec_syn v k (by omega) (by omega)]
  simp only [Option.bind_some]
  rcases Nat.mod_two_eq_zero_or_one (wtN 13 v) with h | h
  · rw [h, if_neg (by decide), Nat.or_zero]
  · rw [h, if_pos (by decide), show (1 : Int) = ((1 : Nat) : Int) from rfl, or_i _ _ (by omega) (by omega)]
theorem spec_enc (n k : Nat) (hn : n < 2 ^ 60) (hk : 40 < k) : spec_l4Encode.f k (n : Int) = some ((encN n : Nat) : Int) := by
  unfold spec_l4Encode.f spec_l4Places.f
  simp only [Option.bind_some]
  have hp := putN_lt 8 n 0 0 (by omega)
  refine spec_enc_l0 n hn _ 8 k 0 0 (by omega) (by omega) (by omega) (fun k' hk' => ?_)
  rw [spec_syn _ k' (by omega) (by omega)]
  simp only [Option.bind_some]
  exact spec_ck k' _ _ (sumF_lt 12 1 _ 0 (by omega) (by omega)) hp (by omega)

theorem impl_get (w : Nat) (hw : w < 2 ^ 60) (m : Int) (d : Nat) : ∀ (k i n : Nat), i + d = 8 → d < k → n < 256 →
    impl_decoded.l0 k (w : Int) m (n : Int) [3, 5, 6, 7, 9, 10, 11, 12] 8 (i : Int) = some (((getN d w i n : Nat) : Int), m) := by
  induction d with
  | zero =>
    intro k i n hi hk hn
    obtain ⟨k, rfl⟩ : ∃ m, k = m + 1 := ⟨k - 1, by omega⟩
    simp only [impl_decoded.l0]
    rw [if_neg (by omega)]; rfl
  | succ d ih =>
    intro k i n hi hk hn
    obtain ⟨k, rfl⟩ : ∃ m, k = m + 1 := ⟨k - 1, by omega⟩
    have hp := plN_le i
    have h1 := Nat.pow_le_pow_right (show 0 < 2 by decide) (show i ≤ 7 by omega)
    have h2 : (w / 2 ^ plN i % 2) * 2 ^ i ≤ 1 * 2 ^ i := Nat.mul_le_mul_right _ (by omega)
    have h3 : (2 : Nat) ^ 7 = 128 := rfl
    have i1 := ih k (i + 1) (n ||| (w / 2 ^ plN i % 2) * 2 ^ i) (by omega) (by omega) (or_lt8 _ _ hn (by omega))
    simp only [impl_decoded.l0, getN]
    rw [if_pos (by omega), if_pos (by omega), if_pos (by show (i : Int) < 8; omega), rd_pl i (by omega), if_pos (by omega), bit_of w _ (by omega) hw, shl_i _ _ (by omega) (by omega), or_i _ _ (by omega) (by omega), inc i (by omega)]
    exact i1
theorem impl_j1 (w k : Nat) (hw : w < 2 ^ 60) (m : Int) (hk : 10 < k) : impl_decoded.j1 k (w : Int) m = some (((getN 8 w 0 0 : Nat) : Int), m) := by
  obtain ⟨k, rfl⟩ : ∃ m, k = m + 1 := ⟨k - 1, by omega⟩
  simp only [impl_decoded.j1]
  unfold impl_placesOf.f
  simp only [Option.bind_some]
  exact impl_get w hw m 8 k 0 0 (by omega) (by omega) (by omega)
theorem pow_x (x : Nat) (h : x ≤ 12) : (2 : Nat) ^ x < 2 ^ 13 := Nat.pow_lt_pow_right (by decide) (by omega)
theorem impl_dec (w k : Nat) (hw : w < 8192) (hk : 20 < k) : impl_decoded.f k (w : Int) = some ((((decN w).1 : Nat) : Int), (((decN w).2 : Nat) : Int)) := by
  unfold impl_decoded.f
  rw [impl_sum w k (by omega) (by omega)]
  simp only [Option.bind_some]
  rw [ones_is w hw]
  simp only [Option.bind_some]
  rw [tmod2]
  obtain ⟨k, rfl⟩ : ∃ m, k = m + 1 := ⟨k - 1, by omega⟩
  have da := decN_a w
  have db := decN_b w
  have dc := decN_c w
  have dd := decN_d w
  generalize sumF 12 1 w 0 = x at da db dc dd ⊢
  have hp := Nat.mod_two_eq_zero_or_one (wtN 13 w)
  generalize wtN 13 w % 2 = p at da db dc dd hp ⊢
  rcases hp with rfl | rfl
  · rw [show (((0 : Nat) : Int) == 1) = false from rfl]
    by_cases h0 : x = 0
    · subst h0
      rw [if_pos (show ((0 : Nat) : Int) = 0 from rfl), da rfl rfl]
      simp only [impl_decoded.j0]
      rw [if_pos (by decide)]
      exact impl_j1 w k (by omega) 0 (by omega)
    · rw [if_neg (by omega), dc h0 rfl]
      simp only [impl_decoded.j0]
      rw [if_neg (by decide), if_neg (by decide)]; rfl
  · rw [show (((1 : Nat) : Int) == 1) = true from rfl]
    have go : impl_decoded.j0 (k + 1) (w : Int) (x : Int) true 0 false = some ((((decN w).1 : Nat) : Int), (((decN w).2 : Nat) : Int)) := by
      simp only [impl_decoded.j0]
      rw [if_neg (by decide), if_pos True.intro]
      by_cases h12 : x ≤ 12
      · have hx := pow_x x h12
        rw [if_pos (by omega), if_pos (by omega), db h12 rfl, show (1 : Int) = ((1 : Nat) : Int) from rfl, shl_i 1 x (by omega) (by omega), Nat.one_mul, xor_i64 _ _ (by omega) (by omega)]
        exact impl_j1 _ k (Nat.lt_of_lt_of_le (Nat.xor_lt_two_pow (n := 13) hw hx) (by decide)) _ (by omega)
      · rw [if_neg (by omega), dd (by omega) rfl]; rfl
    split
    · exact go
    · exact go

theorem spec_get (w : Nat) (hw : w < 2 ^ 60) (d : Nat) : ∀ (k i n : Nat), i + d = 8 → d < k → n < 256 →
    spec_l4Byte.l0 k (w : Int) (n : Int) [3, 5, 6, 7, 9, 10, 11, 12] 8 (i : Int) = some ((getN d w i n : Nat) : Int) := by
  induction d with
  | zero =>
    intro k i n hi hk hn
    obtain ⟨k, rfl⟩ : ∃ m, k = m + 1 := ⟨k - 1, by omega⟩
    simp only [spec_l4Byte.l0]
    rw [if_neg (by omega)]; rfl
  | succ d ih =>
    intro k i n hi hk hn
    obtain ⟨k, rfl⟩ : ∃ m, k = m + 1 := ⟨k - 1, by omega⟩
    have hp := plN_le i
    have h1 := Nat.pow_le_pow_right (show 0 < 2 by decide) (show i ≤ 7 by omega)
    have h2 : (w / 2 ^ plN i % 2) * 2 ^ i ≤ 1 * 2 ^ i := Nat.mul_le_mul_right _ (by omega)
    have h3 : (2 : Nat) ^ 7 = 128 := rfl
    have i1 := ih k (i + 1) (n ||| (w / 2 ^ plN i % 2) * 2 ^ i) (by omega) (by omega) (or_lt8 _ _ hn (by omega))
    simp only [spec_l4Byte.l0, getN]
    rw [if_pos (by omega), if_pos (by omega), if_pos (by show (i : Int) < 8; omega), rd_pl i (by omega), u64n (plN i) (by omega), u64n i (by omega), if_pos (by omega), if_pos (by omega), bit_of w _ (by omega) hw, shl_i _ _ (by omega) (by omega), or_i _ _ (by omega) (by omega), inc i (by omega)]
    exact i1
theorem spec_byte (w k : Nat) (hw : w < 2 ^ 60) (hk : 10 < k) : spec_l4Byte.f k (w : Int) = some ((getN 8 w 0 0 : Nat) : Int) := by
  unfold spec_l4Byte.f spec_l4Places.f
  simp only [Option.bind_some]
  exact spec_get w hw 8 k 0 0 (by omega) (by omega) (by omega)
theorem pow_y (x : Nat) (h : x ≤ 12) : (2 : Nat) ^ x < 2 ^ 13 := Nat.pow_lt_pow_right (by decide) (by omega)
theorem spec_dec (w k : Nat) (hw : w < 8192) (hk : 20 < k) : spec_l4Decode.f k (w : Int) = some ((((decN w).1 : Nat) : Int), (((decN w).2 : Nat) : Int)) := by
  unfold spec_l4Decode.f
  rw [spec_syn w k (by omega) (by omega)]
  simp only [Option.bind_some]
  obtain ⟨k, rfl⟩ : ∃ m, k = m + 1 := ⟨k - 1, by omega⟩
  have da := decN_a w
  have db := decN_b w
  have dc := decN_c w
  have dd := decN_d w
  generalize sumF 12 1 w 0 = x at da db dc dd ⊢
  have hp := Nat.mod_two_eq_zero_or_one (wtN 13 w)
  generalize wtN 13 w % 2 = p at da db dc dd hp ⊢
  rcases hp with rfl | rfl
  · rw [show ((0 : Nat) == 1) = false from rfl]
    by_cases h0 : x = 0
    · subst h0
      rw [if_pos (show ((0 : Nat) : Int) = 0 from rfl), da rfl rfl]
      simp only [spec_l4Decode.j0]
      rw [if_pos (by decide), spec_byte w k (by omega) (by omega)]; rfl
    · rw [if_neg (by omega), dc h0 rfl]
      simp only [spec_l4Decode.j0]
      rw [if_neg (by decide), if_neg (by decide)]; rfl
  · rw [show ((1 : Nat) == 1) = true from rfl]
    have go : spec_l4Decode.j0 (k + 1) (w : Int) (x : Int) true false = some ((((decN w).1 : Nat) : Int), (((decN w).2 : Nat) : Int)) := by
      simp only [spec_l4Decode.j0]
      rw [if_neg (by decide), if_pos True.intro]
      by_cases h12 : x ≤ 12
      · have hx := pow_y x h12
        rw [if_pos (by omega), u64n x (by omega), if_pos (by omega), db h12 rfl, show (1 : Int) = ((1 : Nat) : Int) from rfl, shl_i 1 x (by omega) (by omega), Nat.one_mul, xor_i64 _ _ (by omega) (by omega), spec_byte _ k (Nat.lt_of_lt_of_le (Nat.xor_lt_two_pow (n := 13) hw hx) (by decide)) (by omega)]; rfl
      · rw [if_neg (by omega), dd (by omega) rfl]; rfl
    split
    · exact go
    · exact go

theorem ev_of {α : Type} {g : Nat → Option α} {r : α} (K : Nat) (h : ∀ k, K < k → g k = some r) : Ev g r := ⟨K + 1, fun k hk => h k (by omega)⟩
theorem evp {α : Type} {c : Prop} [Decidable c] {f g : Nat → Option α} {r : α} (h : c) (k : Ev f r) : Ev (fun n => if c then f n else g n) r := Ev.congr (fun _ => if_pos h) k
theorem evn {α : Type} {c : Prop} [Decidable c] {f g : Nat → Option α} {r : α} (h : ¬ c) (k : Ev g r) : Ev (fun n => if c then f n else g n) r := Ev.congr (fun _ => if_neg h) k
theorem ev_some {α β : Type} {a : α} {f : Nat → α → Option β} {r : β} (h : Ev (fun n => f n a) r) : Ev (fun n => (some a).bind (f n)) r := h
theorem ev_to_some {α β : Type} {o : Option α} {a : α} {f : Nat → α → Option β} {r : β} (ho : o = some a) (h : Ev (fun n => f n a) r) : Ev (fun n => o.bind (f n)) r := by subst ho; exact h
theorem maxLen_lt : maxLen < 2 ^ 63 := by decide

theorem or_pair : ∀ a : Nat, a < 256 → ∀ b : Nat, b < 32 → Go.bits .or .i64 (a : Int) ((b : Int) * 256) = ((a + 256 * b : Nat) : Int) := by decide +kernel
/-- what the pair at j tells -/
def pd (s : ByteArray) (j : Nat) : Option (Int × Int) :=
  if bt s ((2 * j + 1 : Nat) : Int) ≥ 32 then none else some ((((decN ((bt s ((2 * j : Nat) : Int)).toNat + 256 * (bt s ((2 * j + 1 : Nat) : Int)).toNat)).1 : Nat) : Int), (((decN ((bt s ((2 * j : Nat) : Int)).toNat + 256 * (bt s ((2 * j + 1 : Nat) : Int)).toNat)).2 : Nat) : Int))
theorem decAt_pd (k : Nat) (hk : 20 < k) (s : ByteArray) (j : Nat) : decAt k s j = some (pd s j) := by
  have r0 := bt_range s ((2 * j : Nat) : Int)
  have r1 := bt_range s ((2 * j + 1 : Nat) : Int)
  unfold decAt pd
  generalize bt s ((2 * j : Nat) : Int) = v0 at r0 ⊢
  generalize bt s ((2 * j + 1 : Nat) : Int) = v1 at r1 ⊢
  by_cases h : v1 ≥ 32
  · rw [if_pos h, if_pos h]
  · rw [if_neg h, if_neg h, show v0 + 256 * v1 = ((v0.toNat + 256 * v1.toNat : Nat) : Int) by omega, impl_dec _ k (by omega) hk]
    rfl
theorem decs_pd (k : Nat) (hk : 20 < k) (s : ByteArray) (n : Nat) : decs k s n = some ((List.range n).map (pd s)) := by
  induction n with
  | zero => rfl
  | succ n ih =>
    rw [decs, ih]
    simp only [Option.bind_some]
    rw [decAt_pd k hk]
    simp only [Option.bind_some]
    rw [List.range_succ, List.map_append]
    rfl
theorem spec_l (s : ByteArray) (n : Nat) (hn : s.size = 2 * n) (h60 : n ≤ 60) (d : Nat) : ∀ (j : Nat) (o : List Int) (c : Int), j + d = n → o.length ≤ j →
    Ev (fun k => spec_MendText.l0 k s o c ((2 * j : Nat) : Int)) (mendR (mfold (((List.range n).drop j).map (pd s)) o c)) := by
  induction d with
  | zero =>
    intro j o c hj ho
    rw [List.drop_eq_nil_of_le (by rw [List.length_range]; omega)]
    show Ev _ (strOfNums o, c, true)
    exact Ev.step (fun k => by simp only [spec_MendText.l0]; rw [if_neg (by omega)]) (Ev.now _)
  | succ d ih =>
    intro j o c hj ho
    have r0 := bt_range s ((2 * j : Nat) : Int)
    have r1 := bt_range s ((2 * j + 1 : Nat) : Int)
    have hw1 : wrap64 (((2 * j : Nat) : Int) + 1) = ((2 * j + 1 : Nat) : Int) := by unfold wrap64; omega
    have hw2 : wrap64 (((2 * j : Nat) : Int) + 2) = ((2 * (j + 1) : Nat) : Int) := by unfold wrap64; omega
    rw [List.drop_eq_getElem_cons (by rw [List.length_range]; omega), List.getElem_range, List.map_cons]
    refine Ev.step (fun k => by simp only [spec_MendText.l0]; rw [if_pos (by omega), hw1, if_pos (by omega), if_pos (by omega), hw2]) ?_
    have hp : pd s j = if bt s ((2 * j + 1 : Nat) : Int) ≥ 32 then none else some ((((decN ((bt s ((2 * j : Nat) : Int)).toNat + 256 * (bt s ((2 * j + 1 : Nat) : Int)).toNat)).1 : Nat) : Int), (((decN ((bt s ((2 * j : Nat) : Int)).toNat + 256 * (bt s ((2 * j + 1 : Nat) : Int)).toNat)).2 : Nat) : Int)) := rfl
    rw [hp]
    generalize bt s ((2 * j : Nat) : Int) = v0 at r0 ⊢
    generalize bt s ((2 * j + 1 : Nat) : Int) = v1 at r1 ⊢
    by_cases h : v1 ≥ 32
    · rw [if_pos h]
      exact evp h (Ev.now _)
    · rw [if_neg h]
      refine evn h (evp (by omega) ?_)
      have ho2 := or_pair v0.toNat (by omega) v1.toNat (by omega)
      rw [show ((v0.toNat : Nat) : Int) = v0 by omega, show ((v1.toNat : Nat) : Int) = v1 by omega] at ho2
      rw [show wrap64 v0 = v0 by unfold wrap64; omega, show wrap64 v1 = v1 by unfold wrap64; omega, show wrap64 (v1 * 256) = v1 * 256 by unfold wrap64; omega, ho2]
      refine Ev.bind (ev_of 20 fun k hk => spec_dec _ k (by omega) hk) ?_
      generalize (((decN (v0.toNat + 256 * v1.toNat)).1 : Nat) : Int) = x
      generalize (((decN (v0.toNat + 256 * v1.toNat)).2 : Nat) : Int) = m
      show Ev _ (mendR ((mstep o c (some (x, m))).bind fun q => mfold _ q.1 q.2))
      simp only [mstep]
      by_cases h2 : m = 2
      · rw [if_pos h2]
        exact evp h2 (Ev.now _)
      · rw [if_neg h2]
        refine evn h2 ?_
        by_cases h1 : m = 1
        · rw [if_pos h1]
          exact evp h1 (evp (by omega) (ih (j + 1) _ _ (by omega) (by rw [List.length_append]; simp; omega)))
        · rw [if_neg h1]
          exact evn h1 (evp (by omega) (ih (j + 1) _ _ (by omega) (by rw [List.length_append]; simp; omega)))
theorem both_MendText (s : ByteArray) (hs : s.size < 2 ^ 40) : ∃ r : ByteArray × Int × Bool, Ev (fun k => spec_MendText.f k s) r ∧ Ev (fun k => impl_MendText.f k s) r := by
  by_cases h : s.size % 2 = 0 ∧ s.size ≤ 120
  · have hn : s.size = 2 * (s.size / 2) := by omega
    have e := spec_l s (s.size / 2) hn (by omega) (s.size / 2) 0 [] 0 (by omega) (by simp)
    rw [List.drop_zero] at e
    have e : Ev (fun k => spec_MendText.l0 k s [] 0 0) (mendR (mfold ((List.range (s.size / 2)).map (pd s)) [] 0)) := e
    refine ⟨mendR (mfold ((List.range (s.size / 2)).map (pd s)) [] 0), ?_, ev_of 20 fun k hk => by unfold impl_MendText.f; rw [if_pos h, decs_pd k hk]; rfl⟩
    unfold spec_MendText.f
    refine evn (by omega) ?_
    rw [decide_eq_false (by omega)]
    exact Ev.step (fun k => by simp only [spec_MendText.j0]; rw [if_neg (by decide)]) e
  · refine ⟨((⟨#[]⟩ : ByteArray), 0, false), ?_, ev_of 0 fun k _ => by unfold impl_MendText.f; rw [if_neg h]⟩
    unfold spec_MendText.f
    by_cases h2 : ((s.size : Int) % 2) = 1
    · exact evp h2 (Ev.step (fun k => by simp only [spec_MendText.j0]; rw [if_pos trivial]) (Ev.now _))
    · refine evn h2 ?_
      rw [decide_eq_true (by omega)]
      exact Ev.step (fun k => by simp only [spec_MendText.j0]; rw [if_pos trivial]) (Ev.now _)

theorem gset {α : Type} (z : α) (xs : List α) (i j : Nat) (v : α) (hi : i < xs.length) : (xs.set i v).getD j z = if j = i then v else xs.getD j z := by
  simp only [List.getD_eq_getElem?_getD, List.getElem?_set]
  by_cases h : i = j
  · subst h; simp [hi]
  · rw [if_neg h, if_neg (fun e => h e.symm)]
theorem gext {α : Type} (z : α) {l m : List α} (hl : l.length = m.length) (h : ∀ j, j < l.length → l.getD j z = m.getD j z) : l = m := by
  apply List.ext_getElem hl
  intro j h1 h2
  have := h j h1
  simpa [List.getD_eq_getElem?_getD, h1, h2] using this
theorem rdOf_nat {α : Type} (z : α) (xs : List α) (i : Nat) : rdOf z xs (i : Int) = xs.getD i z := by unfold rdOf; rw [Int.toNat_natCast]
theorem gmem {α : Type} (z : α) {xs : List α} {i : Nat} (h : i < xs.length) : xs.getD i z ∈ xs := by
  rw [List.getD_eq_getElem?_getD]; simp [h]
/-- what a count of sizes leaves -/
def Left (B r : Int) : Prop := r < 0 ∨ 0 ≤ r ∧ r ≤ B

/-- a byte of a text -/
def bn (s : ByteArray) (j : Nat) : Nat := (bt s (j : Int)).toNat
theorem bn_lt (s : ByteArray) (j : Nat) : bn s j < 256 := by have := bt_range s (j : Int); unfold bn; omega
theorem bt_bn (s : ByteArray) (j : Nat) : bt s (j : Int) = ((bn s j : Nat) : Int) := by have := bt_range s (j : Int); unfold bn; omega
/-- a row of n numbers -/
def lst (n : Nat) (f : Nat → Nat) : List Int := (List.range n).map fun j => ((f j : Nat) : Int)
/-- a text of n bytes -/
def txt (n : Nat) (f : Nat → Nat) : ByteArray := strOfNums (lst n f)
theorem lst_len (n : Nat) (f : Nat → Nat) : (lst n f).length = n := by simp [lst]
theorem lst_at (n : Nat) (f : Nat → Nat) (j : Nat) (h : j < n) : (lst n f).getD j 0 = ((f j : Nat) : Int) := by simp [lst, List.getD_eq_getElem?_getD, h]
theorem lst_rd (n : Nat) (f : Nat → Nat) (j : Nat) (h : j < n) : rd (lst n f) (j : Int) = ((f j : Nat) : Int) := by unfold rd; rw [Int.toNat_natCast]; exact lst_at n f j h
theorem lst_congr {n : Nat} {f g : Nat → Nat} (h : ∀ j, j < n → f j = g j) : lst n f = lst n g := by
  unfold lst
  exact List.map_congr_left (fun j hj => by rw [h j (List.mem_range.mp hj)])
theorem lst_set (n : Nat) (f : Nat → Nat) (t : Nat) (v : Nat) (h : t < n) : (lst n f).set t ((v : Nat) : Int) = lst n (fun j => if j = t then v else f j) := by
  refine gext 0 (by rw [List.length_set, lst_len, lst_len]) (fun j hj => ?_)
  rw [List.length_set, lst_len] at hj
  rw [gset 0 _ _ _ _ (by rw [lst_len]; exact h), lst_at n (fun j => if j = t then v else f j) _ hj, lst_at _ _ _ hj]
  by_cases e : j = t
  · rw [if_pos e, if_pos e]
  · rw [if_neg e, if_neg e]
theorem lst_zero (n : Nat) : List.replicate n (0 : Int) = lst n (fun _ => 0) := by
  refine gext 0 (by rw [List.length_replicate, lst_len]) (fun j hj => ?_)
  rw [List.length_replicate] at hj
  rw [lst_at _ _ _ hj]
  simp [List.getD_eq_getElem?_getD, hj]
theorem txt_congr {n : Nat} {f g : Nat → Nat} (h : ∀ j, j < n → f j = g j) : txt n f = txt n g := by unfold txt; rw [lst_congr h]
theorem txt_size (n : Nat) (f : Nat → Nat) : (txt n f).size = n := by unfold txt; rw [strOfNums_size, lst_len]
theorem bt_strOf (xs : List Int) (j : Nat) (h : j < xs.length) (h0 : 0 ≤ xs.getD j 0) (h1 : xs.getD j 0 < 256) : bt (strOfNums xs) (j : Int) = xs.getD j 0 := by
  rw [List.getD_eq_getElem?_getD, List.getElem?_eq_getElem h] at h0 h1 ⊢
  simp only [Option.getD_some] at h0 h1 ⊢
  have hs : j < (strOfNums xs).size := by rw [strOfNums_size]; exact h
  unfold bt
  rw [dif_pos (by rw [Int.toNat_natCast]; exact hs)]
  simp only [Int.toNat_natCast]
  have e : (strOfNums xs)[j]'hs = UInt8.ofNat (xs[j]).toNat := by
    show (strOfNums xs).data[j]'hs = _
    simp [strOfNums]
  rw [e, UInt8.toNat_ofNat']
  omega
theorem bn_txt (n : Nat) (f : Nat → Nat) (j : Nat) (hj : j < n) (hf : f j < 256) : bn (txt n f) j = f j := by
  unfold bn txt
  rw [bt_strOf _ _ (by rw [lst_len]; exact hj) (by rw [lst_at _ _ _ hj]; omega) (by rw [lst_at _ _ _ hj]; omega), lst_at _ _ _ hj, Int.toNat_natCast]
theorem txt_xr (n : Nat) (p : ByteArray) (f : Nat → Nat) (hf : ∀ j, f j < 256) : (txt n fun j => bn p j ^^^ bn (txt n f) j) = txt n fun j => bn p j ^^^ f j := txt_congr (fun j hj => by show bn p j ^^^ bn (txt n f) j = _; rw [bn_txt n f j hj (hf j)])
theorem txt_gr (n c : Nat) (f : Nat → Nat) (hf : ∀ j, f j < 256) : (txt n fun j => gm c (bn (txt n f) j)) = txt n fun j => gm c (f j) := txt_congr (fun j hj => by show gm c (bn (txt n f) j) = _; rw [bn_txt n f j hj (hf j)])
theorem txt_fr (n : Nat) (g f : Nat → Nat) (hf : ∀ j, f j < 256) : (txt n fun j => g j ^^^ bn (txt n f) j) = txt n fun j => g j ^^^ f j := txt_congr (fun j hj => by show g j ^^^ bn (txt n f) j = _; rw [bn_txt n f j hj (hf j)])

theorem rd_nat (xs : List Int) (i : Nat) : rd xs (i : Int) = xs.getD i 0 := by unfold rd; rw [Int.toNat_natCast]
theorem set_getD (xs : List Int) (i j : Nat) (v : Int) (hi : i < xs.length) : (xs.set i v).getD j 0 = if j = i then v else xs.getD j 0 := by
  simp only [List.getD_eq_getElem?_getD, List.getElem?_set]
  by_cases h : i = j
  · subst h; simp [hi]
  · rw [if_neg h, if_neg (fun e => h e.symm)]

/-! ### The cursor that draws -/
theorem cur_wraps (n : Int) (h₀ : 0 ≤ n) (h₁ : n < 2 ^ 64) : IntKind.u64.wrap n = n := by rw [IntKind.wrap_u64]; omega
theorem cur_and (y : Int) (h0 : 0 ≤ y) (h1 : y < 2 ^ 64) : Go.bits .and .u64 y 255 = y % 256 := bits_mask .u64 64 (by decide) cur_wraps 8 (by decide) y h0 h1
theorem cur_byte (u : Int) : ∃ b : Int, wrap64 (Go.bits .and .u64 ((IntKind.u64.wrap u) / 1099511627776) 255) = b ∧ 0 ≤ b ∧ b ≤ 255 := by
  refine ⟨_, rfl, ?_⟩
  have h := IntKind.wrap_u64 u
  generalize IntKind.u64.wrap u = v at h
  have hv : 0 ≤ v ∧ v < 2 ^ 64 := by omega
  clear h
  obtain ⟨y, hy⟩ : ∃ y, y = v / 1099511627776 := ⟨_, rfl⟩
  rw [← hy, cur_and y (by omega) (by omega)]
  clear hv
  unfold wrap64
  omega
theorem cur_rd (xs : List Int) (hb : ∀ x ∈ xs, (Lit.int .u8 x).wf = true) (i : Int) (h0 : 0 ≤ i) (h1 : i < (xs.length : Int)) : 0 ≤ rd xs i ∧ rd xs i ≤ 255 := by
  have hm : rd xs i ∈ xs := by
    unfold rd
    rw [List.getD_eq_getElem?_getD, List.getElem?_eq_getElem (show i.toNat < xs.length by omega)]
    simp
  have := bounds_u8 (hb _ hm)
  omega
section
variable (xs : List Int) (hb : ∀ x ∈ xs, (Lit.int .u8 x).wf = true)
include hb
theorem cur_next (a s n : Int) (h0 : 0 ≤ a) (h1 : a ≤ n) (hn : n < 2 ^ 60) : ∃ b a' s', spec_l1Cur_next.f xs a s = some (b, a', s') ∧ 0 ≤ b ∧ b ≤ 255 ∧ 0 ≤ a' ∧ a' ≤ n + 1 := by
  have hw : wrap64 (a + 1) = a + 1 := by unfold wrap64; omega
  unfold spec_l1Cur_next.f
  rw [hw]
  by_cases c1 : a < (xs.length : Int)
  · have hr := cur_rd xs hb a h0 c1
    rw [if_pos c1, if_pos h0]
    have hr2 : wrap64 (rd xs a) = rd xs a := by unfold wrap64; omega
    rw [hr2]
    by_cases c2 : a + 1 ≤ (xs.length : Int)
    · rw [if_pos c2]; exact ⟨_, _, _, rfl, hr.1, hr.2, by omega, by omega⟩
    · omega
  · rw [if_neg c1, if_neg (by omega)]
    obtain ⟨b, hb1, hb2, hb3⟩ := cur_byte ((IntKind.u64.wrap ((IntKind.u64.wrap (s * 6364136223846793005)) + 0)) + 1442695040888963407)
    rw [hb1]
    exact ⟨_, _, _, rfl, hb2, hb3, by omega, by omega⟩
theorem cur_pick (a s n m : Int) (h0 : 0 ≤ a) (h1 : a ≤ n) (hn : n < 2 ^ 59) (hm : m < 2 ^ 40) : ∃ b a' s', spec_l1Cur_pick.f xs a s m = some (b, a', s') ∧ 0 ≤ b ∧ (b < m ∨ b = 0) ∧ 0 ≤ a' ∧ a' ≤ n + 2 := by
  unfold spec_l1Cur_pick.f
  by_cases c1 : m ≤ 1
  · rw [if_pos c1]; exact ⟨0, a, s, rfl, by omega, .inr rfl, h0, by omega⟩
  · obtain ⟨b, a1, s1, e1, b0, b1, p0, p1⟩ := cur_next xs hb a s n h0 h1 (by omega)
    rw [if_neg c1, e1]
    simp only [Option.bind_some]
    by_cases c2 : m > 200
    · obtain ⟨b2, a2, s2, e2, q0, q1, r0, r1⟩ := cur_next xs hb a1 s1 (n + 1) p0 p1 (by omega)
      rw [if_pos c2, e2]
      simp only [Option.bind_some]
      rw [if_neg (by omega)]
      have hw : wrap64 ((wrap64 (b * 256)) + b2) = b * 256 + b2 := by unfold wrap64; omega
      rw [hw, Int.tmod_eq_emod_of_nonneg (by omega)]
      have h1 := Int.emod_nonneg (b * 256 + b2) (show m ≠ 0 by omega)
      have h2 := Int.emod_lt_of_pos (b * 256 + b2) (show 0 < m by omega)
      exact ⟨_, _, _, rfl, h1, .inl h2, r0, by omega⟩
    · rw [if_neg c2, if_neg (by omega), Int.tmod_eq_emod_of_nonneg (by omega)]
      have h1 := Int.emod_nonneg b (show m ≠ 0 by omega)
      have h2 := Int.emod_lt_of_pos b (show 0 < m by omega)
      exact ⟨_, _, _, rfl, h1, .inl h2, p0, by omega⟩
end

section
variable (xs : List Int) (hb : ∀ x ∈ xs, (Lit.int .u8 x).wf = true)
include hb
theorem cur_one (a s n m : Int) (h0 : 0 ≤ a) (h1 : a ≤ n) (hn : n < 2 ^ 59) (hm : m < 2 ^ 40) : ∃ b a' s', spec_l1Cur_one.f xs a s m = some (b, a', s') ∧ 0 ≤ a' ∧ a' ≤ n + 2 := by
  obtain ⟨i, a1, s1, e1, i0, i1, p0, p1⟩ := cur_pick xs hb a s n m h0 h1 hn hm
  unfold spec_l1Cur_one.f
  rw [e1]
  exact ⟨_, _, _, rfl, p0, p1⟩
end

/-! ### Texts that are drawn -/
section
variable (cs : List Int) (hb : ∀ x ∈ cs, (Lit.int .u8 x).wf = true)
include hb
theorem d_text_l (m : Nat) (hm : m < 2 ^ 40) (N : Int) (hN : N < 2 ^ 50) (d : Nat) : ∀ (i : Nat) (ys : List Int) (a s : Int), i + d = m → ys.length = m → 0 ≤ a → a ≤ N + 2 * (i : Int) →
    ∃ t a' s', Ev (fun k => spec_l1Cur_text.l0 k ys (m : Int) (i : Int) cs a s) (t, a', s') ∧ t.size = m ∧ 0 ≤ a' ∧ a' ≤ N + 2 * (m : Int) := by
  induction d with
  | zero =>
    intro i ys a s hi hy h0 h1
    exact ⟨strOfNums ys, a, s, Ev.step (fun k => by simp only [spec_l1Cur_text.l0]; rw [if_neg (by omega)]) (Ev.now _), by rw [strOfNums_size]; exact hy, h0, by omega⟩
  | succ d ih =>
    intro i ys a s hi hy h0 h1
    obtain ⟨b, a1, s1, e1, b0, b1, p0, p1⟩ := cur_pick cs hb a s (N + 2 * (i : Int)) 256 h0 h1 (by omega) (by omega)
    obtain ⟨t, a2, s2, h, ht, q0, q1⟩ := ih (i + 1) (ys.set i (b % 256)) a1 s1 (by omega) (by rw [List.length_set]; exact hy) p0 (by omega)
    refine ⟨t, a2, s2, Ev.step (fun k => ?_) h, ht, q0, q1⟩
    simp only [spec_l1Cur_text.l0]
    rw [if_pos (by omega), e1]
    simp only [Option.bind_some]
    rw [if_pos (by omega), if_pos (by omega), Int.toNat_natCast, inc i (by omega)]
theorem d_text (m : Nat) (hm : m < 2 ^ 40) (N a s : Int) (hN : N < 2 ^ 50) (h0 : 0 ≤ a) (h1 : a ≤ N) : ∃ t a' s', Ev (fun k => spec_l1Cur_text.f k cs a s (m : Int)) (t, a', s') ∧ t.size = m ∧ 0 ≤ a' ∧ a' ≤ N + 2 * (m : Int) := by
  obtain ⟨t, a2, s2, h, ht, q0, q1⟩ := d_text_l cs hb m hm N hN m 0 (List.replicate m 0) a s (by omega) (by simp) h0 (by omega)
  refine ⟨t, a2, s2, ?_, ht, q0, q1⟩
  unfold spec_l1Cur_text.f
  refine evp (by omega) (evp (by omega) ?_)
  rw [Int.toNat_natCast]
  refine ev_some ?_
  rw [List.length_replicate]
  exact h
end

/-- a row of pairs, the word of each pair given -/
def pr (W : Nat → Nat) (j : Nat) : Nat := if j % 2 = 0 then W (j / 2) % 256 else W (j / 2) / 256
theorem pr_lt (W : Nat → Nat) (hW : ∀ j, W j < 8192) (j : Nat) : pr W j < 256 := by
  have := hW (j / 2)
  unfold pr
  split <;> omega
theorem pr_even (W : Nat → Nat) (j : Nat) : pr W (2 * j) = W j % 256 := by unfold pr; rw [if_pos (by omega), show 2 * j / 2 = j by omega]
theorem pr_odd (W : Nat → Nat) (j : Nat) : pr W (2 * j + 1) = W j / 256 := by unfold pr; rw [if_neg (by omega), show (2 * j + 1) / 2 = j by omega]
theorem lst_two (n : Nat) (f : Nat → Nat) : lst (n + 2) f = lst n f ++ [((f n : Nat) : Int), ((f (n + 1) : Nat) : Int)] := by
  unfold lst
  rw [List.range_succ, List.range_succ, List.map_append, List.map_append, List.append_assoc]
  rfl
theorem lst_one (n : Nat) (f : Nat → Nat) : lst (n + 1) f = lst n f ++ [((f n : Nat) : Int)] := by
  unfold lst
  rw [List.range_succ, List.map_append]
  rfl
theorem bytes_back (xs : List Int) (h : ∀ x ∈ xs, 0 ≤ x ∧ x < 256) : bytesOf (strOfNums xs) = xs := by
  unfold bytesOf
  rw [strOfNums_data, List.map_map]
  conv => rhs; rw [← List.map_id xs]
  refine List.map_congr_left fun x hx => ?_
  have := h x hx
  show (((UInt8.ofNat x.toNat).toNat : Nat) : Int) = x
  rw [UInt8.toNat_ofNat']
  omega
theorem bytes_txt (n : Nat) (f : Nat → Nat) (hf : ∀ j, f j < 256) : bytesOf (txt n f) = lst n f := by
  refine bytes_back _ fun x hx => ?_
  obtain ⟨j, _, rfl⟩ := List.mem_map.mp hx
  have := hf j
  omega
theorem bytes_getD (s : ByteArray) (j : Nat) (h : j < s.size) : (bytesOf s).getD j 0 = bt s (j : Int) := by
  have h2 : j < s.data.toList.length := by rw [Array.length_toList]; exact h
  rw [← bt_at s (j : Int) (by rw [Int.toNat_natCast]; exact h)]
  unfold bytesOf
  simp [List.getD_eq_getElem?_getD, h, show j < s.data.size from h]
  rfl
theorem bytes_lst (s : ByteArray) : bytesOf s = lst s.size (bn s) := by
  refine gext 0 (by rw [bytesOf_length, lst_len]) fun j hj => ?_
  rw [bytesOf_length] at hj
  rw [bytes_getD s j hj, lst_at _ _ _ hj, bt_bn]
theorem txt_self (s : ByteArray) : (strOfNums (lst s.size (bn s))).toList = s.toList := by
  have e : strOfNums (bytesOf s) = s := by
    unfold strOfNums bytesOf
    rw [List.map_map]
    have h : s.data.toList.map ((fun n : Int => UInt8.ofNat n.toNat) ∘ fun b => ((b.toNat : Nat) : Int)) = s.data.toList := by
      conv => rhs; rw [← List.map_id s.data.toList]
      refine List.map_congr_left fun x _ => ?_
      simp
    exact congrArg ByteArray.mk (by rw [h])
  rw [← bytes_lst, e]
/-- the words of a guarded text -/
def w0 (s : ByteArray) (j : Nat) : Nat := encN (bn s j)
theorem w0_lt (s : ByteArray) (j : Nat) : w0 s j < 8192 := encN_lt _
theorem guards (s : ByteArray) (hs : s.size ≤ 60) (d : Nat) : ∀ (k i : Nat), i + d = s.size → d + 50 < k →
    spec_GuardText.l0 k s (lst (2 * i) (pr (w0 s))) (i : Int) = some (txt (2 * s.size) (pr (w0 s)), true) ∧ impl_GuardText.l0 k s (lst (2 * i) (pr (w0 s))) (s.size : Int) (i : Int) = some (txt (2 * s.size) (pr (w0 s)), true) := by
  induction d with
  | zero =>
    intro k i hi hk
    obtain ⟨k, rfl⟩ : ∃ m, k = m + 1 := ⟨k - 1, by omega⟩
    obtain rfl : i = s.size := by omega
    refine ⟨?_, ?_⟩
    · simp only [spec_GuardText.l0]; rw [if_neg (by omega)]; rfl
    · simp only [impl_GuardText.l0]; rw [if_neg (by omega)]; rfl
  | succ d ih =>
    intro k i hi hk
    obtain ⟨k, rfl⟩ : ∃ m, k = m + 1 := ⟨k - 1, by omega⟩
    have hn := bn_lt s i
    have hw := encN_lt (bn s i)
    have hM : lst (2 * (i + 1)) (pr (w0 s)) = lst (2 * i) (pr (w0 s)) ++ ([((encN (bn s i) : Nat) : Int) % 256, (((encN (bn s i) : Nat) : Int) / 256) % 256] : List Int) := by
      rw [show 2 * (i + 1) = 2 * i + 2 by omega, lst_two, pr_even, pr_odd]
      unfold w0
      rw [show ((encN (bn s i) / 256 : Nat) : Int) = (((encN (bn s i) : Nat) : Int) / 256) % 256 by omega, show ((encN (bn s i) % 256 : Nat) : Int) = ((encN (bn s i) : Nat) : Int) % 256 by omega]
    obtain ⟨h1, h2⟩ := ih k (i + 1) (by omega) (by omega)
    have hl : (lst (2 * i) (pr (w0 s))).length = 2 * i := lst_len _ _
    obtain ⟨M, hMM⟩ : ∃ M, M = ([((encN (bn s i) : Nat) : Int) % 256, (((encN (bn s i) : Nat) : Int) / 256) % 256] : List Int) := ⟨_, rfl⟩
    have hl2 : M.length = 2 := by rw [hMM]; rfl
    rw [← hMM] at hM
    rw [hM] at h1 h2
    refine ⟨?_, ?_⟩
    · simp only [spec_GuardText.l0]
      rw [if_pos (by omega), if_pos (by omega), bt_bn, wr64 _ (by omega), spec_enc _ k (by omega) (by omega)]
      simp only [Option.bind_some]
      rw [← hMM, if_pos (by omega), inc i (by omega)]
      exact h1
    · simp only [impl_GuardText.l0]
      rw [if_pos (by omega), if_pos (by omega), if_pos (by omega), bt_bn, wr64 _ (by omega), impl_enc _ k (by omega) (by omega)]
      simp only [Option.bind_some]
      rw [← hMM, if_pos (by omega), inc i (by omega)]
      exact h2
theorem guard_spec (s : ByteArray) (hs : s.size ≤ 60) : Ev (fun k => spec_GuardText.f k s) (txt (2 * s.size) (pr (w0 s)), true) := by
  refine ev_of 200 fun k hk => ?_
  unfold spec_GuardText.f
  rw [if_neg (by omega)]
  exact (guards s hs s.size k 0 (by omega) (by omega)).1
theorem guard_impl (s : ByteArray) (hs : s.size ≤ 60) : Ev (fun k => impl_GuardText.f k s) (txt (2 * s.size) (pr (w0 s)), true) := by
  refine ev_of 200 fun k hk => ?_
  unfold impl_GuardText.f
  rw [if_neg (by omega)]
  exact (guards s hs s.size k 0 (by omega) (by omega)).2
theorem conv_row (n : Nat) (W : Nat → Nat) (hW : ∀ j, W j < 8192) (hn : n ≤ 1000) : spec_NewBuddy.f (txt n (pr W)) = some (lst n (pr W)) := by
  unfold spec_NewBuddy.f
  rw [if_pos (by rw [txt_size]; omega), bytes_txt _ _ (pr_lt W hW)]
/-! ### MendText at a row of pairs -/
def qd (W : Nat → Nat) (j : Nat) : Option (Int × Int) := some ((((decN (W j)).1 : Nat) : Int), (((decN (W j)).2 : Nat) : Int))
theorem pd_row (n : Nat) (W : Nat → Nat) (hW : ∀ j, W j < 8192) (j : Nat) (hj : j < n) : pd (txt (2 * n) (pr W)) j = qd W j := by
  have hw := hW j
  have e0 : bt (txt (2 * n) (pr W)) ((2 * j : Nat) : Int) = ((W j % 256 : Nat) : Int) := by rw [bt_bn, bn_txt _ _ _ (by omega) (pr_lt W hW _), pr_even]
  have e1 : bt (txt (2 * n) (pr W)) ((2 * j + 1 : Nat) : Int) = ((W j / 256 : Nat) : Int) := by rw [bt_bn, bn_txt _ _ _ (by omega) (pr_lt W hW _), pr_odd]
  unfold pd qd
  rw [e0, e1, if_neg (by omega), Int.toNat_natCast, Int.toNat_natCast, show W j % 256 + 256 * (W j / 256) = W j by omega]
theorem mfold_one (p : Option (Int × Int)) (L : List (Option (Int × Int))) : ∀ (o : List Int) (c : Int), mfold (L ++ [p]) o c = (mfold L o c).bind fun q => mstep q.1 q.2 p := by
  induction L with
  | nil =>
    intro o c
    show ((mstep o c p).bind fun q => some (q.1, q.2)) = mstep o c p
    cases mstep o c p <;> rfl
  | cons a L ih =>
    intro o c
    show ((mstep o c a).bind fun q => mfold (L ++ [p]) q.1 q.2) = ((mstep o c a).bind fun q => mfold L q.1 q.2).bind fun q => mstep q.1 q.2 p
    cases mstep o c a with
    | none => rfl
    | some q => exact ih q.1 q.2
/-- i pairs are right again, and c of them were not -/
def mended (s : ByteArray) (W : Nat → Nat) (i c : Nat) : Prop := c ≤ i ∧ mfold ((List.range i).map (qd W)) [] 0 = some (lst i (bn s), (c : Int))
theorem mended_step (s : ByteArray) (W W' : Nat → Nat) (i c m : Nat) (hi : i < 100) (h : mended s W i c) (hsame : ∀ j, j < i → W' j = W j) (hm : m ≤ 1) (hd : decN (W' i) = (bn s i, m)) : mended s W' (i + 1) (c + m) := by
  obtain ⟨hc, h⟩ := h
  refine ⟨by omega, ?_⟩
  have hb := bn_lt s i
  rw [List.range_succ, List.map_append, List.map_singleton, mfold_one]
  have e : (List.range i).map (qd W') = (List.range i).map (qd W) := List.map_congr_left fun j hj => by unfold qd; rw [hsame j (List.mem_range.mp hj)]
  rw [e, h, Option.bind_some]
  unfold qd mstep
  rw [hd]
  simp only []
  rw [if_neg (by omega), lst_one, show ((bn s i : Nat) : Int) % 256 = ((bn s i : Nat) : Int) by omega]
  congr 2
  rcases (show m = 0 ∨ m = 1 by omega) with rfl | rfl
  · rw [if_neg (by omega)]; rfl
  · rw [if_pos (by omega), inc c (by omega)]
theorem mend_row (s : ByteArray) (n c : Nat) (hn : n ≤ 60) (W : Nat → Nat) (hW : ∀ j, W j < 8192) (h : mended s W n c) : Ev (fun k => impl_MendText.f k (txt (2 * n) (pr W))) (strOfNums (lst n (bn s)), (c : Int), true) := by
  have hz : (txt (2 * n) (pr W)).size = 2 * n := txt_size _ _
  refine ev_of 20 fun k hk => ?_
  unfold impl_MendText.f
  rw [if_pos (by rw [hz]; omega), decs_pd k hk, hz, show 2 * n / 2 = n by omega]
  rw [show (List.range n).map (pd (txt (2 * n) (pr W))) = (List.range n).map (qd W) from List.map_congr_left fun j hj => pd_row n W hW j (List.mem_range.mp hj)]
  simp only [Option.bind_some]
  rw [h.2]
  rfl
/-! ### What is drawn -/
section
variable (cs : List Int) (hb : ∀ x ∈ cs, (Lit.int .u8 x).wf = true)
include hb
theorem d_guard : ∃ t : ByteArray, t.size ≤ 61 ∧ Ev (fun k => spec_DrawGuardText.f k cs) t := by
  obtain ⟨o, a1, s1, e1, p0, p1⟩ := cur_one cs hb 0 0 0 20 (by omega) (by omega) (by omega) (by omega)
  unfold spec_DrawGuardText.f
  cases o with
  | true =>
    obtain ⟨b, a2, s2, e2, b0, b1, q0, q1⟩ := cur_pick cs hb a1 s1 2 2 p0 (by omega) (by omega) (by omega)
    have hw : wrap64 (60 + b) = 60 + b := by unfold wrap64; omega
    have hz : spec_l1Zeros.f (wrap64 (60 + b)) = some (strOfNums (List.replicate (wrap64 (60 + b)).toNat 0)) := by
      unfold spec_l1Zeros.f
      rw [if_pos (by omega), if_pos (by omega)]
    exact ⟨strOfNums (List.replicate (wrap64 (60 + b)).toNat 0), by rw [strOfNums_size, List.length_replicate]; omega, ev_to_some e1 (evp rfl (ev_to_some e2 (ev_to_some hz (Ev.now _))))⟩
  | false =>
    obtain ⟨b, a2, s2, e2, b0, b1, q0, q1⟩ := cur_pick cs hb a1 s1 2 9 p0 (by omega) (by omega) (by omega)
    obtain ⟨m, rfl⟩ := Int.eq_ofNat_of_zero_le b0
    obtain ⟨t, a3, s3, e3, ht, _⟩ := d_text cs hb m (by omega) 100 a2 s2 (by omega) q0 (by omega)
    exact ⟨t, by omega, ev_to_some e1 (evn Bool.false_ne_true (ev_to_some e2 (Ev.bind e3 (Ev.now _))))⟩
theorem d_end (x : List Int) (d : Int) (a s : Int) (hx : x.length ≤ 200) (h0 : 0 ≤ a) (h1 : a ≤ 1000) : ∃ r : ByteArray, r.size ≤ 201 ∧ Ev (fun k => spec_DrawMendText.j1 k x d false cs a s) r := by
  obtain ⟨o, a1, s1, e1, p0, p1⟩ := cur_one cs hb a s 1000 20 h0 h1 (by omega) (by omega)
  have c1 : x.length < 140737488355328 := by omega
  cases o with
  | true => exact ⟨strOfNums (x ++ [0]), by rw [strOfNums_size, List.length_append]; simp; omega, Ev.step (fun k => by simp only [spec_DrawMendText.j1]; rw [if_neg (by decide)]) (ev_to_some e1 (evp rfl (evp c1 (Ev.now _))))⟩
  | false => exact ⟨strOfNums x, by rw [strOfNums_size]; omega, Ev.step (fun k => by simp only [spec_DrawMendText.j1]; rw [if_neg (by decide)]) (ev_to_some e1 (evn Bool.false_ne_true (Ev.now _)))⟩
theorem d_flips (d : Nat) : ∀ (x : List Int) (a s : Int), d ≤ 3 → x.length ≤ 200 → 0 ≤ a → a ≤ 500 - 4 * (d : Int) → ∃ r : ByteArray, r.size ≤ 201 ∧ Ev (fun k => spec_DrawMendText.l0 k x (d : Int) cs a s) r := by
  induction d with
  | zero =>
    intro x a s _ hx h0 h1
    obtain ⟨r, hr, e⟩ := d_end cs hb x ((0 : Nat) : Int) a s hx h0 (by omega)
    exact ⟨r, hr, Ev.step (fun k => by simp only [spec_DrawMendText.l0]; rw [if_neg (by omega)]) e⟩
  | succ d ih =>
    intro x a s hd hx h0 h1
    by_cases hl : (x.length : Int) > 0
    · obtain ⟨b, a1, s1, e1, b0, b1, p0, p1⟩ := cur_pick cs hb a s (500 - 4 * ((d + 1 : Nat) : Int)) (x.length : Int) h0 h1 (by omega) (by omega)
      obtain ⟨q, a2, s2, e2, q0, q1, r0, r1⟩ := cur_pick cs hb a1 s1 (500 - 4 * ((d + 1 : Nat) : Int) + 2) 6 p0 p1 (by omega) (by omega)
      obtain ⟨r, hr, e⟩ := ih (x.set (b : Int).toNat (Go.bits .xor .u8 (rd x b) (shl .u8 1 (IntKind.u64.wrap q)))) a2 s2 (by omega) (by rw [List.length_set]; exact hx) r0 (by omega)
      have c1 : b < (x.length : Int) := by omega
      have c2 : 0 ≤ IntKind.u64.wrap q := by rw [wraps_u64 q q0 (by omega)]; exact q0
      refine ⟨r, hr, Ev.step (fun k => by simp only [spec_DrawMendText.l0]; rw [if_pos (by omega), decide_eq_true hl]) (Ev.step (fun k => by simp only [spec_DrawMendText.j1]; rw [if_pos trivial]) (ev_to_some e1 (evp b0 (evp c1 (ev_to_some e2 (evp c2 ?_))))))⟩
      rw [show wrap64 (((d + 1 : Nat) : Int) - 1) = (d : Int) by unfold wrap64; omega]
      exact e
    · obtain ⟨r, hr, e⟩ := d_end cs hb x ((d + 1 : Nat) : Int) a s hx h0 (by omega)
      exact ⟨r, hr, Ev.step (fun k => by simp only [spec_DrawMendText.l0]; rw [if_pos (by omega), decide_eq_false hl]) e⟩
theorem d_mend : ∃ r : ByteArray, r.size ≤ 201 ∧ Ev (fun k => spec_DrawMendText.f k cs) r := by
  obtain ⟨b, a1, s1, e1, b0, b1, p0, p1⟩ := cur_pick cs hb 0 0 0 7 (by omega) (by omega) (by omega) (by omega)
  obtain ⟨m, rfl⟩ := Int.eq_ofNat_of_zero_le b0
  obtain ⟨t, a2, s2, e2, ht, q0, q1⟩ := d_text cs hb m (by omega) 100 a1 s1 (by omega) p0 (by omega)
  obtain ⟨c, a3, s3, e3, c0, c1, r0, r1⟩ := cur_pick cs hb a2 s2 200 3 q0 (by omega) (by omega) (by omega)
  obtain ⟨d, rfl⟩ := Int.eq_ofNat_of_zero_le c0
  obtain ⟨r, hr, e⟩ := d_flips cs hb d (lst (2 * t.size) (pr (w0 t))) a3 s3 (by omega) (by rw [lst_len]; omega) r0 (by omega)
  refine ⟨r, hr, ?_⟩
  unfold spec_DrawMendText.f
  exact ev_to_some e1 (Ev.bind e2 (Ev.bind (guard_spec t (by omega)) (ev_to_some (conv_row _ _ (w0_lt t) (by omega)) (ev_to_some e3 e))))
theorem tail_eq : ∃ t : ByteArray, Ev (fun k => spec_DrawMendText.f k cs) t ∧ ∃ r : ByteArray × Int × Bool, Ev (fun k => spec_MendText.f k t) r ∧ Ev (fun k => impl_MendText.f k t) r := by
  obtain ⟨t, ht, e⟩ := d_mend cs hb
  exact ⟨t, e, both_MendText t (by omega)⟩
theorem l_j2 : Ev (fun k => laws_FnGuarded.j2 k cs false) true := by
  obtain ⟨t, e, r, e1, e2⟩ := tail_eq cs hb
  refine Ev.step (fun k => by simp only [laws_FnGuarded.j2]; rw [if_neg (by decide)]) (Ev.bind e (Ev.bind e2 (Ev.bind e1 (evp (beq_self_eq_true _) (evp rfl ?_)))))
  rw [beq_self_eq_true]
  exact Ev.now _
omit hb in
theorem flip_lo : ∀ b : Nat, b < 8 → shl .u8 1 (IntKind.u64.wrap (b : Int)) = ((2 ^ b : Nat) : Int) := by decide +kernel
omit hb in
theorem place_of (i b : Nat) (hi : i < 1000) (hb : b < 20) : wrap64 (wrap64 (2 * (i : Int)) + wrap64 (Int.tdiv (b : Int) 8)) = ((2 * i + b / 8 : Nat) : Int) := by
  have hdiv : Int.tdiv (b : Int) 8 = ((b / 8 : Nat) : Int) := by rw [Int.tdiv_eq_ediv_of_nonneg (by omega)]; omega
  rw [hdiv, wr64 (b / 8) (by omega), wri (2 * (i : Int)) (by omega) (by omega), wri _ (by omega) (by omega)]
  omega
omit hb in
theorem flip_word (w b : Nat) (hb : b < 13) : (if b < 8 then (w % 256 ^^^ 2 ^ b) = (w ^^^ 2 ^ b) % 256 ∧ w / 256 = (w ^^^ 2 ^ b) / 256 else w % 256 = (w ^^^ 2 ^ b) % 256 ∧ (w / 256 ^^^ 2 ^ (b - 8)) = (w ^^^ 2 ^ b) / 256) := by
  have h1 : (w ^^^ 2 ^ b) / 2 ^ 8 = w / 2 ^ 8 ^^^ 2 ^ b / 2 ^ 8 := Nat.xor_div_two_pow
  have h2 : (w ^^^ 2 ^ b) % 2 ^ 8 = w % 2 ^ 8 ^^^ 2 ^ b % 2 ^ 8 := Nat.xor_mod_two_pow
  have t : ∀ b : Nat, b < 13 → (if b < 8 then 2 ^ b / 2 ^ 8 = 0 ∧ 2 ^ b % 2 ^ 8 = 2 ^ b else 2 ^ b / 2 ^ 8 = 2 ^ (b - 8) ∧ 2 ^ b % 2 ^ 8 = 0) := by decide
  have t := t b hb
  by_cases h : b < 8
  · rw [if_pos h] at t ⊢
    rw [t.1, Nat.xor_zero] at h1
    rw [t.2] at h2
    exact ⟨h2.symm, h1.symm⟩
  · rw [if_neg h] at t ⊢
    rw [t.1] at h1
    rw [t.2, Nat.xor_zero] at h2
    exact ⟨h2.symm, h1.symm⟩
omit hb in
theorem flip_row (n : Nat) (W : Nat → Nat) (hW : ∀ j, W j < 8192) (i b : Nat) (hi : i < n) (hb : b < 13) :
    (lst (2 * n) (pr W)).set (2 * i + b / 8) (Go.bits .xor .u8 ((pr W (2 * i + b / 8) : Nat) : Int) ((2 ^ (b % 8) : Nat) : Int)) = lst (2 * n) (pr fun j => if j = i then W i ^^^ 2 ^ b else W j) := by
  have p7 : 2 ^ (b % 8) < 256 := Nat.pow_lt_pow_right (a := 2) (m := b % 8) (n := 8) (by decide) (by omega)
  rw [xor_u8 _ _ (pr_lt W hW _) p7, lst_set _ _ _ _ (by omega)]
  refine lst_congr fun j hj => ?_
  have fw := flip_word (W i) b hb
  by_cases h8 : b < 8
  · rw [if_pos h8] at fw
    rw [show b / 8 = 0 by omega, show b % 8 = b by omega, Nat.add_zero, pr_even]
    unfold pr
    dsimp only
    by_cases e : j = 2 * i
    · subst e
      rw [if_pos rfl, if_pos (by omega), if_pos (by omega), fw.1]
    · rw [if_neg e]
      by_cases e2 : j % 2 = 0
      · rw [if_pos e2, if_pos e2, if_neg (by omega)]
      · rw [if_neg e2, if_neg e2]
        by_cases e3 : j / 2 = i
        · rw [if_pos e3, e3, fw.2]
        · rw [if_neg e3]
  · rw [if_neg h8] at fw
    rw [show b / 8 = 1 by omega, show b % 8 = b - 8 by omega, pr_odd]
    unfold pr
    dsimp only
    by_cases e : j = 2 * i + 1
    · subst e
      rw [if_pos rfl, if_neg (by omega), if_pos (by omega), fw.2]
    · rw [if_neg e]
      by_cases e2 : j % 2 = 0
      · rw [if_pos e2, if_pos e2]
        by_cases e3 : j / 2 = i
        · rw [if_pos e3, e3, fw.1]
        · rw [if_neg e3]
      · rw [if_neg e2, if_neg e2, if_neg (by omega)]
theorem l_l0 (s : ByteArray) (hs : s.size ≤ 60) (d : Nat) : ∀ (i c : Nat) (W : Nat → Nat), i + d = s.size → (∀ j, W j < 8192) → (∀ j, i ≤ j → W j = w0 s j) → mended s W i c →
    Ev (fun k => laws_FnGuarded.l0 k cs s (lst (2 * s.size) (pr W)) (c : Int) (i : Int)) true := by
  induction d with
  | zero =>
    intro i c W hi hW hR hM
    obtain rfl : i = s.size := by omega
    have e : Ev (fun k => impl_MendText.f k (strOfNums (lst (2 * s.size) (pr W)))) (strOfNums (lst s.size (bn s)), (c : Int), true) := mend_row s s.size c hs W hW hM
    refine Ev.step (fun k => by simp only [laws_FnGuarded.l0]; rw [if_neg (by omega)]) ?_
    refine Ev.bind e (evp rfl (evp (txt_self s) ?_))
    rw [show ((c : Int) != (c : Int)) = false by simp]
    exact l_j2 cs hb
  | succ d ih =>
    intro i c W hi hW hR hM
    have hc := hM.1
    have hn := bn_lt s i
    have hWi : W i = encN (bn s i) := hR i (Nat.le_refl _)
    have keep : Ev (fun k => laws_FnGuarded.l0 k cs s (lst (2 * s.size) (pr W)) (c : Int) (wrap64 ((i : Int) + 1))) true := by
      rw [inc i (by omega)]
      exact ih (i + 1) c W (by omega) hW (fun j hj => hR j (by omega)) (mended_step s W W i c 0 (by omega) hM (fun _ _ => rfl) (by omega) (by rw [hWi, dec_enc _ hn]))
    refine Ev.step (fun k => by simp only [laws_FnGuarded.l0]; rw [if_pos (show (i : Int) < (s.size : Int) by omega)]) ?_
    by_cases hx : (i : Int) < (cs.length : Int)
    · refine evp hx (evp (by omega) ?_)
      have hr := cur_rd cs hb (i : Int) (by omega) hx
      obtain ⟨v, hv⟩ := Int.eq_ofNat_of_zero_le hr.1
      rw [hv, wr64 v (by omega), Int.tmod_eq_emod_of_nonneg (by omega), show ((v : Int) % 20) = ((v % 20 : Nat) : Int) by omega]
      obtain ⟨b, hbv⟩ : ∃ b, b = v % 20 := ⟨_, rfl⟩
      rw [← hbv]
      by_cases h13 : (b : Int) < 13
      · refine evp h13 ?_
        have hmod : Int.tmod (b : Int) 8 = ((b % 8 : Nat) : Int) := by rw [Int.tmod_eq_emod_of_nonneg (by omega)]; omega
        rw [hmod, place_of i b (by omega) (by omega), flip_lo (b % 8) (by omega), lst_rd _ _ _ (by omega), Int.toNat_natCast, flip_row s.size W hW i b (by omega) (by omega), inc c (by omega), inc i (by omega)]
        refine evp (by omega) (evp (by rw [lst_len]; omega) (evp (by rw [u64n _ (by omega)]; omega) ?_))
        refine ih (i + 1) (c + 1) _ (by omega) (fun j => ?_) (fun j hj => ?_) ?_
        · show (if j = i then W i ^^^ 2 ^ b else W j) < 8192
          split
          · have := pow_le12 b (by omega)
            exact Nat.xor_lt_two_pow (n := 13) (hW i) (by omega)
          · exact hW j
        · show (if j = i then W i ^^^ 2 ^ b else W j) = w0 s j
          rw [if_neg (by omega)]
          exact hR j (by omega)
        · refine mended_step s W _ i c 1 (by omega) hM (fun j hj => if_neg (by omega)) (by omega) ?_
          show decN (if i = i then W i ^^^ 2 ^ b else W i) = _
          rw [if_pos rfl, hWi, dec_one _ hn b (by omega)]
      · exact evn h13 keep
    · exact evn hx (evn (by decide) keep)
end
theorem FnGuarded : laws_FnGuarded.Pure := by
  intro l0 l1 _ h1 wf1 _ h2 wf2
  refine Ev.rounds ?_
  unfold laws_FnGuarded.f
  by_cases hbig : wrap64 ((l0.length : Int) + (l1.length : Int)) > 1048576
  · exact evp hbig (Ev.now _)
  · obtain ⟨s, hs, e⟩ := d_guard l0 wf1
    refine evn hbig (Ev.bind e ?_)
    by_cases h60 : s.size ≤ 60
    · refine Ev.bind (guard_impl s h60) (Ev.bind (guard_spec s h60) (evn (by simp) ?_))
      rw [bne_self_eq_false]
      refine Ev.step (fun k => by simp only [laws_FnGuarded.j0]; rw [if_neg (by decide), if_pos trivial]) (ev_to_some (conv_row _ _ (w0_lt s) (by omega)) ?_)
      exact l_l0 l1 wf2 s h60 s.size 0 0 (w0 s) (by omega) (w0_lt s) (fun _ _ => rfl) ⟨Nat.le_refl _, rfl⟩
    · obtain ⟨t, e0, r, e1, e2⟩ := tail_eq l1 wf2
      refine Ev.bind (a := ((⟨#[]⟩ : ByteArray), false)) (ev_of 0 fun k _ => by unfold impl_GuardText.f; rw [if_pos (by omega)]) (Ev.bind (a := ((⟨#[]⟩ : ByteArray), false)) (ev_of 0 fun k _ => by unfold spec_GuardText.f; rw [if_pos (by omega)]) (evn (by simp) ?_))
      rw [bne_self_eq_false]
      refine Ev.step (fun k => by simp only [laws_FnGuarded.j0]; rw [if_neg (by decide), if_neg (by decide)]) (Ev.bind e0 (Ev.bind e2 (Ev.bind e1 (evp (beq_self_eq_true _) (evp rfl ?_)))))
      rw [beq_self_eq_true]
      exact Ev.now _

end Go.Proofs.Ytjibcpfgnnmfjaa.Pure
