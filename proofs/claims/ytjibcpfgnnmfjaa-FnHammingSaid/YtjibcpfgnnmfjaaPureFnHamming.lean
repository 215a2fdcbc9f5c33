/- The laws of the error-correcting code hold of the drawn byte and word; no condition. -/
import Derived.Test.YtjibcpfgnnmfjaaGF
import Derived.Test.YtjibcpfgnnmfjaaHam
import Derived.Test.YtjibcpfgnnmfjaaQFnHammingx5
import Derived.OpenShut
set_option linter.unusedVariables false
set_option linter.unusedSimpArgs false
namespace Go.Proofs.Ytjibcpfgnnmfjaa.Pure
open Go.RowKit Go.Proofs.Ytjibcpfgnnmfjaa.PFnHamming Go.Proofs.YtjibcpfgnnmfjaaW.PrintWords Go.Proofs.YtjibcpfgnnmfjaaW.PrintLast Go.Proofs.YtjibcpfgnnmfjaaW.PrintMore Go.Proofs.Ytjibcpfgnnmfjaa.GF Go.Proofs.Ytjibcpfgnnmfjaa.Ham

theorem wr64 (n : Nat) (h : n < 2 ^ 62) : wrap64 (n : Int) = (n : Int) := by unfold wrap64; omega
theorem wri (n : Int) (h : 0 ≤ n) (h1 : n < 2 ^ 62) : wrap64 n = n := by unfold wrap64; omega
theorem byte_of {x : Int} (h : (Lit.int .u8 x).wf = true) : ∃ n : Nat, n < 256 ∧ x = (n : Int) := by
  have := bounds_u8 h
  exact ⟨x.toNat, by omega, by omega⟩
theorem shr_nat (b j q : Nat) (hj : j ≤ 8) (hq : q = b / 2 ^ j) : shr .u8 (b : Int) (j : Int) = (q : Int) := by
  unfold shr
  rw [Int.toNat_natCast, Nat.min_eq_left (show j ≤ IntKind.bits .u8 from hj), hq]
  simp
theorem and1_nat (q : Nat) (hq : q < 256) : Go.bits .and .u8 (q : Int) 1 = ((q % 2 : Nat) : Int) := by
  rw [and1_u8 (q : Int) (by omega) (by omega)]; simp
theorem and1_inat (q : Nat) (hq : q < 2 ^ 62) : Go.bits .and .i64 (q : Int) 1 = ((q % 2 : Nat) : Int) := by
  rw [and1_i64 (q : Int) (by omega) (by omega)]; simp
theorem dbl (x : Nat) (hx : x < 256) : wrap64 ((x : Int) * 2) = ((2 * x : Nat) : Int) := by unfold wrap64; omega
theorem inc (j : Nat) (hj : j < 2 ^ 62) : wrap64 ((j : Int) + 1) = ((j + 1 : Nat) : Int) := by unfold wrap64; omega
theorem x285 (x : Nat) (hx : x < 256) : Go.bits .xor .i64 ((2 * x : Nat) : Int) 285 = ((2 * x ^^^ 285 : Nat) : Int) := xor_i64 (2 * x) 285 (by omega) (by omega)
theorem xor_nat (o x : Nat) (ho : o < 256) (hx : x < 256) : Go.bits .xor .i64 (o : Int) (x : Int) = ((o ^^^ x : Nat) : Int) := xor_i64 o x (by omega) (by omega)
theorem xt_hi (x : Nat) (h : 2 * x > 255) : xt x = 2 * x ^^^ 285 := by unfold xt; rw [if_pos h]
theorem xt_lo (x : Nat) (h : ¬ 2 * x > 255) : xt x = 2 * x := by unfold xt; rw [if_neg h]

theorem within_tells (a b c : Int) : impl_within.f a b c = some (decide (a ≥ b ∧ a ≤ c)) := by
  unfold impl_within.f
  split
  · rename_i h; simp [h]
  · rename_i h; simp [h]
theorem l1In_tells (a b c : Int) : spec_l1In.f a b c = some (decide (a ≥ b ∧ a ≤ c)) := by
  unfold spec_l1In.f
  split
  · rename_i h; simp [h]
  · rename_i h; simp [h]

theorem ev_of {α : Type} {g : Nat → Option α} {r : α} (K : Nat) (h : ∀ k, K < k → g k = some r) : Ev g r := ⟨K + 1, fun k hk => h k (by omega)⟩
theorem evp {α : Type} {c : Prop} [Decidable c] {f g : Nat → Option α} {r : α} (h : c) (k : Ev f r) : Ev (fun n => if c then f n else g n) r := Ev.congr (fun _ => if_pos h) k
theorem evn {α : Type} {c : Prop} [Decidable c] {f g : Nat → Option α} {r : α} (h : ¬ c) (k : Ev g r) : Ev (fun n => if c then f n else g n) r := Ev.congr (fun _ => if_neg h) k
theorem ev_some {α β : Type} {a : α} {f : Nat → α → Option β} {r : β} (h : Ev (fun n => f n a) r) : Ev (fun n => (some a).bind (f n)) r := h
theorem ev_to_some {α β : Type} {o : Option α} {a : α} {f : Nat → α → Option β} {r : β} (ho : o = some a) (h : Ev (fun n => f n a) r) : Ev (fun n => o.bind (f n)) r := by subst ho; exact h
theorem maxLen_lt : maxLen < 2 ^ 63 := by decide

/-- the count of ones, as math/bits reckons it, on natural numbers -/
def swar (n : Nat) : Nat :=
  let a := (n / 2 &&& 6148914691236517205) + (n &&& 6148914691236517205)
  let b := (a / 4 &&& 3689348814741910323) + (a &&& 3689348814741910323)
  let c := (b / 16 + b) &&& 1085102592571150095
  let d := c + c / 256
  let e := d + d / 65536
  (e + e / 4294967296) &&& 127
set_option maxHeartbeats 8000000 in
theorem swar_wt : ∀ a : Nat, a < 128 → ∀ b : Nat, b < 64 → swar (64 * a + b) = wtN 13 (64 * a + b) := by decide +kernel
theorem swar_is (n : Nat) (h : n < 8192) : swar n = wtN 13 n := by
  have h1 := swar_wt (n / 64) (by omega) (n % 64) (by omega)
  rw [Nat.div_add_mod] at h1
  exact h1
theorem band (k : IntKind) (j : Nat) (hj : j ≤ k.bits) (hk : ∀ n : Int, 0 ≤ n → n < 2 ^ j → k.wrap n = n) (a b : Nat) (ha : a < 2 ^ j) (hb : b < 2 ^ j) : Go.bits .and k (a : Int) (b : Int) = ((a &&& b : Nat) : Int) := (bits_nat k j hj hk a b ha hb).1
theorem u64_wrap (n : Int) : IntKind.u64.wrap n = n % 18446744073709551616 := by simp [IntKind.wrap, IntKind.bits, IntKind.signed]
theorem wraps_u64 (n : Int) (h₀ : 0 ≤ n) (h₁ : n < 2 ^ 64) : IntKind.u64.wrap n = n := by
  rw [u64_wrap]; omega
theorem and_u64 (a b : Nat) (ha : a < 2 ^ 64) (hb : b < 2 ^ 64) : Go.bits .and .u64 (a : Int) (b : Int) = ((a &&& b : Nat) : Int) := band .u64 64 (by decide) wraps_u64 a b ha hb
theorem and_i64 (a b : Nat) (ha : a < 2 ^ 63) (hb : b < 2 ^ 63) : Go.bits .and .i64 (a : Int) (b : Int) = ((a &&& b : Nat) : Int) := band .i64 63 (by decide) wraps_i64 a b ha hb
theorem wrap_add (a b : Nat) (h : a + b < 2 ^ 64) : IntKind.u64.wrap ((a : Int) + (b : Int)) = ((a + b : Nat) : Int) := by
  rw [wraps_u64 _ (by omega) (by omega)]; omega
theorem div_nat (a m : Nat) : (a : Int) / (m : Int) = ((a / m : Nat) : Int) := by simp
theorem ones64 (n : Nat) (h : n < 8192) : bits_OnesCount64.f (n : Int) = some ((swar n : Nat) : Int) := by
  unfold bits_OnesCount64.f
  have l1 : (n / 2 &&& 6148914691236517205) ≤ n / 2 := Nat.and_le_left
  have l2 : (n &&& 6148914691236517205) ≤ n := Nat.and_le_left
  have e1 : Go.bits .and .u64 ((n : Int) / 2) 6148914691236517205 = ((n / 2 &&& 6148914691236517205 : Nat) : Int) := by
    rw [show (n : Int) / 2 = ((n / 2 : Nat) : Int) from div_nat n 2]; exact and_u64 (n / 2) 6148914691236517205 (by omega) (by omega)
  have e2 : Go.bits .and .u64 (n : Int) 6148914691236517205 = ((n &&& 6148914691236517205 : Nat) : Int) := and_u64 n 6148914691236517205 (by omega) (by omega)
  rw [e1, e2, wrap_add _ _ (by omega)]
  clear e1 e2
  have ha : (n / 2 &&& 6148914691236517205) + (n &&& 6148914691236517205) < 16384 := by omega
  unfold swar
  generalize (n / 2 &&& 6148914691236517205) + (n &&& 6148914691236517205) = a at ha ⊢
  have l1 : (a / 4 &&& 3689348814741910323) ≤ a / 4 := Nat.and_le_left
  have l2 : (a &&& 3689348814741910323) ≤ a := Nat.and_le_left
  have e1 : Go.bits .and .u64 ((a : Int) / 4) 3689348814741910323 = ((a / 4 &&& 3689348814741910323 : Nat) : Int) := by
    rw [show (a : Int) / 4 = ((a / 4 : Nat) : Int) from div_nat a 4]; exact and_u64 (a / 4) 3689348814741910323 (by omega) (by omega)
  have e2 : Go.bits .and .u64 (a : Int) 3689348814741910323 = ((a &&& 3689348814741910323 : Nat) : Int) := and_u64 a 3689348814741910323 (by omega) (by omega)
  rw [e1, e2, wrap_add _ _ (by omega)]
  clear e1 e2
  have hb : (a / 4 &&& 3689348814741910323) + (a &&& 3689348814741910323) < 32768 := by omega
  simp only []
  generalize (a / 4 &&& 3689348814741910323) + (a &&& 3689348814741910323) = b at hb ⊢
  have e1 : Go.bits .and .u64 (IntKind.u64.wrap ((b : Int) / 16 + (b : Int))) 1085102592571150095 = (((b / 16 + b) &&& 1085102592571150095 : Nat) : Int) := by
    rw [show (b : Int) / 16 = ((b / 16 : Nat) : Int) from div_nat b 16, wrap_add _ _ (by omega)]
    exact and_u64 (b / 16 + b) 1085102592571150095 (by omega) (by omega)
  rw [e1]
  clear e1
  have l1 : ((b / 16 + b) &&& 1085102592571150095) ≤ b / 16 + b := Nat.and_le_left
  have hc : ((b / 16 + b) &&& 1085102592571150095) < 65536 := by omega
  generalize (b / 16 + b) &&& 1085102592571150095 = c at hc ⊢
  have e1 : IntKind.u64.wrap ((c : Int) + (c : Int) / 256) = ((c + c / 256 : Nat) : Int) := by
    rw [show (c : Int) / 256 = ((c / 256 : Nat) : Int) from div_nat c 256, wrap_add _ _ (by omega)]
  rw [e1]
  clear e1
  have hd : c + c / 256 < 131072 := by omega
  generalize c + c / 256 = d at hd ⊢
  have e1 : IntKind.u64.wrap ((d : Int) + (d : Int) / 65536) = ((d + d / 65536 : Nat) : Int) := by
    rw [show (d : Int) / 65536 = ((d / 65536 : Nat) : Int) from div_nat d 65536, wrap_add _ _ (by omega)]
  rw [e1]
  clear e1
  have he : d + d / 65536 < 262144 := by omega
  generalize d + d / 65536 = e at he ⊢
  have e1 : IntKind.u64.wrap ((e : Int) + (e : Int) / 4294967296) = ((e + e / 4294967296 : Nat) : Int) := by
    rw [show (e : Int) / 4294967296 = ((e / 4294967296 : Nat) : Int) from div_nat e 4294967296, wrap_add _ _ (by omega)]
  rw [e1, wri _ (by omega) (by omega)]
  congr 1
  exact and_i64 _ 127 (by omega) (by omega)
theorem ones_is (n : Nat) (h : n < 8192) : impl_ones.f (n : Int) = some ((wtN 13 n : Nat) : Int) := by
  unfold impl_ones.f bits_OnesCount.f
  rw [wraps_u64 _ (by omega) (by omega), ones64 n h, swar_is n h]
  rfl

theorem wtN_zero (d : Nat) : wtN d 0 = 0 := by
  induction d with
  | zero => rfl
  | succ d ih => simp [wtN, ih]
theorem spec_weight_l (d : Nat) : ∀ (k n c : Nat), n < 2 ^ d → d ≤ 20 → d < k → c + d < 2 ^ 60 → spec_l4Weight.l0 k (n : Int) (c : Int) = some ((c + wtN d n : Nat) : Int) := by
  induction d with
  | zero =>
    intro k n c hn _ hk hc
    obtain ⟨k, rfl⟩ : ∃ m, k = m + 1 := ⟨k - 1, by omega⟩
    obtain rfl : n = 0 := by simpa using hn
    simp only [spec_l4Weight.l0]
    rw [if_neg (by omega)]; rfl
  | succ d ih =>
    intro k n c hn hd hk hc
    obtain ⟨k, rfl⟩ : ∃ m, k = m + 1 := ⟨k - 1, by omega⟩
    by_cases h0 : n = 0
    · subst h0
      rw [wtN_zero]
      simp only [spec_l4Weight.l0]
      rw [if_neg (by omega)]; rfl
    have hn2 : n / 2 < 2 ^ d := by rw [Nat.pow_succ] at hn; omega
    have hn62 : n < 2 ^ 62 := Nat.lt_of_lt_of_le hn (Nat.pow_le_pow_right (by decide) (by omega))
    have h1 := ih k (n / 2) (c + n % 2) hn2 (by omega) (by omega) (by omega)
    simp only [spec_l4Weight.l0]
    rw [if_pos (by omega), and1_inat n hn62, show wrap64 ((c : Int) + ((n % 2 : Nat) : Int)) = ((c + n % 2 : Nat) : Int) by rw [wri _ (by omega) (by omega)]; omega, show (n : Int) / 2 = ((n / 2 : Nat) : Int) by simp, h1]
    simp only [wtN]
    rw [Nat.add_assoc]
theorem spec_weight (n : Nat) (h : n < 8192) (k : Nat) (hk : 13 < k) : spec_l4Weight.f k (n : Int) = some ((wtN 13 n : Nat) : Int) := by
  unfold spec_l4Weight.f
  have := spec_weight_l 13 k n 0 h (by omega) hk (by omega)
  rw [Nat.zero_add] at this
  exact this
theorem weights (n : Nat) (h : n < 8192) : ∃ r, spec_l4Weight.f 20 (n : Int) = some r ∧ impl_ones.f (n : Int) = some r := ⟨_, spec_weight n h 20 (by omega), ones_is n h⟩

theorem shr_i (n j : Nat) (hj : j ≤ 64) : shr .i64 (n : Int) (j : Int) = ((n / 2 ^ j : Nat) : Int) := by
  unfold shr
  rw [Int.toNat_natCast, Nat.min_eq_left (show j ≤ IntKind.bits .i64 from hj)]
  simp
theorem shl_i (b p : Nat) (hp : p ≤ 12) (hb : b < 2 ^ 40) : shl .i64 (b : Int) (p : Int) = ((b * 2 ^ p : Nat) : Int) := by
  unfold shl
  rw [Int.toNat_natCast, Nat.min_eq_left (show p ≤ IntKind.bits .i64 from Nat.le_trans hp (by decide))]
  have h1 := pow_le12 p hp
  have h2 : b * 2 ^ p ≤ b * 4096 := Nat.mul_le_mul_left _ h1
  have e : (b : Int) * 2 ^ p = ((b * 2 ^ p : Nat) : Int) := by push_cast; rfl
  rw [e]
  exact wraps_i64 _ (by omega) (by omega)
theorem or_i (a b : Nat) (ha : a < 2 ^ 63) (hb : b < 2 ^ 63) : Go.bits .or .i64 (a : Int) (b : Int) = ((a ||| b : Nat) : Int) := (bits_nat .i64 63 (by decide) wraps_i64 a b ha hb).2
theorem and_i (a b : Nat) (ha : a < 2 ^ 63) (hb : b < 2 ^ 63) : Go.bits .and .i64 (a : Int) (b : Int) = ((a &&& b : Nat) : Int) := (bits_nat .i64 63 (by decide) wraps_i64 a b ha hb).1
theorem u64n (x : Nat) (h : x < 2 ^ 63) : IntKind.u64.wrap (x : Int) = (x : Int) := by
  simp [IntKind.wrap, IntKind.bits, IntKind.signed]; omega
theorem tmod2 (n : Nat) : Int.tmod (n : Int) 2 = ((n % 2 : Nat) : Int) := by
  rw [Int.tmod_eq_emod_of_nonneg (by omega)]; simp
theorem bit_of (n j : Nat) (hj : j ≤ 64) (hn : n < 2 ^ 60) : Go.bits .and .i64 (shr .i64 (n : Int) (j : Int)) 1 = ((n / 2 ^ j % 2 : Nat) : Int) := by
  rw [shr_i n j hj]
  exact and1_inat _ (Nat.lt_of_le_of_lt (Nat.div_le_self _ _) (by omega))
theorem rd_pl : ∀ i : Nat, i < 8 → rd ([3, 5, 6, 7, 9, 10, 11, 12] : List Int) (i : Int) = ((plN i : Nat) : Int) := by decide
theorem half_pow (w k : Nat) : w / 2 ^ k / 2 = w / 2 ^ (k + 1) := by rw [Nat.div_div_eq_div_mul, ← Nat.pow_succ]
def parF : Nat → Nat → Nat → Bool → Bool
  | 0, _, _, o => o
  | d + 1, k, w, o => parF d (k + 1) w (if w / 2 ^ k % 2 = 1 then !o else o)
theorem parF_is (d : Nat) : ∀ k w o, parF d k w o = (o != (wtN d (w / 2 ^ k) % 2 == 1)) := by
  induction d with
  | zero => intro k w o; simp [parF, wtN]
  | succ d ih =>
    intro k w o
    show parF d (k + 1) w (if w / 2 ^ k % 2 = 1 then !o else o) = (o != ((w / 2 ^ k % 2 + wtN d (w / 2 ^ k / 2)) % 2 == 1))
    rw [ih, half_pow]
    generalize wtN d (w / 2 ^ (k + 1)) = m
    have h2 := Nat.mod_two_eq_zero_or_one m
    rcases Nat.mod_two_eq_zero_or_one (w / 2 ^ k) with h | h
    · rw [h, if_neg (by omega), Nat.zero_add]
    · rw [h, if_pos rfl]
      rcases h2 with h2 | h2
      · rw [h2, show (1 + m) % 2 = 1 by omega]; cases o <;> rfl
      · rw [h2, show (1 + m) % 2 = 0 by omega]; cases o <;> rfl

theorem impl_sum_l (w : Nat) (hw : w < 2 ^ 60) (d : Nat) : ∀ (k i x : Nat), i + d = 13 → d < k → x < 16 → impl_sumOf.l0 k (w : Int) (x : Int) (i : Int) = some ((sumF d i w x : Nat) : Int) := by
  induction d with
  | zero =>
    intro k i x hi hk hx
    obtain ⟨k, rfl⟩ : ∃ m, k = m + 1 := ⟨k - 1, by omega⟩
    simp only [impl_sumOf.l0]
    rw [if_neg (by omega)]; rfl
  | succ d ih =>
    intro k i x hi hk hx
    obtain ⟨k, rfl⟩ : ∃ m, k = m + 1 := ⟨k - 1, by omega⟩
    have i1 := ih k (i + 1) (x ^^^ i) (by omega) (by omega) (Nat.xor_lt_two_pow (n := 4) hx (by omega))
    have i2 := ih k (i + 1) x (by omega) (by omega) hx
    simp only [impl_sumOf.l0, sumF]
    rw [if_pos (by omega), if_pos (by omega), bit_of w i (by omega) hw, inc i (by omega), xor_i64 x i (by omega) (by omega)]
    by_cases h : w / 2 ^ i % 2 = 1
    · rw [if_pos (by rw [h]; rfl), if_pos h]; exact i1
    · rw [if_neg (fun e => h (by exact_mod_cast e)), if_neg h]; exact i2
theorem impl_sum (w k : Nat) (hw : w < 2 ^ 60) (hk : 13 < k) : impl_sumOf.f k (w : Int) = some ((sumF 12 1 w 0 : Nat) : Int) := impl_sum_l w hw 12 k 1 0 (by omega) (by omega) (by omega)

theorem spec_syn_l (w : Nat) (hw : w < 2 ^ 60) (d : Nat) : ∀ (k i x : Nat) (o : Bool), i + d = 13 → d < k → x < 16 → spec_l4Syndrome.l0 k (w : Int) (x : Int) o (i : Int) = some (((sumF d i w x : Nat) : Int), parF d i w o) := by
  induction d with
  | zero =>
    intro k i x o hi hk hx
    obtain ⟨k, rfl⟩ : ∃ m, k = m + 1 := ⟨k - 1, by omega⟩
    simp only [spec_l4Syndrome.l0]
    rw [if_neg (by omega)]; rfl
  | succ d ih =>
    intro k i x o hi hk hx
    obtain ⟨k, rfl⟩ : ∃ m, k = m + 1 := ⟨k - 1, by omega⟩
    have i1 := ih k (i + 1) (x ^^^ i) (!o) (by omega) (by omega) (Nat.xor_lt_two_pow (n := 4) hx (by omega))
    have i2 := ih k (i + 1) x o (by omega) (by omega) hx
    simp only [spec_l4Syndrome.l0, sumF, parF]
    rw [if_pos (by omega), u64n i (by omega), if_pos (by omega), bit_of w i (by omega) hw, inc i (by omega), xor_i64 x i (by omega) (by omega)]
    by_cases h : w / 2 ^ i % 2 = 1
    · rw [if_pos (by rw [h]; rfl), if_pos h, if_pos h]; exact i1
    · rw [if_neg (fun e => h (by exact_mod_cast e)), if_neg h, if_neg h]; exact i2
theorem spec_syn (w k : Nat) (hw : w < 2 ^ 60) (hk : 13 < k) : spec_l4Syndrome.f k (w : Int) = some (((sumF 12 1 w 0 : Nat) : Int), (wtN 13 w % 2 == 1)) := by
  have h := spec_syn_l w hw 13 k 0 0 false (by omega) hk (by omega)
  rw [parF_is] at h
  have e : sumF 13 0 w 0 = sumF 12 1 w 0 := by
    show sumF 12 1 w (if w / 2 ^ 0 % 2 = 1 then 0 ^^^ 0 else 0) = _
    rw [show (if w / 2 ^ 0 % 2 = 1 then 0 ^^^ 0 else 0 : Nat) = 0 by split <;> rfl]
  rw [e] at h
  unfold spec_l4Syndrome.f
  simpa using h

theorem impl_enc_l0 (n : Nat) (hn : n < 2 ^ 60) (r : Int) (d : Nat) : ∀ (k i w : Nat), i + d = 8 → d < k → w < 8192 →
    (∀ k', k' + d + 1 = k → ((impl_sumOf.f k' ((putN d n i w : Nat) : Int)).bind fun t127 => ((some (([1, 2, 4, 8] : List Int) : List Int)).bind fun y128 => (impl_encoded.l1 k' ((putN d n i w : Nat) : Int) t127 y128 (y128.length : Int) 0))) = some r) →
    impl_encoded.l0 k (n : Int) (w : Int) [3, 5, 6, 7, 9, 10, 11, 12] 8 (i : Int) = some r := by
  induction d with
  | zero =>
    intro k i w hi hk hw h
    obtain ⟨k, rfl⟩ : ∃ m, k = m + 1 := ⟨k - 1, by omega⟩
    simp only [impl_encoded.l0]
    rw [if_neg (by omega)]
    exact h k (by omega)
  | succ d ih =>
    intro k i w hi hk hw h
    obtain ⟨k, rfl⟩ : ∃ m, k = m + 1 := ⟨k - 1, by omega⟩
    have hp := plN_le i
    have hb := bit_lt (n / 2 ^ i) (plN i) hp
    have i1 := ih k (i + 1) (w ||| (n / 2 ^ i % 2) * 2 ^ plN i) (by omega) (by omega) (or_lt13 _ _ hw hb) (fun k' hk' => h k' (by omega))
    simp only [impl_encoded.l0]
    rw [if_pos (by omega), if_pos (by omega), if_pos (by show (i : Int) < 8; omega), rd_pl i (by omega), if_pos (by omega), bit_of n i (by omega) hn, shl_i _ _ hp (by omega), or_i _ _ (by omega) (by omega), inc i (by omega)]
    exact i1
theorem rd_ck0 : rd ([1, 2, 4, 8] : List Int) ((0 : Nat) : Int) = ((1 : Nat) : Int) := by decide
theorem rd_ck1 : rd ([1, 2, 4, 8] : List Int) ((1 : Nat) : Int) = ((2 : Nat) : Int) := by decide
theorem rd_ck2 : rd ([1, 2, 4, 8] : List Int) ((2 : Nat) : Int) = ((4 : Nat) : Int) := by decide
theorem rd_ck3 : rd ([1, 2, 4, 8] : List Int) ((3 : Nat) : Int) = ((8 : Nat) : Int) := by decide
theorem impl_ck_step (k x w i q : Nat) (hi : i < 4) (hq : q ≤ 8) (hr : rd ([1, 2, 4, 8] : List Int) (i : Int) = (q : Int)) (hx : x < 16) (hw : w < 8192) :
    impl_encoded.l1 (k + 1) (w : Int) (x : Int) [1, 2, 4, 8] 4 (i : Int) = impl_encoded.l1 k ((if x &&& q = 0 then w else w ||| 2 ^ q : Nat) : Int) (x : Int) [1, 2, 4, 8] 4 ((i + 1 : Nat) : Int) := by
  simp only [impl_encoded.l1]
  rw [if_pos (by omega), if_pos (by omega), if_pos (by show (i : Int) < 4; omega), hr, and_i x q (by omega) (by omega), inc i (by omega)]
  by_cases h : x &&& q = 0
  · rw [if_pos (by rw [h]; rfl), if_pos h]
  · have h1 := pow_le12 q (by omega)
    rw [if_neg (fun e => h (by exact_mod_cast e)), if_neg h, if_pos (by omega), show (1 : Int) = ((1 : Nat) : Int) from rfl, shl_i 1 q (by omega) (by omega), Nat.one_mul, or_i _ _ (by omega) (by omega)]
theorem ck_lt (x w q : Nat) (hq : q ≤ 12) (hw : w < 8192) : (if x &&& q = 0 then w else w ||| 2 ^ q) < 8192 := by
  have h1 := pow_le12 q hq
  split
  · exact hw
  · exact or_lt13 _ _ hw (by omega)
theorem impl_ck (k x w : Nat) (hx : x < 16) (hw : w < 8192) (hk : 4 < k) : impl_encoded.l1 k (w : Int) (x : Int) [1, 2, 4, 8] 4 0 = some ((ckN x w ||| wtN 13 (ckN x w) % 2 : Nat) : Int) := by
  obtain ⟨k, rfl⟩ : ∃ m, k = m + 5 := ⟨k - 5, by omega⟩
  have w1 := ck_lt x w 1 (by omega) hw
  have w2 := ck_lt x _ 2 (by omega) w1
  have w3 := ck_lt x _ 4 (by omega) w2
  have w4 := ck_lt x _ 8 (by omega) w3
  rw [show (0 : Int) = ((0 : Nat) : Int) from rfl, show k + 5 = (k + 4) + 1 from rfl, impl_ck_step (k + 4) x w 0 1 (by omega) (by omega) rd_ck0 hx hw,
    show k + 4 = (k + 3) + 1 from rfl, impl_ck_step (k + 3) x _ (0 + 1) 2 (by omega) (by omega) rd_ck1 hx w1,
    show k + 3 = (k + 2) + 1 from rfl, impl_ck_step (k + 2) x _ (0 + 1 + 1) 4 (by omega) (by omega) rd_ck2 hx w2,
    show k + 2 = (k + 1) + 1 from rfl, impl_ck_step (k + 1) x _ (0 + 1 + 1 + 1) 8 (by omega) (by omega) rd_ck3 hx w3]
  have e : (if x &&& 8 = 0 then (if x &&& 4 = 0 then (if x &&& 2 = 0 then (if x &&& 1 = 0 then w else w ||| 2 ^ 1) else (if x &&& 1 = 0 then w else w ||| 2 ^ 1) ||| 2 ^ 2) else (if x &&& 2 = 0 then (if x &&& 1 = 0 then w else w ||| 2 ^ 1) else (if x &&& 1 = 0 then w else w ||| 2 ^ 1) ||| 2 ^ 2) ||| 2 ^ 4) else (if x &&& 4 = 0 then (if x &&& 2 = 0 then (if x &&& 1 = 0 then w else w ||| 2 ^ 1) else (if x &&& 1 = 0 then w else w ||| 2 ^ 1) ||| 2 ^ 2) else (if x &&& 2 = 0 then (if x &&& 1 = 0 then w else w ||| 2 ^ 1) else (if x &&& 1 = 0 then w else w ||| 2 ^ 1) ||| 2 ^ 2) ||| 2 ^ 4) ||| 2 ^ 8 : Nat) = ckN x w := rfl
  rw [e] at w4 ⊢
  generalize ckN x w = v at w4 ⊢
  simp only [impl_encoded.l1]
  rw [if_neg (by omega), ones_is v w4]
  simp only [Option.bind_some]
  rw [tmod2, or_i _ _ (by omega) (by omega)]
theorem impl_enc (n k : Nat) (hn : n < 2 ^ 60) (hk : 40 < k) : impl_encoded.f k (n : Int) = some ((encN n : Nat) : Int) := by
  unfold impl_encoded.f impl_placesOf.f
  simp only [Option.bind_some]
  have hp := putN_lt 8 n 0 0 (by omega)
  refine impl_enc_l0 n hn _ 8 k 0 0 (by omega) (by omega) (by omega) (fun k' hk' => ?_)
  rw [impl_sum _ k' (by omega) (by omega)]
  simp only [Option.bind_some]
  exact impl_ck k' _ _ (sumF_lt 12 1 _ 0 (by omega) (by omega)) hp (by omega)

theorem spec_enc_l0 (n : Nat) (hn : n < 2 ^ 60) (r : Int) (d : Nat) : ∀ (k i w : Nat), i + d = 8 → d < k → w < 8192 →
    (∀ k', k' + d + 1 = k → ((spec_l4Syndrome.f k' ((putN d n i w : Nat) : Int)).bind fun bt108 => ((some (([1, 2, 4, 8] : List Int) : List Int)).bind fun y110 => (spec_l4Encode.l1 k' ((putN d n i w : Nat) : Int) bt108.1 y110 (y110.length : Int) 0))) = some r) →
    spec_l4Encode.l0 k (n : Int) (w : Int) [3, 5, 6, 7, 9, 10, 11, 12] 8 (i : Int) = some r := by
  induction d with
  | zero =>
    intro k i w hi hk hw h
    obtain ⟨k, rfl⟩ : ∃ m, k = m + 1 := ⟨k - 1, by omega⟩
    simp only [spec_l4Encode.l0]
    rw [if_neg (by omega)]
    exact h k (by omega)
  | succ d ih =>
    intro k i w hi hk hw h
    obtain ⟨k, rfl⟩ : ∃ m, k = m + 1 := ⟨k - 1, by omega⟩
    have hp := plN_le i
    have hb := bit_lt (n / 2 ^ i) (plN i) hp
    have i1 := ih k (i + 1) (w ||| (n / 2 ^ i % 2) * 2 ^ plN i) (by omega) (by omega) (or_lt13 _ _ hw hb) (fun k' hk' => h k' (by omega))
    simp only [spec_l4Encode.l0]
    rw [if_pos (by omega), if_pos (by omega), if_pos (by show (i : Int) < 8; omega), rd_pl i (by omega), u64n i (by omega), u64n (plN i) (by omega), if_pos (by omega), if_pos (by omega), bit_of n i (by omega) hn, shl_i _ _ hp (by omega), or_i _ _ (by omega) (by omega), inc i (by omega)]
    exact i1
theorem spec_ck_step (k x w i q : Nat) (hi : i < 4) (hq : q ≤ 8) (hr : rd ([1, 2, 4, 8] : List Int) (i : Int) = (q : Int)) (hx : x < 16) (hw : w < 8192) :
    spec_l4Encode.l1 (k + 1) (w : Int) (x : Int) [1, 2, 4, 8] 4 (i : Int) = spec_l4Encode.l1 k ((if x &&& q = 0 then w else w ||| 2 ^ q : Nat) : Int) (x : Int) [1, 2, 4, 8] 4 ((i + 1 : Nat) : Int) := by
  simp only [spec_l4Encode.l1]
  rw [if_pos (by omega), if_pos (by omega), if_pos (by show (i : Int) < 4; omega), hr, and_i x q (by omega) (by omega), inc i (by omega)]
  by_cases h : x &&& q = 0
  · rw [if_pos (by rw [h]; rfl), if_pos h]
  · have h1 := pow_le12 q (by omega)
    rw [if_neg (fun e => h (by exact_mod_cast e)), if_neg h, u64n q (by omega), if_pos (by omega), show (1 : Int) = ((1 : Nat) : Int) from rfl, shl_i 1 q (by omega) (by omega), Nat.one_mul, or_i _ _ (by omega) (by omega)]
theorem spec_ck (k x w : Nat) (hx : x < 16) (hw : w < 8192) (hk : 20 < k) : spec_l4Encode.l1 k (w : Int) (x : Int) [1, 2, 4, 8] 4 0 = some ((ckN x w ||| wtN 13 (ckN x w) % 2 : Nat) : Int) := by
  obtain ⟨k, rfl⟩ : ∃ m, k = m + 5 := ⟨k - 5, by omega⟩
  have w1 := ck_lt x w 1 (by omega) hw
  have w2 := ck_lt x _ 2 (by omega) w1
  have w3 := ck_lt x _ 4 (by omega) w2
  have w4 := ck_lt x _ 8 (by omega) w3
  rw [show (0 : Int) = ((0 : Nat) : Int) from rfl, show k + 5 = (k + 4) + 1 from rfl, spec_ck_step (k + 4) x w 0 1 (by omega) (by omega) rd_ck0 hx hw,
    show k + 4 = (k + 3) + 1 from rfl, spec_ck_step (k + 3) x _ (0 + 1) 2 (by omega) (by omega) rd_ck1 hx w1,
    show k + 3 = (k + 2) + 1 from rfl, spec_ck_step (k + 2) x _ (0 + 1 + 1) 4 (by omega) (by omega) rd_ck2 hx w2,
    show k + 2 = (k + 1) + 1 from rfl, spec_ck_step (k + 1) x _ (0 + 1 + 1 + 1) 8 (by omega) (by omega) rd_ck3 hx w3]
  have e : (if x &&& 8 = 0 then (if x &&& 4 = 0 then (if x &&& 2 = 0 then (if x &&& 1 = 0 then w else w ||| 2 ^ 1) else (if x &&& 1 = 0 then w else w ||| 2 ^ 1) ||| 2 ^ 2) else (if x &&& 2 = 0 then (if x &&& 1 = 0 then w else w ||| 2 ^ 1) else (if x &&& 1 = 0 then w else w ||| 2 ^ 1) ||| 2 ^ 2) ||| 2 ^ 4) else (if x &&& 4 = 0 then (if x &&& 2 = 0 then (if x &&& 1 = 0 then w else w ||| 2 ^ 1) else (if x &&& 1 = 0 then w else w ||| 2 ^ 1) ||| 2 ^ 2) else (if x &&& 2 = 0 then (if x &&& 1 = 0 then w else w ||| 2 ^ 1) else (if x &&& 1 = 0 then w else w ||| 2 ^ 1) ||| 2 ^ 2) ||| 2 ^ 4) ||| 2 ^ 8 : Nat) = ckN x w := rfl
  rw [e] at w4 ⊢
  generalize ckN x w = v at w4 ⊢
  simp only [spec_l4Encode.l1]
  rw [if_neg (by omega), spec_syn v k (by omega) (by omega)]
  simp only [Option.bind_some]
  rcases Nat.mod_two_eq_zero_or_one (wtN 13 v) with h | h
  · rw [h, if_neg (by decide), Nat.or_zero]
  · rw [h, if_pos (by decide), show (1 : Int) = ((1 : Nat) : Int) from rfl, or_i _ _ (by omega) (by omega)]
theorem spec_enc (n k : Nat) (hn : n < 2 ^ 60) (hk : 40 < k) : spec_l4Encode.f k (n : Int) = some ((encN n : Nat) : Int) := by
  unfold spec_l4Encode.f spec_l4Places.f
  simp only [Option.bind_some]
  have hp := putN_lt 8 n 0 0 (by omega)
  refine spec_enc_l0 n hn _ 8 k 0 0 (by omega) (by omega) (by omega) (fun k' hk' => ?_)
  rw [spec_syn _ k' (by omega) (by omega)]
  simp only [Option.bind_some]
  exact spec_ck k' _ _ (sumF_lt 12 1 _ 0 (by omega) (by omega)) hp (by omega)

theorem impl_get (w : Nat) (hw : w < 2 ^ 60) (m : Int) (d : Nat) : ∀ (k i n : Nat), i + d = 8 → d < k → n < 256 →
    impl_decoded.l0 k (w : Int) m (n : Int) [3, 5, 6, 7, 9, 10, 11, 12] 8 (i : Int) = some (((getN d w i n : Nat) : Int), m) := by
  induction d with
  | zero =>
    intro k i n hi hk hn
    obtain ⟨k, rfl⟩ : ∃ m, k = m + 1 := ⟨k - 1, by omega⟩
    simp only [impl_decoded.l0]
    rw [if_neg (by omega)]; rfl
  | succ d ih =>
    intro k i n hi hk hn
    obtain ⟨k, rfl⟩ : ∃ m, k = m + 1 := ⟨k - 1, by omega⟩
    have hp := plN_le i
    have h1 := Nat.pow_le_pow_right (show 0 < 2 by decide) (show i ≤ 7 by omega)
    have h2 : (w / 2 ^ plN i % 2) * 2 ^ i ≤ 1 * 2 ^ i := Nat.mul_le_mul_right _ (by omega)
    have h3 : (2 : Nat) ^ 7 = 128 := rfl
    have i1 := ih k (i + 1) (n ||| (w / 2 ^ plN i % 2) * 2 ^ i) (by omega) (by omega) (or_lt8 _ _ hn (by omega))
    simp only [impl_decoded.l0, getN]
    rw [if_pos (by omega), if_pos (by omega), if_pos (by show (i : Int) < 8; omega), rd_pl i (by omega), if_pos (by omega), bit_of w _ (by omega) hw, shl_i _ _ (by omega) (by omega), or_i _ _ (by omega) (by omega), inc i (by omega)]
    exact i1
theorem impl_j1 (w k : Nat) (hw : w < 2 ^ 60) (m : Int) (hk : 10 < k) : impl_decoded.j1 k (w : Int) m = some (((getN 8 w 0 0 : Nat) : Int), m) := by
  obtain ⟨k, rfl⟩ : ∃ m, k = m + 1 := ⟨k - 1, by omega⟩
  simp only [impl_decoded.j1]
  unfold impl_placesOf.f
  simp only [Option.bind_some]
  exact impl_get w hw m 8 k 0 0 (by omega) (by omega) (by omega)
theorem pow_x (x : Nat) (h : x ≤ 12) : (2 : Nat) ^ x < 2 ^ 13 := Nat.pow_lt_pow_right (by decide) (by omega)
theorem impl_dec (w k : Nat) (hw : w < 8192) (hk : 20 < k) : impl_decoded.f k (w : Int) = some ((((decN w).1 : Nat) : Int), (((decN w).2 : Nat) : Int)) := by
  unfold impl_decoded.f
  rw [impl_sum w k (by omega) (by omega)]
  simp only [Option.bind_some]
  rw [ones_is w hw]
  simp only [Option.bind_some]
  rw [tmod2]
  obtain ⟨k, rfl⟩ : ∃ m, k = m + 1 := ⟨k - 1, by omega⟩
  have da := decN_a w
  have db := decN_b w
  have dc := decN_c w
  have dd := decN_d w
  generalize sumF 12 1 w 0 = x at da db dc dd ⊢
  have hp := Nat.mod_two_eq_zero_or_one (wtN 13 w)
  generalize wtN 13 w % 2 = p at da db dc dd hp ⊢
  rcases hp with rfl | rfl
  · rw [show (((0 : Nat) : Int) == 1) = false from rfl]
    by_cases h0 : x = 0
    · subst h0
      rw [if_pos (show ((0 : Nat) : Int) = 0 from rfl), da rfl rfl]
      simp only [impl_decoded.j0]
      rw [if_pos (by decide)]
      exact impl_j1 w k (by omega) 0 (by omega)
    · rw [if_neg (by omega), dc h0 rfl]
      simp only [impl_decoded.j0]
      rw [if_neg (by decide), if_neg (by decide)]; rfl
  · rw [show (((1 : Nat) : Int) == 1) = true from rfl]
    have go : impl_decoded.j0 (k + 1) (w : Int) (x : Int) true 0 false = some ((((decN w).1 : Nat) : Int), (((decN w).2 : Nat) : Int)) := by
      simp only [impl_decoded.j0]
      rw [if_neg (by decide), if_pos True.intro]
      by_cases h12 : x ≤ 12
      · have hx := pow_x x h12
        rw [if_pos (by omega), if_pos (by omega), db h12 rfl, show (1 : Int) = ((1 : Nat) : Int) from rfl, shl_i 1 x (by omega) (by omega), Nat.one_mul, xor_i64 _ _ (by omega) (by omega)]
        exact impl_j1 _ k (Nat.lt_of_lt_of_le (Nat.xor_lt_two_pow (n := 13) hw hx) (by decide)) _ (by omega)
      · rw [if_neg (by omega), dd (by omega) rfl]; rfl
    split
    · exact go
    · exact go

theorem spec_get (w : Nat) (hw : w < 2 ^ 60) (d : Nat) : ∀ (k i n : Nat), i + d = 8 → d < k → n < 256 →
    spec_l4Byte.l0 k (w : Int) (n : Int) [3, 5, 6, 7, 9, 10, 11, 12] 8 (i : Int) = some ((getN d w i n : Nat) : Int) := by
  induction d with
  | zero =>
    intro k i n hi hk hn
    obtain ⟨k, rfl⟩ : ∃ m, k = m + 1 := ⟨k - 1, by omega⟩
    simp only [spec_l4Byte.l0]
    rw [if_neg (by omega)]; rfl
  | succ d ih =>
    intro k i n hi hk hn
    obtain ⟨k, rfl⟩ : ∃ m, k = m + 1 := ⟨k - 1, by omega⟩
    have hp := plN_le i
    have h1 := Nat.pow_le_pow_right (show 0 < 2 by decide) (show i ≤ 7 by omega)
    have h2 : (w / 2 ^ plN i % 2) * 2 ^ i ≤ 1 * 2 ^ i := Nat.mul_le_mul_right _ (by omega)
    have h3 : (2 : Nat) ^ 7 = 128 := rfl
    have i1 := ih k (i + 1) (n ||| (w / 2 ^ plN i % 2) * 2 ^ i) (by omega) (by omega) (or_lt8 _ _ hn (by omega))
    simp only [spec_l4Byte.l0, getN]
    rw [if_pos (by omega), if_pos (by omega), if_pos (by show (i : Int) < 8; omega), rd_pl i (by omega), u64n (plN i) (by omega), u64n i (by omega), if_pos (by omega), if_pos (by omega), bit_of w _ (by omega) hw, shl_i _ _ (by omega) (by omega), or_i _ _ (by omega) (by omega), inc i (by omega)]
    exact i1
theorem spec_byte (w k : Nat) (hw : w < 2 ^ 60) (hk : 10 < k) : spec_l4Byte.f k (w : Int) = some ((getN 8 w 0 0 : Nat) : Int) := by
  unfold spec_l4Byte.f spec_l4Places.f
  simp only [Option.bind_some]
  exact spec_get w hw 8 k 0 0 (by omega) (by omega) (by omega)
theorem pow_y (x : Nat) (h : x ≤ 12) : (2 : Nat) ^ x < 2 ^ 13 := Nat.pow_lt_pow_right (by decide) (by omega)
theorem spec_dec (w k : Nat) (hw : w < 8192) (hk : 20 < k) : spec_l4Decode.f k (w : Int) = some ((((decN w).1 : Nat) : Int), (((decN w).2 : Nat) : Int)) := by
  unfold spec_l4Decode.f
  rw [spec_syn w k (by omega) (by omega)]
  simp only [Option.bind_some]
  obtain ⟨k, rfl⟩ : ∃ m, k = m + 1 := ⟨k - 1, by omega⟩
  have da := decN_a w
  have db := decN_b w
  have dc := decN_c w
  have dd := decN_d w
  generalize sumF 12 1 w 0 = x at da db dc dd ⊢
  have hp := Nat.mod_two_eq_zero_or_one (wtN 13 w)
  generalize wtN 13 w % 2 = p at da db dc dd hp ⊢
  rcases hp with rfl | rfl
  · rw [show ((0 : Nat) == 1) = false from rfl]
    by_cases h0 : x = 0
    · subst h0
      rw [if_pos (show ((0 : Nat) : Int) = 0 from rfl), da rfl rfl]
      simp only [spec_l4Decode.j0]
      rw [if_pos (by decide), spec_byte w k (by omega) (by omega)]; rfl
    · rw [if_neg (by omega), dc h0 rfl]
      simp only [spec_l4Decode.j0]
      rw [if_neg (by decide), if_neg (by decide)]; rfl
  · rw [show ((1 : Nat) == 1) = true from rfl]
    have go : spec_l4Decode.j0 (k + 1) (w : Int) (x : Int) true false = some ((((decN w).1 : Nat) : Int), (((decN w).2 : Nat) : Int)) := by
      simp only [spec_l4Decode.j0]
      rw [if_neg (by decide), if_pos True.intro]
      by_cases h12 : x ≤ 12
      · have hx := pow_y x h12
        rw [if_pos (by omega), u64n x (by omega), if_pos (by omega), db h12 rfl, show (1 : Int) = ((1 : Nat) : Int) from rfl, shl_i 1 x (by omega) (by omega), Nat.one_mul, xor_i64 _ _ (by omega) (by omega), spec_byte _ k (Nat.lt_of_lt_of_le (Nat.xor_lt_two_pow (n := 13) hw hx) (by decide)) (by omega)]; rfl
      · rw [if_neg (by omega), dd (by omega) rfl]; rfl
    split
    · exact go
    · exact go

/-! ### The cursor that draws -/
theorem cur_wraps (n : Int) (h₀ : 0 ≤ n) (h₁ : n < 2 ^ 64) : IntKind.u64.wrap n = n := by rw [IntKind.wrap_u64]; omega
theorem cur_and (y : Int) (h0 : 0 ≤ y) (h1 : y < 2 ^ 64) : Go.bits .and .u64 y 255 = y % 256 := bits_mask .u64 64 (by decide) cur_wraps 8 (by decide) y h0 h1
theorem cur_byte (u : Int) : ∃ b : Int, wrap64 (Go.bits .and .u64 ((IntKind.u64.wrap u) / 1099511627776) 255) = b ∧ 0 ≤ b ∧ b ≤ 255 := by
  refine ⟨_, rfl, ?_⟩
  have h := IntKind.wrap_u64 u
  generalize IntKind.u64.wrap u = v at h
  have hv : 0 ≤ v ∧ v < 2 ^ 64 := by omega
  clear h
  obtain ⟨y, hy⟩ : ∃ y, y = v / 1099511627776 := ⟨_, rfl⟩
  rw [← hy, cur_and y (by omega) (by omega)]
  clear hv
  unfold wrap64
  omega
theorem cur_rd (xs : List Int) (hb : ∀ x ∈ xs, (Lit.int .u8 x).wf = true) (i : Int) (h0 : 0 ≤ i) (h1 : i < (xs.length : Int)) : 0 ≤ rd xs i ∧ rd xs i ≤ 255 := by
  have hm : rd xs i ∈ xs := by
    unfold rd
    rw [List.getD_eq_getElem?_getD, List.getElem?_eq_getElem (show i.toNat < xs.length by omega)]
    simp
  have := bounds_u8 (hb _ hm)
  omega
section
variable (xs : List Int) (hb : ∀ x ∈ xs, (Lit.int .u8 x).wf = true)
include hb
theorem cur_next (a s n : Int) (h0 : 0 ≤ a) (h1 : a ≤ n) (hn : n < 2 ^ 60) : ∃ b a' s', spec_l1Cur_next.f xs a s = some (b, a', s') ∧ 0 ≤ b ∧ b ≤ 255 ∧ 0 ≤ a' ∧ a' ≤ n + 1 := by
  have hw : wrap64 (a + 1) = a + 1 := by unfold wrap64; omega
  unfold spec_l1Cur_next.f
  rw [hw]
  by_cases c1 : a < (xs.length : Int)
  · have hr := cur_rd xs hb a h0 c1
    rw [if_pos c1, if_pos h0]
    have hr2 : wrap64 (rd xs a) = rd xs a := by unfold wrap64; omega
    rw [hr2]
    by_cases c2 : a + 1 ≤ (xs.length : Int)
    · rw [if_pos c2]; exact ⟨_, _, _, rfl, hr.1, hr.2, by omega, by omega⟩
    · omega
  · rw [if_neg c1, if_neg (by omega)]
    obtain ⟨b, hb1, hb2, hb3⟩ := cur_byte ((IntKind.u64.wrap ((IntKind.u64.wrap (s * 6364136223846793005)) + 0)) + 1442695040888963407)
    rw [hb1]
    exact ⟨_, _, _, rfl, hb2, hb3, by omega, by omega⟩
theorem cur_pick (a s n m : Int) (h0 : 0 ≤ a) (h1 : a ≤ n) (hn : n < 2 ^ 59) (hm : m < 2 ^ 40) : ∃ b a' s', spec_l1Cur_pick.f xs a s m = some (b, a', s') ∧ 0 ≤ b ∧ (b < m ∨ b = 0) ∧ 0 ≤ a' ∧ a' ≤ n + 2 := by
  unfold spec_l1Cur_pick.f
  by_cases c1 : m ≤ 1
  · rw [if_pos c1]; exact ⟨0, a, s, rfl, by omega, .inr rfl, h0, by omega⟩
  · obtain ⟨b, a1, s1, e1, b0, b1, p0, p1⟩ := cur_next xs hb a s n h0 h1 (by omega)
    rw [if_neg c1, e1]
    simp only [Option.bind_some]
    by_cases c2 : m > 200
    · obtain ⟨b2, a2, s2, e2, q0, q1, r0, r1⟩ := cur_next xs hb a1 s1 (n + 1) p0 p1 (by omega)
      rw [if_pos c2, e2]
      simp only [Option.bind_some]
      rw [if_neg (by omega)]
      have hw : wrap64 ((wrap64 (b * 256)) + b2) = b * 256 + b2 := by unfold wrap64; omega
      rw [hw, Int.tmod_eq_emod_of_nonneg (by omega)]
      have h1 := Int.emod_nonneg (b * 256 + b2) (show m ≠ 0 by omega)
      have h2 := Int.emod_lt_of_pos (b * 256 + b2) (show 0 < m by omega)
      exact ⟨_, _, _, rfl, h1, .inl h2, r0, by omega⟩
    · rw [if_neg c2, if_neg (by omega), Int.tmod_eq_emod_of_nonneg (by omega)]
      have h1 := Int.emod_nonneg b (show m ≠ 0 by omega)
      have h2 := Int.emod_lt_of_pos b (show 0 < m by omega)
      exact ⟨_, _, _, rfl, h1, .inl h2, p0, by omega⟩
end

section
variable (xs : List Int) (hb : ∀ x ∈ xs, (Lit.int .u8 x).wf = true)
include hb
theorem cur_among (a s n : Int) (L : List Int) (hL : 0 < L.length) (hL2 : L.length < 2 ^ 39) (h0 : 0 ≤ a) (h1 : a ≤ n) (hn : n < 2 ^ 59) : ∃ b a' s', spec_l1Cur_among.f xs a s L = some (b, a', s') ∧ b ∈ L ∧ 0 ≤ a' ∧ a' ≤ n + 2 := by
  obtain ⟨i, a1, s1, e1, i0, i1, p0, p1⟩ := cur_pick xs hb a s n (L.length : Int) h0 h1 hn (by omega)
  unfold spec_l1Cur_among.f
  rw [e1]
  simp only [Option.bind_some]
  rw [if_pos i0, if_pos (by omega)]
  refine ⟨_, _, _, rfl, ?_, p0, p1⟩
  unfold rd
  rw [List.getD_eq_getElem?_getD, List.getElem?_eq_getElem (show i.toNat < L.length by omega)]
  simp
end

section
variable (xs : List Int) (hb : ∀ x ∈ xs, (Lit.int .u8 x).wf = true)
include hb
theorem cur_one (a s n m : Int) (h0 : 0 ≤ a) (h1 : a ≤ n) (hn : n < 2 ^ 59) (hm : m < 2 ^ 40) : ∃ b a' s', spec_l1Cur_one.f xs a s m = some (b, a', s') ∧ 0 ≤ a' ∧ a' ≤ n + 2 := by
  obtain ⟨i, a1, s1, e1, i0, i1, p0, p1⟩ := cur_pick xs hb a s n m h0 h1 hn hm
  unfold spec_l1Cur_one.f
  rw [e1]
  exact ⟨_, _, _, rfl, p0, p1⟩
end

set_option linter.unusedSectionVars false
theorem ham_enc_i (n : Int) : Ev (fun k => impl_HamEncode.f k n) (if n ≥ 0 ∧ n ≤ 255 then (((encN n.toNat : Nat) : Int), true) else (0, false)) := by
  unfold impl_HamEncode.f
  refine ev_to_some (within_tells _ _ _) ?_
  by_cases h : n ≥ 0 ∧ n ≤ 255
  · obtain ⟨m, rfl⟩ := Int.eq_ofNat_of_zero_le h.1
    rw [decide_eq_true h, if_pos h, Int.toNat_natCast]
    exact evp rfl (Ev.bind (ev_of 50 fun k hk => impl_enc m k (by omega) (by omega)) (Ev.now _))
  · rw [decide_eq_false h, if_neg h]
    exact evn (by decide) (Ev.now _)
theorem ham_enc_s (n : Int) : Ev (fun k => spec_HamEncode.f k n) (if n ≥ 0 ∧ n ≤ 255 then (((encN n.toNat : Nat) : Int), true) else (0, false)) := by
  unfold spec_HamEncode.f
  refine ev_to_some (l1In_tells _ _ _) ?_
  by_cases h : n ≥ 0 ∧ n ≤ 255
  · obtain ⟨m, rfl⟩ := Int.eq_ofNat_of_zero_le h.1
    rw [decide_eq_true h, if_pos h, Int.toNat_natCast]
    exact evp rfl (Ev.bind (ev_of 50 fun k hk => spec_enc m k (by omega) (by omega)) (Ev.now _))
  · rw [decide_eq_false h, if_neg h]
    exact evn (by decide) (Ev.now _)
theorem isWord_f (w : Int) : impl_isWord.f w = some (decide (w ≥ 0 ∧ w ≤ 8191)) := by unfold impl_isWord.f; rw [within_tells]; rfl
theorem l4Word_f (w : Int) : spec_l4Word.f w = some (decide (w ≥ 0 ∧ w ≤ 8191)) := by unfold spec_l4Word.f; rw [l1In_tells]; rfl
theorem ham_dec_i (w : Int) : Ev (fun k => impl_HamDecode.f k w) (if w ≥ 0 ∧ w ≤ 8191 then ((((decN w.toNat).1 : Nat) : Int), (((decN w.toNat).2 : Nat) : Int), true) else (0, 0, false)) := by
  unfold impl_HamDecode.f
  refine ev_to_some (isWord_f w) ?_
  by_cases h : w ≥ 0 ∧ w ≤ 8191
  · obtain ⟨m, rfl⟩ := Int.eq_ofNat_of_zero_le h.1
    rw [decide_eq_true h, if_pos h, Int.toNat_natCast]
    exact evp rfl (Ev.bind (ev_of 50 fun k hk => impl_dec m k (by omega) (by omega)) (Ev.now _))
  · rw [decide_eq_false h, if_neg h]
    exact evn (by decide) (Ev.now _)
theorem ham_dec_s (w : Int) : Ev (fun k => spec_HamDecode.f k w) (if w ≥ 0 ∧ w ≤ 8191 then ((((decN w.toNat).1 : Nat) : Int), (((decN w.toNat).2 : Nat) : Int), true) else (0, 0, false)) := by
  unfold spec_HamDecode.f
  refine ev_to_some (l4Word_f w) ?_
  by_cases h : w ≥ 0 ∧ w ≤ 8191
  · obtain ⟨m, rfl⟩ := Int.eq_ofNat_of_zero_le h.1
    rw [decide_eq_true h, if_pos h, Int.toNat_natCast]
    exact evp rfl (Ev.bind (ev_of 50 fun k hk => spec_dec m k (by omega) (by omega)) (Ev.now _))
  · rw [decide_eq_false h, if_neg h]
    exact evn (by decide) (Ev.now _)
theorem ham_wt_i (w : Int) : impl_HamWeight.f w = some (if w ≥ 0 ∧ w ≤ 8191 then (((wtN 13 w.toNat : Nat) : Int), true) else (0, false)) := by
  unfold impl_HamWeight.f
  rw [isWord_f, Option.bind_some]
  by_cases h : w ≥ 0 ∧ w ≤ 8191
  · obtain ⟨m, rfl⟩ := Int.eq_ofNat_of_zero_le h.1
    rw [decide_eq_true h, if_pos h, if_pos rfl, Int.toNat_natCast, ones_is m (by omega)]; rfl
  · rw [decide_eq_false h, if_neg h]; rfl
theorem ham_wt_s (w : Int) : Ev (fun k => spec_HamWeight.f k w) (if w ≥ 0 ∧ w ≤ 8191 then (((wtN 13 w.toNat : Nat) : Int), true) else (0, false)) := by
  unfold spec_HamWeight.f
  refine ev_to_some (l4Word_f w) ?_
  by_cases h : w ≥ 0 ∧ w ≤ 8191
  · obtain ⟨m, rfl⟩ := Int.eq_ofNat_of_zero_le h.1
    rw [decide_eq_true h, if_pos h, Int.toNat_natCast]
    exact evp rfl (Ev.bind (ev_of 50 fun k hk => spec_weight m (by omega) k (by omega)) (Ev.now _))
  · rw [decide_eq_false h, if_neg h]
    exact evn (by decide) (Ev.now _)
section
variable (xs : List Int) (hb : ∀ x ∈ xs, (Lit.int .u8 x).wf = true)
include hb
theorem h_draw_n : ∃ n : Int, spec_DrawHamEncode.f xs = some n := by
  obtain ⟨b, a', s', e, _⟩ := cur_pick xs hb 0 0 0 260 (by omega) (by omega) (by omega) (by omega)
  unfold spec_DrawHamEncode.f
  rw [e]
  exact ⟨_, rfl⟩
theorem h_word_l (d : Nat) : ∀ (x : Int) (a s : Int), d ≤ 3 → 0 ≤ a → a ≤ 20 - 2 * (d : Int) → ∃ v a' s', Ev (fun k => spec_l1Cur_word.l0 k x (d : Int) xs a s) (v, a', s') := by
  induction d with
  | zero =>
    intro x a s _ h0 h1
    obtain ⟨o, a1, s1, e1, p0, p1⟩ := cur_one xs hb a s 20 30 h0 (by omega) (by omega) (by omega)
    cases o with
    | false => exact ⟨x, a1, s1, Ev.step (fun k => by simp only [spec_l1Cur_word.l0]; rw [if_neg (by omega), e1, Option.bind_some, if_neg (by simp)]) (Ev.now _)⟩
    | true =>
      obtain ⟨b, a2, s2, e2, _⟩ := cur_among xs hb a1 s1 22 [-1, 8191, 8192] (by decide) (by decide) p0 p1 (by omega)
      exact ⟨b, a2, s2, Ev.step (fun k => by simp only [spec_l1Cur_word.l0]; rw [if_neg (by omega), e1, Option.bind_some, if_pos rfl, e2]; rfl) (Ev.now _)⟩
  | succ d ih =>
    intro x a s hd h0 h1
    obtain ⟨b, a1, s1, e1, b0, b1, p0, p1⟩ := cur_pick xs hb a s (20 - 2 * ((d + 1 : Nat) : Int)) 13 h0 h1 (by omega) (by omega)
    obtain ⟨v, a2, s2, h⟩ := ih (Go.bits .xor .i64 x (shl .i64 1 (IntKind.u64.wrap b))) a1 s1 (by omega) p0 (by omega)
    refine ⟨v, a2, s2, Ev.step (fun k => ?_) h⟩
    simp only [spec_l1Cur_word.l0]
    rw [if_pos (by omega), e1, Option.bind_some, if_pos (by rw [wraps_u64 b b0 (by omega)]; exact b0), show wrap64 (((d + 1 : Nat) : Int) - 1) = (d : Int) by unfold wrap64; omega]
theorem h_draw_w : ∃ v : Int, Ev (fun k => spec_DrawHamDecode.f k xs) v := by
  obtain ⟨b, a1, s1, e1, b0, b1, p0, p1⟩ := cur_pick xs hb 0 0 0 256 (by omega) (by omega) (by omega) (by omega)
  obtain ⟨c, a2, s2, e2, c0, c1, q0, q1⟩ := cur_pick xs hb a1 s1 2 4 p0 (by omega) (by omega) (by omega)
  obtain ⟨B, rfl⟩ := Int.eq_ofNat_of_zero_le b0
  obtain ⟨C, rfl⟩ := Int.eq_ofNat_of_zero_le c0
  obtain ⟨v, a3, s3, h⟩ := h_word_l xs hb C ((encN B : Nat) : Int) a2 s2 (by omega) q0 (by omega)
  refine ⟨v, ?_⟩
  unfold spec_DrawHamDecode.f spec_l1Cur_word.f
  refine Ev.bind (ev_to_some e1 (Ev.bind (ev_of 50 fun k hk => spec_enc B k (by omega) (by omega)) (ev_to_some e2 h))) (Ev.now _)
theorem h_j5 : Ev (fun k => laws_FnHamming.j5 k xs) true := by
  obtain ⟨v, hv⟩ := h_draw_w xs hb
  refine Ev.step (fun k => by simp only [laws_FnHamming.j5]; rfl) (Ev.bind hv (Ev.bind (ham_dec_i v) (Ev.bind (ham_dec_s v) (ev_to_some (ham_wt_i v) (Ev.bind (ham_wt_s v) ?_)))))
  refine evp (beq_self_eq_true _) (evp rfl (evp rfl (evp (beq_self_eq_true _) ?_)))
  rw [beq_self_eq_true]
  exact Ev.now _
theorem h_number (hl : xs.length < 2 ^ 57) (d : Nat) : ∀ (i : Nat) (x : Int), i + d = xs.length → 0 ≤ x → x < 1000003 → ∃ m : Nat, Ev (fun k => laws_numberOf.l0 k x xs (xs.length : Int) (i : Int)) (m : Int) := by
  induction d with
  | zero =>
    intro i x hi h0 _
    obtain ⟨m, rfl⟩ := Int.eq_ofNat_of_zero_le h0
    exact ⟨m, Ev.step (fun k => by simp only [laws_numberOf.l0]; rw [if_neg (by omega)]) (Ev.now _)⟩
  | succ d ih =>
    intro i x hi h0 h1
    have hr := cur_rd xs hb (i : Int) (by omega) (by omega)
    have hw : wrap64 ((wrap64 (31 * x)) + (wrap64 (rd xs (i : Int)))) = 31 * x + rd xs (i : Int) := by unfold wrap64; omega
    have hm := Int.emod_nonneg (31 * x + rd xs (i : Int)) (show (1000003 : Int) ≠ 0 by omega)
    have hm2 := Int.emod_lt_of_pos (31 * x + rd xs (i : Int)) (show (0 : Int) < 1000003 by omega)
    obtain ⟨m, h⟩ := ih (i + 1) ((31 * x + rd xs (i : Int)) % 1000003) (by omega) hm hm2
    refine ⟨m, Ev.step (fun k => ?_) h⟩
    simp only [laws_numberOf.l0]
    rw [if_pos (by omega), if_pos (by omega), if_pos (by omega), hw, Int.tmod_eq_emod_of_nonneg (by omega), inc i (by omega)]
end
/-- words that are right and not 0 have four bits at least -/
theorem right_weight : ∀ a : Nat, a < 128 → ∀ b : Nat, b < 64 → (sumF 12 1 (64 * a + b) 0 == 0 && wtN 13 (64 * a + b) % 2 == 0 && !(64 * a + b == 0)) = true → 4 ≤ wtN 13 (64 * a + b) := by decide +kernel
theorem apart4 (x : Nat) (h : x < 8192) (h1 : sumF 12 1 x 0 = 0) (h2 : wtN 13 x % 2 = 0) (h3 : x ≠ 0) : 4 ≤ wtN 13 x := by
  have e : 64 * (x / 64) + x % 64 = x := Nat.div_add_mod x 64
  have := right_weight (x / 64) (by omega) (x % 64) (Nat.mod_lt _ (by omega))
  rw [e] at this
  refine this ?_
  rw [h1, h2]
  simp [h3]
theorem wt_zero (d : Nat) : wtN d 0 = 0 := wtN_zero d
theorem enc_apart (n m : Nat) (hn : n < 256) (hm : m < 256) : (n = m ∧ wtN 13 (encN n ^^^ encN m) = 0) ∨ (n ≠ m ∧ 4 ≤ wtN 13 (encN n ^^^ encN m)) := by
  by_cases e : n = m
  · subst e; exact Or.inl ⟨rfl, by rw [Nat.xor_self]; exact wt_zero 13⟩
  · refine Or.inr ⟨e, apart4 _ (Nat.xor_lt_two_pow (n := 13) (encN_lt n) (encN_lt m)) ?_ ?_ ?_⟩
    · rw [sum_xor, (enc_right n hn).1, (enc_right m hm).1]; rfl
    · rw [par_xor]
      have h1 := (enc_right n hn).2.1
      have h2 := (enc_right m hm).2.1
      omega
    · intro h
      have : encN n = encN m := by
        have h2 := congrArg (fun x => x ^^^ encN m) h
        simpa [Nat.xor_assoc] using h2
      have h1 := (enc_right n hn).2.2
      have h2 := (enc_right m hm).2.2
      rw [this] at h1
      exact e (h1.symm.trans h2)
theorem ham_dist (n m : Nat) : impl_HamDistance.f ((encN n : Nat) : Int) ((encN m : Nat) : Int) = some (((wtN 13 (encN n ^^^ encN m) : Nat) : Int), true) := by
  have h1 := encN_lt n
  have h2 := encN_lt m
  unfold impl_HamDistance.f
  rw [isWord_f, isWord_f, decide_eq_true (show ((encN n : Nat) : Int) ≥ 0 ∧ ((encN n : Nat) : Int) ≤ 8191 by omega), decide_eq_true (show ((encN m : Nat) : Int) ≥ 0 ∧ ((encN m : Nat) : Int) ≤ 8191 by omega)]
  simp only [Option.bind_some, if_true]
  rw [xor_i64 _ _ (by omega) (by omega), ones_is _ (Nat.xor_lt_two_pow (n := 13) h1 h2)]
  rfl
theorem shl1 (i : Nat) (h : i ≤ 12) : shl .i64 1 (i : Int) = ((2 ^ i : Nat) : Int) := by
  have := shl_i 1 i h (by omega)
  rw [Nat.one_mul] at this
  exact this
section
variable (xs : List Int) (hb : ∀ x ∈ xs, (Lit.int .u8 x).wf = true) (hl : xs.length < 2 ^ 57) (N : Nat) (hN : N < 256)
include hb hl hN
theorem h_l0_end : Ev (fun k => laws_FnHamming.l0 k xs (N : Int) ((encN N : Nat) : Int) 13) true := by
  obtain ⟨m, hm⟩ := h_number xs hb hl xs.length 0 0 (by omega) (by omega) (by omega)
  have hno : Ev (fun k => laws_numberOf.f k xs) (m : Int) := hm
  have ht : Int.tmod (m : Int) 256 = ((m % 256 : Nat) : Int) := by rw [Int.tmod_eq_emod_of_nonneg (by omega)]; omega
  have hM : m % 256 < 256 := Nat.mod_lt _ (by omega)
  have J5 := h_j5 xs hb
  refine Ev.step (fun k => by simp only [laws_FnHamming.l0]; rw [if_neg (by omega)]) (Ev.bind hno ?_)
  rw [ht]
  have he := ham_enc_i ((m % 256 : Nat) : Int)
  rw [if_pos (by omega), Int.toNat_natCast] at he
  refine Ev.bind he (ev_to_some (ham_dist N (m % 256)) (evp rfl (evp rfl ?_)))
  rcases enc_apart N (m % 256) hN hM with ⟨e, hd⟩ | ⟨e, hd⟩
  · rw [hd]
    refine evp rfl (Ev.bind hno ?_)
    rw [ht, ← e]
    refine evn ?_ J5
    simp
  · generalize wtN 13 (encN N ^^^ encN (m % 256)) = D at hd
    refine evn (show ¬ ((D : Int) = 0) by omega) (evn (show ¬ ((D : Int) < 4) by omega) (Ev.bind hno ?_))
    rw [ht]
    refine evn ?_ J5
    have h1 : ((D : Int) == 0) = false := beq_eq_false_iff_ne.mpr (by omega)
    have h2 : (((m % 256 : Nat) : Int) == (N : Int)) = false := beq_eq_false_iff_ne.mpr (by omega)
    rw [h1, h2]
    decide
theorem h_l1 (i : Nat) (hi : i < 13) (hnext : Ev (fun k => laws_FnHamming.l0 k xs (N : Int) ((encN N : Nat) : Int) ((i + 1 : Nat) : Int)) true) (d : Nat) : ∀ j : Nat, j + d = i → Ev (fun k => laws_FnHamming.l1 k xs (N : Int) ((encN N : Nat) : Int) (i : Int) (j : Int)) true := by
  induction d with
  | zero =>
    intro j hj
    exact Ev.step (fun k => by simp only [laws_FnHamming.l1]; rw [if_neg (by omega), inc i (by omega)]) hnext
  | succ d ih =>
    intro j hj
    have hr := encN_lt N
    have p1 := pow_le12 i (by omega)
    have p2 := pow_le12 j (by omega)
    have hx : encN N ^^^ 2 ^ i ^^^ 2 ^ j < 8192 := Nat.xor_lt_two_pow (n := 13) (Nat.xor_lt_two_pow (n := 13) hr (by omega)) (by omega)
    have hd := ham_dec_i ((encN N ^^^ 2 ^ i ^^^ 2 ^ j : Nat) : Int)
    rw [if_pos (by omega), Int.toNat_natCast, dec_two N hN i hi j (by omega)] at hd
    refine Ev.step (fun k => by simp only [laws_FnHamming.l1]; rw [if_pos (by omega), u64n i (by omega), u64n j (by omega), if_pos (by omega), if_pos (by omega), shl1 i (by omega), shl1 j (by omega), xor_i64 _ _ (by omega) (by omega), xor_i64 _ _ (by have := Nat.xor_lt_two_pow (n := 13) hr (show 2 ^ i < 2 ^ 13 by omega); omega) (by omega)]) (Ev.bind hd ?_)
    refine evp rfl (evp rfl (evp rfl ?_))
    rw [inc j (by omega)]
    exact ih (j + 1) (by omega)
theorem h_l0 (d : Nat) : ∀ i : Nat, i + d = 13 → Ev (fun k => laws_FnHamming.l0 k xs (N : Int) ((encN N : Nat) : Int) (i : Int)) true := by
  induction d with
  | zero =>
    intro i hi
    obtain rfl : i = 13 := by omega
    exact h_l0_end xs hb hl N hN
  | succ d ih =>
    intro i hi
    have hr := encN_lt N
    have p1 := pow_le12 i (by omega)
    have hx : encN N ^^^ 2 ^ i < 8192 := Nat.xor_lt_two_pow (n := 13) hr (by omega)
    have hd := ham_dec_i ((encN N ^^^ 2 ^ i : Nat) : Int)
    rw [if_pos (by omega), Int.toNat_natCast, dec_one N hN i (by omega)] at hd
    refine Ev.step (fun k => by simp only [laws_FnHamming.l0]; rw [if_pos (by omega), u64n i (by omega), if_pos (by omega), shl1 i (by omega), xor_i64 _ _ (by omega) (by omega)]) (Ev.bind hd ?_)
    refine evp rfl (evp rfl ?_)
    rw [show ((((1 : Nat) : Int)) != 1) = false by decide]
    refine Ev.step (fun k => by simp only [laws_FnHamming.j3]; rw [if_neg (by decide)]) ?_
    exact h_l1 xs hb hl N hN i (by omega) (ih (i + 1) (by omega)) i 0 (by omega)
end

theorem FnHamming : laws_FnHamming.Pure := by
  intro l0 l1 hl0 _ hb0 hl1 hlb hb1
  refine Ev.rounds ?_
  unfold laws_FnHamming.f
  by_cases hbig : (wrap64 ((l0.length : Int) + (l1.length : Int))) > 1048576
  · exact evp hbig (Ev.now _)
  have hl : l1.length < 2 ^ 57 := by omega
  obtain ⟨n, e1⟩ := h_draw_n l0 hb0
  have J5 := h_j5 l1 hb1
  refine evn hbig (ev_to_some e1 (Ev.bind (ham_enc_i n) (Ev.bind (ham_enc_s n) ?_)))
  rw [bne_self_eq_false, bne_self_eq_false]
  refine evn (by decide) (Ev.step (fun k => by simp only [laws_FnHamming.j0]; rw [if_neg (by decide)]) ?_)
  by_cases hn : n ≥ 0 ∧ n ≤ 255
  · obtain ⟨N, rfl⟩ := Int.eq_ofNat_of_zero_le hn.1
    have hN : N < 256 := by omega
    rw [if_pos hn, Int.toNat_natCast]
    refine evp rfl (Ev.bind (ham_dec_i _) ?_)
    have hr := encN_lt N
    rw [if_pos (show ((encN N : Nat) : Int) ≥ 0 ∧ ((encN N : Nat) : Int) ≤ 8191 by omega), Int.toNat_natCast, dec_enc N hN]
    refine evp rfl (evp rfl ?_)
    rw [show ((((0 : Nat) : Int)) != 0) = false by decide]
    exact Ev.step (fun k => by simp only [laws_FnHamming.j1]; rw [if_neg (by decide)]; rfl) (h_l0 l1 hb1 hl N hN 13 0 (by omega))
  · rw [if_neg hn]
    exact evn (by decide) J5

end Go.Proofs.Ytjibcpfgnnmfjaa.Pure
