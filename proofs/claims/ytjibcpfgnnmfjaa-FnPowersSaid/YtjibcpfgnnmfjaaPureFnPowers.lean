/- The laws of powers and logarithms hold of the drawn byte and number; no condition. -/
import Derived.Test.YtjibcpfgnnmfjaaGF
import Derived.Test.YtjibcpfgnnmfjaaQFnPowersx3
import Derived.OpenShut
set_option linter.unusedVariables false
set_option linter.unusedSimpArgs false
namespace Go.Proofs.Ytjibcpfgnnmfjaa.Pure
open Go.RowKit Go.Proofs.Ytjibcpfgnnmfjaa.PFnPowers Go.Proofs.YtjibcpfgnnmfjaaW.PrintWords Go.Proofs.YtjibcpfgnnmfjaaW.PrintLast Go.Proofs.YtjibcpfgnnmfjaaW.PrintMore Go.Proofs.Ytjibcpfgnnmfjaa.GF

theorem wr64 (n : Nat) (h : n < 2 ^ 62) : wrap64 (n : Int) = (n : Int) := by unfold wrap64; omega
theorem wri (n : Int) (h : 0 ≤ n) (h1 : n < 2 ^ 62) : wrap64 n = n := by unfold wrap64; omega
theorem byte_of {x : Int} (h : (Lit.int .u8 x).wf = true) : ∃ n : Nat, n < 256 ∧ x = (n : Int) := by
  have := bounds_u8 h
  exact ⟨x.toNat, by omega, by omega⟩
theorem shr_nat (b j q : Nat) (hj : j ≤ 8) (hq : q = b / 2 ^ j) : shr .u8 (b : Int) (j : Int) = (q : Int) := by
  unfold shr
  rw [Int.toNat_natCast, Nat.min_eq_left (show j ≤ IntKind.bits .u8 from hj), hq]
  simp
theorem and1_nat (q : Nat) (hq : q < 256) : Go.bits .and .u8 (q : Int) 1 = ((q % 2 : Nat) : Int) := by
  rw [and1_u8 (q : Int) (by omega) (by omega)]; simp
theorem and1_inat (q : Nat) (hq : q < 2 ^ 62) : Go.bits .and .i64 (q : Int) 1 = ((q % 2 : Nat) : Int) := by
  rw [and1_i64 (q : Int) (by omega) (by omega)]; simp
theorem dbl (x : Nat) (hx : x < 256) : wrap64 ((x : Int) * 2) = ((2 * x : Nat) : Int) := by unfold wrap64; omega
theorem inc (j : Nat) (hj : j < 2 ^ 62) : wrap64 ((j : Int) + 1) = ((j + 1 : Nat) : Int) := by unfold wrap64; omega
theorem x285 (x : Nat) (hx : x < 256) : Go.bits .xor .i64 ((2 * x : Nat) : Int) 285 = ((2 * x ^^^ 285 : Nat) : Int) := xor_i64 (2 * x) 285 (by omega) (by omega)
theorem xor_nat (o x : Nat) (ho : o < 256) (hx : x < 256) : Go.bits .xor .i64 (o : Int) (x : Int) = ((o ^^^ x : Nat) : Int) := xor_i64 o x (by omega) (by omega)
theorem xt_hi (x : Nat) (h : 2 * x > 255) : xt x = 2 * x ^^^ 285 := by unfold xt; rw [if_pos h]
theorem xt_lo (x : Nat) (h : ¬ 2 * x > 255) : xt x = 2 * x := by unfold xt; rw [if_neg h]

theorem impl_mul_l (n : Nat) : ∀ (k j x o b : Nat), n + j = 8 → n < k → x < 256 → o < 256 → b < 256 →
    impl_FieldMul.l0 k (b : Int) (o : Int) (j : Int) (x : Int) = some ((gmAux n x (b / 2 ^ j) o : Nat) : Int) := by
  induction n with
  | zero =>
    intro k j x o b hj hk hx ho hb
    obtain ⟨k, rfl⟩ : ∃ m, k = m + 1 := ⟨k - 1, by omega⟩
    simp only [impl_FieldMul.l0]
    rw [if_neg (by omega)]
    show some ((o : Int) % 256) = some (o : Int)
    rw [Int.emod_eq_of_lt (by omega) (by omega)]
  | succ n ih =>
    intro k j x o b hj hk hx ho hb
    obtain ⟨k, rfl⟩ : ∃ m, k = m + 1 := ⟨k - 1, by omega⟩
    obtain ⟨q, hq⟩ : ∃ q, q = b / 2 ^ j := ⟨_, rfl⟩
    have hq2 : q < 256 := by rw [hq]; exact Nat.lt_of_le_of_lt (Nat.div_le_self _ _) hb
    have hb2 : q / 2 = b / 2 ^ (j + 1) := by rw [hq, Nat.div_div_eq_div_mul, ← Nat.pow_succ]
    have hs : shr .u8 (b : Int) (j : Int) = (q : Int) := shr_nat b j q (by omega) hq
    rw [← hq]
    simp only [gmAux]
    rw [hb2]
    have hxt := xt_lt x hx
    have hox := xor_lt _ _ ho hx
    have i1 := ih k (j + 1) (xt x) (o ^^^ x) b (by omega) (by omega) hxt hox hb
    have i2 := ih k (j + 1) (xt x) o b (by omega) (by omega) hxt ho hb
    have c1 : (j : Int) < 8 := by omega
    have c2 : (0 : Int) ≤ (j : Int) := by omega
    clear hq hb2
    simp only [impl_FieldMul.l0]
    rw [if_pos c1, if_pos c2, hs, and1_nat q hq2, dbl x hx, inc j (by omega), x285 x hx, xor_nat o x ho hx]
    clear hs
    by_cases h1 : q % 2 = 1
    · rw [if_pos (by omega), if_pos h1]
      by_cases h2 : 2 * x > 255
      · rw [if_pos (by omega), ← xt_hi x h2]; exact i1
      · rw [if_neg (by omega), ← xt_lo x h2]; exact i1
    · rw [if_neg (by omega), if_neg h1]
      by_cases h2 : 2 * x > 255
      · rw [if_pos (by omega), ← xt_hi x h2]; exact i2
      · rw [if_neg (by omega), ← xt_lo x h2]; exact i2
theorem impl_mul (k a b : Nat) (hk : 8 < k) (ha : a < 256) (hb : b < 256) : impl_FieldMul.f k (a : Int) (b : Int) = some ((gm a b : Nat) : Int) := by
  unfold impl_FieldMul.f
  rw [wr64 a (by omega)]
  have := impl_mul_l 8 k 0 a 0 b (by omega) hk ha (by omega) hb
  simpa [gm] using this

theorem spec_mul_l (n : Nat) : ∀ (k x o y : Nat), n < k → y < 2 ^ n → n ≤ 8 → x < 256 → o < 256 →
    spec_l2Mul.l0 k (o : Int) (x : Int) (y : Int) = some ((gmAux n x y o : Nat) : Int) := by
  induction n with
  | zero =>
    intro k x o y hk hy _ hx ho
    obtain ⟨k, rfl⟩ : ∃ m, k = m + 1 := ⟨k - 1, by omega⟩
    have : y = 0 := by simpa using hy
    subst this
    simp only [spec_l2Mul.l0]
    rw [if_neg (by omega)]
    show some ((o : Int) % 256) = some (o : Int)
    rw [Int.emod_eq_of_lt (by omega) (by omega)]
  | succ n ih =>
    intro k x o y hk hy hn hx ho
    obtain ⟨k, rfl⟩ : ∃ m, k = m + 1 := ⟨k - 1, by omega⟩
    simp only [spec_l2Mul.l0]
    by_cases h0 : y = 0
    · subst h0
      rw [if_neg (by omega), gmAux_zero]
      rw [Int.emod_eq_of_lt (by omega) (by omega)]
    have hp : (2 : Nat) ^ (n + 1) ≤ 256 := by
      have := Nat.pow_le_pow_right (show 0 < 2 by decide) (show n + 1 ≤ 8 by omega)
      simpa using this
    have hy2 : y / 2 < 2 ^ n := by rw [Nat.pow_succ] at hy; omega
    have hxt := xt_lt x hx
    have hox := xor_lt _ _ ho hx
    have i1 := ih k (xt x) (o ^^^ x) (y / 2) (by omega) hy2 (by omega) hxt hox
    have i2 := ih k (xt x) o (y / 2) (by omega) hy2 (by omega) hxt ho
    rw [if_pos (by omega), and1_inat y (by omega), dbl x hx, x285 x hx, xor_nat o x ho hx, show (y : Int) / 2 = ((y / 2 : Nat) : Int) by simp]
    simp only [gmAux]
    by_cases h1 : y % 2 = 1
    · rw [if_pos (by omega), if_pos h1]
      by_cases h2 : 2 * x > 255
      · rw [if_pos (by omega), ← xt_hi x h2]; exact i1
      · rw [if_neg (by omega), ← xt_lo x h2]; exact i1
    · rw [if_neg (by omega), if_neg h1]
      by_cases h2 : 2 * x > 255
      · rw [if_pos (by omega), ← xt_hi x h2]; exact i2
      · rw [if_neg (by omega), ← xt_lo x h2]; exact i2
theorem spec_mul (k a b : Nat) (hk : 8 < k) (ha : a < 256) (hb : b < 256) : spec_l2Mul.f k (a : Int) (b : Int) = some ((gm a b : Nat) : Int) := by
  unfold spec_l2Mul.f
  rw [wr64 a (by omega), wr64 b (by omega)]
  have := spec_mul_l 8 k a 0 b hk (by omega) (by omega) ha (by omega)
  simpa [gm] using this

theorem impl_pow_l (a n : Nat) (ha : a < 256) (hn : n < 2 ^ 60) (d : Nat) : ∀ (k i : Nat), i + d = n → d + 9 < k →
    impl_power.l0 k (a : Int) ((gp a i : Nat) : Int) (n : Int) (i : Int) = some ((gp a n : Nat) : Int) := by
  induction d with
  | zero =>
    intro k i hi hk
    obtain ⟨k, rfl⟩ : ∃ m, k = m + 1 := ⟨k - 1, by omega⟩
    simp only [impl_power.l0]
    rw [if_neg (by omega), show i = n by omega]
  | succ d ih =>
    intro k i hi hk
    obtain ⟨k, rfl⟩ : ∃ m, k = m + 1 := ⟨k - 1, by omega⟩
    have e2 : wrap64 ((i : Int) + 1) = ((i + 1 : Nat) : Int) := by rw [wri _ (by omega) (by omega)]; omega
    simp only [impl_power.l0]
    rw [if_pos (by omega), impl_mul k _ _ (by omega) (gp_lt a i) ha, e2]
    simp only [Option.bind_some]
    exact ih k (i + 1) (by omega) (by omega)
theorem impl_pow (k a n : Nat) (hk : n + 9 < k) (ha : a < 256) (hn : n < 2 ^ 60) : impl_power.f k (a : Int) (n : Int) = some ((gp a n : Nat) : Int) := by
  unfold impl_power.f
  exact impl_pow_l a n ha hn n k 0 (by omega) hk

theorem spec_pow_l (a N : Nat) (ha : a < 256) (hn : N < 2 ^ 60) (d : Nat) : ∀ (k : Nat), d ≤ N → d + 9 < k →
    spec_l2Pow.l0 k (a : Int) (d : Int) ((gp a (N - d) : Nat) : Int) = some ((gp a N : Nat) : Int) := by
  induction d with
  | zero =>
    intro k hd hk
    obtain ⟨k, rfl⟩ : ∃ m, k = m + 1 := ⟨k - 1, by omega⟩
    simp only [spec_l2Pow.l0]
    rw [if_neg (by omega), Nat.sub_zero]
  | succ d ih =>
    intro k hd hk
    obtain ⟨k, rfl⟩ : ∃ m, k = m + 1 := ⟨k - 1, by omega⟩
    have e2 : wrap64 (((d + 1 : Nat) : Int) - 1) = (d : Int) := by rw [wri _ (by omega) (by omega)]; omega
    simp only [spec_l2Pow.l0]
    rw [if_pos (by omega), spec_mul k _ _ (by omega) (gp_lt a _) ha, e2]
    simp only [Option.bind_some]
    have := ih k (by omega) (by omega)
    rw [show N - d = (N - (d + 1)) + 1 by omega] at this
    exact this
theorem spec_pow (k a n : Nat) (hk : n + 9 < k) (ha : a < 256) (hn : n < 2 ^ 60) : spec_l2Pow.f k (a : Int) (n : Int) = some ((gp a n : Nat) : Int) := by
  unfold spec_l2Pow.f
  have := spec_pow_l a n ha hn n k (Nat.le_refl _) hk
  rw [Nat.sub_self] at this
  exact this

theorem within_tells (a b c : Int) : impl_within.f a b c = some (decide (a ≥ b ∧ a ≤ c)) := by
  unfold impl_within.f
  split
  · rename_i h; simp [h]
  · rename_i h; simp [h]
theorem l1In_tells (a b c : Int) : spec_l1In.f a b c = some (decide (a ≥ b ∧ a ≤ c)) := by
  unfold spec_l1In.f
  split
  · rename_i h; simp [h]
  · rename_i h; simp [h]

theorem ev_of {α : Type} {g : Nat → Option α} {r : α} (K : Nat) (h : ∀ k, K < k → g k = some r) : Ev g r := ⟨K + 1, fun k hk => h k (by omega)⟩
theorem evp {α : Type} {c : Prop} [Decidable c] {f g : Nat → Option α} {r : α} (h : c) (k : Ev f r) : Ev (fun n => if c then f n else g n) r := Ev.congr (fun _ => if_pos h) k
theorem evn {α : Type} {c : Prop} [Decidable c] {f g : Nat → Option α} {r : α} (h : ¬ c) (k : Ev g r) : Ev (fun n => if c then f n else g n) r := Ev.congr (fun _ => if_neg h) k
theorem ev_some {α β : Type} {a : α} {f : Nat → α → Option β} {r : β} (h : Ev (fun n => f n a) r) : Ev (fun n => (some a).bind (f n)) r := h
theorem ev_to_some {α β : Type} {o : Option α} {a : α} {f : Nat → α → Option β} {r : β} (ho : o = some a) (h : Ev (fun n => f n a) r) : Ev (fun n => o.bind (f n)) r := by subst ho; exact h
theorem maxLen_lt : maxLen < 2 ^ 63 := by decide

theorem rd_nat (xs : List Int) (i : Nat) : rd xs (i : Int) = xs.getD i 0 := by unfold rd; rw [Int.toNat_natCast]
theorem set_getD (xs : List Int) (i j : Nat) (v : Int) (hi : i < xs.length) : (xs.set i v).getD j 0 = if j = i then v else xs.getD j 0 := by
  simp only [List.getD_eq_getElem?_getD, List.getElem?_set]
  by_cases h : i = j
  · subst h; simp [hi]
  · rw [if_neg h, if_neg (fun e => h e.symm)]

def tb (n : Nat) : List Int := (List.range n).map fun j => ((ex j : Nat) : Int)
theorem tb_length (n : Nat) : (tb n).length = n := by simp [tb]
theorem tb_succ (n : Nat) : tb (n + 1) = tb n ++ [((ex n : Nat) : Int)] := by simp [tb, List.range_succ]
theorem ex_two (i : Nat) : ((gm (ex i) 2 : Nat) : Int) = ((ex (i + 1) : Nat) : Int) := by rw [gm_two _ (ex_lt i)]; rfl
theorem impl_exp_l (d : Nat) : ∀ (k i : Nat), i + d = 255 → d + 9 < k → impl_ExpTable.l0 k (tb i) ((ex i : Nat) : Int) = some (tb 255) := by
  induction d with
  | zero =>
    intro k i hi hk
    obtain ⟨k, rfl⟩ : ∃ m, k = m + 1 := ⟨k - 1, by omega⟩
    simp only [impl_ExpTable.l0]
    rw [tb_length, if_neg (by omega), show i = 255 by omega]
  | succ d ih =>
    intro k i hi hk
    obtain ⟨k, rfl⟩ : ∃ m, k = m + 1 := ⟨k - 1, by omega⟩
    simp only [impl_ExpTable.l0]
    rw [tb_length, if_pos (by omega), if_pos (by omega), show (2 : Int) = ((2 : Nat) : Int) from rfl, impl_mul k _ 2 (by omega) (ex_lt i) (by omega)]
    simp only [Option.bind_some]
    rw [ex_two, ← tb_succ]
    exact ih k (i + 1) (by omega) (by omega)
theorem impl_exp (k : Nat) (hk : 300 < k) : impl_ExpTable.f k = some (tb 255) := impl_exp_l 255 k 0 (by omega) (by omega)

def lgT : Nat → List Int
  | 0 => List.replicate 256 0
  | n + 1 => (lgT n).set (ex n) ((n : Int) % 256)
theorem lgT_length (n : Nat) : (lgT n).length = 256 := by
  induction n with
  | zero => exact List.length_replicate ..
  | succ n ih => rw [lgT, List.length_set, ih]
theorem tb_getD (n i : Nat) (h : i < n) : (tb n).getD i 0 = ((ex i : Nat) : Int) := by simp [tb, List.getD_eq_getElem?_getD, h]
theorem impl_log_l (d : Nat) : ∀ (k i : Nat), i + d = 255 → d + 9 < k → impl_LogTable.l0 k (lgT i) (tb 255) 255 (i : Int) = some (lgT 255) := by
  induction d with
  | zero =>
    intro k i hi hk
    obtain ⟨k, rfl⟩ : ∃ m, k = m + 1 := ⟨k - 1, by omega⟩
    simp only [impl_LogTable.l0]
    rw [if_neg (by omega), show i = 255 by omega]
  | succ d ih =>
    intro k i hi hk
    obtain ⟨k, rfl⟩ : ∃ m, k = m + 1 := ⟨k - 1, by omega⟩
    have hx := ex_lt i
    simp only [impl_LogTable.l0]
    rw [tb_length, rd_nat, tb_getD 255 i (by omega), lgT_length, if_pos (by omega), if_pos (by omega), if_pos (by omega), if_pos (by omega), if_pos (by omega), Int.toNat_natCast, wri ((i : Int) + 1) (by omega) (by omega)]
    exact ih k (i + 1) (by omega) (by omega)
theorem impl_log (k : Nat) (hk : 300 < k) : impl_LogTable.f k = some (lgT 255) := by
  unfold impl_LogTable.f
  rw [if_pos (by omega), impl_exp k hk]
  simp only [Option.bind_some]
  rw [tb_length]
  exact impl_log_l 255 k 0 (by omega) (by omega)

/-! ### The cursor that draws -/
theorem cur_wraps (n : Int) (h₀ : 0 ≤ n) (h₁ : n < 2 ^ 64) : IntKind.u64.wrap n = n := by rw [IntKind.wrap_u64]; omega
theorem cur_and (y : Int) (h0 : 0 ≤ y) (h1 : y < 2 ^ 64) : Go.bits .and .u64 y 255 = y % 256 := bits_mask .u64 64 (by decide) cur_wraps 8 (by decide) y h0 h1
theorem cur_byte (u : Int) : ∃ b : Int, wrap64 (Go.bits .and .u64 ((IntKind.u64.wrap u) / 1099511627776) 255) = b ∧ 0 ≤ b ∧ b ≤ 255 := by
  refine ⟨_, rfl, ?_⟩
  have h := IntKind.wrap_u64 u
  generalize IntKind.u64.wrap u = v at h
  have hv : 0 ≤ v ∧ v < 2 ^ 64 := by omega
  clear h
  obtain ⟨y, hy⟩ : ∃ y, y = v / 1099511627776 := ⟨_, rfl⟩
  rw [← hy, cur_and y (by omega) (by omega)]
  clear hv
  unfold wrap64
  omega
theorem cur_rd (xs : List Int) (hb : ∀ x ∈ xs, (Lit.int .u8 x).wf = true) (i : Int) (h0 : 0 ≤ i) (h1 : i < (xs.length : Int)) : 0 ≤ rd xs i ∧ rd xs i ≤ 255 := by
  have hm : rd xs i ∈ xs := by
    unfold rd
    rw [List.getD_eq_getElem?_getD, List.getElem?_eq_getElem (show i.toNat < xs.length by omega)]
    simp
  have := bounds_u8 (hb _ hm)
  omega
section
variable (xs : List Int) (hb : ∀ x ∈ xs, (Lit.int .u8 x).wf = true)
include hb
theorem cur_next (a s n : Int) (h0 : 0 ≤ a) (h1 : a ≤ n) (hn : n < 2 ^ 60) : ∃ b a' s', spec_l1Cur_next.f xs a s = some (b, a', s') ∧ 0 ≤ b ∧ b ≤ 255 ∧ 0 ≤ a' ∧ a' ≤ n + 1 := by
  have hw : wrap64 (a + 1) = a + 1 := by unfold wrap64; omega
  unfold spec_l1Cur_next.f
  rw [hw]
  by_cases c1 : a < (xs.length : Int)
  · have hr := cur_rd xs hb a h0 c1
    rw [if_pos c1, if_pos h0]
    have hr2 : wrap64 (rd xs a) = rd xs a := by unfold wrap64; omega
    rw [hr2]
    by_cases c2 : a + 1 ≤ (xs.length : Int)
    · rw [if_pos c2]; exact ⟨_, _, _, rfl, hr.1, hr.2, by omega, by omega⟩
    · omega
  · rw [if_neg c1, if_neg (by omega)]
    obtain ⟨b, hb1, hb2, hb3⟩ := cur_byte ((IntKind.u64.wrap ((IntKind.u64.wrap (s * 6364136223846793005)) + 0)) + 1442695040888963407)
    rw [hb1]
    exact ⟨_, _, _, rfl, hb2, hb3, by omega, by omega⟩
theorem cur_pick (a s n m : Int) (h0 : 0 ≤ a) (h1 : a ≤ n) (hn : n < 2 ^ 59) (hm : m < 2 ^ 40) : ∃ b a' s', spec_l1Cur_pick.f xs a s m = some (b, a', s') ∧ 0 ≤ b ∧ (b < m ∨ b = 0) ∧ 0 ≤ a' ∧ a' ≤ n + 2 := by
  unfold spec_l1Cur_pick.f
  by_cases c1 : m ≤ 1
  · rw [if_pos c1]; exact ⟨0, a, s, rfl, by omega, .inr rfl, h0, by omega⟩
  · obtain ⟨b, a1, s1, e1, b0, b1, p0, p1⟩ := cur_next xs hb a s n h0 h1 (by omega)
    rw [if_neg c1, e1]
    simp only [Option.bind_some]
    by_cases c2 : m > 200
    · obtain ⟨b2, a2, s2, e2, q0, q1, r0, r1⟩ := cur_next xs hb a1 s1 (n + 1) p0 p1 (by omega)
      rw [if_pos c2, e2]
      simp only [Option.bind_some]
      rw [if_neg (by omega)]
      have hw : wrap64 ((wrap64 (b * 256)) + b2) = b * 256 + b2 := by unfold wrap64; omega
      rw [hw, Int.tmod_eq_emod_of_nonneg (by omega)]
      have h1 := Int.emod_nonneg (b * 256 + b2) (show m ≠ 0 by omega)
      have h2 := Int.emod_lt_of_pos (b * 256 + b2) (show 0 < m by omega)
      exact ⟨_, _, _, rfl, h1, .inl h2, r0, by omega⟩
    · rw [if_neg c2, if_neg (by omega), Int.tmod_eq_emod_of_nonneg (by omega)]
      have h1 := Int.emod_nonneg b (show m ≠ 0 by omega)
      have h2 := Int.emod_lt_of_pos b (show 0 < m by omega)
      exact ⟨_, _, _, rfl, h1, .inl h2, p0, by omega⟩
end

section
variable (xs : List Int) (hb : ∀ x ∈ xs, (Lit.int .u8 x).wf = true)
include hb
theorem cur_among (a s n : Int) (L : List Int) (hL : 0 < L.length) (hL2 : L.length < 2 ^ 39) (h0 : 0 ≤ a) (h1 : a ≤ n) (hn : n < 2 ^ 59) : ∃ b a' s', spec_l1Cur_among.f xs a s L = some (b, a', s') ∧ b ∈ L ∧ 0 ≤ a' ∧ a' ≤ n + 2 := by
  obtain ⟨i, a1, s1, e1, i0, i1, p0, p1⟩ := cur_pick xs hb a s n (L.length : Int) h0 h1 hn (by omega)
  unfold spec_l1Cur_among.f
  rw [e1]
  simp only [Option.bind_some]
  rw [if_pos i0, if_pos (by omega)]
  refine ⟨_, _, _, rfl, ?_, p0, p1⟩
  unfold rd
  rw [List.getD_eq_getElem?_getD, List.getElem?_eq_getElem (show i.toNat < L.length by omega)]
  simp
end

section
variable (xs : List Int) (hb : ∀ x ∈ xs, (Lit.int .u8 x).wf = true)
include hb
theorem cur_one (a s n m : Int) (h0 : 0 ≤ a) (h1 : a ≤ n) (hn : n < 2 ^ 59) (hm : m < 2 ^ 40) : ∃ b a' s', spec_l1Cur_one.f xs a s m = some (b, a', s') ∧ 0 ≤ a' ∧ a' ≤ n + 2 := by
  obtain ⟨i, a1, s1, e1, i0, i1, p0, p1⟩ := cur_pick xs hb a s n m h0 h1 hn hm
  unfold spec_l1Cur_one.f
  rw [e1]
  exact ⟨_, _, _, rfl, p0, p1⟩
theorem cur_byt (a s n : Int) (h0 : 0 ≤ a) (h1 : a ≤ n) (hn : n < 2 ^ 58) : ∃ (b : Nat) (a' s' : Int), spec_l1Cur_byte.f xs a s = some ((b : Int), a', s') ∧ b < 256 ∧ 0 ≤ a' ∧ a' ≤ n + 4 := by
  obtain ⟨o, a1, s1, e1, p0, p1⟩ := cur_one xs hb a s n 5 h0 h1 (by omega) (by omega)
  unfold spec_l1Cur_byte.f
  rw [e1]
  simp only [Option.bind_some]
  cases o with
  | true =>
    obtain ⟨b, a2, s2, e2, _, q0, q1⟩ := cur_among xs hb a1 s1 (n + 2) [0, 1, 2, 255, 29] (by decide) (by decide) p0 p1 (by omega)
    rw [if_pos rfl, e2]
    exact ⟨(b % 256).toNat, a2, s2, by simp only [Option.bind_some]; congr 2; omega, by omega, q0, by omega⟩
  | false =>
    obtain ⟨b, a2, s2, e2, _, _, q0, q1⟩ := cur_pick xs hb a1 s1 (n + 2) 256 p0 p1 (by omega) (by omega)
    rw [if_neg (by decide), e2]
    exact ⟨(b % 256).toNat, a2, s2, by simp only [Option.bind_some]; congr 2; omega, by omega, q0, by omega⟩
end

theorem p_draw (xs : List Int) (hb : ∀ x ∈ xs, (Lit.int .u8 x).wf = true) : ∃ (a : Nat) (n : Int), a < 256 ∧ n ≤ 10001 ∧ spec_DrawFieldPow.f xs = some ((a : Int), n) := by
  obtain ⟨a, a1, s1, e1, h1, p0, p1⟩ := cur_byt xs hb 0 0 0 (by omega) (by omega) (by omega)
  obtain ⟨n, a2, s2, e2, h2, _, _⟩ := cur_among xs hb a1 s1 (0 + 4) [-1, 0, 1, 2, 7, 254, 255, 256, 10000, 10001] (by decide) (by decide) p0 p1 (by omega)
  refine ⟨a, n, h1, ?_, ?_⟩
  · simp at h2; omega
  · unfold spec_DrawFieldPow.f
    rw [e1]
    simp only [Option.bind_some]
    rw [e2]
    rfl
theorem ev_mul (a b : Nat) (ha : a < 256) (hb : b < 256) : Ev (fun k => impl_FieldMul.f k (a : Int) (b : Int)) ((gm a b : Nat) : Int) := ev_of 20 fun k hk => impl_mul k a b (by omega) ha hb
theorem ev_pow (a : Nat) (n : Int) (ha : a < 256) : Ev (fun k => impl_FieldPow.f k (a : Int) n) (if n ≥ 0 ∧ n ≤ 10000 then (((gp a n.toNat : Nat) : Int), true) else (0, false)) := by
  unfold impl_FieldPow.f
  refine ev_to_some (within_tells _ _ _) ?_
  by_cases h : n ≥ 0 ∧ n ≤ 10000
  · rw [decide_eq_true h, if_pos h]
    have e : Ev (fun k => impl_power.f k (a : Int) n) ((gp a n.toNat : Nat) : Int) := ev_of 10100 fun k hk => by
      obtain ⟨m, rfl⟩ : ∃ m : Nat, n = (m : Int) := ⟨n.toNat, by omega⟩
      rw [Int.toNat_natCast]
      exact impl_pow k a m (by omega) ha (by omega)
    exact evp rfl (Ev.bind e (Ev.now _))
  · rw [decide_eq_false h, if_neg h]
    exact evn (by decide) (Ev.now _)
theorem ev_spow (a : Nat) (n : Int) (ha : a < 256) : Ev (fun k => spec_FieldPow.f k (a : Int) n) (if n ≥ 0 ∧ n ≤ 10000 then (((gp a n.toNat : Nat) : Int), true) else (0, false)) := by
  unfold spec_FieldPow.f
  refine ev_to_some (l1In_tells _ _ _) ?_
  by_cases h : n ≥ 0 ∧ n ≤ 10000
  · rw [decide_eq_true h, if_pos h]
    have e : Ev (fun k => spec_l2Pow.f k (a : Int) n) ((gp a n.toNat : Nat) : Int) := ev_of 10100 fun k hk => by
      obtain ⟨m, rfl⟩ : ∃ m : Nat, n = (m : Int) := ⟨n.toNat, by omega⟩
      rw [Int.toNat_natCast]
      exact spec_pow k a m (by omega) ha (by omega)
    exact evp rfl (Ev.bind e (Ev.now _))
  · rw [decide_eq_false h, if_neg h]
    exact evn (by decide) (Ev.now _)
theorem lg_at (n : Nat) : n ≤ 255 → ∀ i, i < n → (lgT n).getD (ex i) 0 = (i : Int) := by
  induction n with
  | zero => intro _ i hi; omega
  | succ n ih =>
    intro hn i hi
    rw [lgT, set_getD _ _ _ _ (by rw [lgT_length]; exact ex_lt n)]
    by_cases e : ex i = ex n
    · have := ex_inj i n (by omega) (by omega) e
      subst this
      rw [if_pos rfl]; omega
    · rw [if_neg e]
      refine ih (by omega) i ?_
      by_cases h : i = n
      · subst h; exact absurd rfl e
      · omega
theorem p_loop (a : Nat) (ha : a < 256) (d : Nat) : ∀ i : Nat, i + d = 255 → Ev (fun k => laws_FnPowers.l0 k (a : Int) (tb 255) (lgT 255) (tb 255) 255 (i : Int)) true := by
  induction d with
  | zero =>
    intro i hi
    refine Ev.step (fun k => by simp only [laws_FnPowers.l0]; rw [if_neg (by omega)]) ?_
    by_cases h0 : a = 0
    · exact evp (by omega) (Ev.now _)
    · obtain ⟨j, hj, rfl⟩ := ex_onto a ha h0
      refine evn (by omega) ?_
      have e := ev_pow (ex j) 255 (ex_lt j)
      rw [if_pos (by omega), show ((255 : Int)).toNat = 255 from rfl, gp_255 _ (ex_lt j) h0] at e
      have e1 : rd (lgT 255) ((ex j : Nat) : Int) = (j : Int) := by rw [rd_nat]; exact lg_at 255 (by omega) j hj
      have e2 : rd (lgT 255) 2 = 1 := lg_at 255 (by omega) 1 (by omega)
      have e3 : wrap64 (j : Int) = (j : Int) := by unfold wrap64; omega
      have e4 : wrap64 (1 : Int) = 1 := by unfold wrap64; omega
      have e5 : wrap64 ((j : Int) + 1) = ((j + 1 : Nat) : Int) := by unfold wrap64; omega
      have e6 : Int.tmod ((j + 1 : Nat) : Int) 255 = (((j + 1) % 255 : Nat) : Int) := by rw [Int.tmod_eq_emod_of_nonneg (by omega)]; omega
      have hx := ex_lt j
      rw [e1, e2, e3, e4, e5, e6, lgT_length, tb_length]
      refine Ev.bind e (evp (by omega) (evp (by omega) (evp (by omega) (evp rfl (evp (by omega) (evp (by omega) (Ev.bind (ev_mul (ex j) 2 (ex_lt j) (by decide)) ?_)))))))
      rw [rd_nat, tb_getD 255 _ (Nat.mod_lt _ (by omega)), ← ex_mod, gm_two _ (ex_lt j), show xt (ex j) = ex (j + 1) from rfl, beq_self_eq_true]
      exact Ev.now _
  | succ d ih =>
    intro i hi
    have e1 : rd (tb 255) (i : Int) = ((ex i : Nat) : Int) := by rw [rd_nat]; exact tb_getD 255 i (by omega)
    have e2 : rd (lgT 255) ((ex i : Nat) : Int) = (i : Int) := by rw [rd_nat]; exact lg_at 255 (by omega) i (by omega)
    have e3 : wrap64 (i : Int) = (i : Int) := by unfold wrap64; omega
    have hx := ex_lt i
    have hn := ex_ne i
    refine Ev.step (fun k => ?_) (ih (i + 1) (by omega))
    simp only [laws_FnPowers.l0]
    rw [if_pos (by omega), if_pos (by omega), if_pos (by rw [tb_length]; omega), e1, if_neg (by omega), if_pos (by omega), if_pos (by rw [lgT_length]; omega), e2, e3, if_pos rfl, inc i (by omega)]
theorem p_j2 (a : Nat) (ha : a < 256) : Ev (fun k => laws_FnPowers.j2 k (a : Int)) true := by
  refine Ev.step (fun k => by simp only [laws_FnPowers.j2]; rfl) ?_
  have x1 : Ev (fun k => impl_ExpTable.f k) (tb 255) := ev_of 300 fun k hk => impl_exp k hk
  have x2 : Ev (fun k => impl_LogTable.f k) (lgT 255) := ev_of 300 fun k hk => impl_log k hk
  refine Ev.bind x1 (Ev.bind x2 (evp (by rw [tb_length]; rfl) ?_))
  rw [lgT_length]
  refine Ev.step (fun k => by simp only [laws_FnPowers.j3]; rw [if_neg (by decide), tb_length]) ?_
  exact p_loop a ha 255 0 (by omega)
theorem FnPowers : laws_FnPowers.Pure := by
  intro l0 hl0 _ hb
  refine Ev.rounds ?_
  obtain ⟨a, n, ha, hn, e1⟩ := p_draw l0 hb
  unfold laws_FnPowers.f
  by_cases hbig : (l0.length : Int) > 1048576
  · exact evp hbig (Ev.now _)
  refine evn hbig (ev_to_some e1 (Ev.bind (ev_pow a n ha) (Ev.bind (ev_spow a n ha) ?_)))
  rw [bne_self_eq_false, bne_self_eq_false]
  refine evn (by decide) (Ev.step (fun k => by simp only [laws_FnPowers.j0]; rw [if_neg (by decide)]) ?_)
  have off : ∀ p : Int, Ev (fun k => laws_FnPowers.j1 k (a : Int) n p false) true := fun p => Ev.step (fun k => by simp only [laws_FnPowers.j1]; rw [if_neg (by decide)]) (p_j2 a ha)
  by_cases h : n ≥ 0 ∧ n ≤ 10000
  · rw [if_pos h]
    refine evp rfl ?_
    by_cases h2 : n < 10000
    · rw [decide_eq_true h2]
      refine Ev.step (fun k => by simp only [laws_FnPowers.j1]; rw [if_pos True.intro]) ?_
      rw [show wrap64 (n + 1) = n + 1 by unfold wrap64; omega]
      have e := ev_pow a (n + 1) ha
      rw [if_pos (by omega), show (n + 1).toNat = n.toNat + 1 by omega] at e
      exact Ev.bind e (evp rfl (Ev.bind (ev_mul _ a (gp_lt a _) ha) (evp rfl (p_j2 a ha))))
    · rw [decide_eq_false h2]; exact off _
  · rw [if_neg h]
    exact evn (by decide) (off _)

end Go.Proofs.Ytjibcpfgnnmfjaa.Pure
