/- The field's laws hold of the drawn bytes; no condition. -/
import Derived.Test.YtjibcpfgnnmfjaaGF
import Derived.Test.YtjibcpfgnnmfjaaQFnFieldx2
import Derived.OpenShut
set_option linter.unusedVariables false
set_option linter.unusedSimpArgs false
namespace Go.Proofs.Ytjibcpfgnnmfjaa.Pure
open Go.RowKit Go.Proofs.Ytjibcpfgnnmfjaa.PFnField Go.Proofs.YtjibcpfgnnmfjaaW.PrintWords Go.Proofs.YtjibcpfgnnmfjaaW.PrintLast Go.Proofs.YtjibcpfgnnmfjaaW.PrintMore Go.Proofs.Ytjibcpfgnnmfjaa.GF

theorem wr64 (n : Nat) (h : n < 2 ^ 62) : wrap64 (n : Int) = (n : Int) := by unfold wrap64; omega
theorem wri (n : Int) (h : 0 ≤ n) (h1 : n < 2 ^ 62) : wrap64 n = n := by unfold wrap64; omega
theorem byte_of {x : Int} (h : (Lit.int .u8 x).wf = true) : ∃ n : Nat, n < 256 ∧ x = (n : Int) := by
  have := bounds_u8 h
  exact ⟨x.toNat, by omega, by omega⟩
theorem shr_nat (b j q : Nat) (hj : j ≤ 8) (hq : q = b / 2 ^ j) : shr .u8 (b : Int) (j : Int) = (q : Int) := by
  unfold shr
  rw [Int.toNat_natCast, Nat.min_eq_left (show j ≤ IntKind.bits .u8 from hj), hq]
  simp
theorem and1_nat (q : Nat) (hq : q < 256) : Go.bits .and .u8 (q : Int) 1 = ((q % 2 : Nat) : Int) := by
  rw [and1_u8 (q : Int) (by omega) (by omega)]; simp
theorem and1_inat (q : Nat) (hq : q < 2 ^ 62) : Go.bits .and .i64 (q : Int) 1 = ((q % 2 : Nat) : Int) := by
  rw [and1_i64 (q : Int) (by omega) (by omega)]; simp
theorem dbl (x : Nat) (hx : x < 256) : wrap64 ((x : Int) * 2) = ((2 * x : Nat) : Int) := by unfold wrap64; omega
theorem inc (j : Nat) (hj : j < 2 ^ 62) : wrap64 ((j : Int) + 1) = ((j + 1 : Nat) : Int) := by unfold wrap64; omega
theorem x285 (x : Nat) (hx : x < 256) : Go.bits .xor .i64 ((2 * x : Nat) : Int) 285 = ((2 * x ^^^ 285 : Nat) : Int) := xor_i64 (2 * x) 285 (by omega) (by omega)
theorem xor_nat (o x : Nat) (ho : o < 256) (hx : x < 256) : Go.bits .xor .i64 (o : Int) (x : Int) = ((o ^^^ x : Nat) : Int) := xor_i64 o x (by omega) (by omega)
theorem xt_hi (x : Nat) (h : 2 * x > 255) : xt x = 2 * x ^^^ 285 := by unfold xt; rw [if_pos h]
theorem xt_lo (x : Nat) (h : ¬ 2 * x > 255) : xt x = 2 * x := by unfold xt; rw [if_neg h]

theorem impl_mul_l (n : Nat) : ∀ (k j x o b : Nat), n + j = 8 → n < k → x < 256 → o < 256 → b < 256 →
    impl_FieldMul.l0 k (b : Int) (o : Int) (j : Int) (x : Int) = some ((gmAux n x (b / 2 ^ j) o : Nat) : Int) := by
  induction n with
  | zero =>
    intro k j x o b hj hk hx ho hb
    obtain ⟨k, rfl⟩ : ∃ m, k = m + 1 := ⟨k - 1, by omega⟩
    simp only [impl_FieldMul.l0]
    rw [if_neg (by omega)]
    show some ((o : Int) % 256) = some (o : Int)
    rw [Int.emod_eq_of_lt (by omega) (by omega)]
  | succ n ih =>
    intro k j x o b hj hk hx ho hb
    obtain ⟨k, rfl⟩ : ∃ m, k = m + 1 := ⟨k - 1, by omega⟩
    obtain ⟨q, hq⟩ : ∃ q, q = b / 2 ^ j := ⟨_, rfl⟩
    have hq2 : q < 256 := by rw [hq]; exact Nat.lt_of_le_of_lt (Nat.div_le_self _ _) hb
    have hb2 : q / 2 = b / 2 ^ (j + 1) := by rw [hq, Nat.div_div_eq_div_mul, ← Nat.pow_succ]
    have hs : shr .u8 (b : Int) (j : Int) = (q : Int) := shr_nat b j q (by omega) hq
    rw [← hq]
    simp only [gmAux]
    rw [hb2]
    have hxt := xt_lt x hx
    have hox := xor_lt _ _ ho hx
    have i1 := ih k (j + 1) (xt x) (o ^^^ x) b (by omega) (by omega) hxt hox hb
    have i2 := ih k (j + 1) (xt x) o b (by omega) (by omega) hxt ho hb
    have c1 : (j : Int) < 8 := by omega
    have c2 : (0 : Int) ≤ (j : Int) := by omega
    clear hq hb2
    simp only [impl_FieldMul.l0]
    rw [if_pos c1, if_pos c2, hs, and1_nat q hq2, dbl x hx, inc j (by omega), x285 x hx, xor_nat o x ho hx]
    clear hs
    by_cases h1 : q % 2 = 1
    · rw [if_pos (by omega), if_pos h1]
      by_cases h2 : 2 * x > 255
      · rw [if_pos (by omega), ← xt_hi x h2]; exact i1
      · rw [if_neg (by omega), ← xt_lo x h2]; exact i1
    · rw [if_neg (by omega), if_neg h1]
      by_cases h2 : 2 * x > 255
      · rw [if_pos (by omega), ← xt_hi x h2]; exact i2
      · rw [if_neg (by omega), ← xt_lo x h2]; exact i2
theorem impl_mul (k a b : Nat) (hk : 8 < k) (ha : a < 256) (hb : b < 256) : impl_FieldMul.f k (a : Int) (b : Int) = some ((gm a b : Nat) : Int) := by
  unfold impl_FieldMul.f
  rw [wr64 a (by omega)]
  have := impl_mul_l 8 k 0 a 0 b (by omega) hk ha (by omega) hb
  simpa [gm] using this

theorem spec_mul_l (n : Nat) : ∀ (k x o y : Nat), n < k → y < 2 ^ n → n ≤ 8 → x < 256 → o < 256 →
    spec_l2Mul.l0 k (o : Int) (x : Int) (y : Int) = some ((gmAux n x y o : Nat) : Int) := by
  induction n with
  | zero =>
    intro k x o y hk hy _ hx ho
    obtain ⟨k, rfl⟩ : ∃ m, k = m + 1 := ⟨k - 1, by omega⟩
    have : y = 0 := by simpa using hy
    subst this
    simp only [spec_l2Mul.l0]
    rw [if_neg (by omega)]
    show some ((o : Int) % 256) = some (o : Int)
    rw [Int.emod_eq_of_lt (by omega) (by omega)]
  | succ n ih =>
    intro k x o y hk hy hn hx ho
    obtain ⟨k, rfl⟩ : ∃ m, k = m + 1 := ⟨k - 1, by omega⟩
    simp only [spec_l2Mul.l0]
    by_cases h0 : y = 0
    · subst h0
      rw [if_neg (by omega), gmAux_zero]
      rw [Int.emod_eq_of_lt (by omega) (by omega)]
    have hp : (2 : Nat) ^ (n + 1) ≤ 256 := by
      have := Nat.pow_le_pow_right (show 0 < 2 by decide) (show n + 1 ≤ 8 by omega)
      simpa using this
    have hy2 : y / 2 < 2 ^ n := by rw [Nat.pow_succ] at hy; omega
    have hxt := xt_lt x hx
    have hox := xor_lt _ _ ho hx
    have i1 := ih k (xt x) (o ^^^ x) (y / 2) (by omega) hy2 (by omega) hxt hox
    have i2 := ih k (xt x) o (y / 2) (by omega) hy2 (by omega) hxt ho
    rw [if_pos (by omega), and1_inat y (by omega), dbl x hx, x285 x hx, xor_nat o x ho hx, show (y : Int) / 2 = ((y / 2 : Nat) : Int) by simp]
    simp only [gmAux]
    by_cases h1 : y % 2 = 1
    · rw [if_pos (by omega), if_pos h1]
      by_cases h2 : 2 * x > 255
      · rw [if_pos (by omega), ← xt_hi x h2]; exact i1
      · rw [if_neg (by omega), ← xt_lo x h2]; exact i1
    · rw [if_neg (by omega), if_neg h1]
      by_cases h2 : 2 * x > 255
      · rw [if_pos (by omega), ← xt_hi x h2]; exact i2
      · rw [if_neg (by omega), ← xt_lo x h2]; exact i2
theorem spec_mul (k a b : Nat) (hk : 8 < k) (ha : a < 256) (hb : b < 256) : spec_l2Mul.f k (a : Int) (b : Int) = some ((gm a b : Nat) : Int) := by
  unfold spec_l2Mul.f
  rw [wr64 a (by omega), wr64 b (by omega)]
  have := spec_mul_l 8 k a 0 b hk (by omega) (by omega) ha (by omega)
  simpa [gm] using this

theorem impl_pow_l (a n : Nat) (ha : a < 256) (hn : n < 2 ^ 60) (d : Nat) : ∀ (k i : Nat), i + d = n → d + 9 < k →
    impl_power.l0 k (a : Int) ((gp a i : Nat) : Int) (n : Int) (i : Int) = some ((gp a n : Nat) : Int) := by
  induction d with
  | zero =>
    intro k i hi hk
    obtain ⟨k, rfl⟩ : ∃ m, k = m + 1 := ⟨k - 1, by omega⟩
    simp only [impl_power.l0]
    rw [if_neg (by omega), show i = n by omega]
  | succ d ih =>
    intro k i hi hk
    obtain ⟨k, rfl⟩ : ∃ m, k = m + 1 := ⟨k - 1, by omega⟩
    have e2 : wrap64 ((i : Int) + 1) = ((i + 1 : Nat) : Int) := by rw [wri _ (by omega) (by omega)]; omega
    simp only [impl_power.l0]
    rw [if_pos (by omega), impl_mul k _ _ (by omega) (gp_lt a i) ha, e2]
    simp only [Option.bind_some]
    exact ih k (i + 1) (by omega) (by omega)
theorem impl_pow (k a n : Nat) (hk : n + 9 < k) (ha : a < 256) (hn : n < 2 ^ 60) : impl_power.f k (a : Int) (n : Int) = some ((gp a n : Nat) : Int) := by
  unfold impl_power.f
  exact impl_pow_l a n ha hn n k 0 (by omega) hk

theorem impl_inv (k a : Nat) (hk : 300 < k) (ha : a < 256) : impl_FieldInv.f k (a : Int) = some ((GF.inv a : Nat) : Int) := by
  unfold impl_FieldInv.f
  rw [show (254 : Int) = ((254 : Nat) : Int) from rfl, impl_pow k a 254 (by omega) ha (by omega)]
  rfl

theorem ev_of {α : Type} {g : Nat → Option α} {r : α} (K : Nat) (h : ∀ k, K < k → g k = some r) : Ev g r := ⟨K + 1, fun k hk => h k (by omega)⟩
theorem evp {α : Type} {c : Prop} [Decidable c] {f g : Nat → Option α} {r : α} (h : c) (k : Ev f r) : Ev (fun n => if c then f n else g n) r := Ev.congr (fun _ => if_pos h) k
theorem evn {α : Type} {c : Prop} [Decidable c] {f g : Nat → Option α} {r : α} (h : ¬ c) (k : Ev g r) : Ev (fun n => if c then f n else g n) r := Ev.congr (fun _ => if_neg h) k
theorem ev_some {α β : Type} {a : α} {f : Nat → α → Option β} {r : β} (h : Ev (fun n => f n a) r) : Ev (fun n => (some a).bind (f n)) r := h
theorem ev_to_some {α β : Type} {o : Option α} {a : α} {f : Nat → α → Option β} {r : β} (ho : o = some a) (h : Ev (fun n => f n a) r) : Ev (fun n => o.bind (f n)) r := by subst ho; exact h
theorem maxLen_lt : maxLen < 2 ^ 63 := by decide

/-! ### The cursor that draws -/
theorem cur_wraps (n : Int) (h₀ : 0 ≤ n) (h₁ : n < 2 ^ 64) : IntKind.u64.wrap n = n := by rw [IntKind.wrap_u64]; omega
theorem cur_and (y : Int) (h0 : 0 ≤ y) (h1 : y < 2 ^ 64) : Go.bits .and .u64 y 255 = y % 256 := bits_mask .u64 64 (by decide) cur_wraps 8 (by decide) y h0 h1
theorem cur_byte (u : Int) : ∃ b : Int, wrap64 (Go.bits .and .u64 ((IntKind.u64.wrap u) / 1099511627776) 255) = b ∧ 0 ≤ b ∧ b ≤ 255 := by
  refine ⟨_, rfl, ?_⟩
  have h := IntKind.wrap_u64 u
  generalize IntKind.u64.wrap u = v at h
  have hv : 0 ≤ v ∧ v < 2 ^ 64 := by omega
  clear h
  obtain ⟨y, hy⟩ : ∃ y, y = v / 1099511627776 := ⟨_, rfl⟩
  rw [← hy, cur_and y (by omega) (by omega)]
  clear hv
  unfold wrap64
  omega
theorem cur_rd (xs : List Int) (hb : ∀ x ∈ xs, (Lit.int .u8 x).wf = true) (i : Int) (h0 : 0 ≤ i) (h1 : i < (xs.length : Int)) : 0 ≤ rd xs i ∧ rd xs i ≤ 255 := by
  have hm : rd xs i ∈ xs := by
    unfold rd
    rw [List.getD_eq_getElem?_getD, List.getElem?_eq_getElem (show i.toNat < xs.length by omega)]
    simp
  have := bounds_u8 (hb _ hm)
  omega
section
variable (xs : List Int) (hb : ∀ x ∈ xs, (Lit.int .u8 x).wf = true)
include hb
theorem cur_next (a s n : Int) (h0 : 0 ≤ a) (h1 : a ≤ n) (hn : n < 2 ^ 60) : ∃ b a' s', spec_l1Cur_next.f xs a s = some (b, a', s') ∧ 0 ≤ b ∧ b ≤ 255 ∧ 0 ≤ a' ∧ a' ≤ n + 1 := by
  have hw : wrap64 (a + 1) = a + 1 := by unfold wrap64; omega
  unfold spec_l1Cur_next.f
  rw [hw]
  by_cases c1 : a < (xs.length : Int)
  · have hr := cur_rd xs hb a h0 c1
    rw [if_pos c1, if_pos h0]
    have hr2 : wrap64 (rd xs a) = rd xs a := by unfold wrap64; omega
    rw [hr2]
    by_cases c2 : a + 1 ≤ (xs.length : Int)
    · rw [if_pos c2]; exact ⟨_, _, _, rfl, hr.1, hr.2, by omega, by omega⟩
    · omega
  · rw [if_neg c1, if_neg (by omega)]
    obtain ⟨b, hb1, hb2, hb3⟩ := cur_byte ((IntKind.u64.wrap ((IntKind.u64.wrap (s * 6364136223846793005)) + 0)) + 1442695040888963407)
    rw [hb1]
    exact ⟨_, _, _, rfl, hb2, hb3, by omega, by omega⟩
theorem cur_pick (a s n m : Int) (h0 : 0 ≤ a) (h1 : a ≤ n) (hn : n < 2 ^ 59) (hm : m < 2 ^ 40) : ∃ b a' s', spec_l1Cur_pick.f xs a s m = some (b, a', s') ∧ 0 ≤ b ∧ (b < m ∨ b = 0) ∧ 0 ≤ a' ∧ a' ≤ n + 2 := by
  unfold spec_l1Cur_pick.f
  by_cases c1 : m ≤ 1
  · rw [if_pos c1]; exact ⟨0, a, s, rfl, by omega, .inr rfl, h0, by omega⟩
  · obtain ⟨b, a1, s1, e1, b0, b1, p0, p1⟩ := cur_next xs hb a s n h0 h1 (by omega)
    rw [if_neg c1, e1]
    simp only [Option.bind_some]
    by_cases c2 : m > 200
    · obtain ⟨b2, a2, s2, e2, q0, q1, r0, r1⟩ := cur_next xs hb a1 s1 (n + 1) p0 p1 (by omega)
      rw [if_pos c2, e2]
      simp only [Option.bind_some]
      rw [if_neg (by omega)]
      have hw : wrap64 ((wrap64 (b * 256)) + b2) = b * 256 + b2 := by unfold wrap64; omega
      rw [hw, Int.tmod_eq_emod_of_nonneg (by omega)]
      have h1 := Int.emod_nonneg (b * 256 + b2) (show m ≠ 0 by omega)
      have h2 := Int.emod_lt_of_pos (b * 256 + b2) (show 0 < m by omega)
      exact ⟨_, _, _, rfl, h1, .inl h2, r0, by omega⟩
    · rw [if_neg c2, if_neg (by omega), Int.tmod_eq_emod_of_nonneg (by omega)]
      have h1 := Int.emod_nonneg b (show m ≠ 0 by omega)
      have h2 := Int.emod_lt_of_pos b (show 0 < m by omega)
      exact ⟨_, _, _, rfl, h1, .inl h2, p0, by omega⟩
end

section
variable (xs : List Int) (hb : ∀ x ∈ xs, (Lit.int .u8 x).wf = true)
include hb
theorem cur_among (a s n : Int) (L : List Int) (hL : 0 < L.length) (hL2 : L.length < 2 ^ 39) (h0 : 0 ≤ a) (h1 : a ≤ n) (hn : n < 2 ^ 59) : ∃ b a' s', spec_l1Cur_among.f xs a s L = some (b, a', s') ∧ b ∈ L ∧ 0 ≤ a' ∧ a' ≤ n + 2 := by
  obtain ⟨i, a1, s1, e1, i0, i1, p0, p1⟩ := cur_pick xs hb a s n (L.length : Int) h0 h1 hn (by omega)
  unfold spec_l1Cur_among.f
  rw [e1]
  simp only [Option.bind_some]
  rw [if_pos i0, if_pos (by omega)]
  refine ⟨_, _, _, rfl, ?_, p0, p1⟩
  unfold rd
  rw [List.getD_eq_getElem?_getD, List.getElem?_eq_getElem (show i.toNat < L.length by omega)]
  simp
end

section
variable (xs : List Int) (hb : ∀ x ∈ xs, (Lit.int .u8 x).wf = true)
include hb
theorem cur_one (a s n m : Int) (h0 : 0 ≤ a) (h1 : a ≤ n) (hn : n < 2 ^ 59) (hm : m < 2 ^ 40) : ∃ b a' s', spec_l1Cur_one.f xs a s m = some (b, a', s') ∧ 0 ≤ a' ∧ a' ≤ n + 2 := by
  obtain ⟨i, a1, s1, e1, i0, i1, p0, p1⟩ := cur_pick xs hb a s n m h0 h1 hn hm
  unfold spec_l1Cur_one.f
  rw [e1]
  exact ⟨_, _, _, rfl, p0, p1⟩
theorem cur_byt (a s n : Int) (h0 : 0 ≤ a) (h1 : a ≤ n) (hn : n < 2 ^ 58) : ∃ (b : Nat) (a' s' : Int), spec_l1Cur_byte.f xs a s = some ((b : Int), a', s') ∧ b < 256 ∧ 0 ≤ a' ∧ a' ≤ n + 4 := by
  obtain ⟨o, a1, s1, e1, p0, p1⟩ := cur_one xs hb a s n 5 h0 h1 (by omega) (by omega)
  unfold spec_l1Cur_byte.f
  rw [e1]
  simp only [Option.bind_some]
  cases o with
  | true =>
    obtain ⟨b, a2, s2, e2, _, q0, q1⟩ := cur_among xs hb a1 s1 (n + 2) [0, 1, 2, 255, 29] (by decide) (by decide) p0 p1 (by omega)
    rw [if_pos rfl, e2]
    exact ⟨(b % 256).toNat, a2, s2, by simp only [Option.bind_some]; congr 2; omega, by omega, q0, by omega⟩
  | false =>
    obtain ⟨b, a2, s2, e2, _, _, q0, q1⟩ := cur_pick xs hb a1 s1 (n + 2) 256 p0 p1 (by omega) (by omega)
    rw [if_neg (by decide), e2]
    exact ⟨(b % 256).toNat, a2, s2, by simp only [Option.bind_some]; congr 2; omega, by omega, q0, by omega⟩
end

theorem f_draw (xs : List Int) (hb : ∀ x ∈ xs, (Lit.int .u8 x).wf = true) : ∃ a b : Nat, a < 256 ∧ b < 256 ∧ spec_DrawFieldMul.f xs = some ((a : Int), (b : Int)) := by
  obtain ⟨a, a1, s1, e1, h1, p0, p1⟩ := cur_byt xs hb 0 0 0 (by omega) (by omega) (by omega)
  obtain ⟨b, a2, s2, e2, h2, _, _⟩ := cur_byt xs hb a1 s1 (0 + 4) p0 p1 (by omega)
  refine ⟨a, b, h1, h2, ?_⟩
  unfold spec_DrawFieldMul.f
  rw [e1]
  simp only [Option.bind_some]
  rw [e2]
  rfl
theorem ev_mul (a b : Nat) (ha : a < 256) (hb : b < 256) : Ev (fun k => impl_FieldMul.f k (a : Int) (b : Int)) ((gm a b : Nat) : Int) := ev_of 20 fun k hk => impl_mul k a b (by omega) ha hb
theorem ev_inv (a : Nat) (ha : a < 256) : Ev (fun k => impl_FieldInv.f k (a : Int)) ((GF.inv a : Nat) : Int) := ev_of 400 fun k hk => impl_inv k a (by omega) ha
theorem ev_smulf (a b : Nat) (ha : a < 256) (hb : b < 256) : Ev (fun k => spec_FieldMul.f k (a : Int) (b : Int)) ((gm a b : Nat) : Int) := ev_of 20 fun k hk => by
  unfold spec_FieldMul.f
  rw [spec_mul k a b (by omega) ha hb]; rfl
theorem field_end (a b : Nat) (ha : a < 256) (hb : b < 256) : Ev (fun k => if (a : Int) = 0 then some true else if (b : Int) = 0 then some true else (impl_FieldMul.f k (a : Int) (b : Int)).bind fun t => some (t != 0)) true := by
  by_cases h0 : a = 0
  · exact evp (by omega) (Ev.now _)
  · refine evn (by omega) ?_
    by_cases h1 : b = 0
    · exact evp (by omega) (Ev.now _)
    · refine evn (by omega) (Ev.bind (ev_mul a b ha hb) ?_)
      have := gm_ne a b ha hb h0 h1
      rw [show (((gm a b : Nat) : Int) != 0) = true from bne_iff_ne.mpr (by omega)]
      exact Ev.now _
theorem field_j2 (a b c d : Nat) (ha : a < 256) (hb : b < 256) (hc : c < 256) (hd : d < 256) : Ev (fun k => laws_FnField.j2 k (a : Int) (b : Int) (c : Int) (d : Int) false) true := by
  refine Ev.step (fun k => by simp only [laws_FnField.j2]; rw [if_neg (by decide)]) ?_
  by_cases h0 : d = 0
  · have e : Ev (fun k => impl_FieldDiv.f k (c : Int) (d : Int)) (0, false) := by unfold impl_FieldDiv.f; exact evp (by omega) (Ev.now _)
    refine Ev.bind e (evn (by subst h0; decide) (evn (by decide) (evp rfl (field_end a b ha hb))))
  · have e : Ev (fun k => impl_FieldDiv.f k (c : Int) (d : Int)) (((gm c (GF.inv d) : Nat) : Int), true) := by
      unfold impl_FieldDiv.f
      exact evn (by omega) (Ev.bind (ev_inv d hd) (Ev.bind (ev_mul c (GF.inv d) hc (inv_lt d)) (Ev.now _)))
    refine Ev.bind e (evn ?_ (evp rfl (Ev.bind (ev_mul _ d (gm_lt _ _ hc) hd) (evp (by rw [gm_div c d hc hd h0]) (field_end a b ha hb)))))
    rw [show (((d : Nat) : Int) != 0) = true from bne_iff_ne.mpr (by omega)]; show ¬ ((true != true) = true); decide
theorem FnField : laws_FnField.Pure := by
  intro l0 l1 hl0 _ hb0 hl1 _ hb1
  refine Ev.rounds ?_
  obtain ⟨a, b, ha, hb, e1⟩ := f_draw l0 hb0
  obtain ⟨c, d, hc, hd, e2⟩ := f_draw l1 hb1
  have e3 : spec_DrawFieldDiv.f l1 = some ((c : Int), (d : Int)) := by unfold spec_DrawFieldDiv.f; rw [e2]; rfl
  unfold laws_FnField.f
  by_cases hbig : wrap64 ((l0.length : Int) + (l1.length : Int)) > 1048576
  · exact evp hbig (Ev.now _)
  refine evn hbig (ev_to_some e1 (ev_to_some e3 (Ev.bind (ev_mul a b ha hb) (Ev.bind (ev_smulf a b ha hb) (evp rfl (Ev.bind (ev_mul a b ha hb) (Ev.bind (ev_mul b a hb ha) ?_)))))))
  rw [gm_comm b a hb ha, bne_self_eq_false]
  refine Ev.step (fun k => by simp only [laws_FnField.j0]; rw [if_neg (by decide)]) ?_
  refine Ev.bind (ev_mul a b ha hb) (Ev.bind (ev_mul _ c (gm_lt _ _ ha) hc) (Ev.bind (ev_mul b c hb hc) (Ev.bind (ev_mul a _ ha (gm_lt _ _ hb)) (evp (by rw [gm_assoc a b c ha hb hc]) ?_))))
  rw [xor_u8 b c hb hc]
  refine Ev.bind (ev_mul a _ ha (xor_lt _ _ hb hc)) (Ev.bind (ev_mul a b ha hb) (Ev.bind (ev_mul a c ha hc) (evp (by rw [xor_u8 _ _ (gm_lt _ _ ha) (gm_lt _ _ ha), gm_right]) ?_)))
  refine Ev.bind (ev_mul a 1 ha (by decide)) ?_
  rw [gm_one a ha, bne_self_eq_false]
  refine Ev.step (fun k => by simp only [laws_FnField.j1]; rw [if_neg (by decide)]) ?_
  by_cases h0 : a = 0
  · exact evp (by omega) (field_j2 a b c d ha hb hc hd)
  · refine evn (by omega) (Ev.bind (ev_inv a ha) (Ev.bind (ev_mul a _ ha (inv_lt a)) (evp (by rw [gm_inv a ha h0]; rfl) (Ev.bind (ev_inv a ha) (Ev.bind (ev_inv _ (inv_lt a)) ?_)))))
    rw [inv_inv a ha h0, bne_self_eq_false]
    exact field_j2 a b c d ha hb hc hd

end Go.Proofs.Ytjibcpfgnnmfjaa.Pure
