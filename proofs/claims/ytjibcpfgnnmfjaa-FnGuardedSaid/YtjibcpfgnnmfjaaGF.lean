/- Arithmetic of bytes (GF(256)) over natural numbers: the product, its laws, powers of 2, and how Go's operations on bits read as numbers. -/
import Derived.RowKit
import Derived.Laws.BitsLemmas
set_option linter.unusedVariables false
set_option linter.unusedSimpArgs false
namespace Go.Proofs.Ytjibcpfgnnmfjaa.GF
open Go Go.RowKit

/-! ### Go's operations on bits -/
theorem bxor (k : IntKind) (j : Nat) (hj : j ≤ k.bits) (hk : ∀ n : Int, 0 ≤ n → n < 2 ^ j → k.wrap n = n) (a b : Nat) (ha : a < 2 ^ j) (hb : b < 2 ^ j) :
    bits .xor k a b = ((a ^^^ b : Nat) : Int) := by
  have hp : 2 ^ j ≤ 2 ^ k.bits := Nat.pow_le_pow_right (by decide) hj
  have ha' : a % 2 ^ k.bits = a := Nat.mod_eq_of_lt (Nat.lt_of_lt_of_le ha hp)
  have hb' : b % 2 ^ k.bits = b := Nat.mod_eq_of_lt (Nat.lt_of_lt_of_le hb hp)
  simp only [bits, BitVec.ofInt_natCast, BitVec.toNat_xor, BitVec.toNat_ofNat, ha', hb']
  exact hk _ (Int.natCast_nonneg _) (by exact_mod_cast Nat.xor_lt_two_pow ha hb)
theorem wraps_i64 (n : Int) (h₀ : 0 ≤ n) (h₁ : n < 2 ^ 63) : IntKind.i64.wrap n = n := by rw [IntKind.wrap_i64]; omega
theorem xor_i64 (a b : Nat) (ha : a < 2 ^ 63) (hb : b < 2 ^ 63) : bits .xor .i64 (a : Int) (b : Int) = ((a ^^^ b : Nat) : Int) := bxor .i64 63 (by decide) wraps_i64 a b ha hb
theorem xor_u8 (a b : Nat) (ha : a < 256) (hb : b < 256) : bits .xor .u8 (a : Int) (b : Int) = ((a ^^^ b : Nat) : Int) := bxor .u8 8 (by decide) wraps_u8 a b ha hb
theorem and1_i64 (a : Int) (h0 : 0 ≤ a) (h1 : a < 2 ^ 63) : bits .and .i64 a 1 = a % 2 := bits_mask .i64 63 (by decide) wraps_i64 1 (by decide) a h0 h1
theorem and1_u8 (a : Int) (h0 : 0 ≤ a) (h1 : a < 256) : bits .and .u8 a 1 = a % 2 := bits_mask .u8 8 (by decide) wraps_u8 1 (by decide) a h0 h1
theorem xor_lt (a b : Nat) (ha : a < 256) (hb : b < 256) : a ^^^ b < 256 := Nat.xor_lt_two_pow (n := 8) ha hb

/-! ### The product -/
/-- times 2 -/
def xt (x : Nat) : Nat := if 2 * x > 255 then (2 * x) ^^^ 285 else 2 * x
def gmAux : Nat → Nat → Nat → Nat → Nat
  | 0, _, _, o => o
  | n + 1, x, b, o => gmAux n (xt x) (b / 2) (if b % 2 = 1 then o ^^^ x else o)
def gm (a b : Nat) : Nat := gmAux 8 a b 0

theorem xt_lt : ∀ x, x < 256 → xt x < 256 := by decide +kernel
theorem xt_xor : ∀ a, a < 256 → ∀ b, b < 256 → xt (a ^^^ b) = xt a ^^^ xt b := by decide +kernel

theorem gmAux_zero (n : Nat) : ∀ x o, gmAux n x 0 o = o := by
  induction n with
  | zero => intro x o; rfl
  | succ n ih => intro x o; simp [gmAux, ih]
theorem gmAux_acc (n : Nat) : ∀ x b o, gmAux n x b o = o ^^^ gmAux n x b 0 := by
  induction n with
  | zero => intro x b o; simp [gmAux]
  | succ n ih =>
    intro x b o
    simp only [gmAux]
    rw [ih, ih (xt x) (b / 2) (if b % 2 = 1 then 0 ^^^ x else 0)]
    split <;> simp [Nat.xor_assoc]
theorem gmAux_lt (n : Nat) : ∀ x b o, x < 256 → o < 256 → gmAux n x b o < 256 := by
  induction n with
  | zero => intro x b o _ ho; exact ho
  | succ n ih =>
    intro x b o hx ho
    simp only [gmAux]
    refine ih _ _ _ (xt_lt x hx) ?_
    split
    · exact xor_lt _ _ ho hx
    · exact ho
theorem gm_lt (a b : Nat) (ha : a < 256) : gm a b < 256 := gmAux_lt 8 a b 0 ha (by decide)

theorem xor_lc (a b c : Nat) : a ^^^ (b ^^^ c) = b ^^^ (a ^^^ c) := by rw [← Nat.xor_assoc, ← Nat.xor_assoc, Nat.xor_comm a b]
theorem xor_mod2 (a b : Nat) : (a ^^^ b) % 2 = (a % 2 + b % 2) % 2 := by
  have h := Nat.xor_mod_two_pow (a := a) (b := b) (n := 1)
  simp at h
  rw [h]
  rcases Nat.mod_two_eq_zero_or_one a with ha | ha <;> rcases Nat.mod_two_eq_zero_or_one b with hb | hb <;> rw [ha, hb] <;> rfl
theorem xor_half (a b : Nat) : (a ^^^ b) / 2 = a / 2 ^^^ b / 2 := by
  have h := Nat.xor_div_two_pow (a := a) (b := b) (n := 1)
  simpa using h
theorem gmAux_right (n : Nat) : ∀ x b c, gmAux n x (b ^^^ c) 0 = gmAux n x b 0 ^^^ gmAux n x c 0 := by
  induction n with
  | zero => intro x b c; simp [gmAux]
  | succ n ih =>
    intro x b c
    simp only [gmAux]
    rw [gmAux_acc n _ _ (if (b ^^^ c) % 2 = 1 then 0 ^^^ x else 0), gmAux_acc n _ _ (if b % 2 = 1 then 0 ^^^ x else 0), gmAux_acc n _ _ (if c % 2 = 1 then 0 ^^^ x else 0), xor_half, ih, xor_mod2]
    generalize gmAux n (xt x) (b / 2) 0 = p
    generalize gmAux n (xt x) (c / 2) 0 = q
    rcases Nat.mod_two_eq_zero_or_one b with hb | hb <;> rcases Nat.mod_two_eq_zero_or_one c with hc | hc <;> rw [hb, hc] <;> simp
    · simp [xor_lc]
    · simp [Nat.xor_assoc]
    · rw [Nat.xor_assoc, xor_lc p x q, ← Nat.xor_assoc x x, Nat.xor_self, Nat.zero_xor]
theorem gm_right (a b c : Nat) : gm a (b ^^^ c) = gm a b ^^^ gm a c := gmAux_right 8 a b c
theorem gmAux_left (n : Nat) : ∀ x y b, x < 256 → y < 256 → gmAux n (x ^^^ y) b 0 = gmAux n x b 0 ^^^ gmAux n y b 0 := by
  induction n with
  | zero => intro x y b _ _; simp [gmAux]
  | succ n ih =>
    intro x y b hx hy
    simp only [gmAux]
    rw [gmAux_acc n _ _ (if b % 2 = 1 then 0 ^^^ (x ^^^ y) else 0), gmAux_acc n _ _ (if b % 2 = 1 then 0 ^^^ x else 0), gmAux_acc n _ _ (if b % 2 = 1 then 0 ^^^ y else 0), xt_xor x hx y hy, ih _ _ _ (xt_lt x hx) (xt_lt y hy)]
    generalize gmAux n (xt x) (b / 2) 0 = p
    generalize gmAux n (xt y) (b / 2) 0 = q
    split
    · rw [Nat.zero_xor, Nat.zero_xor, Nat.zero_xor, Nat.xor_assoc, Nat.xor_assoc, xor_lc y p q]
    · simp
theorem gm_left (a b c : Nat) (ha : a < 256) (hb : b < 256) : gm (a ^^^ b) c = gm a c ^^^ gm b c := gmAux_left 8 a b c ha hb
theorem gm_zero (a : Nat) : gm a 0 = 0 := gmAux_zero 8 a 0
theorem zero_gm : ∀ b, b < 256 → gm 0 b = 0 := by decide +kernel
theorem gm_one : ∀ a, a < 256 → gm a 1 = a := by decide +kernel
theorem gm_two : ∀ a, a < 256 → gm a 2 = xt a := by decide +kernel

theorem top_bit : ∀ b, b < 256 → ∀ n, n < 8 → 2 ^ n ≤ b → b < 2 ^ (n + 1) → b = 2 ^ n ^^^ (b - 2 ^ n) := by decide +kernel
theorem gm_xt_pow : ∀ a, a < 256 → ∀ n, n < 8 → gm a (xt (2 ^ n)) = xt (gm a (2 ^ n)) := by decide +kernel
theorem gm_xt_aux (a : Nat) (ha : a < 256) (n : Nat) : n ≤ 8 → ∀ b, b < 2 ^ n → gm a (xt b) = xt (gm a b) := by
  induction n with
  | zero =>
    intro _ b hb
    have : b = 0 := by simpa using hb
    subst this
    rw [show xt 0 = 0 from rfl, gm_zero]; rfl
  | succ n ih =>
    intro hn b hb
    by_cases h : b < 2 ^ n
    · exact ih (by omega) b h
    · have hp : (2 : Nat) ^ n ≤ 128 := by
        have := Nat.pow_le_pow_right (show 0 < 2 by decide) (show n ≤ 7 by omega)
        simpa using this
      have hb' : b < 256 := by rw [Nat.pow_succ] at hb; omega
      have e := top_bit b hb' n (by omega) (by omega) hb
      have hr : b - 2 ^ n < 2 ^ n := by rw [Nat.pow_succ] at hb; omega
      rw [e, xt_xor _ (by omega) _ (by omega), gm_right, gm_xt_pow a ha n (by omega), ih (by omega) _ hr, gm_right, xt_xor _ (gm_lt _ _ ha) _ (gm_lt _ _ ha)]
theorem gm_xt (a b : Nat) (ha : a < 256) (hb : b < 256) : gm a (xt b) = xt (gm a b) := gm_xt_aux a ha 8 (by omega) b hb

/-! ### Powers of 2 -/
def ex : Nat → Nat
  | 0 => 1
  | n + 1 => xt (ex n)
theorem ex_lt (n : Nat) : ex n < 256 := by
  induction n with
  | zero => decide
  | succ n ih => exact xt_lt _ ih
theorem gm_ex (a : Nat) (ha : a < 256) (j i : Nat) (h : a = ex i) : gm a (ex j) = ex (i + j) := by
  induction j with
  | zero => rw [show ex 0 = 1 from rfl, gm_one a ha, h]; rfl
  | succ j ih => rw [show ex (j + 1) = xt (ex j) from rfl, gm_xt a _ ha (ex_lt j), ih]; rfl
theorem gm_ex_ex (i j : Nat) : gm (ex i) (ex j) = ex (i + j) := gm_ex _ (ex_lt i) j i rfl
theorem ex_step (i : Nat) : ∀ n, ex (n + i) = Nat.repeat xt n (ex i) := by
  intro n
  induction n with
  | zero => rw [Nat.zero_add]; rfl
  | succ n ih => rw [Nat.succ_add]; show xt (ex (n + i)) = xt (Nat.repeat xt n (ex i)); rw [ih]
theorem ex_255 : ex 255 = 1 := by decide +kernel
theorem ex_period (n : Nat) : ex (n + 255) = ex n := by
  induction n with
  | zero => rw [Nat.zero_add, ex_255]; rfl
  | succ n ih => rw [show n + 1 + 255 = (n + 255) + 1 by omega]; show xt (ex (n + 255)) = xt (ex n); rw [ih]
theorem ex_mod (n : Nat) : ex n = ex (n % 255) := by
  have h : ∀ q, ex (n % 255 + 255 * q) = ex (n % 255) := by
    intro q
    induction q with
    | zero => rfl
    | succ q ih => rw [show n % 255 + 255 * (q + 1) = (n % 255 + 255 * q) + 255 by omega, ex_period, ih]
  have := h (n / 255)
  rw [Nat.mod_add_div] at this
  exact this
/-- the table, made in one pass -/
def exList : Nat → Nat → List Nat
  | 0, _ => []
  | n + 1, x => x :: exList n (xt x)
theorem exList_eq (n : Nat) : ∀ i, exList n (ex i) = (List.range n).map fun j => ex (i + j) := by
  induction n with
  | zero => intro i; rfl
  | succ n ih =>
    intro i
    rw [List.range_succ_eq_map, List.map_cons, List.map_map]
    show ex i :: exList n (ex (i + 1)) = _
    rw [ih (i + 1)]
    congr 1
    apply List.map_congr_left
    intro j _
    show ex (i + 1 + j) = ex (i + (j + 1))
    rw [Nat.add_assoc, Nat.add_comm 1 j]
theorem ex_hits : ∀ a, a < 256 → a = 0 ∨ a ∈ exList 255 1 := by decide +kernel
theorem ex_onto (a : Nat) (ha : a < 256) (h0 : a ≠ 0) : ∃ i, i < 255 ∧ ex i = a := by
  rcases ex_hits a ha with h | h
  · exact absurd h h0
  · rw [show (1 : Nat) = ex 0 from rfl, exList_eq] at h
    obtain ⟨j, hj, he⟩ := List.mem_map.mp h
    exact ⟨j, List.mem_range.mp hj, by rw [Nat.zero_add] at he; exact he⟩
theorem ex_nodup : (exList 255 1).Nodup := by decide +kernel
theorem ex_inj (i j : Nat) (hi : i < 255) (hj : j < 255) (h : ex i = ex j) : i = j := by
  have hn := ex_nodup
  rw [show (1 : Nat) = ex 0 from rfl, exList_eq] at hn
  have hl : ((List.range 255).map fun j => ex (0 + j)).length = 255 := by simp
  have hp := List.pairwise_iff_getElem.mp hn
  rcases Nat.lt_trichotomy i j with hlt | he | hgt
  · exact absurd (by simpa using h) (hp i j (by rw [hl]; exact hi) (by rw [hl]; exact hj) hlt)
  · exact he
  · exact absurd (by simpa using h.symm) (hp j i (by rw [hl]; exact hj) (by rw [hl]; exact hi) hgt)
theorem ex_ne (i : Nat) : ex i ≠ 0 := by
  intro h
  have h1 := gm_ex_ex i (255 - i % 255)
  rw [h, zero_gm _ (ex_lt _), ex_mod, show (i + (255 - i % 255)) % 255 = 0 by omega] at h1
  exact absurd h1 (by decide)

theorem gm_comm (a b : Nat) (ha : a < 256) (hb : b < 256) : gm a b = gm b a := by
  by_cases h0 : a = 0
  · subst h0; rw [gm_zero, zero_gm b hb]
  by_cases h1 : b = 0
  · subst h1; rw [gm_zero, zero_gm a ha]
  obtain ⟨i, _, rfl⟩ := ex_onto a ha h0
  obtain ⟨j, _, rfl⟩ := ex_onto b hb h1
  rw [gm_ex_ex, gm_ex_ex, Nat.add_comm]
theorem gm_assoc (a b c : Nat) (ha : a < 256) (hb : b < 256) (hc : c < 256) : gm (gm a b) c = gm a (gm b c) := by
  by_cases h0 : a = 0
  · subst h0; rw [zero_gm b hb, zero_gm c hc, zero_gm _ (gm_lt _ _ hb)]
  by_cases h1 : b = 0
  · subst h1; rw [gm_zero, zero_gm c hc, gm_zero]
  by_cases h2 : c = 0
  · subst h2; rw [gm_zero, gm_zero, gm_zero]
  obtain ⟨i, _, rfl⟩ := ex_onto a ha h0
  obtain ⟨j, _, rfl⟩ := ex_onto b hb h1
  obtain ⟨k, _, rfl⟩ := ex_onto c hc h2
  rw [gm_ex_ex, gm_ex_ex, gm_ex_ex, gm_ex_ex, Nat.add_assoc]
theorem gm_ne (a b : Nat) (ha : a < 256) (hb : b < 256) (h0 : a ≠ 0) (h1 : b ≠ 0) : gm a b ≠ 0 := by
  obtain ⟨i, _, rfl⟩ := ex_onto a ha h0
  obtain ⟨j, _, rfl⟩ := ex_onto b hb h1
  rw [gm_ex_ex]; exact ex_ne _
theorem one_gm (a : Nat) (ha : a < 256) : gm 1 a = a := by rw [gm_comm 1 a (by decide) ha, gm_one a ha]

/-! ### Powers and inverses -/
def gp (a : Nat) : Nat → Nat
  | 0 => 1
  | n + 1 => gm (gp a n) a
theorem gp_lt (a : Nat) (n : Nat) : gp a n < 256 := by
  induction n with
  | zero => exact (by decide : (1:Nat) < 256)
  | succ n ih => exact gm_lt _ _ ih
theorem gp_ex (i n : Nat) : gp (ex i) n = ex (i * n) := by
  induction n with
  | zero => rfl
  | succ n ih => show gm (gp (ex i) n) (ex i) = _; rw [ih, gm_ex_ex, Nat.mul_succ]
theorem gp_two (n : Nat) : gp 2 n = ex n := by
  rw [show (2 : Nat) = ex 1 from rfl, gp_ex, Nat.one_mul]
def inv (a : Nat) : Nat := gp a 254
theorem inv_lt (a : Nat) : inv a < 256 := gp_lt a 254
theorem inv_zero : inv 0 = 0 := by decide +kernel
theorem ex_mul255 (i : Nat) : ex (i * 255) = 1 := by rw [ex_mod, Nat.mul_mod_left]; rfl
theorem gm_inv (a : Nat) (ha : a < 256) (h0 : a ≠ 0) : gm a (inv a) = 1 := by
  obtain ⟨i, _, rfl⟩ := ex_onto a ha h0
  unfold inv
  rw [gp_ex, gm_ex_ex, show i + i * 254 = i * 255 by omega, ex_mul255]
theorem inv_ne (a : Nat) (ha : a < 256) (h0 : a ≠ 0) : inv a ≠ 0 := by
  intro h
  have := gm_inv a ha h0
  rw [h, gm_zero] at this
  exact absurd this (by decide)
theorem gm_cancel (a b c : Nat) (ha : a < 256) (hb : b < 256) (hc : c < 256) (h0 : a ≠ 0) (h : gm a b = gm a c) : b = c := by
  have e : ∀ x, x < 256 → gm (inv a) (gm a x) = x := fun x hx => by
    rw [← gm_assoc _ _ _ (inv_lt a) ha hx, gm_comm (inv a) a (inv_lt a) ha, gm_inv a ha h0, one_gm x hx]
  rw [← e b hb, h, e c hc]
theorem inv_inv (a : Nat) (ha : a < 256) (h0 : a ≠ 0) : inv (inv a) = a := by
  have h1 := gm_inv a ha h0
  have h2 := gm_inv (inv a) (inv_lt a) (inv_ne a ha h0)
  rw [gm_comm a _ ha (inv_lt a)] at h1
  exact gm_cancel (inv a) _ _ (inv_lt a) (inv_lt _) ha (inv_ne a ha h0) (h2.trans h1.symm)
theorem gm_div (a b : Nat) (ha : a < 256) (hb : b < 256) (h0 : b ≠ 0) : gm (gm a (inv b)) b = a := by
  rw [gm_assoc _ _ _ ha (inv_lt b) hb, gm_comm (inv b) b (inv_lt b) hb, gm_inv b hb h0, gm_one a ha]
theorem gp_255 (a : Nat) (ha : a < 256) (h0 : a ≠ 0) : gp a 255 = 1 := by
  obtain ⟨i, _, rfl⟩ := ex_onto a ha h0
  rw [gp_ex, ex_mul255]

end Go.Proofs.Ytjibcpfgnnmfjaa.GF
