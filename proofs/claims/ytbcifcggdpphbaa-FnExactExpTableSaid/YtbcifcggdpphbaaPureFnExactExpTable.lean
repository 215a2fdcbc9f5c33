/- The program's ExpTable answers as the reference's, in memory of its own; no condition. -/
import Derived.Test.YtbcifcggdpphbaaGF
import Derived.Test.YtbcifcggdpphbaaQFnExactExpTablex2
import Derived.OpenShut
set_option linter.unusedVariables false
set_option linter.unusedSimpArgs false
namespace Go.Proofs.Ytbcifcggdpphbaa.Pure
open Go.RowKit Go.Proofs.Ytbcifcggdpphbaa.PFnExactExpTable Go.Proofs.YtbcifcggdpphbaaW.PrintWords Go.Proofs.YtbcifcggdpphbaaW.PrintLast Go.Proofs.YtbcifcggdpphbaaW.PrintMore Go.Proofs.Ytbcifcggdpphbaa.GF

theorem wr64 (n : Nat) (h : n < 2 ^ 62) : wrap64 (n : Int) = (n : Int) := by unfold wrap64; omega
theorem wri (n : Int) (h : 0 ≤ n) (h1 : n < 2 ^ 62) : wrap64 n = n := by unfold wrap64; omega
theorem byte_of {x : Int} (h : (Lit.int .u8 x).wf = true) : ∃ n : Nat, n < 256 ∧ x = (n : Int) := by
  have := bounds_u8 h
  exact ⟨x.toNat, by omega, by omega⟩
theorem shr_nat (b j q : Nat) (hj : j ≤ 8) (hq : q = b / 2 ^ j) : shr .u8 (b : Int) (j : Int) = (q : Int) := by
  unfold shr
  rw [Int.toNat_natCast, Nat.min_eq_left (show j ≤ IntKind.bits .u8 from hj), hq]
  simp
theorem and1_nat (q : Nat) (hq : q < 256) : Go.bits .and .u8 (q : Int) 1 = ((q % 2 : Nat) : Int) := by
  rw [and1_u8 (q : Int) (by omega) (by omega)]; simp
theorem and1_inat (q : Nat) (hq : q < 2 ^ 62) : Go.bits .and .i64 (q : Int) 1 = ((q % 2 : Nat) : Int) := by
  rw [and1_i64 (q : Int) (by omega) (by omega)]; simp
theorem dbl (x : Nat) (hx : x < 256) : wrap64 ((x : Int) * 2) = ((2 * x : Nat) : Int) := by unfold wrap64; omega
theorem inc (j : Nat) (hj : j < 2 ^ 62) : wrap64 ((j : Int) + 1) = ((j + 1 : Nat) : Int) := by unfold wrap64; omega
theorem x285 (x : Nat) (hx : x < 256) : Go.bits .xor .i64 ((2 * x : Nat) : Int) 285 = ((2 * x ^^^ 285 : Nat) : Int) := xor_i64 (2 * x) 285 (by omega) (by omega)
theorem xor_nat (o x : Nat) (ho : o < 256) (hx : x < 256) : Go.bits .xor .i64 (o : Int) (x : Int) = ((o ^^^ x : Nat) : Int) := xor_i64 o x (by omega) (by omega)
theorem xt_hi (x : Nat) (h : 2 * x > 255) : xt x = 2 * x ^^^ 285 := by unfold xt; rw [if_pos h]
theorem xt_lo (x : Nat) (h : ¬ 2 * x > 255) : xt x = 2 * x := by unfold xt; rw [if_neg h]

theorem impl_mul_l (n : Nat) : ∀ (k j x o b : Nat), n + j = 8 → n < k → x < 256 → o < 256 → b < 256 →
    impl_FieldMul.l0 k (b : Int) (o : Int) (j : Int) (x : Int) = some ((gmAux n x (b / 2 ^ j) o : Nat) : Int) := by
  induction n with
  | zero =>
    intro k j x o b hj hk hx ho hb
    obtain ⟨k, rfl⟩ : ∃ m, k = m + 1 := ⟨k - 1, by omega⟩
    simp only [impl_FieldMul.l0]
    rw [if_neg (by omega)]
    show some ((o : Int) % 256) = some (o : Int)
    rw [Int.emod_eq_of_lt (by omega) (by omega)]
  | succ n ih =>
    intro k j x o b hj hk hx ho hb
    obtain ⟨k, rfl⟩ : ∃ m, k = m + 1 := ⟨k - 1, by omega⟩
    obtain ⟨q, hq⟩ : ∃ q, q = b / 2 ^ j := ⟨_, rfl⟩
    have hq2 : q < 256 := by rw [hq]; exact Nat.lt_of_le_of_lt (Nat.div_le_self _ _) hb
    have hb2 : q / 2 = b / 2 ^ (j + 1) := by rw [hq, Nat.div_div_eq_div_mul, ← Nat.pow_succ]
    have hs : shr .u8 (b : Int) (j : Int) = (q : Int) := shr_nat b j q (by omega) hq
    rw [← hq]
    simp only [gmAux]
    rw [hb2]
    have hxt := xt_lt x hx
    have hox := xor_lt _ _ ho hx
    have i1 := ih k (j + 1) (xt x) (o ^^^ x) b (by omega) (by omega) hxt hox hb
    have i2 := ih k (j + 1) (xt x) o b (by omega) (by omega) hxt ho hb
    have c1 : (j : Int) < 8 := by omega
    have c2 : (0 : Int) ≤ (j : Int) := by omega
    clear hq hb2
    simp only [impl_FieldMul.l0]
    rw [if_pos c1, if_pos c2, hs, and1_nat q hq2, dbl x hx, inc j (by omega), x285 x hx, xor_nat o x ho hx]
    clear hs
    by_cases h1 : q % 2 = 1
    · rw [if_pos (by omega), if_pos h1]
      by_cases h2 : 2 * x > 255
      · rw [if_pos (by omega), ← xt_hi x h2]; exact i1
      · rw [if_neg (by omega), ← xt_lo x h2]; exact i1
    · rw [if_neg (by omega), if_neg h1]
      by_cases h2 : 2 * x > 255
      · rw [if_pos (by omega), ← xt_hi x h2]; exact i2
      · rw [if_neg (by omega), ← xt_lo x h2]; exact i2
theorem impl_mul (k a b : Nat) (hk : 8 < k) (ha : a < 256) (hb : b < 256) : impl_FieldMul.f k (a : Int) (b : Int) = some ((gm a b : Nat) : Int) := by
  unfold impl_FieldMul.f
  rw [wr64 a (by omega)]
  have := impl_mul_l 8 k 0 a 0 b (by omega) hk ha (by omega) hb
  simpa [gm] using this

theorem spec_mul_l (n : Nat) : ∀ (k x o y : Nat), n < k → y < 2 ^ n → n ≤ 8 → x < 256 → o < 256 →
    spec_l2Mul.l0 k (o : Int) (x : Int) (y : Int) = some ((gmAux n x y o : Nat) : Int) := by
  induction n with
  | zero =>
    intro k x o y hk hy _ hx ho
    obtain ⟨k, rfl⟩ : ∃ m, k = m + 1 := ⟨k - 1, by omega⟩
    have : y = 0 := by simpa using hy
    subst this
    simp only [spec_l2Mul.l0]
    rw [if_neg (by omega)]
    show some ((o : Int) % 256) = some (o : Int)
    rw [Int.emod_eq_of_lt (by omega) (by omega)]
  | succ n ih =>
    intro k x o y hk hy hn hx ho
    obtain ⟨k, rfl⟩ : ∃ m, k = m + 1 := ⟨k - 1, by omega⟩
    simp only [spec_l2Mul.l0]
    by_cases h0 : y = 0
    · subst h0
      rw [if_neg (by omega), gmAux_zero]
      rw [Int.emod_eq_of_lt (by omega) (by omega)]
    have hp : (2 : Nat) ^ (n + 1) ≤ 256 := by
      have := Nat.pow_le_pow_right (show 0 < 2 by decide) (show n + 1 ≤ 8 by omega)
      simpa using this
    have hy2 : y / 2 < 2 ^ n := by rw [Nat.pow_succ] at hy; omega
    have hxt := xt_lt x hx
    have hox := xor_lt _ _ ho hx
    have i1 := ih k (xt x) (o ^^^ x) (y / 2) (by omega) hy2 (by omega) hxt hox
    have i2 := ih k (xt x) o (y / 2) (by omega) hy2 (by omega) hxt ho
    rw [if_pos (by omega), and1_inat y (by omega), dbl x hx, x285 x hx, xor_nat o x ho hx, show (y : Int) / 2 = ((y / 2 : Nat) : Int) by simp]
    simp only [gmAux]
    by_cases h1 : y % 2 = 1
    · rw [if_pos (by omega), if_pos h1]
      by_cases h2 : 2 * x > 255
      · rw [if_pos (by omega), ← xt_hi x h2]; exact i1
      · rw [if_neg (by omega), ← xt_lo x h2]; exact i1
    · rw [if_neg (by omega), if_neg h1]
      by_cases h2 : 2 * x > 255
      · rw [if_pos (by omega), ← xt_hi x h2]; exact i2
      · rw [if_neg (by omega), ← xt_lo x h2]; exact i2
theorem spec_mul (k a b : Nat) (hk : 8 < k) (ha : a < 256) (hb : b < 256) : spec_l2Mul.f k (a : Int) (b : Int) = some ((gm a b : Nat) : Int) := by
  unfold spec_l2Mul.f
  rw [wr64 a (by omega), wr64 b (by omega)]
  have := spec_mul_l 8 k a 0 b hk (by omega) (by omega) ha (by omega)
  simpa [gm] using this

theorem rd_nat (xs : List Int) (i : Nat) : rd xs (i : Int) = xs.getD i 0 := by unfold rd; rw [Int.toNat_natCast]
theorem set_getD (xs : List Int) (i j : Nat) (v : Int) (hi : i < xs.length) : (xs.set i v).getD j 0 = if j = i then v else xs.getD j 0 := by
  simp only [List.getD_eq_getElem?_getD, List.getElem?_set]
  by_cases h : i = j
  · subst h; simp [hi]
  · rw [if_neg h, if_neg (fun e => h e.symm)]

theorem mark_bytes (d : Nat) : ∀ (k : Nat) (xs : List Int) (i : Nat), i + d = xs.length → d < k → xs.length < 2 ^ 48 → (∀ j, j < i → xs.getD j 0 = ((1 + j : Nat) : Int) % 256) →
    ∃ ys, laws_markByteS.l0 k xs ((1 + i : Nat) : Int) (i : Int) = some (((1 + xs.length : Nat) : Int), ys) ∧ ys.length = xs.length ∧ ∀ j, j < xs.length → ys.getD j 0 = ((1 + j : Nat) : Int) % 256 := by
  induction d with
  | zero =>
    intro k xs i hi hk _ hxs
    obtain ⟨k, rfl⟩ : ∃ m, k = m + 1 := ⟨k - 1, by omega⟩
    simp only [laws_markByteS.l0]
    rw [if_neg (by omega)]
    exact ⟨xs, by rw [show i = xs.length by omega], rfl, fun j hj => hxs j (by omega)⟩
  | succ d ih =>
    intro k xs i hi hk hl hxs
    obtain ⟨k, rfl⟩ : ∃ m, k = m + 1 := ⟨k - 1, by omega⟩
    simp only [laws_markByteS.l0]
    rw [if_pos (by omega), if_pos (by omega), wri (((1 + i : Nat) : Int) + 1) (by omega) (by omega), wri ((i : Int) + 1) (by omega) (by omega), Int.toNat_natCast]
    obtain ⟨ys, hr, hn, hy⟩ := ih k (xs.set i (((1 + i : Nat) : Int) % 256)) (i + 1) (by rw [List.length_set]; omega) (by omega) (by rw [List.length_set]; omega) (fun j hj => by
      rw [set_getD _ _ _ _ (by omega)]
      split
      · rename_i e; subst e; rfl
      · exact hxs j (by omega))
    rw [List.length_set] at hr hn hy
    exact ⟨ys, by rw [← hr]; congr 1, hn, hy⟩
theorem held_bytes (d : Nat) : ∀ (k : Nat) (ys : List Int) (i : Nat), i + d = ys.length → d < k → ys.length < 2 ^ 48 → (∀ j, j < ys.length → ys.getD j 0 = ((1 + j : Nat) : Int) % 256) →
    laws_heldByteS.l0 k ys ((1 + i : Nat) : Int) (i : Int) = some ((1 + ys.length : Nat) : Int) := by
  induction d with
  | zero =>
    intro k ys i hi hk _ _
    obtain ⟨k, rfl⟩ : ∃ m, k = m + 1 := ⟨k - 1, by omega⟩
    simp only [laws_heldByteS.l0]
    rw [if_neg (by omega), show i = ys.length by omega]
  | succ d ih =>
    intro k ys i hi hk hl hy
    obtain ⟨k, rfl⟩ : ∃ m, k = m + 1 := ⟨k - 1, by omega⟩
    simp only [laws_heldByteS.l0]
    rw [if_pos (by omega), if_pos (by omega), rd_nat, if_pos (hy i (by omega)), wri (((1 + i : Nat) : Int) + 1) (by omega) (by omega), wri ((i : Int) + 1) (by omega) (by omega)]
    rw [← ih k ys (i + 1) (by omega) (by omega) hl hy]
    congr 1
theorem marked (k : Nat) (xs : List Int) (hk : xs.length < k) (hl : xs.length < 2 ^ 48) :
    ∃ ys, laws_markByteS.f k xs 1 = some (((1 + xs.length : Nat) : Int), ys) ∧ laws_heldByteS.f k ys 1 = some ((1 + xs.length : Nat) : Int) := by
  obtain ⟨ys, h1, h2, h3⟩ := mark_bytes xs.length k xs 0 (by omega) hk hl (fun j hj => by omega)
  refine ⟨ys, h1, ?_⟩
  have := held_bytes ys.length k ys 0 (by omega) (by omega) (by omega) (fun j hj => h3 j (by omega))
  rw [h2] at this
  exact this

theorem eq_bytes_l (d : Nat) : ∀ (k : Nat) (xs : List Int) (i : Nat), i + d = xs.length → d < k → xs.length < 2 ^ 48 → laws_eqByteS.l0 k xs xs (i : Int) = some true := by
  induction d with
  | zero =>
    intro k xs i hi hk _
    obtain ⟨k, rfl⟩ : ∃ m, k = m + 1 := ⟨k - 1, by omega⟩
    simp only [laws_eqByteS.l0]
    rw [if_neg (by omega)]
  | succ d ih =>
    intro k xs i hi hk hl
    obtain ⟨k, rfl⟩ : ∃ m, k = m + 1 := ⟨k - 1, by omega⟩
    simp only [laws_eqByteS.l0]
    rw [if_pos (by omega), if_pos (by omega), if_pos (by omega), if_pos True.intro, wri ((i : Int) + 1) (by omega) (by omega)]
    exact ih k xs (i + 1) (by omega) (by omega) hl
theorem eq_bytes (k : Nat) (xs : List Int) (hk : xs.length < k) (hl : xs.length < 2 ^ 48) : laws_eqByteS.f k xs xs = some true := by
  unfold laws_eqByteS.f
  rw [if_pos rfl]
  exact eq_bytes_l xs.length k xs 0 (by omega) hk hl

def tb (n : Nat) : List Int := (List.range n).map fun j => ((ex j : Nat) : Int)
theorem tb_length (n : Nat) : (tb n).length = n := by simp [tb]
theorem tb_succ (n : Nat) : tb (n + 1) = tb n ++ [((ex n : Nat) : Int)] := by simp [tb, List.range_succ]
theorem ex_two (i : Nat) : ((gm (ex i) 2 : Nat) : Int) = ((ex (i + 1) : Nat) : Int) := by rw [gm_two _ (ex_lt i)]; rfl
theorem impl_exp_l (d : Nat) : ∀ (k i : Nat), i + d = 255 → d + 9 < k → impl_ExpTable.l0 k (tb i) ((ex i : Nat) : Int) = some (tb 255) := by
  induction d with
  | zero =>
    intro k i hi hk
    obtain ⟨k, rfl⟩ : ∃ m, k = m + 1 := ⟨k - 1, by omega⟩
    simp only [impl_ExpTable.l0]
    rw [tb_length, if_neg (by omega), show i = 255 by omega]
  | succ d ih =>
    intro k i hi hk
    obtain ⟨k, rfl⟩ : ∃ m, k = m + 1 := ⟨k - 1, by omega⟩
    simp only [impl_ExpTable.l0]
    rw [tb_length, if_pos (by omega), if_pos (by omega), show (2 : Int) = ((2 : Nat) : Int) from rfl, impl_mul k _ 2 (by omega) (ex_lt i) (by omega)]
    simp only [Option.bind_some]
    rw [ex_two, ← tb_succ]
    exact ih k (i + 1) (by omega) (by omega)
theorem impl_exp (k : Nat) (hk : 300 < k) : impl_ExpTable.f k = some (tb 255) := impl_exp_l 255 k 0 (by omega) (by omega)

theorem spec_exp_l (d : Nat) : ∀ (k i : Nat), i + d = 255 → d + 9 < k → spec_ExpTable.l0 k (tb i) ((ex i : Nat) : Int) (i : Int) = some (tb 255) := by
  induction d with
  | zero =>
    intro k i hi hk
    obtain ⟨k, rfl⟩ : ∃ m, k = m + 1 := ⟨k - 1, by omega⟩
    simp only [spec_ExpTable.l0]
    rw [if_neg (by omega), show i = 255 by omega]
  | succ d ih =>
    intro k i hi hk
    obtain ⟨k, rfl⟩ : ∃ m, k = m + 1 := ⟨k - 1, by omega⟩
    simp only [spec_ExpTable.l0]
    rw [tb_length, if_pos (by omega), if_pos (by omega), show (2 : Int) = ((2 : Nat) : Int) from rfl, spec_mul k _ 2 (by omega) (ex_lt i) (by omega)]
    simp only [Option.bind_some]
    rw [ex_two, ← tb_succ, wri ((i : Int) + 1) (by omega) (by omega)]
    exact ih k (i + 1) (by omega) (by omega)
theorem spec_exp (k : Nat) (hk : 300 < k) : spec_ExpTable.f k = some (tb 255) := spec_exp_l 255 k 0 (by omega) (by omega)

theorem all_of (k : Nat) (L : List Int) (hs : spec_ExpTable.f k = some L) (hi : impl_ExpTable.f k = some L) (hk : L.length < k) (hl : L.length < 2 ^ 48) : laws_FnExactExpTable.f k = some true := by
  obtain ⟨ys, h1, h2⟩ := marked k L hk hl
  unfold laws_FnExactExpTable.f
  rw [hs]
  simp only [Option.bind_some]
  rw [hi]
  simp only [Option.bind_some]
  rw [eq_bytes k _ hk hl]
  simp only [Option.bind_some, if_true]
  rw [h1]
  simp only [Option.bind_some]
  rw [h2]
  simp only [Option.bind_some, if_true]
  rw [if_neg (by omega), if_neg (by omega)]
theorem FnExactExpTable : laws_FnExactExpTable.Pure := by
  obtain ⟨k, hk⟩ : ∃ k, 300 < k := ⟨301, by omega⟩
  have hl : (tb 255).length < 300 := by rw [tb_length]; omega
  exact ⟨k, all_of k (tb 255) (spec_exp k hk) (impl_exp k hk) (by omega) (by omega)⟩

end Go.Proofs.Ytbcifcggdpphbaa.Pure
