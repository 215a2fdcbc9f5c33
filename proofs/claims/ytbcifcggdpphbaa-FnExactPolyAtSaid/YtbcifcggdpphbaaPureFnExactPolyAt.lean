/- The program's PolyAt answers as the reference's at all lists of bytes and all bytes; no condition. -/
import Derived.Test.YtbcifcggdpphbaaGF
import Derived.Test.YtbcifcggdpphbaaQFnExactPolyAtx2
import Derived.OpenShut
set_option linter.unusedVariables false
set_option linter.unusedSimpArgs false
namespace Go.Proofs.Ytbcifcggdpphbaa.Pure
open Go.RowKit Go.Proofs.Ytbcifcggdpphbaa.PFnExactPolyAt Go.Proofs.YtbcifcggdpphbaaW.PrintWords Go.Proofs.YtbcifcggdpphbaaW.PrintLast Go.Proofs.YtbcifcggdpphbaaW.PrintMore Go.Proofs.Ytbcifcggdpphbaa.GF

theorem wr64 (n : Nat) (h : n < 2 ^ 62) : wrap64 (n : Int) = (n : Int) := by unfold wrap64; omega
theorem wri (n : Int) (h : 0 ≤ n) (h1 : n < 2 ^ 62) : wrap64 n = n := by unfold wrap64; omega
theorem byte_of {x : Int} (h : (Lit.int .u8 x).wf = true) : ∃ n : Nat, n < 256 ∧ x = (n : Int) := by
  have := bounds_u8 h
  exact ⟨x.toNat, by omega, by omega⟩
theorem shr_nat (b j q : Nat) (hj : j ≤ 8) (hq : q = b / 2 ^ j) : shr .u8 (b : Int) (j : Int) = (q : Int) := by
  unfold shr
  rw [Int.toNat_natCast, Nat.min_eq_left (show j ≤ IntKind.bits .u8 from hj), hq]
  simp
theorem and1_nat (q : Nat) (hq : q < 256) : Go.bits .and .u8 (q : Int) 1 = ((q % 2 : Nat) : Int) := by
  rw [and1_u8 (q : Int) (by omega) (by omega)]; simp
theorem and1_inat (q : Nat) (hq : q < 2 ^ 62) : Go.bits .and .i64 (q : Int) 1 = ((q % 2 : Nat) : Int) := by
  rw [and1_i64 (q : Int) (by omega) (by omega)]; simp
theorem dbl (x : Nat) (hx : x < 256) : wrap64 ((x : Int) * 2) = ((2 * x : Nat) : Int) := by unfold wrap64; omega
theorem inc (j : Nat) (hj : j < 2 ^ 62) : wrap64 ((j : Int) + 1) = ((j + 1 : Nat) : Int) := by unfold wrap64; omega
theorem x285 (x : Nat) (hx : x < 256) : Go.bits .xor .i64 ((2 * x : Nat) : Int) 285 = ((2 * x ^^^ 285 : Nat) : Int) := xor_i64 (2 * x) 285 (by omega) (by omega)
theorem xor_nat (o x : Nat) (ho : o < 256) (hx : x < 256) : Go.bits .xor .i64 (o : Int) (x : Int) = ((o ^^^ x : Nat) : Int) := xor_i64 o x (by omega) (by omega)
theorem xt_hi (x : Nat) (h : 2 * x > 255) : xt x = 2 * x ^^^ 285 := by unfold xt; rw [if_pos h]
theorem xt_lo (x : Nat) (h : ¬ 2 * x > 255) : xt x = 2 * x := by unfold xt; rw [if_neg h]

theorem impl_mul_l (n : Nat) : ∀ (k j x o b : Nat), n + j = 8 → n < k → x < 256 → o < 256 → b < 256 →
    impl_FieldMul.l0 k (b : Int) (o : Int) (j : Int) (x : Int) = some ((gmAux n x (b / 2 ^ j) o : Nat) : Int) := by
  induction n with
  | zero =>
    intro k j x o b hj hk hx ho hb
    obtain ⟨k, rfl⟩ : ∃ m, k = m + 1 := ⟨k - 1, by omega⟩
    simp only [impl_FieldMul.l0]
    rw [if_neg (by omega)]
    show some ((o : Int) % 256) = some (o : Int)
    rw [Int.emod_eq_of_lt (by omega) (by omega)]
  | succ n ih =>
    intro k j x o b hj hk hx ho hb
    obtain ⟨k, rfl⟩ : ∃ m, k = m + 1 := ⟨k - 1, by omega⟩
    obtain ⟨q, hq⟩ : ∃ q, q = b / 2 ^ j := ⟨_, rfl⟩
    have hq2 : q < 256 := by rw [hq]; exact Nat.lt_of_le_of_lt (Nat.div_le_self _ _) hb
    have hb2 : q / 2 = b / 2 ^ (j + 1) := by rw [hq, Nat.div_div_eq_div_mul, ← Nat.pow_succ]
    have hs : shr .u8 (b : Int) (j : Int) = (q : Int) := shr_nat b j q (by omega) hq
    rw [← hq]
    simp only [gmAux]
    rw [hb2]
    have hxt := xt_lt x hx
    have hox := xor_lt _ _ ho hx
    have i1 := ih k (j + 1) (xt x) (o ^^^ x) b (by omega) (by omega) hxt hox hb
    have i2 := ih k (j + 1) (xt x) o b (by omega) (by omega) hxt ho hb
    have c1 : (j : Int) < 8 := by omega
    have c2 : (0 : Int) ≤ (j : Int) := by omega
    clear hq hb2
    simp only [impl_FieldMul.l0]
    rw [if_pos c1, if_pos c2, hs, and1_nat q hq2, dbl x hx, inc j (by omega), x285 x hx, xor_nat o x ho hx]
    clear hs
    by_cases h1 : q % 2 = 1
    · rw [if_pos (by omega), if_pos h1]
      by_cases h2 : 2 * x > 255
      · rw [if_pos (by omega), ← xt_hi x h2]; exact i1
      · rw [if_neg (by omega), ← xt_lo x h2]; exact i1
    · rw [if_neg (by omega), if_neg h1]
      by_cases h2 : 2 * x > 255
      · rw [if_pos (by omega), ← xt_hi x h2]; exact i2
      · rw [if_neg (by omega), ← xt_lo x h2]; exact i2
theorem impl_mul (k a b : Nat) (hk : 8 < k) (ha : a < 256) (hb : b < 256) : impl_FieldMul.f k (a : Int) (b : Int) = some ((gm a b : Nat) : Int) := by
  unfold impl_FieldMul.f
  rw [wr64 a (by omega)]
  have := impl_mul_l 8 k 0 a 0 b (by omega) hk ha (by omega) hb
  simpa [gm] using this

theorem spec_mul_l (n : Nat) : ∀ (k x o y : Nat), n < k → y < 2 ^ n → n ≤ 8 → x < 256 → o < 256 →
    spec_l2Mul.l0 k (o : Int) (x : Int) (y : Int) = some ((gmAux n x y o : Nat) : Int) := by
  induction n with
  | zero =>
    intro k x o y hk hy _ hx ho
    obtain ⟨k, rfl⟩ : ∃ m, k = m + 1 := ⟨k - 1, by omega⟩
    have : y = 0 := by simpa using hy
    subst this
    simp only [spec_l2Mul.l0]
    rw [if_neg (by omega)]
    show some ((o : Int) % 256) = some (o : Int)
    rw [Int.emod_eq_of_lt (by omega) (by omega)]
  | succ n ih =>
    intro k x o y hk hy hn hx ho
    obtain ⟨k, rfl⟩ : ∃ m, k = m + 1 := ⟨k - 1, by omega⟩
    simp only [spec_l2Mul.l0]
    by_cases h0 : y = 0
    · subst h0
      rw [if_neg (by omega), gmAux_zero]
      rw [Int.emod_eq_of_lt (by omega) (by omega)]
    have hp : (2 : Nat) ^ (n + 1) ≤ 256 := by
      have := Nat.pow_le_pow_right (show 0 < 2 by decide) (show n + 1 ≤ 8 by omega)
      simpa using this
    have hy2 : y / 2 < 2 ^ n := by rw [Nat.pow_succ] at hy; omega
    have hxt := xt_lt x hx
    have hox := xor_lt _ _ ho hx
    have i1 := ih k (xt x) (o ^^^ x) (y / 2) (by omega) hy2 (by omega) hxt hox
    have i2 := ih k (xt x) o (y / 2) (by omega) hy2 (by omega) hxt ho
    rw [if_pos (by omega), and1_inat y (by omega), dbl x hx, x285 x hx, xor_nat o x ho hx, show (y : Int) / 2 = ((y / 2 : Nat) : Int) by simp]
    simp only [gmAux]
    by_cases h1 : y % 2 = 1
    · rw [if_pos (by omega), if_pos h1]
      by_cases h2 : 2 * x > 255
      · rw [if_pos (by omega), ← xt_hi x h2]; exact i1
      · rw [if_neg (by omega), ← xt_lo x h2]; exact i1
    · rw [if_neg (by omega), if_neg h1]
      by_cases h2 : 2 * x > 255
      · rw [if_pos (by omega), ← xt_hi x h2]; exact i2
      · rw [if_neg (by omega), ← xt_lo x h2]; exact i2
theorem spec_mul (k a b : Nat) (hk : 8 < k) (ha : a < 256) (hb : b < 256) : spec_l2Mul.f k (a : Int) (b : Int) = some ((gm a b : Nat) : Int) := by
  unfold spec_l2Mul.f
  rw [wr64 a (by omega), wr64 b (by omega)]
  have := spec_mul_l 8 k a 0 b hk (by omega) (by omega) ha (by omega)
  simpa [gm] using this

theorem rd_nat (xs : List Int) (i : Nat) : rd xs (i : Int) = xs.getD i 0 := by unfold rd; rw [Int.toNat_natCast]
theorem set_getD (xs : List Int) (i j : Nat) (v : Int) (hi : i < xs.length) : (xs.set i v).getD j 0 = if j = i then v else xs.getD j 0 := by
  simp only [List.getD_eq_getElem?_getD, List.getElem?_set]
  by_cases h : i = j
  · subst h; simp [hi]
  · rw [if_neg h, if_neg (fun e => h e.symm)]

theorem eq_bytes_l (d : Nat) : ∀ (k : Nat) (xs : List Int) (i : Nat), i + d = xs.length → d < k → xs.length < 2 ^ 48 → laws_eqByteS.l0 k xs xs (i : Int) = some true := by
  induction d with
  | zero =>
    intro k xs i hi hk _
    obtain ⟨k, rfl⟩ : ∃ m, k = m + 1 := ⟨k - 1, by omega⟩
    simp only [laws_eqByteS.l0]
    rw [if_neg (by omega)]
  | succ d ih =>
    intro k xs i hi hk hl
    obtain ⟨k, rfl⟩ : ∃ m, k = m + 1 := ⟨k - 1, by omega⟩
    simp only [laws_eqByteS.l0]
    rw [if_pos (by omega), if_pos (by omega), if_pos (by omega), if_pos True.intro, wri ((i : Int) + 1) (by omega) (by omega)]
    exact ih k xs (i + 1) (by omega) (by omega) hl
theorem eq_bytes (k : Nat) (xs : List Int) (hk : xs.length < k) (hl : xs.length < 2 ^ 48) : laws_eqByteS.f k xs xs = some true := by
  unfold laws_eqByteS.f
  rw [if_pos rfl]
  exact eq_bytes_l xs.length k xs 0 (by omega) hk hl

theorem to_bytes_l (xs : List Int) (hl : xs.length < 2 ^ 48) (d : Nat) : ∀ (k : Nat) (ys : List Int) (i : Nat), i + d = xs.length → d < k → ys.length = xs.length → (∀ j, j < i → ys.getD j 0 = xs.getD j 0) →
    laws_toByteS.l0 k xs ys (i : Int) = some xs := by
  induction d with
  | zero =>
    intro k ys i hi hk hy he
    obtain ⟨k, rfl⟩ : ∃ m, k = m + 1 := ⟨k - 1, by omega⟩
    simp only [laws_toByteS.l0]
    rw [if_neg (by omega)]
    congr 1
    apply List.ext_getElem hy
    intro j h1 h2
    have := he j (by omega)
    simpa [List.getD_eq_getElem?_getD, h1, h2] using this
  | succ d ih =>
    intro k ys i hi hk hy he
    obtain ⟨k, rfl⟩ : ∃ m, k = m + 1 := ⟨k - 1, by omega⟩
    simp only [laws_toByteS.l0]
    rw [if_pos (by omega), if_pos (by omega), if_pos (by omega), rd_nat, Int.toNat_natCast, wri ((i : Int) + 1) (by omega) (by omega)]
    refine ih k _ (i + 1) (by omega) (by omega) (by rw [List.length_set]; exact hy) (fun j hj => ?_)
    rw [set_getD _ _ _ _ (by omega)]
    split
    · rename_i e; subst e; rfl
    · exact he j (by omega)
theorem to_bytes (k : Nat) (xs : List Int) (hk : xs.length < k) (hl : xs.length < 2 ^ 48) : laws_toByteS.f k xs = some xs := by
  unfold laws_toByteS.f
  rw [if_pos (by omega), if_pos (by omega)]
  exact to_bytes_l xs hl xs.length k _ 0 (by omega) hk (by simp) (fun j hj => by omega)

theorem byte_at {xs : List Int} (h : ∀ x ∈ xs, (Lit.int .u8 x).wf = true) (i : Nat) (hi : i < xs.length) : ∃ n : Nat, n < 256 ∧ xs.getD i 0 = (n : Int) := by
  obtain ⟨n, hn, he⟩ := byte_of (h xs[i] (List.getElem_mem hi))
  exact ⟨n, hn, by rw [← he]; simp [List.getD_eq_getElem?_getD, hi]⟩
theorem polys (xs : List Int) (hxs : ∀ x ∈ xs, (Lit.int .u8 x).wf = true) (hl : xs.length < 2 ^ 48) (x : Nat) (hx : x < 256) (d : Nat) : ∀ (k o : Nat) (i : Int), i = (d : Int) - 1 → d ≤ xs.length → o < 256 → d + 9 < k →
    ∃ r : Nat, r < 256 ∧ spec_l2At.l0 k xs (x : Int) (o : Int) i = some (r : Int) ∧ impl_PolyAt.l0 k xs (x : Int) (o : Int) i = some ((r : Int), true) := by
  induction d with
  | zero =>
    intro k o i hi _ ho hk
    obtain ⟨k, rfl⟩ : ∃ m, k = m + 1 := ⟨k - 1, by omega⟩
    refine ⟨o, ho, ?_, ?_⟩
    · simp only [spec_l2At.l0]; rw [if_neg (by omega)]
    · simp only [impl_PolyAt.l0]; rw [if_neg (by omega)]
  | succ d ih =>
    intro k o i hi hd ho hk
    obtain ⟨k, rfl⟩ : ∃ m, k = m + 1 := ⟨k - 1, by omega⟩
    obtain rfl : i = (d : Int) := by omega
    have hdec : wrap64 ((d : Int) - 1) = (d : Int) - 1 := by unfold wrap64; omega
    obtain ⟨n, hn, he⟩ := byte_at hxs d (by omega)
    have hg := gm_lt o x ho
    obtain ⟨r, hr, h1, h2⟩ := ih k (gm o x ^^^ n) ((d : Int) - 1) rfl (by omega) (xor_lt _ _ hg hn) (by omega)
    refine ⟨r, hr, ?_, ?_⟩
    · simp only [spec_l2At.l0]
      rw [if_pos (by omega), spec_mul k o x (by omega) ho hx]
      simp only [Option.bind_some]
      rw [if_pos (by omega), if_pos (by omega), rd_nat, he, hdec, xor_u8 _ _ hg hn]
      exact h1
    · simp only [impl_PolyAt.l0]
      rw [if_pos (by omega), impl_mul k o x (by omega) ho hx]
      simp only [Option.bind_some]
      rw [if_pos (by omega), if_pos (by omega), rd_nat, he, hdec, xor_u8 _ _ hg hn]
      exact h2

theorem FnExactPolyAt : laws_FnExactPolyAt.Pure := by
  intro xs a1 _ hl hxs w1
  obtain ⟨x, hx, rfl⟩ := byte_of w1
  refine ⟨xs.length + 100, ?_⟩
  unfold laws_FnExactPolyAt.f
  by_cases hbig : (xs.length : Int) > 1048576
  · rw [if_pos hbig]
  rw [if_neg hbig, to_bytes _ xs (by omega) (by omega)]
  simp only [Option.bind_some]
  unfold spec_PolyAt.f impl_PolyAt.f
  by_cases h : (xs.length : Int) > 60
  · rw [if_pos h, if_pos h]
    simp only [Option.bind_some]
    rw [if_pos True.intro]
    simp only [laws_FnExactPolyAt.j0]
    rw [if_neg (by decide), to_bytes _ xs (by omega) (by omega)]
    simp only [Option.bind_some]
    rw [eq_bytes _ xs (by omega) (by omega)]
    simp
  · rw [if_neg h, if_neg h]
    unfold spec_l2At.f
    obtain ⟨r, hr, h1, h2⟩ := polys xs hxs (by omega) x hx xs.length (xs.length + 100) 0 ((xs.length : Int) - 1) rfl (Nat.le_refl _) (by omega) (by omega)
    rw [show wrap64 ((xs.length : Int) - 1) = (xs.length : Int) - 1 by unfold wrap64; omega]
    rw [show ((0 : Nat) : Int) = 0 from rfl] at h1 h2
    rw [h1, h2]
    simp only [Option.bind_some]
    rw [if_pos True.intro]
    simp only [laws_FnExactPolyAt.j0]
    rw [if_neg (by decide), to_bytes _ xs (by omega) (by omega)]
    simp only [Option.bind_some]
    rw [eq_bytes _ xs (by omega) (by omega)]
    simp

end Go.Proofs.Ytbcifcggdpphbaa.Pure
