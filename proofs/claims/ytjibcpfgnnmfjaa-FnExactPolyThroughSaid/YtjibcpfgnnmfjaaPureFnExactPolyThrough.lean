/- The program's PolyThrough answers as the reference's at all lists of bytes, in memory of its own; no condition. -/
import Derived.Test.YtjibcpfgnnmfjaaGF
import Derived.Test.YtjibcpfgnnmfjaaPoly
import Derived.Test.YtjibcpfgnnmfjaaQFnExactPolyThroughx6
import Derived.OpenShut
set_option linter.unusedVariables false
set_option linter.unusedSimpArgs false
namespace Go.Proofs.Ytjibcpfgnnmfjaa.Pure
open Go.RowKit Go.Proofs.Ytjibcpfgnnmfjaa.PFnExactPolyThrough Go.Proofs.YtjibcpfgnnmfjaaW.PrintWords Go.Proofs.YtjibcpfgnnmfjaaW.PrintLast Go.Proofs.YtjibcpfgnnmfjaaW.PrintMore Go.Proofs.Ytjibcpfgnnmfjaa.GF Go.Proofs.Ytjibcpfgnnmfjaa.Poly

theorem wr64 (n : Nat) (h : n < 2 ^ 62) : wrap64 (n : Int) = (n : Int) := by unfold wrap64; omega
theorem wri (n : Int) (h : 0 ≤ n) (h1 : n < 2 ^ 62) : wrap64 n = n := by unfold wrap64; omega
theorem byte_of {x : Int} (h : (Lit.int .u8 x).wf = true) : ∃ n : Nat, n < 256 ∧ x = (n : Int) := by
  have := bounds_u8 h
  exact ⟨x.toNat, by omega, by omega⟩
theorem shr_nat (b j q : Nat) (hj : j ≤ 8) (hq : q = b / 2 ^ j) : shr .u8 (b : Int) (j : Int) = (q : Int) := by
  unfold shr
  rw [Int.toNat_natCast, Nat.min_eq_left (show j ≤ IntKind.bits .u8 from hj), hq]
  simp
theorem and1_nat (q : Nat) (hq : q < 256) : Go.bits .and .u8 (q : Int) 1 = ((q % 2 : Nat) : Int) := by
  rw [and1_u8 (q : Int) (by omega) (by omega)]; simp
theorem and1_inat (q : Nat) (hq : q < 2 ^ 62) : Go.bits .and .i64 (q : Int) 1 = ((q % 2 : Nat) : Int) := by
  rw [and1_i64 (q : Int) (by omega) (by omega)]; simp
theorem dbl (x : Nat) (hx : x < 256) : wrap64 ((x : Int) * 2) = ((2 * x : Nat) : Int) := by unfold wrap64; omega
theorem inc (j : Nat) (hj : j < 2 ^ 62) : wrap64 ((j : Int) + 1) = ((j + 1 : Nat) : Int) := by unfold wrap64; omega
theorem x285 (x : Nat) (hx : x < 256) : Go.bits .xor .i64 ((2 * x : Nat) : Int) 285 = ((2 * x ^^^ 285 : Nat) : Int) := xor_i64 (2 * x) 285 (by omega) (by omega)
theorem xor_nat (o x : Nat) (ho : o < 256) (hx : x < 256) : Go.bits .xor .i64 (o : Int) (x : Int) = ((o ^^^ x : Nat) : Int) := xor_i64 o x (by omega) (by omega)
theorem xt_hi (x : Nat) (h : 2 * x > 255) : xt x = 2 * x ^^^ 285 := by unfold xt; rw [if_pos h]
theorem xt_lo (x : Nat) (h : ¬ 2 * x > 255) : xt x = 2 * x := by unfold xt; rw [if_neg h]

theorem impl_mul_l (n : Nat) : ∀ (k j x o b : Nat), n + j = 8 → n < k → x < 256 → o < 256 → b < 256 →
    impl_FieldMul.l0 k (b : Int) (o : Int) (j : Int) (x : Int) = some ((gmAux n x (b / 2 ^ j) o : Nat) : Int) := by
  induction n with
  | zero =>
    intro k j x o b hj hk hx ho hb
    obtain ⟨k, rfl⟩ : ∃ m, k = m + 1 := ⟨k - 1, by omega⟩
    simp only [impl_FieldMul.l0]
    rw [if_neg (by omega)]
    show some ((o : Int) % 256) = some (o : Int)
    rw [Int.emod_eq_of_lt (by omega) (by omega)]
  | succ n ih =>
    intro k j x o b hj hk hx ho hb
    obtain ⟨k, rfl⟩ : ∃ m, k = m + 1 := ⟨k - 1, by omega⟩
    obtain ⟨q, hq⟩ : ∃ q, q = b / 2 ^ j := ⟨_, rfl⟩
    have hq2 : q < 256 := by rw [hq]; exact Nat.lt_of_le_of_lt (Nat.div_le_self _ _) hb
    have hb2 : q / 2 = b / 2 ^ (j + 1) := by rw [hq, Nat.div_div_eq_div_mul, ← Nat.pow_succ]
    have hs : shr .u8 (b : Int) (j : Int) = (q : Int) := shr_nat b j q (by omega) hq
    rw [← hq]
    simp only [gmAux]
    rw [hb2]
    have hxt := xt_lt x hx
    have hox := xor_lt _ _ ho hx
    have i1 := ih k (j + 1) (xt x) (o ^^^ x) b (by omega) (by omega) hxt hox hb
    have i2 := ih k (j + 1) (xt x) o b (by omega) (by omega) hxt ho hb
    have c1 : (j : Int) < 8 := by omega
    have c2 : (0 : Int) ≤ (j : Int) := by omega
    clear hq hb2
    simp only [impl_FieldMul.l0]
    rw [if_pos c1, if_pos c2, hs, and1_nat q hq2, dbl x hx, inc j (by omega), x285 x hx, xor_nat o x ho hx]
    clear hs
    by_cases h1 : q % 2 = 1
    · rw [if_pos (by omega), if_pos h1]
      by_cases h2 : 2 * x > 255
      · rw [if_pos (by omega), ← xt_hi x h2]; exact i1
      · rw [if_neg (by omega), ← xt_lo x h2]; exact i1
    · rw [if_neg (by omega), if_neg h1]
      by_cases h2 : 2 * x > 255
      · rw [if_pos (by omega), ← xt_hi x h2]; exact i2
      · rw [if_neg (by omega), ← xt_lo x h2]; exact i2
theorem impl_mul (k a b : Nat) (hk : 8 < k) (ha : a < 256) (hb : b < 256) : impl_FieldMul.f k (a : Int) (b : Int) = some ((gm a b : Nat) : Int) := by
  unfold impl_FieldMul.f
  rw [wr64 a (by omega)]
  have := impl_mul_l 8 k 0 a 0 b (by omega) hk ha (by omega) hb
  simpa [gm] using this

theorem spec_mul_l (n : Nat) : ∀ (k x o y : Nat), n < k → y < 2 ^ n → n ≤ 8 → x < 256 → o < 256 →
    spec_l2Mul.l0 k (o : Int) (x : Int) (y : Int) = some ((gmAux n x y o : Nat) : Int) := by
  induction n with
  | zero =>
    intro k x o y hk hy _ hx ho
    obtain ⟨k, rfl⟩ : ∃ m, k = m + 1 := ⟨k - 1, by omega⟩
    have : y = 0 := by simpa using hy
    subst this
    simp only [spec_l2Mul.l0]
    rw [if_neg (by omega)]
    show some ((o : Int) % 256) = some (o : Int)
    rw [Int.emod_eq_of_lt (by omega) (by omega)]
  | succ n ih =>
    intro k x o y hk hy hn hx ho
    obtain ⟨k, rfl⟩ : ∃ m, k = m + 1 := ⟨k - 1, by omega⟩
    simp only [spec_l2Mul.l0]
    by_cases h0 : y = 0
    · subst h0
      rw [if_neg (by omega), gmAux_zero]
      rw [Int.emod_eq_of_lt (by omega) (by omega)]
    have hp : (2 : Nat) ^ (n + 1) ≤ 256 := by
      have := Nat.pow_le_pow_right (show 0 < 2 by decide) (show n + 1 ≤ 8 by omega)
      simpa using this
    have hy2 : y / 2 < 2 ^ n := by rw [Nat.pow_succ] at hy; omega
    have hxt := xt_lt x hx
    have hox := xor_lt _ _ ho hx
    have i1 := ih k (xt x) (o ^^^ x) (y / 2) (by omega) hy2 (by omega) hxt hox
    have i2 := ih k (xt x) o (y / 2) (by omega) hy2 (by omega) hxt ho
    rw [if_pos (by omega), and1_inat y (by omega), dbl x hx, x285 x hx, xor_nat o x ho hx, show (y : Int) / 2 = ((y / 2 : Nat) : Int) by simp]
    simp only [gmAux]
    by_cases h1 : y % 2 = 1
    · rw [if_pos (by omega), if_pos h1]
      by_cases h2 : 2 * x > 255
      · rw [if_pos (by omega), ← xt_hi x h2]; exact i1
      · rw [if_neg (by omega), ← xt_lo x h2]; exact i1
    · rw [if_neg (by omega), if_neg h1]
      by_cases h2 : 2 * x > 255
      · rw [if_pos (by omega), ← xt_hi x h2]; exact i2
      · rw [if_neg (by omega), ← xt_lo x h2]; exact i2
theorem spec_mul (k a b : Nat) (hk : 8 < k) (ha : a < 256) (hb : b < 256) : spec_l2Mul.f k (a : Int) (b : Int) = some ((gm a b : Nat) : Int) := by
  unfold spec_l2Mul.f
  rw [wr64 a (by omega), wr64 b (by omega)]
  have := spec_mul_l 8 k a 0 b hk (by omega) (by omega) ha (by omega)
  simpa [gm] using this

theorem impl_pow_l (a n : Nat) (ha : a < 256) (hn : n < 2 ^ 60) (d : Nat) : ∀ (k i : Nat), i + d = n → d + 9 < k →
    impl_power.l0 k (a : Int) ((gp a i : Nat) : Int) (n : Int) (i : Int) = some ((gp a n : Nat) : Int) := by
  induction d with
  | zero =>
    intro k i hi hk
    obtain ⟨k, rfl⟩ : ∃ m, k = m + 1 := ⟨k - 1, by omega⟩
    simp only [impl_power.l0]
    rw [if_neg (by omega), show i = n by omega]
  | succ d ih =>
    intro k i hi hk
    obtain ⟨k, rfl⟩ : ∃ m, k = m + 1 := ⟨k - 1, by omega⟩
    have e2 : wrap64 ((i : Int) + 1) = ((i + 1 : Nat) : Int) := by rw [wri _ (by omega) (by omega)]; omega
    simp only [impl_power.l0]
    rw [if_pos (by omega), impl_mul k _ _ (by omega) (gp_lt a i) ha, e2]
    simp only [Option.bind_some]
    exact ih k (i + 1) (by omega) (by omega)
theorem impl_pow (k a n : Nat) (hk : n + 9 < k) (ha : a < 256) (hn : n < 2 ^ 60) : impl_power.f k (a : Int) (n : Int) = some ((gp a n : Nat) : Int) := by
  unfold impl_power.f
  exact impl_pow_l a n ha hn n k 0 (by omega) hk

theorem spec_pow_l (a N : Nat) (ha : a < 256) (hn : N < 2 ^ 60) (d : Nat) : ∀ (k : Nat), d ≤ N → d + 9 < k →
    spec_l2Pow.l0 k (a : Int) (d : Int) ((gp a (N - d) : Nat) : Int) = some ((gp a N : Nat) : Int) := by
  induction d with
  | zero =>
    intro k hd hk
    obtain ⟨k, rfl⟩ : ∃ m, k = m + 1 := ⟨k - 1, by omega⟩
    simp only [spec_l2Pow.l0]
    rw [if_neg (by omega), Nat.sub_zero]
  | succ d ih =>
    intro k hd hk
    obtain ⟨k, rfl⟩ : ∃ m, k = m + 1 := ⟨k - 1, by omega⟩
    have e2 : wrap64 (((d + 1 : Nat) : Int) - 1) = (d : Int) := by rw [wri _ (by omega) (by omega)]; omega
    simp only [spec_l2Pow.l0]
    rw [if_pos (by omega), spec_mul k _ _ (by omega) (gp_lt a _) ha, e2]
    simp only [Option.bind_some]
    have := ih k (by omega) (by omega)
    rw [show N - d = (N - (d + 1)) + 1 by omega] at this
    exact this
theorem spec_pow (k a n : Nat) (hk : n + 9 < k) (ha : a < 256) (hn : n < 2 ^ 60) : spec_l2Pow.f k (a : Int) (n : Int) = some ((gp a n : Nat) : Int) := by
  unfold spec_l2Pow.f
  have := spec_pow_l a n ha hn n k (Nat.le_refl _) hk
  rw [Nat.sub_self] at this
  exact this

theorem impl_inv (k a : Nat) (hk : 300 < k) (ha : a < 256) : impl_FieldInv.f k (a : Int) = some ((GF.inv a : Nat) : Int) := by
  unfold impl_FieldInv.f
  rw [show (254 : Int) = ((254 : Nat) : Int) from rfl, impl_pow k a 254 (by omega) ha (by omega)]
  rfl

theorem spec_inv (k a : Nat) (hk : 300 < k) (ha : a < 256) : spec_l2Inv.f k (a : Int) = some ((GF.inv a : Nat) : Int) := by
  unfold spec_l2Inv.f
  by_cases h : a = 0
  · subst h; rw [if_pos (by rfl), GF.inv_zero]; rfl
  · rw [if_neg (by omega), show (254 : Int) = ((254 : Nat) : Int) from rfl, spec_pow k a 254 (by omega) ha (by omega)]
    rfl

theorem rd_nat (xs : List Int) (i : Nat) : rd xs (i : Int) = xs.getD i 0 := by unfold rd; rw [Int.toNat_natCast]
theorem set_getD (xs : List Int) (i j : Nat) (v : Int) (hi : i < xs.length) : (xs.set i v).getD j 0 = if j = i then v else xs.getD j 0 := by
  simp only [List.getD_eq_getElem?_getD, List.getElem?_set]
  by_cases h : i = j
  · subst h; simp [hi]
  · rw [if_neg h, if_neg (fun e => h e.symm)]

theorem eq_bytes_l (d : Nat) : ∀ (k : Nat) (xs : List Int) (i : Nat), i + d = xs.length → d < k → xs.length < 2 ^ 48 → laws_eqByteS.l0 k xs xs (i : Int) = some true := by
  induction d with
  | zero =>
    intro k xs i hi hk _
    obtain ⟨k, rfl⟩ : ∃ m, k = m + 1 := ⟨k - 1, by omega⟩
    simp only [laws_eqByteS.l0]
    rw [if_neg (by omega)]
  | succ d ih =>
    intro k xs i hi hk hl
    obtain ⟨k, rfl⟩ : ∃ m, k = m + 1 := ⟨k - 1, by omega⟩
    simp only [laws_eqByteS.l0]
    rw [if_pos (by omega), if_pos (by omega), if_pos (by omega), if_pos True.intro, wri ((i : Int) + 1) (by omega) (by omega)]
    exact ih k xs (i + 1) (by omega) (by omega) hl
theorem eq_bytes (k : Nat) (xs : List Int) (hk : xs.length < k) (hl : xs.length < 2 ^ 48) : laws_eqByteS.f k xs xs = some true := by
  unfold laws_eqByteS.f
  rw [if_pos rfl]
  exact eq_bytes_l xs.length k xs 0 (by omega) hk hl

theorem to_bytes_l (xs : List Int) (hl : xs.length < 2 ^ 48) (d : Nat) : ∀ (k : Nat) (ys : List Int) (i : Nat), i + d = xs.length → d < k → ys.length = xs.length → (∀ j, j < i → ys.getD j 0 = xs.getD j 0) →
    laws_toByteS.l0 k xs ys (i : Int) = some xs := by
  induction d with
  | zero =>
    intro k ys i hi hk hy he
    obtain ⟨k, rfl⟩ : ∃ m, k = m + 1 := ⟨k - 1, by omega⟩
    simp only [laws_toByteS.l0]
    rw [if_neg (by omega)]
    congr 1
    apply List.ext_getElem hy
    intro j h1 h2
    have := he j (by omega)
    simpa [List.getD_eq_getElem?_getD, h1, h2] using this
  | succ d ih =>
    intro k ys i hi hk hy he
    obtain ⟨k, rfl⟩ : ∃ m, k = m + 1 := ⟨k - 1, by omega⟩
    simp only [laws_toByteS.l0]
    rw [if_pos (by omega), if_pos (by omega), if_pos (by omega), rd_nat, Int.toNat_natCast, wri ((i : Int) + 1) (by omega) (by omega)]
    refine ih k _ (i + 1) (by omega) (by omega) (by rw [List.length_set]; exact hy) (fun j hj => ?_)
    rw [set_getD _ _ _ _ (by omega)]
    split
    · rename_i e; subst e; rfl
    · exact he j (by omega)
theorem to_bytes (k : Nat) (xs : List Int) (hk : xs.length < k) (hl : xs.length < 2 ^ 48) : laws_toByteS.f k xs = some xs := by
  unfold laws_toByteS.f
  rw [if_pos (by omega), if_pos (by omega)]
  exact to_bytes_l xs hl xs.length k _ 0 (by omega) hk (by simp) (fun j hj => by omega)

/-- a list of bytes, as Go's numbers -/
def cI (l : List Nat) : List Int := l.map fun (n : Nat) => (n : Int)
theorem cI_length (l : List Nat) : (cI l).length = l.length := by simp [cI]
theorem cI_getD (l : List Nat) (i : Nat) : (cI l).getD i 0 = ((l.getD i 0 : Nat) : Int) := by
  simp only [cI, List.getD_eq_getElem?_getD, List.getElem?_map]
  cases l[i]? <;> rfl
theorem rd_cI (l : List Nat) (i : Nat) : rd (cI l) (i : Int) = ((l.getD i 0 : Nat) : Int) := by unfold rd; rw [Int.toNat_natCast, cI_getD]
theorem cI_set (l : List Nat) (i n : Nat) : (cI l).set i (n : Int) = cI (l.set i n) := by simp [cI, List.map_set]
theorem cI_append (l m : List Nat) : cI l ++ cI m = cI (l ++ m) := by simp [cI]
theorem cI_take (l : List Nat) (i : Nat) : (cI l).take i = cI (l.take i) := by simp [cI, List.map_take]
theorem cI_zeros (n : Nat) : List.replicate n (0 : Int) = cI (List.replicate n 0) := by simp [cI]
theorem bytes_of {xs : List Int} (h : ∀ x ∈ xs, (Lit.int .u8 x).wf = true) : ∃ X : List Nat, (∀ c ∈ X, c < 256) ∧ xs = cI X := by
  refine ⟨xs.map Int.toNat, fun c hc => ?_, ?_⟩
  · obtain ⟨x, hx, rfl⟩ := List.mem_map.mp hc
    have := bounds_u8 (h x hx); omega
  · unfold cI
    rw [List.map_map]
    conv => lhs; rw [← List.map_id xs]
    apply List.map_congr_left
    intro x hx
    have := bounds_u8 (h x hx)
    show x = ((x.toNat : Nat) : Int)
    omega
theorem nset_getD (xs : List Nat) (i j v : Nat) (hi : i < xs.length) : (xs.set i v).getD j 0 = if j = i then v else xs.getD j 0 := by
  simp only [List.getD_eq_getElem?_getD, List.getElem?_set]
  by_cases h : i = j
  · subst h; simp [hi]
  · rw [if_neg h, if_neg (fun e => h e.symm)]
theorem list_ext {l m : List Nat} (hl : l.length = m.length) (h : ∀ j, j < l.length → l.getD j 0 = m.getD j 0) : l = m := by
  apply List.ext_getElem hl
  intro j h1 h2
  have := h j h1
  simpa [List.getD_eq_getElem?_getD, h1, h2] using this
theorem ev_of {α : Type} {g : Nat → Option α} {r : α} (K : Nat) (h : ∀ k, K < k → g k = some r) : Ev g r := ⟨K + 1, fun k hk => h k (by omega)⟩
theorem evp {α : Type} {c : Prop} [Decidable c] {f g : Nat → Option α} {r : α} (h : c) (k : Ev f r) : Ev (fun n => if c then f n else g n) r := Ev.congr (fun _ => if_pos h) k
theorem evn {α : Type} {c : Prop} [Decidable c] {f g : Nat → Option α} {r : α} (h : ¬ c) (k : Ev g r) : Ev (fun n => if c then f n else g n) r := Ev.congr (fun _ => if_neg h) k

theorem mark_bytes (m : Nat) (hm : m < 2 ^ 48) (d : Nat) : ∀ (xs : List Int) (i : Nat), i + d = xs.length → xs.length < 2 ^ 48 → (∀ j, j < i → xs.getD j 0 = ((m + j : Nat) : Int) % 256) →
    ∃ ys, Ev (fun k => laws_markByteS.l0 k xs ((m + i : Nat) : Int) (i : Int)) (((m + xs.length : Nat) : Int), ys) ∧ ys.length = xs.length ∧ ∀ j, j < xs.length → ys.getD j 0 = ((m + j : Nat) : Int) % 256 := by
  induction d with
  | zero =>
    intro xs i hi _ hxs
    refine ⟨xs, Ev.step (fun k => by simp only [laws_markByteS.l0]; rw [if_neg (by omega)]) (by rw [show i = xs.length by omega]; exact Ev.now _), rfl, fun j hj => hxs j (by omega)⟩
  | succ d ih =>
    intro xs i hi hl hxs
    obtain ⟨ys, hr, hn, hy⟩ := ih (xs.set i (((m + i : Nat) : Int) % 256)) (i + 1) (by rw [List.length_set]; omega) (by rw [List.length_set]; omega) (fun j hj => by
      rw [set_getD _ _ _ _ (by omega)]
      split
      · rename_i e; subst e; rfl
      · exact hxs j (by omega))
    rw [List.length_set] at hr hn hy
    refine ⟨ys, Ev.step (fun k => ?_) hr, hn, hy⟩
    simp only [laws_markByteS.l0]
    rw [if_pos (by omega), if_pos (by omega), wri (((m + i : Nat) : Int) + 1) (by omega) (by omega), wri ((i : Int) + 1) (by omega) (by omega), Int.toNat_natCast]
    congr 1
theorem held_bytes (m : Nat) (hm : m < 2 ^ 48) (d : Nat) : ∀ (ys : List Int) (i : Nat), i + d = ys.length → ys.length < 2 ^ 48 → (∀ j, j < ys.length → ys.getD j 0 = ((m + j : Nat) : Int) % 256) →
    Ev (fun k => laws_heldByteS.l0 k ys ((m + i : Nat) : Int) (i : Int)) ((m + ys.length : Nat) : Int) := by
  induction d with
  | zero =>
    intro ys i hi _ _
    exact Ev.step (fun k => by simp only [laws_heldByteS.l0]; rw [if_neg (by omega)]) (by rw [show i = ys.length by omega]; exact Ev.now _)
  | succ d ih =>
    intro ys i hi hl hy
    refine Ev.step (fun k => ?_) (ih ys (i + 1) (by omega) hl hy)
    simp only [laws_heldByteS.l0]
    rw [if_pos (by omega), if_pos (by omega), rd_nat, if_pos (hy i (by omega)), wri (((m + i : Nat) : Int) + 1) (by omega) (by omega), wri ((i : Int) + 1) (by omega) (by omega)]
    congr 1
theorem marked (xs : List Int) (m : Nat) (hm : m < 2 ^ 48) (hl : xs.length < 2 ^ 48) :
    ∃ ys, Ev (fun k => laws_markByteS.f k xs (m : Int)) (((m + xs.length : Nat) : Int), ys) ∧ ys.length = xs.length ∧ Ev (fun k => laws_heldByteS.f k ys (m : Int)) ((m + xs.length : Nat) : Int) := by
  obtain ⟨ys, h1, h2, h3⟩ := mark_bytes m hm xs.length xs 0 (by omega) hl (fun j hj => by omega)
  have h4 := held_bytes m hm ys.length ys 0 (by omega) (by omega) (fun j hj => h3 j (by omega))
  rw [Nat.add_zero] at h1 h4
  rw [h2] at h4
  exact ⟨ys, h1, h2, h4⟩

theorem ev_eq (xs : List Int) (hl : xs.length < 2 ^ 48) : Ev (fun k => laws_eqByteS.f k xs xs) true := ev_of xs.length fun k hk => eq_bytes k xs hk hl
theorem ev_to (xs : List Int) (hl : xs.length < 2 ^ 48) : Ev (fun k => laws_toByteS.f k xs) xs := ev_of xs.length fun k hk => to_bytes k xs hk hl

theorem getD_nil (n : Nat) : ([] : List Nat).getD n 0 = 0 := by simp
theorem rt_getD (l : List Nat) : ∀ (p a j : Nat), a < 256 → (rt p l a).getD j 0 = if j ≤ l.length then (p :: l).getD j 0 ^^^ gm (l.getD j 0) a else 0 := by
  induction l with
  | nil =>
    intro p a j ha
    cases j with
    | zero => simp [rt, zero_gm a ha]
    | succ j => simp [rt]
  | cons c l ih =>
    intro p a j ha
    cases j with
    | zero => simp [rt]
    | succ j =>
      have := ih c a j ha
      simp only [rt, List.getD_cons_succ, List.length_cons]
      rw [this]
      by_cases h : j ≤ l.length
      · rw [if_pos h, if_pos (by omega)]
      · rw [if_neg h, if_neg (by omega)]
theorem addp_getD (o p : List Nat) (b j : Nat) (h : o.length = p.length) (hj : j < o.length) : (addp o p b).getD j 0 = o.getD j 0 ^^^ gm (p.getD j 0) b := by
  simp only [addp, List.getD_eq_getElem?_getD, List.getElem?_zipWith]
  rw [List.getElem?_eq_getElem hj, List.getElem?_eq_getElem (show j < p.length by omega)]
  rfl
theorem erase_step (X : List Nat) (i k : Nat) (hk : k < X.length) : (X.take (k + 1)).eraseIdx i = if k = i then (X.take k).eraseIdx i else (X.take k).eraseIdx i ++ [X.getD k 0] := by
  have e : X.take (k + 1) = X.take k ++ [X.getD k 0] := by
    rw [List.take_succ_eq_append_getElem hk]; simp [List.getD_eq_getElem?_getD, hk]
  have hl : (X.take k).length = k := by rw [List.length_take]; omega
  rw [e]
  by_cases h : i < k
  · rw [if_neg (by omega), List.eraseIdx_append_of_lt_length (by omega)]
  · rw [List.eraseIdx_append_of_length_le (by omega), hl]
    by_cases h2 : k = i
    · subst h2; rw [if_pos rfl, Nat.sub_self, List.eraseIdx_of_length_le (l := X.take k) (by omega)]; simp
    · rw [if_neg h2, List.eraseIdx_of_length_le (l := X.take k) (by omega), List.eraseIdx_of_length_le (by simp; omega)]
/-- is a number met again, from place i on -/
def dF (X : List Nat) : Nat → Nat → Bool
  | 0, _ => false
  | d + 1, i => (X.take i).contains (X.getD i 0) || dF X d (i + 1)
def interp (X Y : List Nat) : List Int × Bool := if dF X X.length 0 = true then ([], false) else (cI (outs X Y X.length), true)
def Pts (X Y : List Nat) : Prop := BL X ∧ BL Y ∧ Y.length = X.length ∧ X.length ≤ 20
theorem drop_cons (L : List Nat) (j : Nat) (h : j < L.length) : L.drop j = L.getD j 0 :: L.drop (j + 1) := by
  rw [List.drop_eq_getElem_cons h]; simp [List.getD_eq_getElem?_getD, h]

theorem ev_mul (a b : Nat) (ha : a < 256) (hb : b < 256) : Ev (fun k => impl_FieldMul.f k (a : Int) (b : Int)) ((gm a b : Nat) : Int) := ev_of 8 fun k hk => impl_mul k a b hk ha hb
theorem ev_inv (a : Nat) (ha : a < 256) : Ev (fun k => impl_FieldInv.f k (a : Int)) ((GF.inv a : Nat) : Int) := ev_of 300 fun k hk => impl_inv k a hk ha
theorem root_l (L : List Nat) (hL : BL L) (hlen : L.length < 2 ^ 40) (a : Nat) (ha : a < 256) (d : Nat) : ∀ (i : Nat) (O : List Nat), i + d = L.length → O.length = L.length + 1 →
    (∀ j, j ≤ L.length → O.getD j 0 = (0 :: L).getD j 0 ^^^ (if j < i then gm (L.getD j 0) a else 0)) →
    Ev (fun k => impl_timesRoot.l0 k (a : Int) (cI O) (cI L) (L.length : Int) (i : Int)) (cI (rt 0 L a)) := by
  induction d with
  | zero =>
    intro i O hi hO h
    refine Ev.step (fun k => by simp only [impl_timesRoot.l0]; rw [if_neg (by omega)]) ?_
    have e : O = rt 0 L a := list_ext (by rw [rt_length]; exact hO) (fun j hj => by
      rw [rt_getD _ _ _ _ ha, if_pos (by omega), h j (by omega)]
      by_cases hji : j < i
      · rw [if_pos hji]
      · have e1 : L.getD j 0 = 0 := by simp [List.getD_eq_getElem?_getD, List.getElem?_eq_none (show L.length ≤ j by omega)]
        rw [if_neg hji, e1, zero_gm a ha])
    rw [← e]; exact Ev.now _
  | succ d ih =>
    intro i O hi hO h
    have hc := hL.getD i
    have hOi : O.getD i 0 < 256 := by
      rw [h i (by omega), if_neg (by omega), Nat.xor_zero]
      exact (BL.cons (show (0 : Nat) < 256 by omega) hL).getD i
    have hg := gm_lt (L.getD i 0) a hc
    refine Ev.step (fun k => by
      simp only [impl_timesRoot.l0]
      rw [if_pos (by omega), if_pos (by omega), if_pos (by rw [cI_length]; omega), if_pos (by rw [cI_length]; omega), rd_cI, rd_cI, inc i (by omega), Int.toNat_natCast]) ?_
    refine Ev.bind (ev_mul _ _ hc ha) ?_
    rw [xor_u8 _ _ hOi hg, cI_set]
    refine ih (i + 1) _ (by omega) (by rw [List.length_set]; exact hO) (fun j hj => ?_)
    rw [nset_getD _ _ _ _ (by omega)]
    by_cases hji : j = i
    · subst hji
      rw [if_pos rfl, if_pos (by omega), h j hj, if_neg (by omega), Nat.xor_zero]
    · rw [if_neg hji, h j hj]
      by_cases h2 : j < i
      · rw [if_pos h2, if_pos (by omega)]
      · rw [if_neg h2, if_neg (by omega)]
theorem ev_root (L : List Nat) (hL : BL L) (hlen : L.length < 2 ^ 40) (a : Nat) (ha : a < 256) : Ev (fun k => impl_timesRoot.f k (cI L) (a : Int)) (cI (rt 0 L a)) := by
  unfold impl_timesRoot.f
  simp only [Option.bind_some]
  refine Ev.congr (fun k => by rw [if_pos (by rw [cI_length]; simp; omega)]) ?_
  rw [show ([0] : List Int) = cI [0] from rfl, cI_append, cI_length]
  exact root_l L hL hlen a ha L.length 0 (0 :: L) (by omega) (by simp) (fun j _ => by rw [if_neg (by omega), Nat.xor_zero])
theorem index_l (L : List Nat) (hlen : L.length < 2 ^ 40) (x : Nat) (d : Nat) : ∀ i : Nat, i + d = L.length →
    ∃ r : Int, Ev (fun k => slices_Index_byte_byte.l0 k (cI L) (x : Int) (L.length : Int) (i : Int)) r ∧ decide (r ≥ 0) = (L.drop i).contains x := by
  induction d with
  | zero =>
    intro i hi
    refine ⟨-1, Ev.step (fun k => by simp only [slices_Index_byte_byte.l0]; rw [if_neg (by omega)]) (Ev.now _), ?_⟩
    rw [List.drop_eq_nil_of_le (by omega)]; rfl
  | succ d ih =>
    intro i hi
    have hd : L.drop i = L.getD i 0 :: L.drop (i + 1) := by
      rw [List.drop_eq_getElem_cons (by omega)]; simp [List.getD_eq_getElem?_getD, show i < L.length by omega]
    by_cases h : x = L.getD i 0
    · refine ⟨i, Ev.step (fun k => by
        simp only [slices_Index_byte_byte.l0]
        rw [if_pos (by omega), if_pos (by omega), if_pos (by rw [cI_length]; omega), rd_cI, if_pos (by rw [h])]) (Ev.now _), ?_⟩
      rw [hd, List.contains_cons, ← h]; simp
    · obtain ⟨r, h1, h2⟩ := ih (i + 1) (by omega)
      refine ⟨r, Ev.step (fun k => by
        simp only [slices_Index_byte_byte.l0]
        rw [if_pos (by omega), if_pos (by omega), if_pos (by rw [cI_length]; omega), rd_cI, if_neg (fun e => h (by exact_mod_cast e)), inc i (by omega)]) h1, ?_⟩
      rw [hd, List.contains_cons, h2, beq_eq_false_iff_ne.mpr h, Bool.false_or]
theorem ev_contains (L : List Nat) (hlen : L.length < 2 ^ 40) (x : Nat) : Ev (fun k => slices_Contains_byte_byte.f k (cI L) (x : Int)) (L.contains x) := by
  unfold slices_Contains_byte_byte.f slices_Index_byte_byte.f
  obtain ⟨r, h1, h2⟩ := index_l L hlen x L.length 0 (by omega)
  rw [List.drop_zero] at h2
  rw [cI_length]
  refine Ev.bind h1 ?_
  rw [h2]; exact Ev.now _
section
variable (X Y : List Nat) (H : Pts X Y)
include H
theorem impl_add_l (P : List Nat) (hP : BL P) (hPl : P.length = X.length) (b : Nat) (hb : b < 256) (O : List Nat) (hO : BL O) (hOl : O.length = X.length) (i : Nat) (r : List Int × Bool)
    (hnext : Ev (fun k => impl_PolyThrough.l0 k (cI X) (cI Y) (cI (addp O P b)) (cI X) (X.length : Int) ((i + 1 : Nat) : Int)) r) (hi : i < X.length) (d : Nat) :
    ∀ (j : Nat) (Q : List Nat), j + d = P.length → Q.length = X.length → (∀ m, m < X.length → Q.getD m 0 = O.getD m 0 ^^^ (if m < j then gm (P.getD m 0) b else 0)) →
    Ev (fun k => impl_PolyThrough.l2 k (cI X) (cI Y) (cI Q) (b : Int) (cI X) (X.length : Int) (i : Int) (cI P) (P.length : Int) (j : Int)) r := by
  obtain ⟨hX, hY, hXY, hn⟩ := id H
  induction d with
  | zero =>
    intro j Q hj hQ h
    refine Ev.step (fun k => by simp only [impl_PolyThrough.l2]; rw [if_neg (by omega), inc i (by omega)]) ?_
    have e : Q = addp O P b := list_ext (by rw [addp_length _ _ _ (by omega)]; omega) (fun m hm => by
      rw [h m (by omega), addp_getD _ _ _ _ (by omega) (by omega), if_pos (by omega)])
    rw [e]; exact hnext
  | succ d ih =>
    intro j Q hj hQ h
    have hc := hP.getD j
    have hQj : Q.getD j 0 < 256 := by rw [h j (by omega), if_neg (by omega), Nat.xor_zero]; exact hO.getD j
    have hg := gm_lt (P.getD j 0) b hc
    refine Ev.step (fun k => by
      simp only [impl_PolyThrough.l2]
      rw [if_pos (by omega), if_pos (by omega), if_pos (by rw [cI_length]; omega), if_pos (by rw [cI_length]; omega), rd_cI, rd_cI, inc j (by omega), Int.toNat_natCast]) ?_
    refine Ev.bind (ev_mul _ _ hc hb) ?_
    rw [xor_u8 _ _ hQj hg, cI_set]
    refine ih (j + 1) _ (by omega) (by rw [List.length_set]; exact hQ) (fun m hm => ?_)
    rw [nset_getD _ _ _ _ (by omega)]
    by_cases hmj : m = j
    · subst hmj
      rw [if_pos rfl, if_pos (by omega), h m hm, if_neg (by omega), Nat.xor_zero]
    · rw [if_neg hmj, h m hm]
      by_cases h2 : m < j
      · rw [if_pos h2, if_pos (by omega)]
      · rw [if_neg h2, if_neg (by omega)]
theorem impl_part_l (i : Nat) (hi : i < X.length) (r : List Int × Bool)
    (hnext : Ev (fun k => impl_PolyThrough.l0 k (cI X) (cI Y) (cI (outs X Y (i + 1))) (cI X) (X.length : Int) ((i + 1 : Nat) : Int)) r) (d : Nat) :
    ∀ (j : Nat), j + d = X.length →
    Ev (fun k => impl_PolyThrough.l1 k (cI X) (cI Y) (cI (outs X Y i)) (i : Int) ((X.getD i 0 : Nat) : Int) (cI (lpart ((X.take j).eraseIdx i))) ((lval (X.getD i 0) ((X.take j).eraseIdx i) : Nat) : Int) (cI X) (X.length : Int) (i : Int) (cI X) (X.length : Int) (j : Int)) r := by
  obtain ⟨hX, hY, hXY, hn⟩ := id H
  have hxi := hX.getD i
  induction d with
  | zero =>
    intro j hj
    have hE := erase_BL hX i
    have hv := lval_lt (X.getD i 0) (X.eraseIdx i)
    rw [List.take_of_length_le (by omega : X.length ≤ j)]
    refine Ev.step (fun k => by
      simp only [impl_PolyThrough.l1]
      rw [if_neg (by omega), if_pos (by omega), if_pos (by rw [cI_length]; omega), rd_cI, cI_length]) ?_
    refine Ev.bind (ev_inv _ hv) ?_
    refine Ev.bind (ev_mul _ _ (hY.getD i) (inv_lt _)) ?_
    have hpl : (lpart (X.eraseIdx i)).length = X.length := by rw [lpart_length, List.length_eraseIdx]; split <;> omega
    exact impl_add_l X Y H (lpart (X.eraseIdx i)) (lpart_BL _ hE) hpl (gm (Y.getD i 0) (GF.inv (lval (X.getD i 0) (X.eraseIdx i)))) (gm_lt _ _ (hY.getD i)) (outs X Y i) (outs_BL X Y hX i) (outs_length X Y i (by omega)) i r hnext hi X.length 0 _ (by omega) (outs_length X Y i (by omega)) (fun m _ => by rw [if_neg (by omega), Nat.xor_zero])
  | succ d ih =>
    intro j hj
    have hB : BL ((X.take j).eraseIdx i) := hX.of_sub fun x hx => List.mem_of_mem_take (List.mem_of_mem_eraseIdx hx)
    have hpl : (lpart ((X.take j).eraseIdx i)).length ≤ 21 := by
      rw [lpart_length]
      have := List.length_eraseIdx_le (X.take j) i
      rw [List.length_take] at this; omega
    have hnx := ih (j + 1) (by omega)
    rw [erase_step X i j (by omega)] at hnx
    by_cases h : j = i
    · rw [if_pos h] at hnx
      refine Ev.step (fun k => by
        simp only [impl_PolyThrough.l1]
        rw [if_pos (by omega), if_pos (by omega), if_pos (by rw [cI_length]; omega), if_pos (by omega), inc j (by omega)]) hnx
    · rw [if_neg h, lpart_snoc, lval_snoc] at hnx
      refine Ev.step (fun k => by
        simp only [impl_PolyThrough.l1]
        rw [if_pos (by omega), if_pos (by omega), if_pos (by rw [cI_length]; omega), if_neg (by omega), rd_cI, inc j (by omega), xor_u8 _ _ hxi (hX.getD j)]) ?_
      refine Ev.bind (ev_root _ (lpart_BL _ hB) (by omega) _ (hX.getD j)) ?_
      exact Ev.bind (ev_mul _ _ (lval_lt _ _) (xor_lt _ _ hxi (hX.getD j))) hnx
theorem impl_all_l (d : Nat) : ∀ (i : Nat), i + d = X.length →
    Ev (fun k => impl_PolyThrough.l0 k (cI X) (cI Y) (cI (outs X Y i)) (cI X) (X.length : Int) (i : Int)) (if dF X d i = true then ([], false) else (cI (outs X Y X.length), true)) := by
  obtain ⟨hX, hY, hXY, hn⟩ := id H
  induction d with
  | zero =>
    intro i hi
    refine Ev.step (fun k => by simp only [impl_PolyThrough.l0]; rw [if_neg (by omega)]) ?_
    rw [show i = X.length by omega, dF, if_neg (by decide)]
    exact Ev.now _
  | succ d ih =>
    intro i hi
    have hl : (X.take i).length < 2 ^ 40 := by rw [List.length_take]; omega
    refine Ev.step (fun k => by
      simp only [impl_PolyThrough.l0]
      rw [if_pos (by omega), if_pos (by omega), if_pos (by rw [cI_length]; omega), if_pos (by rw [cI_length]; omega), rd_cI, Int.toNat_natCast, cI_take, cI_length]) ?_
    refine Ev.bind (ev_contains _ hl _) ?_
    rw [dF]
    by_cases h : (X.take i).contains (X.getD i 0) = true
    · rw [h, if_pos (by simp)]
      exact Ev.now _
    · rw [Bool.not_eq_true] at h
      rw [h, Bool.false_or]
      have := impl_part_l X Y H i (by omega) _ (ih (i + 1) (by omega)) X.length 0 (by omega)
      rw [List.take_zero, List.eraseIdx_nil] at this
      exact this
theorem impl_through : Ev (fun k => impl_PolyThrough.f k (cI X) (cI Y)) (interp X Y) := by
  obtain ⟨hX, hY, hXY, hn⟩ := id H
  unfold impl_PolyThrough.f
  rw [cI_length, cI_length, hXY, bne_self_eq_false]
  refine evn (by omega) ?_
  refine Ev.step (fun k => by
    simp only [impl_PolyThrough.j0]
    rw [if_neg (by decide), cI_length, if_pos (by omega), if_pos (by omega), Int.toNat_natCast, cI_zeros]) ?_
  exact impl_all_l X Y H X.length 0 (by omega)
end

theorem ev_smul (a b : Nat) (ha : a < 256) (hb : b < 256) : Ev (fun k => spec_l2Mul.f k (a : Int) (b : Int)) ((gm a b : Nat) : Int) := ev_of 8 fun k hk => spec_mul k a b hk ha hb
theorem ev_sinv (a : Nat) (ha : a < 256) : Ev (fun k => spec_l2Inv.f k (a : Int)) ((GF.inv a : Nat) : Int) := ev_of 300 fun k hk => spec_inv k a hk ha
section
variable (X Y : List Nat) (H : Pts X Y)
include H
theorem spec_add_l (P : List Nat) (hP : BL P) (hPl : P.length = X.length) (b : Nat) (hb : b < 256) (O : List Nat) (hO : BL O) (hOl : O.length = X.length) (i : Nat) (r : List Int × Bool)
    (hnext : Ev (fun k => spec_PolyThrough.l2 k (cI X) (cI Y) (cI (addp O P b)) (X.length : Int) ((i + 1 : Nat) : Int)) r) (hi : i < X.length) (d : Nat) :
    ∀ (j : Nat) (Q : List Nat), j + d = P.length → Q.length = X.length → (∀ m, m < X.length → Q.getD m 0 = O.getD m 0 ^^^ (if m < j then gm (P.getD m 0) b else 0)) →
    Ev (fun k => spec_PolyThrough.l5 k (cI X) (cI Y) (cI Q) (b : Int) (X.length : Int) (i : Int) (cI P) (P.length : Int) (j : Int)) r := by
  obtain ⟨hX, hY, hXY, hn⟩ := id H
  induction d with
  | zero =>
    intro j Q hj hQ h
    refine Ev.step (fun k => by simp only [spec_PolyThrough.l5]; rw [if_neg (by omega), inc i (by omega)]) ?_
    have e : Q = addp O P b := list_ext (by rw [addp_length _ _ _ (by omega)]; omega) (fun m hm => by
      rw [h m (by omega), addp_getD _ _ _ _ (by omega) (by omega), if_pos (by omega)])
    rw [e]; exact hnext
  | succ d ih =>
    intro j Q hj hQ h
    have hc := hP.getD j
    have hQj : Q.getD j 0 < 256 := by rw [h j (by omega), if_neg (by omega), Nat.xor_zero]; exact hO.getD j
    have hg := gm_lt (P.getD j 0) b hc
    refine Ev.step (fun k => by
      simp only [spec_PolyThrough.l5]
      rw [if_pos (by omega), if_pos (by omega), if_pos (by rw [cI_length]; omega), if_pos (by rw [cI_length]; omega), rd_cI, rd_cI, inc j (by omega), Int.toNat_natCast]) ?_
    refine Ev.bind (ev_smul _ _ hc hb) ?_
    rw [xor_u8 _ _ hQj hg, cI_set]
    refine ih (j + 1) _ (by omega) (by rw [List.length_set]; exact hQ) (fun m hm => ?_)
    rw [nset_getD _ _ _ _ (by omega)]
    by_cases hmj : m = j
    · subst hmj
      rw [if_pos rfl, if_pos (by omega), h m hm, if_neg (by omega), Nat.xor_zero]
    · rw [if_neg hmj, h m hm]
      by_cases h2 : m < j
      · rw [if_pos h2, if_pos (by omega)]
      · rw [if_neg h2, if_neg (by omega)]
theorem spec_root_l (L : List Nat) (hL : BL L) (hlen : L.length < 2 ^ 40) (a : Nat) (ha : a < 256) (i m v : Nat) (hi : i < X.length) (hv : v < 256) (O : List Int) (r : List Int × Bool)
    (hnext : Ev (fun k => spec_PolyThrough.l3 k (cI X) (cI Y) O (i : Int) (cI (rt 0 L a)) ((gm v (X.getD i 0 ^^^ a) : Nat) : Int) (X.length : Int) (i : Int) (cI X) (X.length : Int) (wrap64 ((m : Int) + 1))) r) (d : Nat) :
    ∀ (j : Nat) (Q : List Nat), j + d = L.length → Q.length = L.length + 1 →
    (∀ q, q ≤ L.length → Q.getD q 0 = (if q ≤ j then (0 :: L).getD q 0 else 0) ^^^ (if q < j then gm (L.getD q 0) a else 0)) →
    Ev (fun k => spec_PolyThrough.l4 k (cI X) (cI Y) O (i : Int) (v : Int) (a : Int) (cI Q) (X.length : Int) (i : Int) (cI X) (X.length : Int) (m : Int) (cI L) (L.length : Int) (j : Int)) r := by
  obtain ⟨hX, hY, hXY, hn⟩ := id H
  have hxi := hX.getD i
  induction d with
  | zero =>
    intro j Q hj hQ h
    refine Ev.step (fun k => by
      simp only [spec_PolyThrough.l4]
      rw [if_neg (by omega), if_pos (by omega), if_pos (by rw [cI_length]; omega), rd_cI, xor_u8 _ _ hxi ha]) ?_
    refine Ev.bind (ev_smul _ _ hv (xor_lt _ _ hxi ha)) ?_
    have e : Q = rt 0 L a := list_ext (by rw [rt_length]; exact hQ) (fun q hq => by
      rw [rt_getD _ _ _ _ ha, if_pos (by omega), h q (by omega), if_pos (by omega)]
      by_cases hqj : q < j
      · rw [if_pos hqj]
      · have e1 : L.getD q 0 = 0 := by simp [List.getD_eq_getElem?_getD, List.getElem?_eq_none (show L.length ≤ q by omega)]
        rw [if_neg hqj, e1, zero_gm a ha])
    rw [e]; exact hnext
  | succ d ih =>
    intro j Q hj hQ h
    have hc := hL.getD j
    have hg := gm_lt (L.getD j 0) a hc
    have hQ1 : Q.getD (j + 1) 0 = 0 := by rw [h (j + 1) (by omega), if_neg (by omega), if_neg (by omega)]; rfl
    have hQj : Q.getD j 0 = (0 :: L).getD j 0 := by rw [h j (by omega), if_pos (by omega), if_neg (by omega), Nat.xor_zero]
    have hQj2 : Q.getD j 0 < 256 := by rw [hQj]; exact (BL.cons (show (0 : Nat) < 256 by omega) hL).getD j
    refine Ev.step (fun k => by
      simp only [spec_PolyThrough.l4, Option.bind_some]
      rw [if_pos (by omega), if_pos (by omega), if_pos (by rw [cI_length]; omega), inc j (by omega), if_pos (by omega), if_pos (by rw [cI_length]; omega), rd_cI, rd_cI, hQ1, Int.toNat_natCast, Int.toNat_natCast, if_pos (by rw [cI_length]; omega)]) ?_
    refine Ev.bind (ev_smul _ _ hc ha) ?_
    rw [xor_u8 _ _ (by omega) hc, Nat.zero_xor, cI_set, rd_cI, nset_getD _ _ _ _ (by omega), if_neg (by omega), xor_u8 _ _ hQj2 hg, cI_set]
    refine ih (j + 1) _ (by omega) (by rw [List.length_set, List.length_set]; exact hQ) (fun q hq => ?_)
    rw [nset_getD _ _ _ _ (by rw [List.length_set]; omega), nset_getD _ _ _ _ (by omega)]
    by_cases hq1 : q = j
    · subst hq1
      rw [if_pos rfl, hQj, if_pos (by omega), if_pos (by omega)]
    · rw [if_neg hq1]
      by_cases hq2 : q = j + 1
      · subst hq2
        rw [if_pos rfl, if_pos (by omega), if_neg (by omega), Nat.xor_zero]
        simp
      · rw [if_neg hq2, h q hq]
        by_cases h2 : q < j
        · rw [if_pos (by omega), if_pos h2, if_pos (by omega), if_pos (by omega)]
        · rw [if_neg (by omega), if_neg h2, if_neg (by omega), if_neg (by omega)]
theorem spec_part_l (i : Nat) (hi : i < X.length) (r : List Int × Bool)
    (hnext : Ev (fun k => spec_PolyThrough.l2 k (cI X) (cI Y) (cI (outs X Y (i + 1))) (X.length : Int) ((i + 1 : Nat) : Int)) r) (d : Nat) :
    ∀ (j : Nat), j + d = X.length →
    Ev (fun k => spec_PolyThrough.l3 k (cI X) (cI Y) (cI (outs X Y i)) (i : Int) (cI (lpart ((X.take j).eraseIdx i))) ((lval (X.getD i 0) ((X.take j).eraseIdx i) : Nat) : Int) (X.length : Int) (i : Int) (cI X) (X.length : Int) (j : Int)) r := by
  obtain ⟨hX, hY, hXY, hn⟩ := id H
  have hxi := hX.getD i
  induction d with
  | zero =>
    intro j hj
    have hE := erase_BL hX i
    have hv := lval_lt (X.getD i 0) (X.eraseIdx i)
    rw [List.take_of_length_le (by omega : X.length ≤ j)]
    refine Ev.step (fun k => by
      simp only [spec_PolyThrough.l3]
      rw [if_neg (by omega), if_pos (by omega), if_pos (by rw [cI_length]; omega), rd_cI, cI_length]) ?_
    refine Ev.bind (ev_sinv _ hv) ?_
    refine Ev.bind (ev_smul _ _ (hY.getD i) (inv_lt _)) ?_
    have hpl : (lpart (X.eraseIdx i)).length = X.length := by rw [lpart_length, List.length_eraseIdx]; split <;> omega
    exact spec_add_l X Y H (lpart (X.eraseIdx i)) (lpart_BL _ hE) hpl (gm (Y.getD i 0) (GF.inv (lval (X.getD i 0) (X.eraseIdx i)))) (gm_lt _ _ (hY.getD i)) (outs X Y i) (outs_BL X Y hX i) (outs_length X Y i (by omega)) i r hnext hi X.length 0 _ (by omega) (outs_length X Y i (by omega)) (fun m _ => by rw [if_neg (by omega), Nat.xor_zero])
  | succ d ih =>
    intro j hj
    have hB : BL ((X.take j).eraseIdx i) := hX.of_sub fun x hx => List.mem_of_mem_take (List.mem_of_mem_eraseIdx hx)
    have hpl : (lpart ((X.take j).eraseIdx i)).length ≤ 21 := by
      rw [lpart_length]
      have := List.length_eraseIdx_le (X.take j) i
      rw [List.length_take] at this; omega
    have hnx := ih (j + 1) (by omega)
    rw [erase_step X i j (by omega)] at hnx
    by_cases h : j = i
    · rw [if_pos h] at hnx
      refine Ev.step (fun k => by
        simp only [spec_PolyThrough.l3]
        rw [if_pos (by omega), if_pos (by omega), if_pos (by rw [cI_length]; omega), if_pos (by omega), inc j (by omega)]) hnx
    · rw [if_neg h, lpart_snoc, lval_snoc, ← inc j (by omega)] at hnx
      obtain ⟨Lp, hLp⟩ : ∃ Lp, Lp = lpart ((X.take j).eraseIdx i) := ⟨_, rfl⟩
      have hBp : BL Lp := hLp ▸ lpart_BL _ hB
      rw [← hLp] at hnx hpl ⊢
      refine Ev.step (fun k => by
        simp only [spec_PolyThrough.l3]
        rw [if_pos (by omega), if_pos (by omega), if_pos (by rw [cI_length]; omega), if_neg (by omega), rd_cI, cI_length, inc Lp.length (by omega), if_pos (by omega), Int.toNat_natCast, if_pos (by omega), cI_zeros]) ?_
      exact spec_root_l X Y H Lp hBp (by omega) (X.getD j 0) (hX.getD j) i j _ hi (lval_lt _ _) _ r hnx Lp.length 0 (List.replicate (Lp.length + 1) 0) (by omega) (by simp) (fun q hq => by
        have e1 : (List.replicate (Lp.length + 1) 0).getD q 0 = 0 := by
          simp only [List.getD_eq_getElem?_getD, List.getElem?_replicate]; split <;> rfl
        rw [e1, if_neg (show ¬ q < 0 by omega), Nat.xor_zero]
        by_cases h0 : q ≤ 0
        · rw [if_pos h0, show q = 0 by omega]; rfl
        · rw [if_neg h0])
theorem spec_all_l (d : Nat) : ∀ (i : Nat), i + d = X.length →
    Ev (fun k => spec_PolyThrough.l2 k (cI X) (cI Y) (cI (outs X Y i)) (X.length : Int) (i : Int)) (cI (outs X Y X.length), true) := by
  obtain ⟨hX, hY, hXY, hn⟩ := id H
  induction d with
  | zero =>
    intro i hi
    refine Ev.step (fun k => by simp only [spec_PolyThrough.l2]; rw [if_neg (by omega)]) ?_
    rw [show i = X.length by omega]
    exact Ev.now _
  | succ d ih =>
    intro i hi
    refine Ev.step (fun k => by
      simp only [spec_PolyThrough.l2]
      rw [if_pos (by omega), cI_length]) ?_
    have := spec_part_l X Y H i (by omega) _ (ih (i + 1) (by omega)) X.length 0 (by omega)
    rw [List.take_zero, List.eraseIdx_nil] at this
    exact this
theorem spec_dup_l (i : Nat) (hi : i < X.length) (r : List Int × Bool)
    (hnext : Ev (fun k => spec_PolyThrough.l0 k (cI X) (cI Y) (cI X) (X.length : Int) ((i + 1 : Nat) : Int)) r) (d : Nat) : ∀ (j : Nat), j + d = i →
    Ev (fun k => spec_PolyThrough.l1 k (cI X) (cI Y) ((X.getD i 0 : Nat) : Int) (cI X) (X.length : Int) (i : Int) (cI (X.take i)) (i : Int) (j : Int)) (if ((X.take i).drop j).contains (X.getD i 0) = true then ([], false) else r) := by
  obtain ⟨hX, hY, hXY, hn⟩ := id H
  have hl : (X.take i).length = i := by rw [List.length_take]; omega
  induction d with
  | zero =>
    intro j hj
    refine Ev.step (fun k => by simp only [spec_PolyThrough.l1]; rw [if_neg (by omega), inc i (by omega)]) ?_
    rw [List.drop_eq_nil_of_le (by omega), if_neg (by simp)]
    exact hnext
  | succ d ih =>
    intro j hj
    have hd := drop_cons (X.take i) j (by omega)
    rw [hd, List.contains_cons]
    by_cases h : (X.take i).getD j 0 = X.getD i 0
    · refine Ev.step (fun k => by
        simp only [spec_PolyThrough.l1]
        rw [if_pos (by omega), if_pos (by omega), if_pos (by rw [cI_length]; omega), rd_cI, if_pos (by rw [h])]) ?_
      rw [h, beq_self_eq_true, Bool.true_or, if_pos rfl]
      exact Ev.now _
    · refine Ev.step (fun k => by
        simp only [spec_PolyThrough.l1]
        rw [if_pos (by omega), if_pos (by omega), if_pos (by rw [cI_length]; omega), rd_cI, if_neg (fun e => h (by exact_mod_cast e)), inc j (by omega)]) ?_
      rw [beq_eq_false_iff_ne.mpr (fun e => h e.symm), Bool.false_or]
      exact ih (j + 1) (by omega)
theorem spec_dups_l (d : Nat) : ∀ (i : Nat), i + d = X.length →
    Ev (fun k => spec_PolyThrough.l0 k (cI X) (cI Y) (cI X) (X.length : Int) (i : Int)) (if dF X d i = true then ([], false) else (cI (outs X Y X.length), true)) := by
  obtain ⟨hX, hY, hXY, hn⟩ := id H
  induction d with
  | zero =>
    intro i hi
    refine Ev.step (fun k => by
      simp only [spec_PolyThrough.l0]
      rw [if_neg (by omega), cI_length, if_pos (by omega), if_pos (by omega), Int.toNat_natCast, cI_zeros]) ?_
    rw [dF, if_neg (by decide)]
    exact spec_all_l X Y H X.length 0 (by omega)
  | succ d ih =>
    intro i hi
    have hl : (X.take i).length = i := by rw [List.length_take]; omega
    refine Ev.step (fun k => by
      simp only [spec_PolyThrough.l0]
      rw [if_pos (by omega), if_pos (by omega), if_pos (by rw [cI_length]; omega), if_pos (by rw [cI_length]; omega), rd_cI, Int.toNat_natCast, cI_take, cI_length, hl]) ?_
    have h1 := spec_dup_l X Y H i (by omega) _ (ih (i + 1) (by omega)) i 0 (by omega)
    rw [List.drop_zero] at h1
    rw [dF]
    by_cases h : (X.take i).contains (X.getD i 0) = true
    · rw [if_pos h] at h1
      rw [h, Bool.true_or, if_pos rfl]
      exact h1
    · rw [if_neg h] at h1
      rw [Bool.not_eq_true] at h
      rw [h, Bool.false_or]
      exact h1
theorem spec_through : Ev (fun k => spec_PolyThrough.f k (cI X) (cI Y)) (interp X Y) := by
  obtain ⟨hX, hY, hXY, hn⟩ := id H
  unfold spec_PolyThrough.f
  rw [cI_length, cI_length, decide_eq_false (by omega)]
  refine evp (by omega) ?_
  refine Ev.step (fun k => by
    simp only [spec_PolyThrough.j0]
    rw [if_neg (by decide), cI_length]) ?_
  exact spec_dups_l X Y H X.length 0 (by omega)
end

theorem through_bad (X Y : List Nat) (h : ¬ (Y.length = X.length ∧ X.length ≤ 20)) (hb : X.length ≤ 1048576) (hb2 : Y.length ≤ 1048576) :
    Ev (fun k => spec_PolyThrough.f k (cI X) (cI Y)) ([], false) ∧ Ev (fun k => impl_PolyThrough.f k (cI X) (cI Y)) ([], false) := by
  constructor
  · unfold spec_PolyThrough.f
    rw [cI_length, cI_length]
    by_cases e : (X.length : Int) = (Y.length : Int)
    · refine evp e ?_
      rw [decide_eq_true (by omega)]
      exact Ev.step (fun k => by simp only [spec_PolyThrough.j0]; rw [if_pos True.intro]) (Ev.now _)
    · refine evn e ?_
      exact Ev.step (fun k => by simp only [spec_PolyThrough.j0]; rw [if_pos True.intro]) (Ev.now _)
  · unfold impl_PolyThrough.f
    rw [cI_length, cI_length]
    by_cases e : (X.length : Int) > 20
    · refine evp e ?_
      exact Ev.step (fun k => by simp only [impl_PolyThrough.j0]; rw [if_pos True.intro]) (Ev.now _)
    · refine evn e ?_
      rw [bne_iff_ne.mpr (show ((Y.length : Nat) : Int) ≠ (X.length : Int) by omega)]
      exact Ev.step (fun k => by simp only [impl_PolyThrough.j0]; rw [if_pos True.intro]) (Ev.now _)
theorem law_of (X Y : List Nat) (R : List Int) (b : Bool) (hR : R.length < 2 ^ 20) (hs : Ev (fun k => spec_PolyThrough.f k (cI X) (cI Y)) (R, b)) (hi : Ev (fun k => impl_PolyThrough.f k (cI X) (cI Y)) (R, b))
    (hx : X.length ≤ 1048576) (hy : Y.length ≤ 1048576) : Ev (fun k => laws_FnExactPolyThrough.f k (cI X) (cI Y)) true := by
  have lx : (cI X).length < 2 ^ 48 := by rw [cI_length]; omega
  have ly : (cI Y).length < 2 ^ 48 := by rw [cI_length]; omega
  obtain ⟨mx, hm1, hl1, hh1⟩ := marked (cI X) 1 (by omega) lx
  obtain ⟨my, hm2, hl2, hh2⟩ := marked (cI Y) (1 + (cI X).length) (by rw [cI_length]; omega) ly
  obtain ⟨mr, hm3, hl3, hh3⟩ := marked R 1 (by omega) (by omega)
  rw [show ((1 : Nat) : Int) = 1 from rfl] at hm1 hm3 hh3
  unfold laws_FnExactPolyThrough.f
  refine evn (by rw [cI_length]; omega) (evn (by rw [cI_length]; omega) ?_)
  refine Ev.bind (ev_to _ lx) (Ev.bind (ev_to _ ly) (Ev.bind hs (Ev.bind (ev_to _ lx) (Ev.bind (ev_to _ ly) (Ev.bind hi ?_)))))
  refine Ev.bind (ev_eq R (by omega)) ?_
  refine evp rfl ?_
  rw [bne_self_eq_false]
  refine Ev.step (fun k => by simp only [laws_FnExactPolyThrough.j0]; rw [if_neg (by decide)]) ?_
  refine Ev.bind (ev_to _ lx) (Ev.bind (ev_eq _ lx) ?_)
  refine evp rfl ?_
  refine Ev.bind (ev_to _ ly) (Ev.bind (ev_eq _ ly) ?_)
  refine evp rfl ?_
  refine Ev.bind hm1 (Ev.bind hm2 ?_)
  refine evn (by omega) ?_
  refine Ev.bind (ev_eq R (by omega)) ?_
  refine evp rfl ?_
  rw [bne_self_eq_false]
  refine Ev.step (fun k => by simp only [laws_FnExactPolyThrough.j1]; rw [if_neg (by decide)]) ?_
  refine Ev.bind hm3 (Ev.bind hh3 ?_)
  refine evn (by omega) (evp rfl ?_)
  refine Ev.bind (ev_to _ lx) (Ev.bind (ev_to _ ly) (Ev.bind hi (Ev.bind (ev_eq R (by omega)) ?_)))
  refine evp rfl ?_
  rw [bne_self_eq_false]
  refine Ev.step (fun k => by simp only [laws_FnExactPolyThrough.j2]; rw [if_neg (by decide)]) ?_
  refine Ev.bind hh3 ?_
  refine evn (by omega) (evp rfl ?_)
  exact Ev.now _
theorem FnExactPolyThrough : laws_FnExactPolyThrough.Pure := by
  intro xs ys _ h1 w1 _ h2 w2
  obtain ⟨X, hX, rfl⟩ := bytes_of w1
  obtain ⟨Y, hY, rfl⟩ := bytes_of w2
  refine Ev.rounds ?_
  by_cases hx : X.length ≤ 1048576
  · by_cases hy : Y.length ≤ 1048576
    · by_cases h : Y.length = X.length ∧ X.length ≤ 20
      · have hs := spec_through X Y ⟨hX, hY, h.1, h.2⟩
        have hi := impl_through X Y ⟨hX, hY, h.1, h.2⟩
        refine law_of X Y (interp X Y).1 (interp X Y).2 ?_ hs hi hx hy
        unfold interp
        split
        · exact (by decide : (0 : Nat) < 2 ^ 20)
        · show (cI (outs X Y X.length)).length < 2 ^ 20
          rw [cI_length, outs_length X Y X.length (Nat.le_refl _)]; omega
      · obtain ⟨hs, hi⟩ := through_bad X Y h hx hy
        exact law_of X Y [] false (by decide) hs hi hx hy
    · unfold laws_FnExactPolyThrough.f
      refine evn (by rw [cI_length]; omega) (evp (by rw [cI_length]; omega) ?_)
      exact Ev.now _
  · unfold laws_FnExactPolyThrough.f
    refine evp (by rw [cI_length]; omega) ?_
    exact Ev.now _

end Go.Proofs.Ytjibcpfgnnmfjaa.Pure
