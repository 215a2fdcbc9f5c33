/- The laws of polynomials hold of all drawn points; no condition. -/
import Derived.Test.YtjibcpfgnnmfjaaGF
import Derived.Test.YtjibcpfgnnmfjaaPoly
import Derived.Test.YtjibcpfgnnmfjaaQFnPolynomialsx7
import Derived.OpenShut
set_option linter.unusedVariables false
set_option linter.unusedSimpArgs false
namespace Go.Proofs.Ytjibcpfgnnmfjaa.Pure
open Go.RowKit Go.Proofs.Ytjibcpfgnnmfjaa.PFnPolynomials Go.Proofs.YtjibcpfgnnmfjaaW.PrintWords Go.Proofs.YtjibcpfgnnmfjaaW.PrintLast Go.Proofs.YtjibcpfgnnmfjaaW.PrintMore Go.Proofs.Ytjibcpfgnnmfjaa.GF Go.Proofs.Ytjibcpfgnnmfjaa.Poly

theorem wr64 (n : Nat) (h : n < 2 ^ 62) : wrap64 (n : Int) = (n : Int) := by unfold wrap64; omega
theorem wri (n : Int) (h : 0 ≤ n) (h1 : n < 2 ^ 62) : wrap64 n = n := by unfold wrap64; omega
theorem byte_of {x : Int} (h : (Lit.int .u8 x).wf = true) : ∃ n : Nat, n < 256 ∧ x = (n : Int) := by
  have := bounds_u8 h
  exact ⟨x.toNat, by omega, by omega⟩
theorem shr_nat (b j q : Nat) (hj : j ≤ 8) (hq : q = b / 2 ^ j) : shr .u8 (b : Int) (j : Int) = (q : Int) := by
  unfold shr
  rw [Int.toNat_natCast, Nat.min_eq_left (show j ≤ IntKind.bits .u8 from hj), hq]
  simp
theorem and1_nat (q : Nat) (hq : q < 256) : Go.bits .and .u8 (q : Int) 1 = ((q % 2 : Nat) : Int) := by
  rw [and1_u8 (q : Int) (by omega) (by omega)]; simp
theorem and1_inat (q : Nat) (hq : q < 2 ^ 62) : Go.bits .and .i64 (q : Int) 1 = ((q % 2 : Nat) : Int) := by
  rw [and1_i64 (q : Int) (by omega) (by omega)]; simp
theorem dbl (x : Nat) (hx : x < 256) : wrap64 ((x : Int) * 2) = ((2 * x : Nat) : Int) := by unfold wrap64; omega
theorem inc (j : Nat) (hj : j < 2 ^ 62) : wrap64 ((j : Int) + 1) = ((j + 1 : Nat) : Int) := by unfold wrap64; omega
theorem x285 (x : Nat) (hx : x < 256) : Go.bits .xor .i64 ((2 * x : Nat) : Int) 285 = ((2 * x ^^^ 285 : Nat) : Int) := xor_i64 (2 * x) 285 (by omega) (by omega)
theorem xor_nat (o x : Nat) (ho : o < 256) (hx : x < 256) : Go.bits .xor .i64 (o : Int) (x : Int) = ((o ^^^ x : Nat) : Int) := xor_i64 o x (by omega) (by omega)
theorem xt_hi (x : Nat) (h : 2 * x > 255) : xt x = 2 * x ^^^ 285 := by unfold xt; rw [if_pos h]
theorem xt_lo (x : Nat) (h : ¬ 2 * x > 255) : xt x = 2 * x := by unfold xt; rw [if_neg h]

theorem impl_mul_l (n : Nat) : ∀ (k j x o b : Nat), n + j = 8 → n < k → x < 256 → o < 256 → b < 256 →
    impl_FieldMul.l0 k (b : Int) (o : Int) (j : Int) (x : Int) = some ((gmAux n x (b / 2 ^ j) o : Nat) : Int) := by
  induction n with
  | zero =>
    intro k j x o b hj hk hx ho hb
    obtain ⟨k, rfl⟩ : ∃ m, k = m + 1 := ⟨k - 1, by omega⟩
    simp only [impl_FieldMul.l0]
    rw [if_neg (by omega)]
    show some ((o : Int) % 256) = some (o : Int)
    rw [Int.emod_eq_of_lt (by omega) (by omega)]
  | succ n ih =>
    intro k j x o b hj hk hx ho hb
    obtain ⟨k, rfl⟩ : ∃ m, k = m + 1 := ⟨k - 1, by omega⟩
    obtain ⟨q, hq⟩ : ∃ q, q = b / 2 ^ j := ⟨_, rfl⟩
    have hq2 : q < 256 := by rw [hq]; exact Nat.lt_of_le_of_lt (Nat.div_le_self _ _) hb
    have hb2 : q / 2 = b / 2 ^ (j + 1) := by rw [hq, Nat.div_div_eq_div_mul, ← Nat.pow_succ]
    have hs : shr .u8 (b : Int) (j : Int) = (q : Int) := shr_nat b j q (by omega) hq
    rw [← hq]
    simp only [gmAux]
    rw [hb2]
    have hxt := xt_lt x hx
    have hox := xor_lt _ _ ho hx
    have i1 := ih k (j + 1) (xt x) (o ^^^ x) b (by omega) (by omega) hxt hox hb
    have i2 := ih k (j + 1) (xt x) o b (by omega) (by omega) hxt ho hb
    have c1 : (j : Int) < 8 := by omega
    have c2 : (0 : Int) ≤ (j : Int) := by omega
    clear hq hb2
    simp only [impl_FieldMul.l0]
    rw [if_pos c1, if_pos c2, hs, and1_nat q hq2, dbl x hx, inc j (by omega), x285 x hx, xor_nat o x ho hx]
    clear hs
    by_cases h1 : q % 2 = 1
    · rw [if_pos (by omega), if_pos h1]
      by_cases h2 : 2 * x > 255
      · rw [if_pos (by omega), ← xt_hi x h2]; exact i1
      · rw [if_neg (by omega), ← xt_lo x h2]; exact i1
    · rw [if_neg (by omega), if_neg h1]
      by_cases h2 : 2 * x > 255
      · rw [if_pos (by omega), ← xt_hi x h2]; exact i2
      · rw [if_neg (by omega), ← xt_lo x h2]; exact i2
theorem impl_mul (k a b : Nat) (hk : 8 < k) (ha : a < 256) (hb : b < 256) : impl_FieldMul.f k (a : Int) (b : Int) = some ((gm a b : Nat) : Int) := by
  unfold impl_FieldMul.f
  rw [wr64 a (by omega)]
  have := impl_mul_l 8 k 0 a 0 b (by omega) hk ha (by omega) hb
  simpa [gm] using this

theorem spec_mul_l (n : Nat) : ∀ (k x o y : Nat), n < k → y < 2 ^ n → n ≤ 8 → x < 256 → o < 256 →
    spec_l2Mul.l0 k (o : Int) (x : Int) (y : Int) = some ((gmAux n x y o : Nat) : Int) := by
  induction n with
  | zero =>
    intro k x o y hk hy _ hx ho
    obtain ⟨k, rfl⟩ : ∃ m, k = m + 1 := ⟨k - 1, by omega⟩
    have : y = 0 := by simpa using hy
    subst this
    simp only [spec_l2Mul.l0]
    rw [if_neg (by omega)]
    show some ((o : Int) % 256) = some (o : Int)
    rw [Int.emod_eq_of_lt (by omega) (by omega)]
  | succ n ih =>
    intro k x o y hk hy hn hx ho
    obtain ⟨k, rfl⟩ : ∃ m, k = m + 1 := ⟨k - 1, by omega⟩
    simp only [spec_l2Mul.l0]
    by_cases h0 : y = 0
    · subst h0
      rw [if_neg (by omega), gmAux_zero]
      rw [Int.emod_eq_of_lt (by omega) (by omega)]
    have hp : (2 : Nat) ^ (n + 1) ≤ 256 := by
      have := Nat.pow_le_pow_right (show 0 < 2 by decide) (show n + 1 ≤ 8 by omega)
      simpa using this
    have hy2 : y / 2 < 2 ^ n := by rw [Nat.pow_succ] at hy; omega
    have hxt := xt_lt x hx
    have hox := xor_lt _ _ ho hx
    have i1 := ih k (xt x) (o ^^^ x) (y / 2) (by omega) hy2 (by omega) hxt hox
    have i2 := ih k (xt x) o (y / 2) (by omega) hy2 (by omega) hxt ho
    rw [if_pos (by omega), and1_inat y (by omega), dbl x hx, x285 x hx, xor_nat o x ho hx, show (y : Int) / 2 = ((y / 2 : Nat) : Int) by simp]
    simp only [gmAux]
    by_cases h1 : y % 2 = 1
    · rw [if_pos (by omega), if_pos h1]
      by_cases h2 : 2 * x > 255
      · rw [if_pos (by omega), ← xt_hi x h2]; exact i1
      · rw [if_neg (by omega), ← xt_lo x h2]; exact i1
    · rw [if_neg (by omega), if_neg h1]
      by_cases h2 : 2 * x > 255
      · rw [if_pos (by omega), ← xt_hi x h2]; exact i2
      · rw [if_neg (by omega), ← xt_lo x h2]; exact i2
theorem spec_mul (k a b : Nat) (hk : 8 < k) (ha : a < 256) (hb : b < 256) : spec_l2Mul.f k (a : Int) (b : Int) = some ((gm a b : Nat) : Int) := by
  unfold spec_l2Mul.f
  rw [wr64 a (by omega), wr64 b (by omega)]
  have := spec_mul_l 8 k a 0 b hk (by omega) (by omega) ha (by omega)
  simpa [gm] using this

theorem impl_pow_l (a n : Nat) (ha : a < 256) (hn : n < 2 ^ 60) (d : Nat) : ∀ (k i : Nat), i + d = n → d + 9 < k →
    impl_power.l0 k (a : Int) ((gp a i : Nat) : Int) (n : Int) (i : Int) = some ((gp a n : Nat) : Int) := by
  induction d with
  | zero =>
    intro k i hi hk
    obtain ⟨k, rfl⟩ : ∃ m, k = m + 1 := ⟨k - 1, by omega⟩
    simp only [impl_power.l0]
    rw [if_neg (by omega), show i = n by omega]
  | succ d ih =>
    intro k i hi hk
    obtain ⟨k, rfl⟩ : ∃ m, k = m + 1 := ⟨k - 1, by omega⟩
    have e2 : wrap64 ((i : Int) + 1) = ((i + 1 : Nat) : Int) := by rw [wri _ (by omega) (by omega)]; omega
    simp only [impl_power.l0]
    rw [if_pos (by omega), impl_mul k _ _ (by omega) (gp_lt a i) ha, e2]
    simp only [Option.bind_some]
    exact ih k (i + 1) (by omega) (by omega)
theorem impl_pow (k a n : Nat) (hk : n + 9 < k) (ha : a < 256) (hn : n < 2 ^ 60) : impl_power.f k (a : Int) (n : Int) = some ((gp a n : Nat) : Int) := by
  unfold impl_power.f
  exact impl_pow_l a n ha hn n k 0 (by omega) hk

theorem spec_pow_l (a N : Nat) (ha : a < 256) (hn : N < 2 ^ 60) (d : Nat) : ∀ (k : Nat), d ≤ N → d + 9 < k →
    spec_l2Pow.l0 k (a : Int) (d : Int) ((gp a (N - d) : Nat) : Int) = some ((gp a N : Nat) : Int) := by
  induction d with
  | zero =>
    intro k hd hk
    obtain ⟨k, rfl⟩ : ∃ m, k = m + 1 := ⟨k - 1, by omega⟩
    simp only [spec_l2Pow.l0]
    rw [if_neg (by omega), Nat.sub_zero]
  | succ d ih =>
    intro k hd hk
    obtain ⟨k, rfl⟩ : ∃ m, k = m + 1 := ⟨k - 1, by omega⟩
    have e2 : wrap64 (((d + 1 : Nat) : Int) - 1) = (d : Int) := by rw [wri _ (by omega) (by omega)]; omega
    simp only [spec_l2Pow.l0]
    rw [if_pos (by omega), spec_mul k _ _ (by omega) (gp_lt a _) ha, e2]
    simp only [Option.bind_some]
    have := ih k (by omega) (by omega)
    rw [show N - d = (N - (d + 1)) + 1 by omega] at this
    exact this
theorem spec_pow (k a n : Nat) (hk : n + 9 < k) (ha : a < 256) (hn : n < 2 ^ 60) : spec_l2Pow.f k (a : Int) (n : Int) = some ((gp a n : Nat) : Int) := by
  unfold spec_l2Pow.f
  have := spec_pow_l a n ha hn n k (Nat.le_refl _) hk
  rw [Nat.sub_self] at this
  exact this

theorem impl_inv (k a : Nat) (hk : 300 < k) (ha : a < 256) : impl_FieldInv.f k (a : Int) = some ((GF.inv a : Nat) : Int) := by
  unfold impl_FieldInv.f
  rw [show (254 : Int) = ((254 : Nat) : Int) from rfl, impl_pow k a 254 (by omega) ha (by omega)]
  rfl

theorem spec_inv (k a : Nat) (hk : 300 < k) (ha : a < 256) : spec_l2Inv.f k (a : Int) = some ((GF.inv a : Nat) : Int) := by
  unfold spec_l2Inv.f
  by_cases h : a = 0
  · subst h; rw [if_pos (by rfl), GF.inv_zero]; rfl
  · rw [if_neg (by omega), show (254 : Int) = ((254 : Nat) : Int) from rfl, spec_pow k a 254 (by omega) ha (by omega)]
    rfl

theorem rd_nat (xs : List Int) (i : Nat) : rd xs (i : Int) = xs.getD i 0 := by unfold rd; rw [Int.toNat_natCast]
theorem set_getD (xs : List Int) (i j : Nat) (v : Int) (hi : i < xs.length) : (xs.set i v).getD j 0 = if j = i then v else xs.getD j 0 := by
  simp only [List.getD_eq_getElem?_getD, List.getElem?_set]
  by_cases h : i = j
  · subst h; simp [hi]
  · rw [if_neg h, if_neg (fun e => h e.symm)]

theorem ev_some {α β : Type} {a : α} {f : Nat → α → Option β} {r : β} (h : Ev (fun n => f n a) r) : Ev (fun n => (some a).bind (f n)) r := h
theorem ev_to_some {α β : Type} {o : Option α} {a : α} {f : Nat → α → Option β} {r : β} (ho : o = some a) (h : Ev (fun n => f n a) r) : Ev (fun n => o.bind (f n)) r := by subst ho; exact h

/-- a list of bytes, as Go's numbers -/
def cI (l : List Nat) : List Int := l.map fun (n : Nat) => (n : Int)
theorem cI_length (l : List Nat) : (cI l).length = l.length := by simp [cI]
theorem cI_getD (l : List Nat) (i : Nat) : (cI l).getD i 0 = ((l.getD i 0 : Nat) : Int) := by
  simp only [cI, List.getD_eq_getElem?_getD, List.getElem?_map]
  cases l[i]? <;> rfl
theorem rd_cI (l : List Nat) (i : Nat) : rd (cI l) (i : Int) = ((l.getD i 0 : Nat) : Int) := by unfold rd; rw [Int.toNat_natCast, cI_getD]
theorem cI_set (l : List Nat) (i n : Nat) : (cI l).set i (n : Int) = cI (l.set i n) := by simp [cI, List.map_set]
theorem cI_append (l m : List Nat) : cI l ++ cI m = cI (l ++ m) := by simp [cI]
theorem cI_take (l : List Nat) (i : Nat) : (cI l).take i = cI (l.take i) := by simp [cI, List.map_take]
theorem cI_zeros (n : Nat) : List.replicate n (0 : Int) = cI (List.replicate n 0) := by simp [cI]
theorem bytes_of {xs : List Int} (h : ∀ x ∈ xs, (Lit.int .u8 x).wf = true) : ∃ X : List Nat, (∀ c ∈ X, c < 256) ∧ xs = cI X := by
  refine ⟨xs.map Int.toNat, fun c hc => ?_, ?_⟩
  · obtain ⟨x, hx, rfl⟩ := List.mem_map.mp hc
    have := bounds_u8 (h x hx); omega
  · unfold cI
    rw [List.map_map]
    conv => lhs; rw [← List.map_id xs]
    apply List.map_congr_left
    intro x hx
    have := bounds_u8 (h x hx)
    show x = ((x.toNat : Nat) : Int)
    omega
theorem nset_getD (xs : List Nat) (i j v : Nat) (hi : i < xs.length) : (xs.set i v).getD j 0 = if j = i then v else xs.getD j 0 := by
  simp only [List.getD_eq_getElem?_getD, List.getElem?_set]
  by_cases h : i = j
  · subst h; simp [hi]
  · rw [if_neg h, if_neg (fun e => h e.symm)]
theorem list_ext {l m : List Nat} (hl : l.length = m.length) (h : ∀ j, j < l.length → l.getD j 0 = m.getD j 0) : l = m := by
  apply List.ext_getElem hl
  intro j h1 h2
  have := h j h1
  simpa [List.getD_eq_getElem?_getD, h1, h2] using this
theorem ev_of {α : Type} {g : Nat → Option α} {r : α} (K : Nat) (h : ∀ k, K < k → g k = some r) : Ev g r := ⟨K + 1, fun k hk => h k (by omega)⟩
theorem evp {α : Type} {c : Prop} [Decidable c] {f g : Nat → Option α} {r : α} (h : c) (k : Ev f r) : Ev (fun n => if c then f n else g n) r := Ev.congr (fun _ => if_pos h) k
theorem evn {α : Type} {c : Prop} [Decidable c] {f g : Nat → Option α} {r : α} (h : ¬ c) (k : Ev g r) : Ev (fun n => if c then f n else g n) r := Ev.congr (fun _ => if_neg h) k

theorem getD_nil (n : Nat) : ([] : List Nat).getD n 0 = 0 := by simp
theorem rt_getD (l : List Nat) : ∀ (p a j : Nat), a < 256 → (rt p l a).getD j 0 = if j ≤ l.length then (p :: l).getD j 0 ^^^ gm (l.getD j 0) a else 0 := by
  induction l with
  | nil =>
    intro p a j ha
    cases j with
    | zero => simp [rt, zero_gm a ha]
    | succ j => simp [rt]
  | cons c l ih =>
    intro p a j ha
    cases j with
    | zero => simp [rt]
    | succ j =>
      have := ih c a j ha
      simp only [rt, List.getD_cons_succ, List.length_cons]
      rw [this]
      by_cases h : j ≤ l.length
      · rw [if_pos h, if_pos (by omega)]
      · rw [if_neg h, if_neg (by omega)]
theorem addp_getD (o p : List Nat) (b j : Nat) (h : o.length = p.length) (hj : j < o.length) : (addp o p b).getD j 0 = o.getD j 0 ^^^ gm (p.getD j 0) b := by
  simp only [addp, List.getD_eq_getElem?_getD, List.getElem?_zipWith]
  rw [List.getElem?_eq_getElem hj, List.getElem?_eq_getElem (show j < p.length by omega)]
  rfl
theorem erase_step (X : List Nat) (i k : Nat) (hk : k < X.length) : (X.take (k + 1)).eraseIdx i = if k = i then (X.take k).eraseIdx i else (X.take k).eraseIdx i ++ [X.getD k 0] := by
  have e : X.take (k + 1) = X.take k ++ [X.getD k 0] := by
    rw [List.take_succ_eq_append_getElem hk]; simp [List.getD_eq_getElem?_getD, hk]
  have hl : (X.take k).length = k := by rw [List.length_take]; omega
  rw [e]
  by_cases h : i < k
  · rw [if_neg (by omega), List.eraseIdx_append_of_lt_length (by omega)]
  · rw [List.eraseIdx_append_of_length_le (by omega), hl]
    by_cases h2 : k = i
    · subst h2; rw [if_pos rfl, Nat.sub_self, List.eraseIdx_of_length_le (l := X.take k) (by omega)]; simp
    · rw [if_neg h2, List.eraseIdx_of_length_le (l := X.take k) (by omega), List.eraseIdx_of_length_le (by simp; omega)]
/-- is a number met again, from place i on -/
def dF (X : List Nat) : Nat → Nat → Bool
  | 0, _ => false
  | d + 1, i => (X.take i).contains (X.getD i 0) || dF X d (i + 1)
def interp (X Y : List Nat) : List Int × Bool := if dF X X.length 0 = true then ([], false) else (cI (outs X Y X.length), true)
def Pts (X Y : List Nat) : Prop := BL X ∧ BL Y ∧ Y.length = X.length ∧ X.length ≤ 20
theorem drop_cons (L : List Nat) (j : Nat) (h : j < L.length) : L.drop j = L.getD j 0 :: L.drop (j + 1) := by
  rw [List.drop_eq_getElem_cons h]; simp [List.getD_eq_getElem?_getD, h]

theorem ev_mul (a b : Nat) (ha : a < 256) (hb : b < 256) : Ev (fun k => impl_FieldMul.f k (a : Int) (b : Int)) ((gm a b : Nat) : Int) := ev_of 8 fun k hk => impl_mul k a b hk ha hb
theorem ev_inv (a : Nat) (ha : a < 256) : Ev (fun k => impl_FieldInv.f k (a : Int)) ((GF.inv a : Nat) : Int) := ev_of 300 fun k hk => impl_inv k a hk ha
theorem root_l (L : List Nat) (hL : BL L) (hlen : L.length < 2 ^ 40) (a : Nat) (ha : a < 256) (d : Nat) : ∀ (i : Nat) (O : List Nat), i + d = L.length → O.length = L.length + 1 →
    (∀ j, j ≤ L.length → O.getD j 0 = (0 :: L).getD j 0 ^^^ (if j < i then gm (L.getD j 0) a else 0)) →
    Ev (fun k => impl_timesRoot.l0 k (a : Int) (cI O) (cI L) (L.length : Int) (i : Int)) (cI (rt 0 L a)) := by
  induction d with
  | zero =>
    intro i O hi hO h
    refine Ev.step (fun k => by simp only [impl_timesRoot.l0]; rw [if_neg (by omega)]) ?_
    have e : O = rt 0 L a := list_ext (by rw [rt_length]; exact hO) (fun j hj => by
      rw [rt_getD _ _ _ _ ha, if_pos (by omega), h j (by omega)]
      by_cases hji : j < i
      · rw [if_pos hji]
      · have e1 : L.getD j 0 = 0 := by simp [List.getD_eq_getElem?_getD, List.getElem?_eq_none (show L.length ≤ j by omega)]
        rw [if_neg hji, e1, zero_gm a ha])
    rw [← e]; exact Ev.now _
  | succ d ih =>
    intro i O hi hO h
    have hc := hL.getD i
    have hOi : O.getD i 0 < 256 := by
      rw [h i (by omega), if_neg (by omega), Nat.xor_zero]
      exact (BL.cons (show (0 : Nat) < 256 by omega) hL).getD i
    have hg := gm_lt (L.getD i 0) a hc
    refine Ev.step (fun k => by
      simp only [impl_timesRoot.l0]
      rw [if_pos (by omega), if_pos (by omega), if_pos (by rw [cI_length]; omega), if_pos (by rw [cI_length]; omega), rd_cI, rd_cI, inc i (by omega), Int.toNat_natCast]) ?_
    refine Ev.bind (ev_mul _ _ hc ha) ?_
    rw [xor_u8 _ _ hOi hg, cI_set]
    refine ih (i + 1) _ (by omega) (by rw [List.length_set]; exact hO) (fun j hj => ?_)
    rw [nset_getD _ _ _ _ (by omega)]
    by_cases hji : j = i
    · subst hji
      rw [if_pos rfl, if_pos (by omega), h j hj, if_neg (by omega), Nat.xor_zero]
    · rw [if_neg hji, h j hj]
      by_cases h2 : j < i
      · rw [if_pos h2, if_pos (by omega)]
      · rw [if_neg h2, if_neg (by omega)]
theorem ev_root (L : List Nat) (hL : BL L) (hlen : L.length < 2 ^ 40) (a : Nat) (ha : a < 256) : Ev (fun k => impl_timesRoot.f k (cI L) (a : Int)) (cI (rt 0 L a)) := by
  unfold impl_timesRoot.f
  simp only [Option.bind_some]
  refine Ev.congr (fun k => by rw [if_pos (by rw [cI_length]; simp; omega)]) ?_
  rw [show ([0] : List Int) = cI [0] from rfl, cI_append, cI_length]
  exact root_l L hL hlen a ha L.length 0 (0 :: L) (by omega) (by simp) (fun j _ => by rw [if_neg (by omega), Nat.xor_zero])
theorem index_l (L : List Nat) (hlen : L.length < 2 ^ 40) (x : Nat) (d : Nat) : ∀ i : Nat, i + d = L.length →
    ∃ r : Int, Ev (fun k => slices_Index_byte_byte.l0 k (cI L) (x : Int) (L.length : Int) (i : Int)) r ∧ decide (r ≥ 0) = (L.drop i).contains x := by
  induction d with
  | zero =>
    intro i hi
    refine ⟨-1, Ev.step (fun k => by simp only [slices_Index_byte_byte.l0]; rw [if_neg (by omega)]) (Ev.now _), ?_⟩
    rw [List.drop_eq_nil_of_le (by omega)]; rfl
  | succ d ih =>
    intro i hi
    have hd : L.drop i = L.getD i 0 :: L.drop (i + 1) := by
      rw [List.drop_eq_getElem_cons (by omega)]; simp [List.getD_eq_getElem?_getD, show i < L.length by omega]
    by_cases h : x = L.getD i 0
    · refine ⟨i, Ev.step (fun k => by
        simp only [slices_Index_byte_byte.l0]
        rw [if_pos (by omega), if_pos (by omega), if_pos (by rw [cI_length]; omega), rd_cI, if_pos (by rw [h])]) (Ev.now _), ?_⟩
      rw [hd, List.contains_cons, ← h]; simp
    · obtain ⟨r, h1, h2⟩ := ih (i + 1) (by omega)
      refine ⟨r, Ev.step (fun k => by
        simp only [slices_Index_byte_byte.l0]
        rw [if_pos (by omega), if_pos (by omega), if_pos (by rw [cI_length]; omega), rd_cI, if_neg (fun e => h (by exact_mod_cast e)), inc i (by omega)]) h1, ?_⟩
      rw [hd, List.contains_cons, h2, beq_eq_false_iff_ne.mpr h, Bool.false_or]
theorem ev_contains (L : List Nat) (hlen : L.length < 2 ^ 40) (x : Nat) : Ev (fun k => slices_Contains_byte_byte.f k (cI L) (x : Int)) (L.contains x) := by
  unfold slices_Contains_byte_byte.f slices_Index_byte_byte.f
  obtain ⟨r, h1, h2⟩ := index_l L hlen x L.length 0 (by omega)
  rw [List.drop_zero] at h2
  rw [cI_length]
  refine Ev.bind h1 ?_
  rw [h2]; exact Ev.now _
section
variable (X Y : List Nat) (H : Pts X Y)
include H
theorem impl_add_l (P : List Nat) (hP : BL P) (hPl : P.length = X.length) (b : Nat) (hb : b < 256) (O : List Nat) (hO : BL O) (hOl : O.length = X.length) (i : Nat) (r : List Int × Bool)
    (hnext : Ev (fun k => impl_PolyThrough.l0 k (cI X) (cI Y) (cI (addp O P b)) (cI X) (X.length : Int) ((i + 1 : Nat) : Int)) r) (hi : i < X.length) (d : Nat) :
    ∀ (j : Nat) (Q : List Nat), j + d = P.length → Q.length = X.length → (∀ m, m < X.length → Q.getD m 0 = O.getD m 0 ^^^ (if m < j then gm (P.getD m 0) b else 0)) →
    Ev (fun k => impl_PolyThrough.l2 k (cI X) (cI Y) (cI Q) (b : Int) (cI X) (X.length : Int) (i : Int) (cI P) (P.length : Int) (j : Int)) r := by
  obtain ⟨hX, hY, hXY, hn⟩ := id H
  induction d with
  | zero =>
    intro j Q hj hQ h
    refine Ev.step (fun k => by simp only [impl_PolyThrough.l2]; rw [if_neg (by omega), inc i (by omega)]) ?_
    have e : Q = addp O P b := list_ext (by rw [addp_length _ _ _ (by omega)]; omega) (fun m hm => by
      rw [h m (by omega), addp_getD _ _ _ _ (by omega) (by omega), if_pos (by omega)])
    rw [e]; exact hnext
  | succ d ih =>
    intro j Q hj hQ h
    have hc := hP.getD j
    have hQj : Q.getD j 0 < 256 := by rw [h j (by omega), if_neg (by omega), Nat.xor_zero]; exact hO.getD j
    have hg := gm_lt (P.getD j 0) b hc
    refine Ev.step (fun k => by
      simp only [impl_PolyThrough.l2]
      rw [if_pos (by omega), if_pos (by omega), if_pos (by rw [cI_length]; omega), if_pos (by rw [cI_length]; omega), rd_cI, rd_cI, inc j (by omega), Int.toNat_natCast]) ?_
    refine Ev.bind (ev_mul _ _ hc hb) ?_
    rw [xor_u8 _ _ hQj hg, cI_set]
    refine ih (j + 1) _ (by omega) (by rw [List.length_set]; exact hQ) (fun m hm => ?_)
    rw [nset_getD _ _ _ _ (by omega)]
    by_cases hmj : m = j
    · subst hmj
      rw [if_pos rfl, if_pos (by omega), h m hm, if_neg (by omega), Nat.xor_zero]
    · rw [if_neg hmj, h m hm]
      by_cases h2 : m < j
      · rw [if_pos h2, if_pos (by omega)]
      · rw [if_neg h2, if_neg (by omega)]
theorem impl_part_l (i : Nat) (hi : i < X.length) (r : List Int × Bool)
    (hnext : Ev (fun k => impl_PolyThrough.l0 k (cI X) (cI Y) (cI (outs X Y (i + 1))) (cI X) (X.length : Int) ((i + 1 : Nat) : Int)) r) (d : Nat) :
    ∀ (j : Nat), j + d = X.length →
    Ev (fun k => impl_PolyThrough.l1 k (cI X) (cI Y) (cI (outs X Y i)) (i : Int) ((X.getD i 0 : Nat) : Int) (cI (lpart ((X.take j).eraseIdx i))) ((lval (X.getD i 0) ((X.take j).eraseIdx i) : Nat) : Int) (cI X) (X.length : Int) (i : Int) (cI X) (X.length : Int) (j : Int)) r := by
  obtain ⟨hX, hY, hXY, hn⟩ := id H
  have hxi := hX.getD i
  induction d with
  | zero =>
    intro j hj
    have hE := erase_BL hX i
    have hv := lval_lt (X.getD i 0) (X.eraseIdx i)
    rw [List.take_of_length_le (by omega : X.length ≤ j)]
    refine Ev.step (fun k => by
      simp only [impl_PolyThrough.l1]
      rw [if_neg (by omega), if_pos (by omega), if_pos (by rw [cI_length]; omega), rd_cI, cI_length]) ?_
    refine Ev.bind (ev_inv _ hv) ?_
    refine Ev.bind (ev_mul _ _ (hY.getD i) (inv_lt _)) ?_
    have hpl : (lpart (X.eraseIdx i)).length = X.length := by rw [lpart_length, List.length_eraseIdx]; split <;> omega
    exact impl_add_l X Y H (lpart (X.eraseIdx i)) (lpart_BL _ hE) hpl (gm (Y.getD i 0) (GF.inv (lval (X.getD i 0) (X.eraseIdx i)))) (gm_lt _ _ (hY.getD i)) (outs X Y i) (outs_BL X Y hX i) (outs_length X Y i (by omega)) i r hnext hi X.length 0 _ (by omega) (outs_length X Y i (by omega)) (fun m _ => by rw [if_neg (by omega), Nat.xor_zero])
  | succ d ih =>
    intro j hj
    have hB : BL ((X.take j).eraseIdx i) := hX.of_sub fun x hx => List.mem_of_mem_take (List.mem_of_mem_eraseIdx hx)
    have hpl : (lpart ((X.take j).eraseIdx i)).length ≤ 21 := by
      rw [lpart_length]
      have := List.length_eraseIdx_le (X.take j) i
      rw [List.length_take] at this; omega
    have hnx := ih (j + 1) (by omega)
    rw [erase_step X i j (by omega)] at hnx
    by_cases h : j = i
    · rw [if_pos h] at hnx
      refine Ev.step (fun k => by
        simp only [impl_PolyThrough.l1]
        rw [if_pos (by omega), if_pos (by omega), if_pos (by rw [cI_length]; omega), if_pos (by omega), inc j (by omega)]) hnx
    · rw [if_neg h, lpart_snoc, lval_snoc] at hnx
      refine Ev.step (fun k => by
        simp only [impl_PolyThrough.l1]
        rw [if_pos (by omega), if_pos (by omega), if_pos (by rw [cI_length]; omega), if_neg (by omega), rd_cI, inc j (by omega), xor_u8 _ _ hxi (hX.getD j)]) ?_
      refine Ev.bind (ev_root _ (lpart_BL _ hB) (by omega) _ (hX.getD j)) ?_
      exact Ev.bind (ev_mul _ _ (lval_lt _ _) (xor_lt _ _ hxi (hX.getD j))) hnx
theorem impl_all_l (d : Nat) : ∀ (i : Nat), i + d = X.length →
    Ev (fun k => impl_PolyThrough.l0 k (cI X) (cI Y) (cI (outs X Y i)) (cI X) (X.length : Int) (i : Int)) (if dF X d i = true then ([], false) else (cI (outs X Y X.length), true)) := by
  obtain ⟨hX, hY, hXY, hn⟩ := id H
  induction d with
  | zero =>
    intro i hi
    refine Ev.step (fun k => by simp only [impl_PolyThrough.l0]; rw [if_neg (by omega)]) ?_
    rw [show i = X.length by omega, dF, if_neg (by decide)]
    exact Ev.now _
  | succ d ih =>
    intro i hi
    have hl : (X.take i).length < 2 ^ 40 := by rw [List.length_take]; omega
    refine Ev.step (fun k => by
      simp only [impl_PolyThrough.l0]
      rw [if_pos (by omega), if_pos (by omega), if_pos (by rw [cI_length]; omega), if_pos (by rw [cI_length]; omega), rd_cI, Int.toNat_natCast, cI_take, cI_length]) ?_
    refine Ev.bind (ev_contains _ hl _) ?_
    rw [dF]
    by_cases h : (X.take i).contains (X.getD i 0) = true
    · rw [h, if_pos (by simp)]
      exact Ev.now _
    · rw [Bool.not_eq_true] at h
      rw [h, Bool.false_or]
      have := impl_part_l X Y H i (by omega) _ (ih (i + 1) (by omega)) X.length 0 (by omega)
      rw [List.take_zero, List.eraseIdx_nil] at this
      exact this
theorem impl_through : Ev (fun k => impl_PolyThrough.f k (cI X) (cI Y)) (interp X Y) := by
  obtain ⟨hX, hY, hXY, hn⟩ := id H
  unfold impl_PolyThrough.f
  rw [cI_length, cI_length, hXY, bne_self_eq_false]
  refine evn (by omega) ?_
  refine Ev.step (fun k => by
    simp only [impl_PolyThrough.j0]
    rw [if_neg (by decide), cI_length, if_pos (by omega), if_pos (by omega), Int.toNat_natCast, cI_zeros]) ?_
  exact impl_all_l X Y H X.length 0 (by omega)
end

theorem ev_smul (a b : Nat) (ha : a < 256) (hb : b < 256) : Ev (fun k => spec_l2Mul.f k (a : Int) (b : Int)) ((gm a b : Nat) : Int) := ev_of 8 fun k hk => spec_mul k a b hk ha hb
theorem ev_sinv (a : Nat) (ha : a < 256) : Ev (fun k => spec_l2Inv.f k (a : Int)) ((GF.inv a : Nat) : Int) := ev_of 300 fun k hk => spec_inv k a hk ha
section
variable (X Y : List Nat) (H : Pts X Y)
include H
theorem spec_add_l (P : List Nat) (hP : BL P) (hPl : P.length = X.length) (b : Nat) (hb : b < 256) (O : List Nat) (hO : BL O) (hOl : O.length = X.length) (i : Nat) (r : List Int × Bool)
    (hnext : Ev (fun k => spec_PolyThrough.l2 k (cI X) (cI Y) (cI (addp O P b)) (X.length : Int) ((i + 1 : Nat) : Int)) r) (hi : i < X.length) (d : Nat) :
    ∀ (j : Nat) (Q : List Nat), j + d = P.length → Q.length = X.length → (∀ m, m < X.length → Q.getD m 0 = O.getD m 0 ^^^ (if m < j then gm (P.getD m 0) b else 0)) →
    Ev (fun k => spec_PolyThrough.l5 k (cI X) (cI Y) (cI Q) (b : Int) (X.length : Int) (i : Int) (cI P) (P.length : Int) (j : Int)) r := by
  obtain ⟨hX, hY, hXY, hn⟩ := id H
  induction d with
  | zero =>
    intro j Q hj hQ h
    refine Ev.step (fun k => by simp only [spec_PolyThrough.l5]; rw [if_neg (by omega), inc i (by omega)]) ?_
    have e : Q = addp O P b := list_ext (by rw [addp_length _ _ _ (by omega)]; omega) (fun m hm => by
      rw [h m (by omega), addp_getD _ _ _ _ (by omega) (by omega), if_pos (by omega)])
    rw [e]; exact hnext
  | succ d ih =>
    intro j Q hj hQ h
    have hc := hP.getD j
    have hQj : Q.getD j 0 < 256 := by rw [h j (by omega), if_neg (by omega), Nat.xor_zero]; exact hO.getD j
    have hg := gm_lt (P.getD j 0) b hc
    refine Ev.step (fun k => by
      simp only [spec_PolyThrough.l5]
      rw [if_pos (by omega), if_pos (by omega), if_pos (by rw [cI_length]; omega), if_pos (by rw [cI_length]; omega), rd_cI, rd_cI, inc j (by omega), Int.toNat_natCast]) ?_
    refine Ev.bind (ev_smul _ _ hc hb) ?_
    rw [xor_u8 _ _ hQj hg, cI_set]
    refine ih (j + 1) _ (by omega) (by rw [List.length_set]; exact hQ) (fun m hm => ?_)
    rw [nset_getD _ _ _ _ (by omega)]
    by_cases hmj : m = j
    · subst hmj
      rw [if_pos rfl, if_pos (by omega), h m hm, if_neg (by omega), Nat.xor_zero]
    · rw [if_neg hmj, h m hm]
      by_cases h2 : m < j
      · rw [if_pos h2, if_pos (by omega)]
      · rw [if_neg h2, if_neg (by omega)]
theorem spec_root_l (L : List Nat) (hL : BL L) (hlen : L.length < 2 ^ 40) (a : Nat) (ha : a < 256) (i m v : Nat) (hi : i < X.length) (hv : v < 256) (O : List Int) (r : List Int × Bool)
    (hnext : Ev (fun k => spec_PolyThrough.l3 k (cI X) (cI Y) O (i : Int) (cI (rt 0 L a)) ((gm v (X.getD i 0 ^^^ a) : Nat) : Int) (X.length : Int) (i : Int) (cI X) (X.length : Int) (wrap64 ((m : Int) + 1))) r) (d : Nat) :
    ∀ (j : Nat) (Q : List Nat), j + d = L.length → Q.length = L.length + 1 →
    (∀ q, q ≤ L.length → Q.getD q 0 = (if q ≤ j then (0 :: L).getD q 0 else 0) ^^^ (if q < j then gm (L.getD q 0) a else 0)) →
    Ev (fun k => spec_PolyThrough.l4 k (cI X) (cI Y) O (i : Int) (v : Int) (a : Int) (cI Q) (X.length : Int) (i : Int) (cI X) (X.length : Int) (m : Int) (cI L) (L.length : Int) (j : Int)) r := by
  obtain ⟨hX, hY, hXY, hn⟩ := id H
  have hxi := hX.getD i
  induction d with
  | zero =>
    intro j Q hj hQ h
    refine Ev.step (fun k => by
      simp only [spec_PolyThrough.l4]
      rw [if_neg (by omega), if_pos (by omega), if_pos (by rw [cI_length]; omega), rd_cI, xor_u8 _ _ hxi ha]) ?_
    refine Ev.bind (ev_smul _ _ hv (xor_lt _ _ hxi ha)) ?_
    have e : Q = rt 0 L a := list_ext (by rw [rt_length]; exact hQ) (fun q hq => by
      rw [rt_getD _ _ _ _ ha, if_pos (by omega), h q (by omega), if_pos (by omega)]
      by_cases hqj : q < j
      · rw [if_pos hqj]
      · have e1 : L.getD q 0 = 0 := by simp [List.getD_eq_getElem?_getD, List.getElem?_eq_none (show L.length ≤ q by omega)]
        rw [if_neg hqj, e1, zero_gm a ha])
    rw [e]; exact hnext
  | succ d ih =>
    intro j Q hj hQ h
    have hc := hL.getD j
    have hg := gm_lt (L.getD j 0) a hc
    have hQ1 : Q.getD (j + 1) 0 = 0 := by rw [h (j + 1) (by omega), if_neg (by omega), if_neg (by omega)]; rfl
    have hQj : Q.getD j 0 = (0 :: L).getD j 0 := by rw [h j (by omega), if_pos (by omega), if_neg (by omega), Nat.xor_zero]
    have hQj2 : Q.getD j 0 < 256 := by rw [hQj]; exact (BL.cons (show (0 : Nat) < 256 by omega) hL).getD j
    refine Ev.step (fun k => by
      simp only [spec_PolyThrough.l4, Option.bind_some]
      rw [if_pos (by omega), if_pos (by omega), if_pos (by rw [cI_length]; omega), inc j (by omega), if_pos (by omega), if_pos (by rw [cI_length]; omega), rd_cI, rd_cI, hQ1, Int.toNat_natCast, Int.toNat_natCast, if_pos (by rw [cI_length]; omega)]) ?_
    refine Ev.bind (ev_smul _ _ hc ha) ?_
    rw [xor_u8 _ _ (by omega) hc, Nat.zero_xor, cI_set, rd_cI, nset_getD _ _ _ _ (by omega), if_neg (by omega), xor_u8 _ _ hQj2 hg, cI_set]
    refine ih (j + 1) _ (by omega) (by rw [List.length_set, List.length_set]; exact hQ) (fun q hq => ?_)
    rw [nset_getD _ _ _ _ (by rw [List.length_set]; omega), nset_getD _ _ _ _ (by omega)]
    by_cases hq1 : q = j
    · subst hq1
      rw [if_pos rfl, hQj, if_pos (by omega), if_pos (by omega)]
    · rw [if_neg hq1]
      by_cases hq2 : q = j + 1
      · subst hq2
        rw [if_pos rfl, if_pos (by omega), if_neg (by omega), Nat.xor_zero]
        simp
      · rw [if_neg hq2, h q hq]
        by_cases h2 : q < j
        · rw [if_pos (by omega), if_pos h2, if_pos (by omega), if_pos (by omega)]
        · rw [if_neg (by omega), if_neg h2, if_neg (by omega), if_neg (by omega)]
theorem spec_part_l (i : Nat) (hi : i < X.length) (r : List Int × Bool)
    (hnext : Ev (fun k => spec_PolyThrough.l2 k (cI X) (cI Y) (cI (outs X Y (i + 1))) (X.length : Int) ((i + 1 : Nat) : Int)) r) (d : Nat) :
    ∀ (j : Nat), j + d = X.length →
    Ev (fun k => spec_PolyThrough.l3 k (cI X) (cI Y) (cI (outs X Y i)) (i : Int) (cI (lpart ((X.take j).eraseIdx i))) ((lval (X.getD i 0) ((X.take j).eraseIdx i) : Nat) : Int) (X.length : Int) (i : Int) (cI X) (X.length : Int) (j : Int)) r := by
  obtain ⟨hX, hY, hXY, hn⟩ := id H
  have hxi := hX.getD i
  induction d with
  | zero =>
    intro j hj
    have hE := erase_BL hX i
    have hv := lval_lt (X.getD i 0) (X.eraseIdx i)
    rw [List.take_of_length_le (by omega : X.length ≤ j)]
    refine Ev.step (fun k => by
      simp only [spec_PolyThrough.l3]
      rw [if_neg (by omega), if_pos (by omega), if_pos (by rw [cI_length]; omega), rd_cI, cI_length]) ?_
    refine Ev.bind (ev_sinv _ hv) ?_
    refine Ev.bind (ev_smul _ _ (hY.getD i) (inv_lt _)) ?_
    have hpl : (lpart (X.eraseIdx i)).length = X.length := by rw [lpart_length, List.length_eraseIdx]; split <;> omega
    exact spec_add_l X Y H (lpart (X.eraseIdx i)) (lpart_BL _ hE) hpl (gm (Y.getD i 0) (GF.inv (lval (X.getD i 0) (X.eraseIdx i)))) (gm_lt _ _ (hY.getD i)) (outs X Y i) (outs_BL X Y hX i) (outs_length X Y i (by omega)) i r hnext hi X.length 0 _ (by omega) (outs_length X Y i (by omega)) (fun m _ => by rw [if_neg (by omega), Nat.xor_zero])
  | succ d ih =>
    intro j hj
    have hB : BL ((X.take j).eraseIdx i) := hX.of_sub fun x hx => List.mem_of_mem_take (List.mem_of_mem_eraseIdx hx)
    have hpl : (lpart ((X.take j).eraseIdx i)).length ≤ 21 := by
      rw [lpart_length]
      have := List.length_eraseIdx_le (X.take j) i
      rw [List.length_take] at this; omega
    have hnx := ih (j + 1) (by omega)
    rw [erase_step X i j (by omega)] at hnx
    by_cases h : j = i
    · rw [if_pos h] at hnx
      refine Ev.step (fun k => by
        simp only [spec_PolyThrough.l3]
        rw [if_pos (by omega), if_pos (by omega), if_pos (by rw [cI_length]; omega), if_pos (by omega), inc j (by omega)]) hnx
    · rw [if_neg h, lpart_snoc, lval_snoc, ← inc j (by omega)] at hnx
      obtain ⟨Lp, hLp⟩ : ∃ Lp, Lp = lpart ((X.take j).eraseIdx i) := ⟨_, rfl⟩
      have hBp : BL Lp := hLp ▸ lpart_BL _ hB
      rw [← hLp] at hnx hpl ⊢
      refine Ev.step (fun k => by
        simp only [spec_PolyThrough.l3]
        rw [if_pos (by omega), if_pos (by omega), if_pos (by rw [cI_length]; omega), if_neg (by omega), rd_cI, cI_length, inc Lp.length (by omega), if_pos (by omega), Int.toNat_natCast, if_pos (by omega), cI_zeros]) ?_
      exact spec_root_l X Y H Lp hBp (by omega) (X.getD j 0) (hX.getD j) i j _ hi (lval_lt _ _) _ r hnx Lp.length 0 (List.replicate (Lp.length + 1) 0) (by omega) (by simp) (fun q hq => by
        have e1 : (List.replicate (Lp.length + 1) 0).getD q 0 = 0 := by
          simp only [List.getD_eq_getElem?_getD, List.getElem?_replicate]; split <;> rfl
        rw [e1, if_neg (show ¬ q < 0 by omega), Nat.xor_zero]
        by_cases h0 : q ≤ 0
        · rw [if_pos h0, show q = 0 by omega]; rfl
        · rw [if_neg h0])
theorem spec_all_l (d : Nat) : ∀ (i : Nat), i + d = X.length →
    Ev (fun k => spec_PolyThrough.l2 k (cI X) (cI Y) (cI (outs X Y i)) (X.length : Int) (i : Int)) (cI (outs X Y X.length), true) := by
  obtain ⟨hX, hY, hXY, hn⟩ := id H
  induction d with
  | zero =>
    intro i hi
    refine Ev.step (fun k => by simp only [spec_PolyThrough.l2]; rw [if_neg (by omega)]) ?_
    rw [show i = X.length by omega]
    exact Ev.now _
  | succ d ih =>
    intro i hi
    refine Ev.step (fun k => by
      simp only [spec_PolyThrough.l2]
      rw [if_pos (by omega), cI_length]) ?_
    have := spec_part_l X Y H i (by omega) _ (ih (i + 1) (by omega)) X.length 0 (by omega)
    rw [List.take_zero, List.eraseIdx_nil] at this
    exact this
theorem spec_dup_l (i : Nat) (hi : i < X.length) (r : List Int × Bool)
    (hnext : Ev (fun k => spec_PolyThrough.l0 k (cI X) (cI Y) (cI X) (X.length : Int) ((i + 1 : Nat) : Int)) r) (d : Nat) : ∀ (j : Nat), j + d = i →
    Ev (fun k => spec_PolyThrough.l1 k (cI X) (cI Y) ((X.getD i 0 : Nat) : Int) (cI X) (X.length : Int) (i : Int) (cI (X.take i)) (i : Int) (j : Int)) (if ((X.take i).drop j).contains (X.getD i 0) = true then ([], false) else r) := by
  obtain ⟨hX, hY, hXY, hn⟩ := id H
  have hl : (X.take i).length = i := by rw [List.length_take]; omega
  induction d with
  | zero =>
    intro j hj
    refine Ev.step (fun k => by simp only [spec_PolyThrough.l1]; rw [if_neg (by omega), inc i (by omega)]) ?_
    rw [List.drop_eq_nil_of_le (by omega), if_neg (by simp)]
    exact hnext
  | succ d ih =>
    intro j hj
    have hd := drop_cons (X.take i) j (by omega)
    rw [hd, List.contains_cons]
    by_cases h : (X.take i).getD j 0 = X.getD i 0
    · refine Ev.step (fun k => by
        simp only [spec_PolyThrough.l1]
        rw [if_pos (by omega), if_pos (by omega), if_pos (by rw [cI_length]; omega), rd_cI, if_pos (by rw [h])]) ?_
      rw [h, beq_self_eq_true, Bool.true_or, if_pos rfl]
      exact Ev.now _
    · refine Ev.step (fun k => by
        simp only [spec_PolyThrough.l1]
        rw [if_pos (by omega), if_pos (by omega), if_pos (by rw [cI_length]; omega), rd_cI, if_neg (fun e => h (by exact_mod_cast e)), inc j (by omega)]) ?_
      rw [beq_eq_false_iff_ne.mpr (fun e => h e.symm), Bool.false_or]
      exact ih (j + 1) (by omega)
theorem spec_dups_l (d : Nat) : ∀ (i : Nat), i + d = X.length →
    Ev (fun k => spec_PolyThrough.l0 k (cI X) (cI Y) (cI X) (X.length : Int) (i : Int)) (if dF X d i = true then ([], false) else (cI (outs X Y X.length), true)) := by
  obtain ⟨hX, hY, hXY, hn⟩ := id H
  induction d with
  | zero =>
    intro i hi
    refine Ev.step (fun k => by
      simp only [spec_PolyThrough.l0]
      rw [if_neg (by omega), cI_length, if_pos (by omega), if_pos (by omega), Int.toNat_natCast, cI_zeros]) ?_
    rw [dF, if_neg (by decide)]
    exact spec_all_l X Y H X.length 0 (by omega)
  | succ d ih =>
    intro i hi
    have hl : (X.take i).length = i := by rw [List.length_take]; omega
    refine Ev.step (fun k => by
      simp only [spec_PolyThrough.l0]
      rw [if_pos (by omega), if_pos (by omega), if_pos (by rw [cI_length]; omega), if_pos (by rw [cI_length]; omega), rd_cI, Int.toNat_natCast, cI_take, cI_length, hl]) ?_
    have h1 := spec_dup_l X Y H i (by omega) _ (ih (i + 1) (by omega)) i 0 (by omega)
    rw [List.drop_zero] at h1
    rw [dF]
    by_cases h : (X.take i).contains (X.getD i 0) = true
    · rw [if_pos h] at h1
      rw [h, Bool.true_or, if_pos rfl]
      exact h1
    · rw [if_neg h] at h1
      rw [Bool.not_eq_true] at h
      rw [h, Bool.false_or]
      exact h1
theorem spec_through : Ev (fun k => spec_PolyThrough.f k (cI X) (cI Y)) (interp X Y) := by
  obtain ⟨hX, hY, hXY, hn⟩ := id H
  unfold spec_PolyThrough.f
  rw [cI_length, cI_length, decide_eq_false (by omega)]
  refine evp (by omega) ?_
  refine Ev.step (fun k => by
    simp only [spec_PolyThrough.j0]
    rw [if_neg (by decide), cI_length]) ?_
  exact spec_dups_l X Y H X.length 0 (by omega)
end

/-! ### The cursor that draws -/
theorem cur_wraps (n : Int) (h₀ : 0 ≤ n) (h₁ : n < 2 ^ 64) : IntKind.u64.wrap n = n := by rw [IntKind.wrap_u64]; omega
theorem cur_and (y : Int) (h0 : 0 ≤ y) (h1 : y < 2 ^ 64) : Go.bits .and .u64 y 255 = y % 256 := bits_mask .u64 64 (by decide) cur_wraps 8 (by decide) y h0 h1
theorem cur_byte (u : Int) : ∃ b : Int, wrap64 (Go.bits .and .u64 ((IntKind.u64.wrap u) / 1099511627776) 255) = b ∧ 0 ≤ b ∧ b ≤ 255 := by
  refine ⟨_, rfl, ?_⟩
  have h := IntKind.wrap_u64 u
  generalize IntKind.u64.wrap u = v at h
  have hv : 0 ≤ v ∧ v < 2 ^ 64 := by omega
  clear h
  obtain ⟨y, hy⟩ : ∃ y, y = v / 1099511627776 := ⟨_, rfl⟩
  rw [← hy, cur_and y (by omega) (by omega)]
  clear hv
  unfold wrap64
  omega
theorem cur_rd (xs : List Int) (hb : ∀ x ∈ xs, (Lit.int .u8 x).wf = true) (i : Int) (h0 : 0 ≤ i) (h1 : i < (xs.length : Int)) : 0 ≤ rd xs i ∧ rd xs i ≤ 255 := by
  have hm : rd xs i ∈ xs := by
    unfold rd
    rw [List.getD_eq_getElem?_getD, List.getElem?_eq_getElem (show i.toNat < xs.length by omega)]
    simp
  have := bounds_u8 (hb _ hm)
  omega
section
variable (xs : List Int) (hb : ∀ x ∈ xs, (Lit.int .u8 x).wf = true)
include hb
theorem cur_next (a s n : Int) (h0 : 0 ≤ a) (h1 : a ≤ n) (hn : n < 2 ^ 60) : ∃ b a' s', spec_l1Cur_next.f xs a s = some (b, a', s') ∧ 0 ≤ b ∧ b ≤ 255 ∧ 0 ≤ a' ∧ a' ≤ n + 1 := by
  have hw : wrap64 (a + 1) = a + 1 := by unfold wrap64; omega
  unfold spec_l1Cur_next.f
  rw [hw]
  by_cases c1 : a < (xs.length : Int)
  · have hr := cur_rd xs hb a h0 c1
    rw [if_pos c1, if_pos h0]
    have hr2 : wrap64 (rd xs a) = rd xs a := by unfold wrap64; omega
    rw [hr2]
    by_cases c2 : a + 1 ≤ (xs.length : Int)
    · rw [if_pos c2]; exact ⟨_, _, _, rfl, hr.1, hr.2, by omega, by omega⟩
    · omega
  · rw [if_neg c1, if_neg (by omega)]
    obtain ⟨b, hb1, hb2, hb3⟩ := cur_byte ((IntKind.u64.wrap ((IntKind.u64.wrap (s * 6364136223846793005)) + 0)) + 1442695040888963407)
    rw [hb1]
    exact ⟨_, _, _, rfl, hb2, hb3, by omega, by omega⟩
theorem cur_pick (a s n m : Int) (h0 : 0 ≤ a) (h1 : a ≤ n) (hn : n < 2 ^ 59) (hm : m < 2 ^ 40) : ∃ b a' s', spec_l1Cur_pick.f xs a s m = some (b, a', s') ∧ 0 ≤ b ∧ (b < m ∨ b = 0) ∧ 0 ≤ a' ∧ a' ≤ n + 2 := by
  unfold spec_l1Cur_pick.f
  by_cases c1 : m ≤ 1
  · rw [if_pos c1]; exact ⟨0, a, s, rfl, by omega, .inr rfl, h0, by omega⟩
  · obtain ⟨b, a1, s1, e1, b0, b1, p0, p1⟩ := cur_next xs hb a s n h0 h1 (by omega)
    rw [if_neg c1, e1]
    simp only [Option.bind_some]
    by_cases c2 : m > 200
    · obtain ⟨b2, a2, s2, e2, q0, q1, r0, r1⟩ := cur_next xs hb a1 s1 (n + 1) p0 p1 (by omega)
      rw [if_pos c2, e2]
      simp only [Option.bind_some]
      rw [if_neg (by omega)]
      have hw : wrap64 ((wrap64 (b * 256)) + b2) = b * 256 + b2 := by unfold wrap64; omega
      rw [hw, Int.tmod_eq_emod_of_nonneg (by omega)]
      have h1 := Int.emod_nonneg (b * 256 + b2) (show m ≠ 0 by omega)
      have h2 := Int.emod_lt_of_pos (b * 256 + b2) (show 0 < m by omega)
      exact ⟨_, _, _, rfl, h1, .inl h2, r0, by omega⟩
    · rw [if_neg c2, if_neg (by omega), Int.tmod_eq_emod_of_nonneg (by omega)]
      have h1 := Int.emod_nonneg b (show m ≠ 0 by omega)
      have h2 := Int.emod_lt_of_pos b (show 0 < m by omega)
      exact ⟨_, _, _, rfl, h1, .inl h2, p0, by omega⟩
end

section
variable (xs : List Int) (hb : ∀ x ∈ xs, (Lit.int .u8 x).wf = true)
include hb
theorem cur_among (a s n : Int) (L : List Int) (hL : 0 < L.length) (hL2 : L.length < 2 ^ 39) (h0 : 0 ≤ a) (h1 : a ≤ n) (hn : n < 2 ^ 59) : ∃ b a' s', spec_l1Cur_among.f xs a s L = some (b, a', s') ∧ b ∈ L ∧ 0 ≤ a' ∧ a' ≤ n + 2 := by
  obtain ⟨i, a1, s1, e1, i0, i1, p0, p1⟩ := cur_pick xs hb a s n (L.length : Int) h0 h1 hn (by omega)
  unfold spec_l1Cur_among.f
  rw [e1]
  simp only [Option.bind_some]
  rw [if_pos i0, if_pos (by omega)]
  refine ⟨_, _, _, rfl, ?_, p0, p1⟩
  unfold rd
  rw [List.getD_eq_getElem?_getD, List.getElem?_eq_getElem (show i.toNat < L.length by omega)]
  simp
end

section
variable (xs : List Int) (hb : ∀ x ∈ xs, (Lit.int .u8 x).wf = true)
include hb
theorem cur_one (a s n m : Int) (h0 : 0 ≤ a) (h1 : a ≤ n) (hn : n < 2 ^ 59) (hm : m < 2 ^ 40) : ∃ b a' s', spec_l1Cur_one.f xs a s m = some (b, a', s') ∧ 0 ≤ a' ∧ a' ≤ n + 2 := by
  obtain ⟨i, a1, s1, e1, i0, i1, p0, p1⟩ := cur_pick xs hb a s n m h0 h1 hn hm
  unfold spec_l1Cur_one.f
  rw [e1]
  exact ⟨_, _, _, rfl, p0, p1⟩
theorem cur_byt (a s n : Int) (h0 : 0 ≤ a) (h1 : a ≤ n) (hn : n < 2 ^ 58) : ∃ (b : Nat) (a' s' : Int), spec_l1Cur_byte.f xs a s = some ((b : Int), a', s') ∧ b < 256 ∧ 0 ≤ a' ∧ a' ≤ n + 4 := by
  obtain ⟨o, a1, s1, e1, p0, p1⟩ := cur_one xs hb a s n 5 h0 h1 (by omega) (by omega)
  unfold spec_l1Cur_byte.f
  rw [e1]
  simp only [Option.bind_some]
  cases o with
  | true =>
    obtain ⟨b, a2, s2, e2, _, q0, q1⟩ := cur_among xs hb a1 s1 (n + 2) [0, 1, 2, 255, 29] (by decide) (by decide) p0 p1 (by omega)
    rw [if_pos rfl, e2]
    exact ⟨(b % 256).toNat, a2, s2, by simp only [Option.bind_some]; congr 2; omega, by omega, q0, by omega⟩
  | false =>
    obtain ⟨b, a2, s2, e2, _, _, q0, q1⟩ := cur_pick xs hb a1 s1 (n + 2) 256 p0 p1 (by omega) (by omega)
    rw [if_neg (by decide), e2]
    exact ⟨(b % 256).toNat, a2, s2, by simp only [Option.bind_some]; congr 2; omega, by omega, q0, by omega⟩
end

/-! ### Texts that are drawn -/
section
variable (cs : List Int) (hb : ∀ x ∈ cs, (Lit.int .u8 x).wf = true)
include hb
theorem d_text_l (m : Nat) (hm : m < 2 ^ 40) (N : Int) (hN : N < 2 ^ 50) (d : Nat) : ∀ (i : Nat) (ys : List Int) (a s : Int), i + d = m → ys.length = m → 0 ≤ a → a ≤ N + 2 * (i : Int) →
    ∃ t a' s', Ev (fun k => spec_l1Cur_text.l0 k ys (m : Int) (i : Int) cs a s) (t, a', s') ∧ t.size = m ∧ 0 ≤ a' ∧ a' ≤ N + 2 * (m : Int) := by
  induction d with
  | zero =>
    intro i ys a s hi hy h0 h1
    exact ⟨strOfNums ys, a, s, Ev.step (fun k => by simp only [spec_l1Cur_text.l0]; rw [if_neg (by omega)]) (Ev.now _), by rw [strOfNums_size]; exact hy, h0, by omega⟩
  | succ d ih =>
    intro i ys a s hi hy h0 h1
    obtain ⟨b, a1, s1, e1, b0, b1, p0, p1⟩ := cur_pick cs hb a s (N + 2 * (i : Int)) 256 h0 h1 (by omega) (by omega)
    obtain ⟨t, a2, s2, h, ht, q0, q1⟩ := ih (i + 1) (ys.set i (b % 256)) a1 s1 (by omega) (by rw [List.length_set]; exact hy) p0 (by omega)
    refine ⟨t, a2, s2, Ev.step (fun k => ?_) h, ht, q0, q1⟩
    simp only [spec_l1Cur_text.l0]
    rw [if_pos (by omega), e1]
    simp only [Option.bind_some]
    rw [if_pos (by omega), if_pos (by omega), Int.toNat_natCast, inc i (by omega)]
theorem d_text (m : Nat) (hm : m < 2 ^ 40) (N a s : Int) (hN : N < 2 ^ 50) (h0 : 0 ≤ a) (h1 : a ≤ N) : ∃ t a' s', Ev (fun k => spec_l1Cur_text.f k cs a s (m : Int)) (t, a', s') ∧ t.size = m ∧ 0 ≤ a' ∧ a' ≤ N + 2 * (m : Int) := by
  obtain ⟨t, a2, s2, h, ht, q0, q1⟩ := d_text_l cs hb m hm N hN m 0 (List.replicate m 0) a s (by omega) (by simp) h0 (by omega)
  refine ⟨t, a2, s2, ?_, ht, q0, q1⟩
  unfold spec_l1Cur_text.f
  refine evp (by omega) (evp (by omega) ?_)
  rw [Int.toNat_natCast]
  refine ev_some ?_
  rw [List.length_replicate]
  exact h
end

set_option linter.unusedSectionVars false
theorem horner (L : List Nat) (hL : BL L) (hl : L.length < 2 ^ 40) (x : Nat) (hx : x < 256) (d : Nat) : ∀ (i : Int), i = (d : Int) - 1 → d ≤ L.length →
    Ev (fun k => spec_l2At.l0 k (cI L) (x : Int) ((ev (L.drop d) x : Nat) : Int) i) ((ev L x : Nat) : Int) ∧ Ev (fun k => impl_PolyAt.l0 k (cI L) (x : Int) ((ev (L.drop d) x : Nat) : Int) i) (((ev L x : Nat) : Int), true) := by
  induction d with
  | zero =>
    intro i hi _
    rw [List.drop_zero]
    exact ⟨Ev.step (fun k => by simp only [spec_l2At.l0]; rw [if_neg (by omega)]) (Ev.now _), Ev.step (fun k => by simp only [impl_PolyAt.l0]; rw [if_neg (by omega)]) (Ev.now _)⟩
  | succ d ih =>
    intro i hi hd
    obtain rfl : i = (d : Int) := by omega
    have hdec : wrap64 ((d : Int) - 1) = (d : Int) - 1 := by unfold wrap64; omega
    have ho : ev (L.drop (d + 1)) x < 256 := ev_lt _ _ (hL.of_sub fun y hy => List.mem_of_mem_drop hy)
    have hn := hL.getD d
    have hg := gm_lt (ev (L.drop (d + 1)) x) x ho
    have e : ev (L.drop d) x = gm (ev (L.drop (d + 1)) x) x ^^^ L.getD d 0 := by rw [drop_cons L d (by omega)]; rfl
    obtain ⟨h1, h2⟩ := ih ((d : Int) - 1) rfl (by omega)
    rw [e] at h1 h2
    refine ⟨?_, ?_⟩
    · refine Ev.step (fun k => by simp only [spec_l2At.l0]; rw [if_pos (by omega)]) (Ev.bind (ev_smul _ x ho hx) ?_)
      refine evp (by omega) (evp (by rw [cI_length]; omega) ?_)
      rw [rd_cI, hdec, xor_u8 _ _ hg hn]
      exact h1
    · refine Ev.step (fun k => by simp only [impl_PolyAt.l0]; rw [if_pos (by omega)]) (Ev.bind (ev_mul _ x ho hx) ?_)
      refine evp (by omega) (evp (by rw [cI_length]; omega) ?_)
      rw [rd_cI, hdec, xor_u8 _ _ hg hn]
      exact h2
theorem at_impl (L : List Nat) (hL : BL L) (hl : L.length ≤ 60) (x : Nat) (hx : x < 256) : Ev (fun k => impl_PolyAt.f k (cI L) (x : Int)) (((ev L x : Nat) : Int), true) := by
  have h := (horner L hL (by omega) x hx L.length ((L.length : Int) - 1) rfl (Nat.le_refl _)).2
  rw [List.drop_length] at h
  unfold impl_PolyAt.f
  refine evn (by rw [cI_length]; omega) ?_
  rw [cI_length, show wrap64 ((L.length : Int) - 1) = (L.length : Int) - 1 by unfold wrap64; omega]
  exact h
theorem at_spec (L : List Nat) (hL : BL L) (hl : L.length ≤ 60) (x : Nat) (hx : x < 256) : Ev (fun k => spec_PolyAt.f k (cI L) (x : Int)) (((ev L x : Nat) : Int), true) := by
  have h := (horner L hL (by omega) x hx L.length ((L.length : Int) - 1) rfl (Nat.le_refl _)).1
  rw [List.drop_length] at h
  unfold spec_PolyAt.f spec_l2At.f
  refine evn (by rw [cI_length]; omega) ?_
  rw [cI_length, show wrap64 ((L.length : Int) - 1) = (L.length : Int) - 1 by unfold wrap64; omega]
  exact Ev.bind h (Ev.now _)
theorem dF_at (X : List Nat) (d : Nat) : ∀ (i : Nat), dF X d i = false → ∀ j, i ≤ j → j < i + d → X.getD j 0 ∉ X.take j := by
  induction d with
  | zero => intro i _ j h1 h2; omega
  | succ d ih =>
    intro i h j h1 h2
    rw [dF, Bool.or_eq_false_iff] at h
    by_cases e : j = i
    · subst e; have := h.1; simpa using this
    · exact ih (i + 1) h.2 j (by omega) (by omega)
theorem dF_of (X : List Nat) (d : Nat) : ∀ (i : Nat), (∀ j, i ≤ j → j < i + d → X.getD j 0 ∉ X.take j) → dF X d i = false := by
  induction d with
  | zero => intro i _; rfl
  | succ d ih =>
    intro i h
    rw [dF, Bool.or_eq_false_iff]
    exact ⟨by have := h i (Nat.le_refl _) (by omega); simpa using this, ih (i + 1) fun j h1 h2 => h j (by omega) (by omega)⟩
theorem mem_take {X : List Nat} {i j : Nat} (hij : i < j) (hj : j ≤ X.length) : X.getD i 0 ∈ X.take j := by
  rw [List.mem_take_iff_getElem]
  exact ⟨i, by omega, by simp [List.getD_eq_getElem?_getD, show i < X.length by omega]⟩
theorem nodup_of {X : List Nat} (h : dF X X.length 0 = false) : X.Nodup := by
  rw [List.nodup_iff_pairwise_ne, List.pairwise_iff_getElem]
  intro i j hi hj hij he
  refine dF_at X X.length 0 h j (by omega) (by omega) ?_
  have e : X.getD j 0 = X.getD i 0 := by simp [List.getD_eq_getElem?_getD, hi, hj, he]
  rw [e]
  exact mem_take hij (by omega)
theorem dF_nodup {X : List Nat} (h : X.Nodup) : dF X X.length 0 = false := by
  refine dF_of X X.length 0 fun j _ hj hm => ?_
  rw [List.mem_take_iff_getElem] at hm
  obtain ⟨i, hi, he⟩ := hm
  rw [List.nodup_iff_pairwise_ne, List.pairwise_iff_getElem] at h
  refine h i j (by omega) (by omega) (by omega) ?_
  rw [he]; simp [List.getD_eq_getElem?_getD, show j < X.length by omega]
def dat (s : ByteArray) : List Nat := s.data.toList.map fun b => b.toNat
theorem dat_BL (s : ByteArray) : BL (dat s) := by
  intro c hc
  obtain ⟨b, _, rfl⟩ := List.mem_map.mp hc
  exact b.toNat_lt
theorem dat_cI (s : ByteArray) : bytesOf s = cI (dat s) := by unfold bytesOf dat cI; rw [List.map_map]; rfl
theorem dat_length (s : ByteArray) : (dat s).length = s.size := by unfold dat; rw [List.length_map]; exact Array.length_toList
theorem conv_dat (s : ByteArray) (h : s.size < 2 ^ 40) : spec_NewBuddy.f s = some (cI (dat s)) := by unfold spec_NewBuddy.f; rw [if_pos h, dat_cI]
theorem BL.append {l m : List Nat} (hl : BL l) (hm : BL m) : BL (l ++ m) := fun c hc => by
  rcases List.mem_append.mp hc with h | h
  · exact hl c h
  · exact hm c h
theorem BL.set {l : List Nat} (hl : BL l) (i v : Nat) (hv : v < 256) : BL (l.set i v) := fun c hc => by
  rcases List.mem_or_eq_of_mem_set hc with h | h
  · exact hl c h
  · omega
section
variable (cs : List Int) (hb : ∀ x ∈ cs, (Lit.int .u8 x).wf = true)
include hb
theorem d_thr_l (n : Nat) (hn : n ≤ 20) (d : Nat) : ∀ (i : Nat) (X : List Nat) (v a s : Int), i + d = n → X.length = i → BL X → 0 ≤ v → v ≤ 100 + 21 * (i : Int) → 0 ≤ a → a ≤ 4 + 2 * (i : Int) →
    ∃ X' Y', Pts X' Y' ∧ Ev (fun k => spec_DrawPolyThrough.l0 k (n : Int) (cI X) v (i : Int) cs a s) (cI X', cI Y') := by
  induction d with
  | zero =>
    intro i X v a s hi hX hB v0 v1 a0 a1
    obtain ⟨t, a2, s2, e1, ht, q0, q1⟩ := d_text cs hb n (by omega) 100 a s (by omega) a0 (by omega)
    have e2 := conv_dat t (by omega)
    by_cases h : (n : Int) > 1
    · obtain ⟨o, a3, s3, e3, r0, r1⟩ := cur_one cs hb a2 s2 200 12 q0 (by omega) (by omega) (by omega)
      cases o with
      | true =>
        refine ⟨X.set 0 (X.getD 1 0), dat t, ⟨BL.set hB _ _ (hB.getD 1), dat_BL t, by rw [dat_length, List.length_set]; omega, by rw [List.length_set]; omega⟩, ?_⟩
        have c1 : 1 < ((cI X).length : Int) := by rw [cI_length]; omega
        have c2 : 0 < ((cI X).length : Int) := by omega
        refine Ev.step (fun k => by simp only [spec_DrawPolyThrough.l0]; rw [if_neg (by omega)]) (Ev.bind e1 (ev_to_some e2 (evp h (ev_to_some e3 (evp rfl (evp c1 (evp c2 ?_)))))))
        rw [show rd (cI X) 1 = ((X.getD 1 0 : Nat) : Int) from rd_cI X 1, show (0 : Int).toNat = 0 from rfl, cI_set]
        exact Ev.now _
      | false =>
        exact ⟨X, dat t, ⟨hB, dat_BL t, by rw [dat_length]; omega, by omega⟩, Ev.step (fun k => by simp only [spec_DrawPolyThrough.l0]; rw [if_neg (by omega)]) (Ev.bind e1 (ev_to_some e2 (evp h (ev_to_some e3 (evn (f := fun _ => if 1 < ((cI X).length : Int) then (if 0 < ((cI X).length : Int) then some ((cI X).set (0 : Int).toNat (rd (cI X) 1), cI (dat t)) else none) else none) Bool.false_ne_true (Ev.now _))))))⟩
    · exact ⟨X, dat t, ⟨hB, dat_BL t, by rw [dat_length]; omega, by omega⟩, Ev.step (fun k => by simp only [spec_DrawPolyThrough.l0]; rw [if_neg (by omega)]) (Ev.bind e1 (ev_to_some e2 (evn h (Ev.now _))))⟩
  | succ d ih =>
    intro i X v a s hi hX hB v0 v1 a0 a1
    obtain ⟨b, a2, s2, e1, b0, b1, q0, q1⟩ := cur_pick cs hb a s (4 + 2 * (i : Int)) 20 a0 a1 (by omega) (by omega)
    obtain ⟨X', Y', hP, e⟩ := ih (i + 1) (X ++ [(v % 256).toNat]) (v + (1 + b)) a2 s2 (by omega) (by rw [List.length_append]; simp; omega) (BL.append hB (BL.cons (by omega) BL.nil)) (by omega) (by omega) q0 (by omega)
    refine ⟨X', Y', hP, Ev.step (fun k => by simp only [spec_DrawPolyThrough.l0]; rw [if_pos (by omega), if_pos (by rw [cI_length]; omega)]) (ev_to_some e1 ?_)⟩
    rw [show wrap64 (v + wrap64 (1 + b)) = v + (1 + b) by unfold wrap64; omega, inc i (by omega), show cI X ++ [v % 256] = cI (X ++ [(v % 256).toNat]) by rw [← cI_append]; congr 1; show [v % 256] = [(((v % 256).toNat : Nat) : Int)]; congr 1; omega]
    exact e
theorem d_thr : ∃ X Y, Pts X Y ∧ Ev (fun k => spec_DrawPolyThrough.f k cs) (cI X, cI Y) := by
  obtain ⟨b, a1, s1, e1, b0, b1, p0, p1⟩ := cur_pick cs hb 0 0 0 7 (by omega) (by omega) (by omega) (by omega)
  obtain ⟨c, a2, s2, e2, c0, c1, q0, q1⟩ := cur_pick cs hb a1 s1 2 50 p0 (by omega) (by omega) (by omega)
  obtain ⟨m, rfl⟩ := Int.eq_ofNat_of_zero_le b0
  obtain ⟨X, Y, hP, e⟩ := d_thr_l cs hb m (by omega) m 0 [] c a2 s2 (by omega) rfl BL.nil c0 (by omega) q0 (by omega)
  refine ⟨X, Y, hP, ?_⟩
  unfold spec_DrawPolyThrough.f
  exact ev_to_some e1 (ev_to_some e2 e)
theorem d_at : ∃ (P : List Nat) (x : Nat), BL P ∧ P.length ≤ 61 ∧ x < 256 ∧ Ev (fun k => spec_DrawPolyAt.f k cs) (cI P, (x : Int)) := by
  obtain ⟨b, a1, s1, e1, b0, b1, p0, p1⟩ := cur_pick cs hb 0 0 0 8 (by omega) (by omega) (by omega) (by omega)
  obtain ⟨o, a2, s2, e2, q0, q1⟩ := cur_one cs hb a1 s1 2 30 p0 (by omega) (by omega) (by omega)
  unfold spec_DrawPolyAt.f
  have fin : ∀ (m : Nat) (a s : Int), m ≤ 61 → 0 ≤ a → a ≤ 10 → ∃ (P : List Nat) (x : Nat), BL P ∧ P.length ≤ 61 ∧ x < 256 ∧ Ev (fun k => (spec_l1Cur_text.f k cs a s (m : Int)).bind fun bt => (spec_NewBuddy.f bt.1).bind fun t => (spec_l1Cur_byte.f cs bt.2.1 bt.2.2).bind fun bt2 => some (t, bt2.1)) (cI P, (x : Int)) := by
    intro m a s hm h0 h1
    obtain ⟨t, a2, s2, e1, ht, q0, q1⟩ := d_text cs hb m (by omega) 100 a s (by omega) h0 (by omega)
    obtain ⟨x, a3, s3, e3, hx, _, _⟩ := cur_byt cs hb a2 s2 1000 q0 (by omega) (by omega)
    exact ⟨dat t, x, dat_BL t, by rw [dat_length]; omega, hx, Ev.bind e1 (ev_to_some (conv_dat t (by omega)) (ev_to_some e3 (Ev.now _)))⟩
  cases o with
  | true =>
    obtain ⟨c, a3, s3, e3, c0, c1, r0, r1⟩ := cur_pick cs hb a2 s2 4 2 q0 (by omega) (by omega) (by omega)
    obtain ⟨P, x, h1, h2, h3, e⟩ := fin (60 + c).toNat a3 s3 (by omega) r0 (by omega)
    refine ⟨P, x, h1, h2, h3, ev_to_some e1 (ev_to_some e2 (evp rfl (ev_to_some e3 ?_)))⟩
    rw [show wrap64 (60 + c) = (((60 + c).toNat : Nat) : Int) by unfold wrap64; omega]
    exact e
  | false =>
    obtain ⟨P, x, h1, h2, h3, e⟩ := fin b.toNat a2 s2 (by omega) q0 (by omega)
    refine ⟨P, x, h1, h2, h3, ev_to_some e1 (ev_to_some e2 (evn Bool.false_ne_true ?_))⟩
    rw [show ((b.toNat : Nat) : Int) = b by omega] at e
    exact e
end
theorem pts_nodup (n : Nat) : ((List.range n).map fun j => 3 * j + 1).Nodup := List.Pairwise.map (fun j => 3 * j + 1) (fun a b h => by omega) (List.nodup_range (n := n))
theorem l1_run (P : List Nat) (hP : BL P) (hl : P.length ≤ 20) (d : Nat) : ∀ i : Nat, i + d = P.length →
    Ev (fun k => laws_FnPolynomials.l1 k (cI P) (cI ((List.range i).map fun j => 3 * j + 1)) (cI ((List.range i).map fun j => ev P (3 * j + 1))) (P.length : Int) (i : Int)) true := by
  induction d with
  | zero =>
    intro i hi
    obtain rfl : i = P.length := by omega
    obtain ⟨X, hX⟩ : ∃ X, X = (List.range P.length).map fun j => 3 * j + 1 := ⟨_, rfl⟩
    obtain ⟨Y, hY⟩ : ∃ Y, Y = (List.range P.length).map fun j => ev P (3 * j + 1) := ⟨_, rfl⟩
    rw [← hX, ← hY]
    have lX : X.length = P.length := by rw [hX]; simp
    have lY : Y.length = P.length := by rw [hY]; simp
    have bX : BL X := fun c hc => by
      rw [hX] at hc
      obtain ⟨j, hj, rfl⟩ := List.mem_map.mp hc
      have := List.mem_range.mp hj; omega
    have bY : BL Y := fun c hc => by
      rw [hY] at hc
      obtain ⟨j, hj, rfl⟩ := List.mem_map.mp hc
      exact ev_lt _ _ hP
    have hN : X.Nodup := by rw [hX]; exact pts_nodup _
    have hi := impl_through X Y ⟨bX, bY, by omega, by omega⟩
    unfold interp at hi
    rw [dF_nodup hN, if_neg (by decide)] at hi
    have hO : outs X Y X.length = P := by
      refine poly_unique X _ _ (outs_BL X Y bX _) hP bX hN (outs_length X Y _ (Nat.le_refl _)) (by omega) fun x hx => ?_
      obtain ⟨j, hj, rfl⟩ := List.mem_iff_getElem.mp hx
      have e := ev_outs X Y bX bY hN j hj X.length (Nat.le_refl _)
      rw [if_pos hj] at e
      have g1 : X.getD j 0 = X[j] := by simp [List.getD_eq_getElem?_getD, hj]
      rw [g1] at e
      rw [e, hY]
      have g2 : X[j] = 3 * j + 1 := by simp [hX]
      rw [g2]
      simp [List.getD_eq_getElem?_getD, show j < P.length by omega]
    rw [hO] at hi
    refine Ev.step (fun k => by simp only [laws_FnPolynomials.l1]; rw [if_neg (by omega)]) (Ev.bind hi (evp rfl ?_))
    rw [show ((strOfNums (cI P)).toList == (strOfNums (cI P)).toList) = true by simp]
    exact Ev.now _
  | succ d ih =>
    intro i hi
    have h := ih (i + 1) (by omega)
    rw [List.range_succ, List.map_append, List.map_append, ← cI_append, ← cI_append] at h
    refine Ev.step (fun k => by simp only [laws_FnPolynomials.l1]; rw [if_pos (by omega)]) ?_
    rw [show wrap64 (wrap64 (3 * (i : Int)) + 1) % 256 = ((3 * i + 1 : Nat) : Int) by unfold wrap64; omega]
    refine Ev.bind (at_impl P hP (by omega) (3 * i + 1) (by omega)) (evp (by rw [cI_length]; simp; omega) (evp (by rw [cI_length]; simp; omega) ?_))
    rw [inc i (by omega)]
    exact h
theorem j4_true (P : List Nat) (y : Nat) (hy : P = [] → y = 0) : Ev (fun k => laws_FnPolynomials.j4 k (cI P) (y : Int) true true) true := by
  refine Ev.step (fun k => by simp only [laws_FnPolynomials.j4]; rw [if_pos trivial, if_pos trivial]) ?_
  by_cases h : P = []
  · subst h
    rw [hy rfl]
    exact evn (by rw [cI_length]; simp) (Ev.now _)
  · exact evp (by rw [cI_length]; have := List.length_pos_iff.mpr h; omega) (Ev.now _)
theorem tail (cs : List Int) (hb : ∀ x ∈ cs, (Lit.int .u8 x).wf = true) : Ev (fun k => laws_FnPolynomials.j2 k cs) true := by
  obtain ⟨P, x, hP, hl, hx, e⟩ := d_at cs hb
  refine Ev.step (fun k => by simp only [laws_FnPolynomials.j2]; exact rfl) ?_
  refine Ev.bind e ?_
  by_cases h60 : P.length ≤ 60
  · refine Ev.bind (at_impl P hP h60 x hx) (Ev.bind (at_spec P hP h60 x hx) (evn (by simp) ?_))
    rw [bne_self_eq_false]
    refine Ev.step (fun k => by simp only [laws_FnPolynomials.j3]; rw [if_neg (by decide), if_pos trivial]) ?_
    rw [cI_length]
    by_cases h0 : (P.length : Int) = 0
    · exact evp h0 (j4_true P _ fun h => by rw [h]; rfl)
    · refine evn h0 ?_
      by_cases h20 : P.length ≤ 20
      · rw [decide_eq_false (by omega)]
        refine Ev.step (fun k => by simp only [laws_FnPolynomials.j4]; rw [if_neg (by decide)]) ?_
        rw [cI_length]
        exact l1_run P hP h20 P.length 0 (by omega)
      · rw [decide_eq_true (by omega)]
        exact j4_true P _ fun h => absurd (by rw [h]; rfl) h0
  · have hi : ∀ k, impl_PolyAt.f k (cI P) (x : Int) = some (0, false) := fun k => by unfold impl_PolyAt.f; rw [if_pos (by rw [cI_length]; omega)]
    have hs : ∀ k, spec_PolyAt.f k (cI P) (x : Int) = some (0, false) := fun k => by unfold spec_PolyAt.f; rw [if_pos (by rw [cI_length]; omega)]
    refine Ev.bind (ev_of 0 fun k _ => hi k) (Ev.bind (ev_of 0 fun k _ => hs k) (evn (by simp) ?_))
    refine Ev.step (fun k => by simp only [laws_FnPolynomials.j3]; rw [if_neg (by decide), if_neg (by decide)]) ?_
    exact Ev.step (fun k => by simp only [laws_FnPolynomials.j4]; rw [if_pos trivial, if_neg (by decide)]) (Ev.now _)
theorem l0_run (cs : List Int) (ht : Ev (fun k => laws_FnPolynomials.j2 k cs) true) (X Y : List Nat) (H : Pts X Y) (hN : X.Nodup) (d : Nat) : ∀ i : Nat, i + d = X.length →
    Ev (fun k => laws_FnPolynomials.l0 k cs (cI Y) (cI (outs X Y X.length)) (cI X) (X.length : Int) (i : Int)) true := by
  obtain ⟨bX, bY, hl, h20⟩ := H
  induction d with
  | zero => intro i hi; exact Ev.step (fun k => by simp only [laws_FnPolynomials.l0]; rw [if_neg (by omega)]) ht
  | succ d ih =>
    intro i hi
    have e := ev_outs X Y bX bY hN i (by omega) X.length (Nat.le_refl _)
    rw [if_pos (by omega)] at e
    have ha := at_impl (outs X Y X.length) (outs_BL X Y bX _) (by rw [outs_length X Y _ (Nat.le_refl _)]; omega) (X.getD i 0) (bX.getD i)
    rw [e] at ha
    have c1 : (i : Int) < ((cI Y).length : Int) := by rw [cI_length]; omega
    have c2 : ((Y.getD i 0 : Nat) : Int) = rd (cI Y) (i : Int) := (rd_cI Y i).symm
    refine Ev.step (fun k => by simp only [laws_FnPolynomials.l0]; rw [if_pos (by omega), if_pos (by omega), if_pos (by rw [cI_length]; omega), rd_cI]) (Ev.bind ha (evp rfl (evp c1 (evp c2 ?_))))
    rw [inc i (by omega)]
    exact ih (i + 1) (by omega)
theorem FnPolynomials : laws_FnPolynomials.Pure := by
  intro l0 l1 _ h1 w1 _ h2 w2
  refine Ev.rounds ?_
  unfold laws_FnPolynomials.f
  by_cases hbig : wrap64 ((l0.length : Int) + (l1.length : Int)) > 1048576
  · exact evp hbig (Ev.now _)
  · obtain ⟨X, Y, H, e⟩ := d_thr l0 w1
    have hi := impl_through X Y H
    have hs := spec_through X Y H
    have ht := tail l1 w2
    refine evn hbig (Ev.bind e (Ev.bind hi (Ev.bind hs (evn (by simp) ?_))))
    rw [bne_self_eq_false]
    refine Ev.step (fun k => by simp only [laws_FnPolynomials.j0]; rw [if_neg (by decide)]) ?_
    unfold interp
    cases hd : dF X X.length 0 with
    | true => exact evn (by simp) ht
    | false =>
      refine evp (by simp) (evp (by simp [cI_length, outs_length X Y _ (Nat.le_refl _)]) ?_)
      have := l0_run l1 ht X Y H (nodup_of hd) X.length 0 (by omega)
      rw [cI_length]
      simpa using this

end Go.Proofs.Ytjibcpfgnnmfjaa.Pure
